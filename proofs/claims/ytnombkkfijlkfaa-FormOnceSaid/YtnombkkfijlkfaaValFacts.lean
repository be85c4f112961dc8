/- Facts of values made of raw things. -/
import Derived.Test.YtnombkkfijlkfaaVal
import Derived.Test.YtnombkkfijlkfaaNumFacts
set_option linter.unusedVariables false
set_option linter.unusedSimpArgs false
namespace Go.Proofs.Ytnombkkfijlkfaa.Am
open Go Go.RowKit
set_option maxRecDepth 100000
set_option maxHeartbeats 4000000

theorem clean_all (s : Str) (m : Nat) : (cleanS s m).all (fun c => !(decide ((c.toNat : Int) < 32) || decide ((c.toNat : Int) > 126))) = true := by
  rw [List.all_eq_true]
  intro c hc
  simp only [cleanS, List.mem_map] at hc
  obtain ⟨x, _, rfl⟩ := hc
  have := cl_val x
  simp only [Bool.not_eq_true', Bool.or_eq_false_iff, decide_eq_false_iff_not]
  omega
theorem clean_len (s : Str) (m : Nat) : (cleanS s m).length ≤ m := by simp [cleanS]; omega
theorem mkVal_kind (k : Int) (r : Raw) (hk : k = 1 ∨ k = 2 ∨ k = 3) : (mkVal k r).kind = k := by
  unfold mkVal
  rcases hk with rfl | rfl | rfl <;> simp
  split <;> rfl
theorem mkVal_known (k : Int) (r : Raw) (hr : r.ok) (hk : k = 1 ∨ k = 2 ∨ k = 3) : valKnown (mkVal k r) = true := by
  have h1 := pick_range r.a 2199023255553 hr.a.1 hr.a.2 (by decide)
  have h2 := pick_range r.a 40 hr.a.1 hr.a.2 (by decide)
  have h3 := pick_range r.a 2 hr.a.1 hr.a.2 (by decide)
  have w1 : IntKind.i64.wrap (pick r.a 2199023255553 - 1099511627776) = pick r.a 2199023255553 - 1099511627776 := wrap_in (by omega) (by omega)
  have w2 : IntKind.i64.wrap (pick r.a 40 - 12) = pick r.a 40 - 12 := wrap_in (by omega) (by omega)
  rcases hk with rfl | rfl | rfl
  · unfold mkVal
    rw [if_pos rfl, w1, w2]
    split
    · have : chk (pick r.a 2199023255553 - 1099511627776) = 0 := chk_in (by omega) (by omega)
      simp [valKnown, valChk, this, valTail]
    · have : chk (pick r.a 40 - 12) = 0 := chk_in (by omega) (by omega)
      simp [valKnown, valChk, this, valTail]
  · unfold mkVal
    have : pick r.a 2 = 0 ∨ pick r.a 2 = 1 := by omega
    simp [valKnown, valChk, valTail, this]
  · unfold mkVal
    have ht : txtChk (cleanS r.text 8) = 0 := by
      unfold txtChk
      rw [if_neg (by have := clean_len r.text 8; omega), if_pos (clean_all _ _)]
    simp [valKnown, valChk, ht]
theorem known_num {v : Val} (h : valKnown v = true) (hk : v.kind = 1) : -1099511627776 ≤ v.n ∧ v.n ≤ 1099511627776 := by
  simp only [valKnown, Bool.and_eq_true, decide_eq_true_eq, beq_iff_eq] at h
  have h2 := h.2
  unfold valChk at h2
  rw [if_pos hk] at h2
  split at h2
  · rename_i h0
    unfold chk at h0
    split at h0
    · simp at h0
    · omega
  · rename_i h0; exact absurd h2 h0
end Go.Proofs.Ytnombkkfijlkfaa.Am
