/- Letters of raw things: what they are. -/
import Derived.Test.YtghjhlngaigdiaaNetC
set_option linter.unusedVariables false
set_option linter.unusedSimpArgs false
namespace Go.Proofs.Ytghjhlngaigdiaa.Am
open Go Go.RowKit
set_option maxRecDepth 100000
set_option maxHeartbeats 4000000

theorem nchk_ok {l : List Letter} (h : l.length ≤ 24) (h1 : ∀ x ∈ l, lchk x = 0) : nchk l = 0 := by
  unfold nchk
  rw [if_neg (by omega)]
  have : nchkS l = .inr () := by
    clear h
    induction l with
    | nil => rfl
    | cons x r ih =>
      rw [nchkS, if_pos (h1 x (by simp))]
      exact ih fun y hy => h1 y (by simp [hy])
  rw [this]
theorem lts_len : ∀ (l : List Raw) (k : Nat), k ≤ 12 → (lts k l).length = min l.length (12 - k)
  | [], k, _ => by simp [lts]
  | r :: rest, k, hk => by
    unfold lts
    split
    · rw [List.length_cons, lts_len rest (k + 1) (by omega), List.length_cons]; omega
    · have : ∀ (l : List Raw) (k : Nat), 12 ≤ k → lts k l = [] := by
        intro l
        induction l with
        | nil => intro k _; rfl
        | cons r t ih => intro k hk; rw [lts, if_neg (by omega)]; exact ih (k + 1) (by omega)
      rw [this rest (k + 1) (by omega), List.length_nil]; omega
theorem lts_mem : ∀ (l : List Raw) (k : Nat), (∀ r ∈ l, r.ok) → ∀ x ∈ lts k l, ∃ j r, j < 12 ∧ r.ok ∧ x = ltr j r
  | [], k, _, x, hx => by simp [lts] at hx
  | r :: rest, k, h, x, hx => by
    unfold lts at hx
    split at hx
    · rcases List.mem_cons.1 hx with rfl | hx
      · exact ⟨k, r, by assumption, h r (by simp), rfl⟩
      · exact lts_mem rest (k + 1) (fun y hy => h y (by simp [hy])) x hx
    · exact lts_mem rest (k + 1) (fun y hy => h y (by simp [hy])) x hx
theorem ltr_ok {j : Nat} {r : Raw} (hj : j < 12) (hr : r.ok) : lchk (ltr j r) = 0 := by
  have hp := pick_range r.kind 3 hr.kind.1 hr.kind.2 (by decide)
  have hk := mkVal_known (1 + pick r.kind 3) r hr (by omega)
  unfold lchk ltr
  simp only
  rw [hk, decide_eq_false (by omega), decide_eq_false (by omega)]
  rfl
theorem lts_ok {l : List Raw} (h : ∀ r ∈ l, r.ok) : ∀ x ∈ lts 0 l, lchk x = 0 := by
  intro x hx
  obtain ⟨j, r, hj, hr, rfl⟩ := lts_mem l 0 h x hx
  exact ltr_ok hj hr
theorem lts_q {l : List Raw} (h : ∀ r ∈ l, r.ok) : ∀ x ∈ lts 0 l, x.answer = Val.zero := by
  intro x hx
  obtain ⟨j, r, hj, hr, rfl⟩ := lts_mem l 0 h x hx
  rfl
theorem erase_ok {l : List Letter} {k : Nat} (h : ∀ x ∈ l, lchk x = 0) : ∀ x ∈ l.eraseIdx k, lchk x = 0 := fun x hx => h x (List.mem_of_mem_eraseIdx hx)
theorem erase_two {α : Type} (l : List α) {a b : Nat} (hab : a < b) (hb : b < l.length) : (l.eraseIdx a).eraseIdx (b - 1) = (l.eraseIdx b).eraseIdx a := by
  have h1 := List.length_eraseIdx_of_lt (l := l) (i := a) (by omega)
  have h2 := List.length_eraseIdx_of_lt (l := l) (i := b) (by omega)
  have h3 := List.length_eraseIdx_of_lt (l := l.eraseIdx a) (i := b - 1) (by omega)
  have h4 := List.length_eraseIdx_of_lt (l := l.eraseIdx b) (i := a) (by omega)
  refine List.ext_getElem (by omega) fun i hi hi' => ?_
  simp only [List.getElem_eraseIdx]
  by_cases c1 : i < a
  · simp [c1, show i < b - 1 by omega, show i < b by omega]
  · by_cases c2 : i < b - 1
    · simp [c1, c2, show i + 1 < b by omega]
    · simp [c1, c2, show ¬ i + 1 < a by omega, show ¬ i + 1 < b by omega]
theorem rz_ok : (⟨0, 0, 0, []⟩ : Raw).ok := ⟨by decide, by decide, by decide, by decide⟩
/-- Letters of raw things that stand in a variable. -/
theorem ca_lettersV {T : Tm} {g q : List Nat} {dst t n : Nat} {cs : List AV} (ls : List Raw) (hl : ls.length ≤ 9223372036854775807) (hr : ∀ r ∈ ls, r.ok) (hcs : cs = flatD (ls.map Raw.dv)) (hn : n = ls.length) :
    callA tab (callR tab) 0 dst 23 [.arr ⟨0, t, q⟩ 0 n 4] ⟨T, [(⟨0, t, q⟩, .box cs)], g⟩ = some (.d (.sl 8 ((lts 0 ls).map Letter.dv)), ⟨T, [(⟨0, t, q⟩, .box cs)], 1 :: g⟩) := by
  subst hcs hn
  obtain ⟨x, H', h1, h2, h3⟩ := run_lettersO (d := 1) (g := 0 :: g) (id := ⟨0, t, q⟩) Nat.zero_lt_one ls hl hr
  have h := ca_open1 (d := 0) (dst := dst) (S := ⟨T, [(⟨0, t, q⟩, .box (flatD (ls.map Raw.dv)))], g⟩) (id := ⟨0, t, q⟩) (cs := flatD (ls.map Raw.dv)) (cs' := flatD (ls.map Raw.dv)) (by split <;> rfl) (lent_off (tab_lend (by kernel_rfl))) rfl (ids_flat _) (ids_flat _)
    ⟨x, H', h1, h2, h3⟩ rfl (by simp only [Heap.get, if_true])
  rw [h]
  simp only [upd, Heap.get, if_true, Option.getD_some]
end Go.Proofs.Ytghjhlngaigdiaa.Am
