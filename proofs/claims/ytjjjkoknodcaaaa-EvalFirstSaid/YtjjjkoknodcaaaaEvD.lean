/- What formulas are may be. -/
import Derived.Test.YtjjjkoknodcaaaaEvC
set_option linter.unusedVariables false
set_option linter.unusedSimpArgs false
namespace Go.Proofs.Ytjjjkoknodcaaaa.Am
open Go Go.RowKit
set_option maxRecDepth 100000
set_option maxHeartbeats 40000000


theorem chk_07 (n : Int) : chk n = 0 ∨ chk n = 7 := by unfold chk; split <;> simp
theorem numW_or (a b r : Int) : ((numW a b r).2 = 0 ∧ chk (numW a b r).1 = 0) ∨ (numW a b r).2 = 7 := by
  unfold numW
  split
  · exact .inr rfl
  · split
    · rename_i h; rcases chk_07 r with h1 | h1
      · rw [h1] at h; simp at h
      · exact .inr h1
    · rename_i h; refine .inl ⟨rfl, ?_⟩; simpa using h
theorem numOp_or (op a b : Int) : ((numOp op a b).2 = 0 ∧ chk (numOp op a b).1 = 0) ∨ (numOp op a b).2 = 7 ∨ (numOp op a b).2 = 8 := by
  have h : ∀ a b r, ((numW a b r).2 = 0 ∧ chk (numW a b r).1 = 0) ∨ (numW a b r).2 = 7 ∨ (numW a b r).2 = 8 := fun a b r => (numW_or a b r).elim .inl (fun h => .inr (.inl h))
  unfold numOp
  split
  · exact h _ _ _
  · split
    · exact h _ _ _
    · split
      · split
        · exact .inr (.inr rfl)
        · exact h _ _ _
      · split
        · split
          · exact .inr (.inr rfl)
          · exact h _ _ _
        · split <;> exact h _ _ _
theorem vok_num {n : Int} (h : chk n = 0) : VOK ⟨1, n, []⟩ := by
  unfold VOK valChk
  simp only
  rw [if_pos trivial, if_pos h]
  rfl
theorem vok_numOp (op a b : Int) : VOK (if (numOp op a b).2 ≠ 0 then fault (numOp op a b).2 else ⟨1, (numOp op a b).1, []⟩) := by
  have h := numOp_or op a b
  split
  · rename_i hz
    rcases h with h | h | h
    · exact absurd h.1 hz
    · rw [h]; exact vok_fault (by decide) (by decide)
    · rw [h]; exact vok_fault (by decide) (by decide)
  · rename_i hz
    rcases h with h | h | h
    · exact vok_num h.2
    · rw [h] at hz; simp at hz
    · rw [h] at hz; simp at hz
theorem vok_txt {v : Val} (h : VOK v) (hk : v.kind = 3) : v.s.all (fun c => !(decide ((c.toNat : Int) < 32) || decide ((c.toNat : Int) > 126))) = true := by
  unfold VOK valChk at h
  rw [if_neg (by omega), if_neg (by omega), if_pos hk] at h
  split at h
  · unfold txtChk at h
    split at h
    · cases h
    · split at h
      · assumption
      · cases h
  · cases h
theorem vok_text {s : List UInt8} (hl : s.length ≤ 40) (hc : s.all (fun c => !(decide ((c.toNat : Int) < 32) || decide ((c.toNat : Int) > 126))) = true) : VOK ⟨3, 0, s⟩ := by
  unfold VOK valChk
  simp only
  rw [if_neg (by decide), if_neg (by decide), if_pos trivial, if_pos trivial]
  unfold txtChk
  rw [if_neg (by omega), if_pos hc]
theorem vok_apply1 (op : Int) {a : Val} (ha : VOK a) : VOK (apply1 op a) := by
  have hl := vok_len ha
  unfold apply1
  split
  · split
    · exact vok_truth _
    · exact vok_fault (by decide) (by decide)
  · split
    · split
      · exact vok_num (by unfold chk; rw [if_neg (by omega)])
      · exact vok_fault (by decide) (by decide)
    · split
      · exact vok_numOp op a.n a.n
      · exact vok_fault (by decide) (by decide)
theorem cmpV_or (a b : Val) : (cmpV a b).2 = 0 ∨ (cmpV a b).2 = 9 := by
  unfold cmpV
  split
  · split
    · split
      · exact .inl rfl
      · exact .inr rfl
    · exact .inr rfl
  · exact .inr rfl
theorem vok_apply2 (op : Int) {a b : Val} (ha : VOK a) (hb : VOK b) : VOK (apply2 op a b) := by
  unfold apply2
  split
  · split
    · rename_i hz
      rcases cmpV_or a b with h | h
      · exact absurd h hz
      · rw [h]; exact vok_fault (by decide) (by decide)
    · exact vok_truth _
  · split
    · split
      · rename_i hk
        split
        · exact vok_fault (by decide) (by decide)
        · rename_i hl
          exact vok_text (by rw [List.length_append]; omega) (by rw [List.all_append, vok_txt ha hk.1, vok_txt hb hk.2]; rfl)
      · exact vok_fault (by decide) (by decide)
    · split
      · exact vok_numOp op a.n b.n
      · exact vok_fault (by decide) (by decide)
/-- All fields are what they may be. -/
def MOK (m : VMap) : Prop := ∀ s v, lookV m s = some v → VOK v
theorem arity_3 {op : Int} {n : Nat} (h : (n : Int) = arity op) (ho : op = 17) : n = 3 := by subst ho; have : arity 17 = 3 := rfl; omega
theorem arity_2 {op : Int} {n : Nat} (h : (n : Int) = arity op) (ho : 5 ≤ op ∧ op ≤ 16) : n = 2 := by
  have : arity op = 2 := by unfold arity; rw [if_neg (by omega), if_neg (by omega), if_neg (by omega), if_neg (by omega), if_neg (by omega), if_neg (by omega)]
  omega
theorem arity_1 {op : Int} {n : Nat} (h : (n : Int) = arity op) (ho : op = 3 ∨ op = 4 ∨ op = 18) : n = 1 := by
  have : arity op = 1 := by rcases ho with rfl | rfl | rfl <;> rfl
  omega
theorem evL_len (m : VMap) (l : List Exp) : (evL m l).length = l.length := by rw [evL_map, List.length_map]
theorem len3 {α : Type} {l : List α} (h : l.length = 3) : ∃ a b c, l = [a, b, c] := by
  match l, h with
  | [a, b, c], _ => exact ⟨a, b, c, rfl⟩
theorem len2 {α : Type} {l : List α} (h : l.length = 2) : ∃ a b, l = [a, b] := by
  match l, h with
  | [a, b], _ => exact ⟨a, b, rfl⟩
theorem len1 {α : Type} {l : List α} (h : l.length = 1) : ∃ a, l = [a] := by
  match l, h with
  | [a], _ => exact ⟨a, rfl⟩
/-- Other ops have one argument, or two. -/
theorem op_other {op : Int} {n : Nat} (h1 : 1 ≤ op) (h18 : op ≤ 18) (h : (n : Int) = arity op) (n1 : op ≠ 1) (n2 : op ≠ 2) (n3 : op ≠ 17) (n4 : ¬ (op = 15 ∨ op = 16)) : (n = 1 ∧ (op = 3 ∨ op = 4 ∨ op = 18)) ∨ (n = 2 ∧ 5 ≤ op ∧ op ≤ 14) := by
  by_cases hc : op = 3 ∨ op = 4 ∨ op = 18
  · exact .inl ⟨arity_1 h hc, hc⟩
  · exact .inr ⟨arity_2 h (by omega), by omega⟩
theorem vok_op {op : Int} {vs : List Val} (hv : ∀ v ∈ vs, VOK v) (hn : vs.length = 1 ∨ vs.length = 2) : VOK (opV op vs) := by
  have h := vok_all vs [] Val.zero hv (fun v h => by simp at h) (.inl rfl)
  unfold opV
  cases hs : allSV vs [] Val.zero with
  | inl w => rw [hs] at h; exact h.1
  | inr o =>
    obtain ⟨o, q⟩ := o
    rw [hs] at h
    simp only [List.nil_append] at h
    obtain ⟨rfl, ho, hq⟩ := h
    simp only
    split
    · rename_i hk
      rcases hq with rfl | hq
      · exact absurd rfl hk
      · exact hq
    · rcases hn with hn | hn
      · obtain ⟨a, rfl⟩ := len1 hn
        exact vok_apply1 op (hv a (by simp))
      · obtain ⟨a, b, rfl⟩ := len2 hn
        exact vok_apply2 op (hv a (by simp)) (hv b (by simp))
mutual
theorem vok_ev {m : VMap} (hm : MOK m) : ∀ (x : Exp), x.wf → VOK (evE m x)
  | .mk op v name args, hw => by
    obtain ⟨⟨h1, h18, har, hp⟩, hw⟩ := hw
    have ih := vok_evL hm args hw
    have hlen := evL_len m args
    unfold evE
    by_cases c1 : op = 1
    · rw [if_pos c1] at hp ⊢
      exact vok_known hp.2.1
    rw [if_neg c1]
    by_cases c2 : op = 2
    · rw [if_pos c2]
      cases hl : lookV m name with
      | none => exact vok_fault (by decide) (by decide)
      | some w => exact hm name w hl
    rw [if_neg c2]
    by_cases c3 : op = 17
    · rw [if_pos c3]
      obtain ⟨a, b, c, he⟩ := len3 (by rw [hlen]; exact arity_3 har c3)
      rw [he] at ih ⊢
      simp only
      unfold ifV
      split
      · exact (vok_first (ih a (by simp))).1
      · split
        · exact ih b (by simp)
        · exact ih c (by simp)
    rw [if_neg c3]
    by_cases c4 : op = 15 ∨ op = 16
    · rw [if_pos c4]
      obtain ⟨a, b, he⟩ := len2 (by rw [hlen]; exact arity_2 har (by omega))
      rw [he] at ih ⊢
      simp only
      unfold andV
      split
      · exact (vok_first (ih a (by simp))).1
      · split
        · exact (vok_first (ih a (by simp))).1
        · exact vok_boolV (ih b (by simp))
    rw [if_neg c4]
    refine vok_op ih ?_
    rw [hlen]
    rcases op_other h1 h18 har c1 c2 c3 c4 with h | h
    · exact .inl h.1
    · exact .inr h.1
theorem vok_evL {m : VMap} (hm : MOK m) : ∀ (l : List Exp), Exp.wfL l → ∀ v ∈ evL m l, VOK v
  | [], _, v, h => by simp [evL] at h
  | x :: r, hw, v, h => by
    simp only [evL] at h
    rcases List.mem_cons.1 h with rfl | h
    · exact vok_ev hm x hw.1
    · exact vok_evL hm r hw.2 v h
end
end Go.Proofs.Ytjjjkoknodcaaaa.Am
