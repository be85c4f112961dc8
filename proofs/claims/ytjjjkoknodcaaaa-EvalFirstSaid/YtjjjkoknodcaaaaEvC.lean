/- What formulas are: the spec. -/
import Derived.Test.YtjjjkoknodcaaaaEvB
import Derived.Test.YtjjjkoknodcaaaaExB
set_option linter.unusedVariables false
set_option linter.unusedSimpArgs false
namespace Go.Proofs.Ytjjjkoknodcaaaa.Am
open Go Go.RowKit
set_option maxRecDepth 100000
set_option maxHeartbeats 40000000


/-- What fields are, by their names. -/
abbrev VMap := List (List UInt8 × Val)
def lookV : VMap → List UInt8 → Option Val
  | [], _ => none
  | (k, v) :: r, s => if s = k then some v else lookV r s
def mdv (m : VMap) : List (DV × DV) := m.map fun e => (.str e.1, e.2.dv)
theorem fk_mdv (s : List UInt8) : ∀ m : VMap, findK .string (.str s) (mdv m) = some ((lookV m s).map Val.dv)
  | [] => rfl
  | (k, v) :: r => by
    have ih := fk_mdv s r
    show findK .string (.str s) ((.str k, v.dv) :: mdv r) = _
    unfold findK lookV
    by_cases h : s = k
    · rw [if_pos h, show sameK .string (.str s) (.str k) = some true by simp [sameK, h]]; rfl
    · rw [if_neg h, show sameK .string (.str s) (.str k) = some false by simp [sameK, h]]; exact ih
theorem stK_mdv (s : List UInt8) (v : Val) : ∀ m : VMap, lookV m s = none → setK .string (.str s) v.dv (mdv m) = mdv (m ++ [(s, v)])
  | [], _ => rfl
  | (k, w) :: r, h => by
    unfold lookV at h
    split at h
    · cases h
    · rename_i hn
      show setK .string (.str s) v.dv ((.str k, w.dv) :: mdv r) = _
      unfold setK
      rw [if_neg (by simp [sameK, hn]), stK_mdv s v r h]
      rfl
/-- The first argument of those that need not all be known. -/
def firstV (w : Val) : Val × Bool := if (w.kind == 2) = true then (w, true) else if (w.kind == 4) = true then (w, false) else if (w.kind == 5) = true then (w, false) else (fault 9, false)
def boolV (w : Val) : Val := if (w.kind == 1) = true then fault 9 else if (w.kind == 3) = true then fault 9 else w
/-- All arguments, from the left: what is no value among them. -/
def allSV : List Val → List Val → Val → Sum Val (List Val × Val)
  | [], acc, p => .inr (acc, p)
  | w :: r, acc, p => if (w.kind == 5) = true then .inl w else allSV r (acc ++ [w]) (if (w.kind == 4) = true then w else p)
def applyV (op : Int) : List Val → Val
  | [a] => apply1 op a
  | [a, b] => apply2 op a b
  | _ => Val.zero
def opV (op : Int) (vs : List Val) : Val := match allSV vs [] Val.zero with
  | .inl w => w
  | .inr (acc, p) => if p.kind ≠ 0 then p else applyV op acc
def andV (op : Int) (a b : Val) : Val := if (firstV a).2 = false then (firstV a).1 else if ((firstV a).1.n == 1) = (op == 16) then (firstV a).1 else boolV b
def ifV (a b c : Val) : Val := if (firstV a).2 = false then (firstV a).1 else if (firstV a).1.n = 1 then b else c
mutual
def evE (m : VMap) : Exp → Val
  | .mk op v name args =>
    if op = 1 then v else if op = 2 then (match lookV m name with
      | some w => w
      | none => fault 5)
    else if op = 17 then (match evL m args with
      | [a, b, c] => ifV a b c
      | _ => Val.zero)
    else if op = 15 ∨ op = 16 then (match evL m args with
      | [a, b] => andV op a b
      | _ => Val.zero)
    else opV op (evL m args)
def evL (m : VMap) : List Exp → List Val
  | [] => []
  | x :: r => evE m x :: evL m r
end
theorem evL_map (m : VMap) : ∀ l : List Exp, evL m l = l.map (evE m)
  | [] => rfl
  | x :: r => by simp [evL, evL_map m r]
/-- A value that may be. -/
def VOK (v : Val) : Prop := valChk v = 0
theorem vok_fault {e : Int} (h0 : 1 ≤ e) (h1 : e ≤ 15) : VOK (fault e) := by
  unfold VOK fault valChk
  simp only
  rw [if_neg (by decide), if_neg (by decide), if_neg (by decide), if_neg (by decide), if_pos trivial, if_neg (by omega)]
  rfl
theorem vok_truth (b : Bool) : VOK (truthV b) := by cases b <;> rfl
theorem vok_len {v : Val} (h : VOK v) : v.s.length ≤ 40 := by
  have ht : valTail v = 0 → v.s.length ≤ 40 := fun h => by
    unfold valTail at h
    split at h
    · rename_i h0; have := beq_iff_eq.1 h0; rw [this]; simp
    · cases h
  unfold VOK valChk at h
  split at h
  · split at h
    · exact ht h
    · rename_i h1; exact absurd h h1
  · split at h
    · split at h
      · exact ht h
      · cases h
    · split at h
      · split at h
        · unfold txtChk at h
          split at h
          · cases h
          · rename_i hl; omega
        · cases h
      · split at h
        · split at h
          · exact ht h
          · cases h
        · split at h
          · split at h
            · cases h
            · exact ht h
          · cases h
theorem vok_kind {v : Val} (h : VOK v) : v.kind = 1 ∨ v.kind = 2 ∨ v.kind = 3 ∨ v.kind = 4 ∨ v.kind = 5 := by
  unfold VOK valChk at h
  by_cases h1 : v.kind = 1
  · exact .inl h1
  by_cases h2 : v.kind = 2
  · exact .inr (.inl h2)
  by_cases h3 : v.kind = 3
  · exact .inr (.inr (.inl h3))
  by_cases h4 : v.kind = 4
  · exact .inr (.inr (.inr (.inl h4)))
  by_cases h5 : v.kind = 5
  · exact .inr (.inr (.inr (.inr h5)))
  rw [if_neg h1, if_neg h2, if_neg h3, if_neg h4, if_neg h5] at h
  cases h
theorem vok_bool {v : Val} (h : VOK v) (hk : v.kind = 2) : v.n = 0 ∨ v.n = 1 := by
  unfold VOK valChk at h
  rw [if_neg (by omega), if_pos hk] at h
  split at h
  · assumption
  · cases h
theorem vok_known {v : Val} (h : valKnown v = true) : VOK v := by
  simp only [valKnown, Bool.and_eq_true, beq_iff_eq] at h
  exact h.2
theorem vok_first {w : Val} (h : VOK w) : VOK (firstV w).1 ∧ ((firstV w).2 = true → (firstV w).1.kind = 2) := by
  unfold firstV
  split
  · rename_i hk; exact ⟨h, fun _ => beq_iff_eq.1 hk⟩
  · split
    · exact ⟨h, fun h => by cases h⟩
    · split
      · exact ⟨h, fun h => by cases h⟩
      · exact ⟨vok_fault (by decide) (by decide), fun h => by cases h⟩
theorem vok_boolV {w : Val} (h : VOK w) : VOK (boolV w) := by
  unfold boolV
  split
  · exact vok_fault (by decide) (by decide)
  · split
    · exact vok_fault (by decide) (by decide)
    · exact h
theorem vok_all : ∀ (vs acc : List Val) (p : Val), (∀ v ∈ vs, VOK v) → (∀ v ∈ acc, VOK v) → (p = Val.zero ∨ VOK p) → match allSV vs acc p with
    | .inl w => VOK w ∧ w.kind = 5
    | .inr (o, q) => o = acc ++ vs ∧ (∀ v ∈ o, VOK v) ∧ (q = Val.zero ∨ VOK q)
  | [], acc, p, _, ha, hp => by simp only [allSV, List.append_nil]; exact ⟨trivial, ha, hp⟩
  | w :: r, acc, p, hv, ha, hp => by
    unfold allSV
    by_cases h5 : (w.kind == 5) = true
    · rw [if_pos h5]
      exact ⟨hv w (by simp), beq_iff_eq.1 h5⟩
    · rw [if_neg h5]
      have ih := vok_all r (acc ++ [w]) (if (w.kind == 4) = true then w else p) (fun v h => hv v (by simp [h])) (fun v h => by
        rcases List.mem_append.1 h with h | h
        · exact ha v h
        · simp only [List.mem_cons, List.not_mem_nil, or_false] at h; rw [h]; exact hv w (by simp)) (by split; exact .inr (hv w (by simp)); exact hp)
      revert ih
      cases allSV r (acc ++ [w]) (if (w.kind == 4) = true then w else p) with
      | inl x => exact id
      | inr o => obtain ⟨o, q⟩ := o; simp only [List.append_assoc, List.cons_append, List.nil_append]; exact id
end Go.Proofs.Ytjjjkoknodcaaaa.Am
