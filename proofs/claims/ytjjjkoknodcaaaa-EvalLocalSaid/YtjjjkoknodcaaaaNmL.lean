/- The first of a name counts. -/
import Derived.Test.YtjjjkoknodcaaaaEvLz
set_option linter.unusedVariables false
set_option linter.unusedSimpArgs false
namespace Go.Proofs.Ytjjjkoknodcaaaa.Am
open Go Go.RowKit
set_option maxRecDepth 100000
set_option maxHeartbeats 40000000



theorem look_endP (s : List UInt8) (v : Val) (t : List UInt8) : ∀ m : VMap, lookV (m ++ [(s, v)]) t = match lookV m t with
    | some w => some w
    | none => if t = s then some v else none
  | [] => rfl
  | (k, u) :: r => by
    simp only [List.cons_append, lookV]
    split
    · rfl
    · exact look_endP s v t r
/-- The first of a name counts. -/
theorem look_fmap (t : List UInt8) : ∀ (l : List Fact) (m : VMap), lookV (fmap m l) t = match lookV m t with
    | some w => some w
    | none => lookV (l.map fun f => (f.name, f.has)) t
  | [], m => by
    simp only [fmap, List.map_nil, lookV]
    cases lookV m t <;> rfl
  | f :: r, m => by
    rw [fmap, look_fmap t r]
    simp only [List.map_cons, lookV]
    by_cases h : (lookV m f.name).isSome = true
    · rw [if_pos h]
      cases hm : lookV m t with
      | some w => rfl
      | none =>
        simp only
        rw [if_neg]
        intro e
        rw [← e, hm] at h
        cases h
    · rw [if_neg h, look_endP]
      cases hm : lookV m t with
      | some w => rfl
      | none =>
        by_cases e : t = f.name
        · simp [e]
        · simp [e]
theorem look_first (f : Fact) (l : List Fact) (t : List UInt8) : lookV (fmap [] (f :: l)) t = if t = f.name then some f.has else lookV (fmap [] l) t := by
  rw [look_fmap, look_fmap]
  simp only [lookV, List.map_cons]
end Go.Proofs.Ytjjjkoknodcaaaa.Am
