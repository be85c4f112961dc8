/- RankFew, RankRises, walked. -/
import Derived.Test.YtfcfifohflgboaaRkF
set_option linter.unusedVariables false
set_option linter.unusedSimpArgs false
namespace Go.Proofs.Ytfcfifohflgboaa.Am
open Go Go.RowKit
set_option maxRecDepth 100000
set_option maxHeartbeats 40000000





def riseL (out : List Int) (x : Field) : Nat → List Field → Int → Int
  | _, [], m => m
  | k, y :: r, m => riseL out x (k + 1) r (if x.kind ≠ 1 ∧ y.name ∈ x.source.refs then (if out.getD k 0 + 1 > m then out.getD k 0 + 1 else m) else m)
theorem rise_le {out : List Int} {x : Field} {b : Int} : ∀ (l : List Field) (k : Nat) (m : Int), m ≤ b → (∀ (j : Nat) (y : Field), l[j]? = some y → x.kind ≠ 1 → y.name ∈ x.source.refs → out.getD (k + j) 0 + 1 ≤ b) → riseL out x k l m ≤ b
  | [], k, m, h, _ => h
  | y :: r, k, m, h, hy => by
    unfold riseL
    refine rise_le r (k + 1) _ ?_ (fun j z hj c hr => by have := hy (j + 1) z (by simpa using hj) c hr; rwa [show k + (j + 1) = k + 1 + j by omega] at this)
    split
    · rename_i c
      have := hy 0 y rfl c.1 c.2
      rw [Nat.add_zero] at this
      split <;> omega
    · exact h
theorem rise_ge {out : List Int} {x : Field} : ∀ (l : List Field) (k : Nat) (m : Int), m ≤ riseL out x k l m ∧ ∀ (j : Nat) (y : Field), l[j]? = some y → x.kind ≠ 1 → y.name ∈ x.source.refs → out.getD (k + j) 0 + 1 ≤ riseL out x k l m
  | [], k, m => ⟨Int.le_refl _, fun j y h => by simp at h⟩
  | y :: r, k, m => by
    have e : riseL out x k (y :: r) m = riseL out x (k + 1) r (if x.kind ≠ 1 ∧ y.name ∈ x.source.refs then (if out.getD k 0 + 1 > m then out.getD k 0 + 1 else m) else m) := rfl
    rw [e]
    obtain ⟨h1, h2⟩ := rise_ge (out := out) (x := x) r (k + 1) (if x.kind ≠ 1 ∧ y.name ∈ x.source.refs then (if out.getD k 0 + 1 > m then out.getD k 0 + 1 else m) else m)
    refine ⟨Int.le_trans ?_ h1, fun j z hj c hr => ?_⟩
    · split
      · split <;> omega
      · exact Int.le_refl _
    · cases j with
      | zero =>
        obtain rfl : y = z := by simpa using hj
        refine Int.le_trans ?_ h1
        rw [if_pos ⟨c, hr⟩, Nat.add_zero]
        split <;> omega
      | succ j =>
        rw [show k + (j + 1) = k + 1 + j by omega]
        exact h2 j z (by simpa using hj) c hr
theorem rise_eq {fs : List Field} (h : RkFs fs) {i : Nat} {x : Field} (hi : fs[i]? = some x) : riseL (rkF fs) x 0 fs 0 = (rkF fs).getD i 0 := by
  obtain ⟨h1, h2⟩ := rkF_sup h hi
  have h3 := (rkF_lt h i (List.getElem?_eq_some_iff.1 hi).1).1
  have h4 := rise_le (out := rkF fs) (x := x) (b := (rkF fs).getD i 0) fs 0 0 h3 (fun j y hj c hr => by rw [Nat.zero_add]; exact h1 j y c hj hr)
  obtain ⟨h5, h6⟩ := rise_ge (out := rkF fs) (x := x) fs 0 0
  rcases h2 with h2 | ⟨k, g, c, hg, hr, h2⟩
  · omega
  · have := h6 k g hg c hr
    rw [Nat.zero_add] at this
    omega
end Go.Proofs.Ytfcfifohflgboaa.Am
