/- Ranges of the numbers that the statements on numbers work with. -/
import Derived.Test.YtnombkkfijlkfaaNum
set_option linter.unusedVariables false
set_option linter.unusedSimpArgs false
namespace Go.Proofs.Ytnombkkfijlkfaa.Am
open Go Go.RowKit
set_option maxRecDepth 100000
theorem pick_range (n many : Int) (h0 : -9223372036854775808 ≤ n) (h1 : n ≤ 9223372036854775807) (hm : 0 < many) : 0 ≤ pick n many ∧ pick n many < many := by
  unfold pick
  split
  · have e1 : IntKind.i64.wrap (n + 1) = n + 1 := by rw [IntKind.wrap_i64]; omega
    have e2 : IntKind.i64.wrap (0 - (n + 1)) = 0 - (n + 1) := by rw [IntKind.wrap_i64]; omega
    rw [e1, e2, Int.tmod_eq_emod_of_nonneg (by omega)]
    exact ⟨Int.emod_nonneg _ (by omega), Int.emod_lt_of_pos _ hm⟩
  · rw [Int.tmod_eq_emod_of_nonneg (by omega)]
    exact ⟨Int.emod_nonneg _ (by omega), Int.emod_lt_of_pos _ hm⟩
theorem small_range (n : Int) (h0 : -9223372036854775808 ≤ n) (h1 : n ≤ 9223372036854775807) : -1099511627776 ≤ small n ∧ small n ≤ 1099511627776 := by
  have := pick_range n 2199023255553 h0 h1 (by decide)
  unfold small
  rw [IntKind.wrap_i64]
  omega
theorem chk_in {n : Int} (h0 : -1099511627776 ≤ n) (h1 : n ≤ 1099511627776) : chk n = 0 := by unfold chk; rw [if_neg (by omega)]
theorem numW_in {a b r : Int} (ha : chk a = 0) (hb : chk b = 0) : numW a b r = if -1099511627776 ≤ r ∧ r ≤ 1099511627776 then (r, 0) else (0, 7) := by
  unfold numW
  rw [ha, hb]
  simp only [bne_self_eq_false, Bool.false_eq_true, or_self, if_false]
  by_cases h : -1099511627776 ≤ r ∧ r ≤ 1099511627776
  · rw [chk_in h.1 h.2, if_pos h]; rfl
  · have : chk r = 7 := by unfold chk; rw [if_pos (by omega)]
    rw [this, if_neg h]; rfl
theorem wrap_in {n : Int} (h0 : -9223372036854775808 ≤ n) (h1 : n ≤ 9223372036854775807) : IntKind.i64.wrap n = n := by rw [IntKind.wrap_i64]; omega
def Num (n : Int) : Prop := -1099511627776 ≤ n ∧ n ≤ 1099511627776
theorem numW_ok {a b r : Int} (ha : Num a) (hb : Num b) (hr : Num r) : numW a b r = (r, 0) := by rw [numW_in (chk_in ha.1 ha.2) (chk_in hb.1 hb.2), if_pos (show _ ∧ _ from hr)]
theorem numW_over {a b r : Int} (ha : Num a) (hb : Num b) (hr : ¬ Num r) : numW a b r = (0, 7) := by rw [numW_in (chk_in ha.1 ha.2) (chk_in hb.1 hb.2), if_neg (show ¬ (_ ∧ _) from hr)]
theorem small_num {n : Int} (h : -9223372036854775808 ≤ n ∧ n ≤ 9223372036854775807) : Num (small n) := small_range n h.1 h.2
end Go.Proofs.Ytnombkkfijlkfaa.Am
