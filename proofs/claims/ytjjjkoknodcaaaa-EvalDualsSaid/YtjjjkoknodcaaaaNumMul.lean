/- What the product of two numbers comes to. -/
import Derived.Test.YtjjjkoknodcaaaaNumFacts
set_option linter.unusedVariables false
set_option linter.unusedSimpArgs false
namespace Go.Proofs.Ytjjjkoknodcaaaa.Am
open Go Go.RowKit
theorem ty_NumMul_110 : type_of% (And.intro (And.intro (And.intro @rs110 (And.intro @lv110_0 @lv110_1)) (And.intro (And.intro @lv110_2 @lv110_3) (And.intro @und3 @sz3))) (And.intro (And.intro (And.intro @ag3 @lv3) (And.intro @inf3 @und4)) (And.intro (And.intro @sz4 @ag4) (And.intro @lv4 @inf4)))) := (And.intro (And.intro (And.intro @rs110 (And.intro @lv110_0 @lv110_1)) (And.intro (And.intro @lv110_2 @lv110_3) (And.intro @und3 @sz3))) (And.intro (And.intro (And.intro @ag3 @lv3) (And.intro @inf3 @und4)) (And.intro (And.intro @sz4 @ag4) (And.intro @lv4 @inf4))))
theorem ty_NumMul_91 : type_of% (And.intro (And.intro (And.intro (And.intro @rs91 @lv91_0) (And.intro @lv91_1 (And.intro @und1 @sz1))) (And.intro (And.intro @ag1 @inf1) (And.intro @und3 (And.intro @sz3 @ag3)))) (And.intro (And.intro (And.intro @lv3 @inf3) (And.intro @und29 (And.intro @sz29 @ag29))) (And.intro (And.intro @inf29 (And.intro @und34 @sz34)) (And.intro @ag34 (And.intro @lv34 @inf34))))) := (And.intro (And.intro (And.intro (And.intro @rs91 @lv91_0) (And.intro @lv91_1 (And.intro @und1 @sz1))) (And.intro (And.intro @ag1 @inf1) (And.intro @und3 (And.intro @sz3 @ag3)))) (And.intro (And.intro (And.intro @lv3 @inf3) (And.intro @und29 (And.intro @sz29 @ag29))) (And.intro (And.intro @inf29 (And.intro @und34 @sz34)) (And.intro @ag34 (And.intro @lv34 @inf34)))))
set_option maxRecDepth 100000
set_option maxHeartbeats 4000000
def mulI (a b : Int) : Int := if a > 0 ∧ (b > IntKind.i64.wrap (Int.tdiv 1099511627776 a) ∨ b < IntKind.i64.wrap (Int.tdiv (-1099511627776) a)) ∨ a < 0 ∧ (b > IntKind.i64.wrap (Int.tdiv (-1099511627776) a) ∨ b < IntKind.i64.wrap (Int.tdiv 1099511627776 a)) then 1099511627777 else IntKind.i64.wrap (a * b)
theorem ret_Mul1 (a b : Int) : Ret tab 110 [.d (.int .i64 (a)), .d (.int .i64 (b))] (.d (.int .i64 (mulI a b))) := by
  have hz : (a != 0) = true → a ≠ 0 := fun h => by simpa using h
  refine ret_of (1) fn110 rfl rfl ?_
  rcases Int.lt_trichotomy a 0 with h0 | h0 | h0
  · have h1 : (a != 0) = true := by simp; omega
    have h2 : ¬ a = 0 := by omega
    have h3 : ¬ 0 < a := by omega
    simp only [amr, amc, amp, if_true, if_false, ne_eq, gt_iff_lt, Option.getD, argsT, Option.bind, Option.map, List.headD, List.tail, reduceIte, reduceDIte, Nat.reduceEqDiff, Nat.reduceAdd, Nat.reduceSub, Nat.reduceMul, Nat.reduceLT, reduceCtorEq, Int.reduceEq, Int.reduceLT, Int.reduceLE, Int.reduceNeg, Int.reduceToNat, Int.reduceBNe, Int.reduceBEq, Int.reduceAdd, Int.reduceSub, Int.reduceMul, opnsL, Nat.reduceLeDiff, Nat.reduceGT, List.replicate, Nat.reduceShiftRight, Nat.reduceMod, Nat.reduceBEq, lendsL, ty_NumMul_110, h0, h1, h2, h3]
    repeat' ((first | refine good_ci (fun h => ?_) (fun h => ?_) | refine good_cgt (fun h => ?_) (fun h => ?_) | refine good_cgf (fun h => ?_) (fun h => ?_) | refine good_cqgt (fun h => ?_) (fun h => ?_) | refine good_cqgf (fun h => ?_) (fun h => ?_)) <;> simp only [amr, amc, amp, if_true, if_false, ne_eq, gt_iff_lt, Option.getD, argsT, Option.bind, Option.map, List.headD, List.tail, reduceIte, reduceDIte, Nat.reduceEqDiff, Nat.reduceAdd, Nat.reduceSub, Nat.reduceMul, Nat.reduceLT, reduceCtorEq, Int.reduceEq, Int.reduceLT, Int.reduceLE, Int.reduceNeg, Int.reduceToNat, Int.reduceBNe, Int.reduceBEq, Int.reduceAdd, Int.reduceSub, Int.reduceMul, opnsL, Nat.reduceLeDiff, Nat.reduceGT, List.replicate, Nat.reduceShiftRight, Nat.reduceMod, Nat.reduceBEq, lendsL, ty_NumMul_110, h0, h1, h2, h3, h])
    all_goals first | (simp_all [mulI]; done) | (simp_all [mulI]; intro hh; exfalso; omega)
  · subst h0
    simp only [amr, amc, amp, if_true, if_false, ne_eq, gt_iff_lt, Option.getD, argsT, Option.bind, Option.map, List.headD, List.tail, reduceIte, reduceDIte, Nat.reduceEqDiff, Nat.reduceAdd, Nat.reduceSub, Nat.reduceMul, Nat.reduceLT, reduceCtorEq, Int.reduceEq, Int.reduceLT, Int.reduceLE, Int.reduceNeg, Int.reduceToNat, Int.reduceBNe, Int.reduceBEq, Int.reduceAdd, Int.reduceSub, Int.reduceMul, opnsL, Nat.reduceLeDiff, Nat.reduceGT, List.replicate, Nat.reduceShiftRight, Nat.reduceMod, Nat.reduceBEq, lendsL, ty_NumMul_110, bne_self_eq_false]
    repeat' ((first | refine good_ci (fun h => ?_) (fun h => ?_) | refine good_cgt (fun h => ?_) (fun h => ?_) | refine good_cgf (fun h => ?_) (fun h => ?_) | refine good_cqgt (fun h => ?_) (fun h => ?_) | refine good_cqgf (fun h => ?_) (fun h => ?_)) <;> simp only [amr, amc, amp, if_true, if_false, ne_eq, gt_iff_lt, Option.getD, argsT, Option.bind, Option.map, List.headD, List.tail, reduceIte, reduceDIte, Nat.reduceEqDiff, Nat.reduceAdd, Nat.reduceSub, Nat.reduceMul, Nat.reduceLT, reduceCtorEq, Int.reduceEq, Int.reduceLT, Int.reduceLE, Int.reduceNeg, Int.reduceToNat, Int.reduceBNe, Int.reduceBEq, Int.reduceAdd, Int.reduceSub, Int.reduceMul, opnsL, Nat.reduceLeDiff, Nat.reduceGT, List.replicate, Nat.reduceShiftRight, Nat.reduceMod, Nat.reduceBEq, lendsL, ty_NumMul_110, bne_self_eq_false, h])
    all_goals first | (simp_all [mulI]; done) | (simp_all [mulI]; intro hh; exfalso; omega)
  · have h1 : (a != 0) = true := by simp; omega
    have h2 : ¬ a = 0 := by omega
    have h3 : ¬ a < 0 := by omega
    simp only [amr, amc, amp, if_true, if_false, ne_eq, gt_iff_lt, Option.getD, argsT, Option.bind, Option.map, List.headD, List.tail, reduceIte, reduceDIte, Nat.reduceEqDiff, Nat.reduceAdd, Nat.reduceSub, Nat.reduceMul, Nat.reduceLT, reduceCtorEq, Int.reduceEq, Int.reduceLT, Int.reduceLE, Int.reduceNeg, Int.reduceToNat, Int.reduceBNe, Int.reduceBEq, Int.reduceAdd, Int.reduceSub, Int.reduceMul, opnsL, Nat.reduceLeDiff, Nat.reduceGT, List.replicate, Nat.reduceShiftRight, Nat.reduceMod, Nat.reduceBEq, lendsL, ty_NumMul_110, h0, h1, h2, h3]
    repeat' ((first | refine good_ci (fun h => ?_) (fun h => ?_) | refine good_cgt (fun h => ?_) (fun h => ?_) | refine good_cgf (fun h => ?_) (fun h => ?_) | refine good_cqgt (fun h => ?_) (fun h => ?_) | refine good_cqgf (fun h => ?_) (fun h => ?_)) <;> simp only [amr, amc, amp, if_true, if_false, ne_eq, gt_iff_lt, Option.getD, argsT, Option.bind, Option.map, List.headD, List.tail, reduceIte, reduceDIte, Nat.reduceEqDiff, Nat.reduceAdd, Nat.reduceSub, Nat.reduceMul, Nat.reduceLT, reduceCtorEq, Int.reduceEq, Int.reduceLT, Int.reduceLE, Int.reduceNeg, Int.reduceToNat, Int.reduceBNe, Int.reduceBEq, Int.reduceAdd, Int.reduceSub, Int.reduceMul, opnsL, Nat.reduceLeDiff, Nat.reduceGT, List.replicate, Nat.reduceShiftRight, Nat.reduceMod, Nat.reduceBEq, lendsL, ty_NumMul_110, h0, h1, h2, h3, h])
    all_goals first | (simp_all [mulI]; done) | (simp_all [mulI]; intro hh; exfalso; omega)
theorem ca_Mul1 {d dst : Nat} {S : St} (a b : Int) : callA tab (callR tab) d dst 110 [.d (.int .i64 (a)), .d (.int .i64 (b))] S = some (.d (.int .i64 (mulI a b)), S) :=
  ca_ret (ds := [.int .i64 (a), .int .i64 (b)]) (ret_Mul1 a b) rfl (tab_opn (by kernel_rfl)) (tab_res (by kernel_rfl))
theorem ret_Mul (a b : Int) : Ret tab 91 [.d (.int .i64 (a)), .d (.int .i64 (b))] (.tup [.d (.int .i64 ((numW a b (mulI a b)).1)), .d (.int .i64 ((numW a b (mulI a b)).2))]) := by
  refine ret_of (1) fn91 rfl rfl ?_
  simp only [amr, amc, amp, if_true, if_false, ne_eq, gt_iff_lt, Option.getD, argsT, Option.bind, Option.map, List.headD, List.tail, reduceIte, reduceDIte, Nat.reduceEqDiff, Nat.reduceAdd, Nat.reduceSub, Nat.reduceMul, Nat.reduceLT, reduceCtorEq, Int.reduceEq, Int.reduceLT, Int.reduceLE, Int.reduceNeg, Int.reduceToNat, Int.reduceBNe, Int.reduceBEq, Int.reduceAdd, Int.reduceSub, Int.reduceMul, opnsL, Nat.reduceLeDiff, Nat.reduceGT, List.replicate, Nat.reduceShiftRight, Nat.reduceMod, Nat.reduceBEq, lendsL, ty_NumMul_91, ca_num2 a b _ _ (ret_Mul1 a b) (tab_opn (by kernel_rfl)) (tab_res (by kernel_rfl))]
  repeat' ((first | refine good_ci (fun h => ?_) (fun h => ?_) | refine good_cgt (fun h => ?_) (fun h => ?_) | refine good_cgf (fun h => ?_) (fun h => ?_) | refine good_cqgt (fun h => ?_) (fun h => ?_) | refine good_cqgf (fun h => ?_) (fun h => ?_)) <;> simp only [amr, amc, amp, if_true, if_false, ne_eq, gt_iff_lt, Option.getD, argsT, Option.bind, Option.map, List.headD, List.tail, reduceIte, reduceDIte, Nat.reduceEqDiff, Nat.reduceAdd, Nat.reduceSub, Nat.reduceMul, Nat.reduceLT, reduceCtorEq, Int.reduceEq, Int.reduceLT, Int.reduceLE, Int.reduceNeg, Int.reduceToNat, Int.reduceBNe, Int.reduceBEq, Int.reduceAdd, Int.reduceSub, Int.reduceMul, opnsL, Nat.reduceLeDiff, Nat.reduceGT, List.replicate, Nat.reduceShiftRight, Nat.reduceMod, Nat.reduceBEq, lendsL, ty_NumMul_91, ca_num2 a b _ _ (ret_Mul1 a b) (tab_opn (by kernel_rfl)) (tab_res (by kernel_rfl)), h])
  all_goals (simp)
theorem ca_Mul {d dst : Nat} {S : St} (a b : Int) : callA tab (callR tab) d dst 91 [.d (.int .i64 (a)), .d (.int .i64 (b))] S = some (.tup [.d (.int .i64 ((numW a b (mulI a b)).1)), .d (.int .i64 ((numW a b (mulI a b)).2))], S) :=
  ca_ret_tup (ds := [.int .i64 (a), .int .i64 (b)]) (ys := [.int .i64 ((numW a b (mulI a b)).1), .int .i64 ((numW a b (mulI a b)).2)]) (ret_Mul a b) rfl (tab_opn (by kernel_rfl)) (tab_res (by kernel_rfl)) rfl
/-- A product that is in range is found. -/
theorem mulI_in {a b : Int} (ha : Num a) (hb : Num b) (h : Num (a * b)) : mulI a b = a * b := by
  have ⟨a0, a1⟩ := ha
  have ⟨b0, b1⟩ := hb
  have ⟨c0, c1⟩ := h
  have hw : IntKind.i64.wrap (a * b) = a * b := wrap_in (by omega) (by omega)
  unfold mulI
  rw [if_neg, hw]
  have key : ∀ (x y : Int), 0 < x → y * x ≤ 1099511627776 → ¬ y > IntKind.i64.wrap (Int.tdiv 1099511627776 x) := fun x y hx hy => by
    have h1 : Int.tdiv 1099511627776 x = 1099511627776 / x := Int.tdiv_eq_ediv_of_nonneg (by decide)
    have h2 : y ≤ 1099511627776 / x := (Int.le_ediv_iff_mul_le hx).2 hy
    have h3 : 1099511627776 / x ≤ 1099511627776 := Int.ediv_le_self _ (by decide)
    have h4 : 0 ≤ 1099511627776 / x := Int.ediv_nonneg (by decide) (by omega)
    rw [h1, wrap_in (by omega) (by omega)]
    omega
  have key2 : ∀ (x y : Int), 0 < x → -1099511627776 ≤ y * x → ¬ y < IntKind.i64.wrap (Int.tdiv (-1099511627776) x) := fun x y hx hy => by
    have h1 : Int.tdiv (-1099511627776) x = -(1099511627776 / x) := by rw [Int.neg_tdiv, Int.tdiv_eq_ediv_of_nonneg (by decide)]
    have h2 : -y ≤ 1099511627776 / x := (Int.le_ediv_iff_mul_le hx).2 (by rw [Int.neg_mul]; omega)
    have h3 : 1099511627776 / x ≤ 1099511627776 := Int.ediv_le_self _ (by decide)
    have h4 : 0 ≤ 1099511627776 / x := Int.ediv_nonneg (by decide) (by omega)
    rw [h1, wrap_in (by omega) (by omega)]
    omega
  rintro (⟨h1, h2 | h2⟩ | ⟨h1, h2 | h2⟩)
  · exact key a b h1 (by rw [Int.mul_comm]; exact c1) h2
  · exact key2 a b h1 (by rw [Int.mul_comm]; exact c0) h2
  · have : Int.tdiv (-1099511627776) a = Int.tdiv 1099511627776 (-a) := by rw [Int.tdiv_neg, Int.neg_tdiv]
    rw [this] at h2
    refine key (-a) b (by omega) ?_ h2
    rw [Int.mul_neg, Int.mul_comm]
    omega
  · have : Int.tdiv 1099511627776 a = Int.tdiv (-1099511627776) (-a) := by rw [Int.tdiv_neg, Int.neg_tdiv, Int.neg_neg]
    rw [this] at h2
    refine key2 (-a) b (by omega) ?_ h2
    rw [Int.mul_neg, Int.mul_comm]
    omega
end Go.Proofs.Ytjjjkoknodcaaaa.Am
