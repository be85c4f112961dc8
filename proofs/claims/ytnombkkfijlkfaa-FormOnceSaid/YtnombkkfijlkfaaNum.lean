/- What the functions on numbers come to. -/
import Derived.Test.YtnombkkfijlkfaaAmSet
set_option linter.unusedVariables false
set_option linter.unusedSimpArgs false
namespace Go.Proofs.Ytnombkkfijlkfaa.Am
open Go Go.RowKit
theorem ty_Num_102 : type_of% (ai (ai (ai (ai @rs102 @lv102_0) (ai @lv102_1 (ai @lv102_2 @lv102_3))) (ai (ai @und3 @sz3) (ai @ag3 (ai @lv3 @inf3)))) (ai (ai (ai @und4 @sz4) (ai @ag4 (ai @lv4 @inf4))) (ai (ai @und35 @sz35) (ai @ag35 (ai @lv35 @inf35))))) := (ai (ai (ai (ai @rs102 @lv102_0) (ai @lv102_1 (ai @lv102_2 @lv102_3))) (ai (ai @und3 @sz3) (ai @ag3 (ai @lv3 @inf3)))) (ai (ai (ai @und4 @sz4) (ai @ag4 (ai @lv4 @inf4))) (ai (ai @und35 @sz35) (ai @ag35 (ai @lv35 @inf35)))))
theorem ty_Num_18 : type_of% (ai (ai (ai @rs18 (ai @lv18_0 @lv18_1)) (ai (ai @lv18_2 @lv18_3) (ai @und3 @sz3))) (ai (ai (ai @ag3 @lv3) (ai @inf3 @und4)) (ai (ai @sz4 @ag4) (ai @lv4 @inf4)))) := (ai (ai (ai @rs18 (ai @lv18_0 @lv18_1)) (ai (ai @lv18_2 @lv18_3) (ai @und3 @sz3))) (ai (ai (ai @ag3 @lv3) (ai @inf3 @und4)) (ai (ai @sz4 @ag4) (ai @lv4 @inf4))))
set_option maxRecDepth 100000
set_option maxHeartbeats 4000000
def chk (n : Int) : Int := if n < -1099511627776 ∨ n > 1099511627776 then 7 else 0
theorem ret_Check (n : Int) : Ret tab 102 [.d (.int .i64 (n))] (.d (.int .i64 (chk n))) := by
  refine ret_of (1) fn102 rfl rfl ?_
  simp only [amr, amc, amp, if_true, if_false, ne_eq, gt_iff_lt, Option.getD, argsT, Option.bind, Option.map, List.headD, List.tail, opnsL, List.replicate, lendsL, seval, ty_Num_102]
  repeat' ((first | refine good_ci (fun h => ?_) (fun h => ?_) | refine good_cgt (fun h => ?_) (fun h => ?_) | refine good_cgf (fun h => ?_) (fun h => ?_) | refine good_cqgt (fun h => ?_) (fun h => ?_) | refine good_cqgf (fun h => ?_) (fun h => ?_)) <;> simp only [amr, amc, amp, if_true, if_false, ne_eq, gt_iff_lt, Option.getD, argsT, Option.bind, Option.map, List.headD, List.tail, opnsL, List.replicate, lendsL, seval, ty_Num_102, h])
  all_goals (simp_all [chk])
theorem ca_Check {d dst : Nat} {S : St} (n : Int) : callA tab (callR tab) d dst 102 [.d (.int .i64 (n))] S = some (.d (.int .i64 (chk n)), S) :=
  ca_ret (ds := [.int .i64 (n)]) (ret_Check n) rfl (tab_opn (by kernel_rfl)) (tab_res (by kernel_rfl))
/-- The bounded result of an operation. -/
def numW (a b r : Int) : Int × Int := if (chk a != 0) = true ∨ (chk b != 0) = true then (0, 7) else if (chk r != 0) = true then (0, chk r) else (r, 0)
/-- A number taken into 0 .. many-1. -/
def pick (n many : Int) : Int := (if n < 0 then IntKind.i64.wrap (0 - IntKind.i64.wrap (n + 1)) else n).tmod many
theorem ret_picked (n many : Int) (h0 : many ≠ 0) : Ret tab 18 [.d (.int .i64 (n)), .d (.int .i64 (many))] (.d (.int .i64 (pick n many))) := by
  refine ret_of (1) fn18 rfl rfl ?_
  simp only [amr, amc, amp, if_true, if_false, ne_eq, gt_iff_lt, Option.getD, argsT, Option.bind, Option.map, List.headD, List.tail, opnsL, List.replicate, lendsL, seval, ty_Num_18, h0]
  repeat' ((first | refine good_ci (fun h => ?_) (fun h => ?_) | refine good_cgt (fun h => ?_) (fun h => ?_) | refine good_cgf (fun h => ?_) (fun h => ?_) | refine good_cqgt (fun h => ?_) (fun h => ?_) | refine good_cqgf (fun h => ?_) (fun h => ?_)) <;> simp only [amr, amc, amp, if_true, if_false, ne_eq, gt_iff_lt, Option.getD, argsT, Option.bind, Option.map, List.headD, List.tail, opnsL, List.replicate, lendsL, seval, ty_Num_18, h0, h])
  all_goals (first | (simp_all [pick]; done) | (unfold pick; rw [if_neg (by simp_all)]))
theorem ca_picked {d dst : Nat} {S : St} (n many : Int) (h0 : many ≠ 0) : callA tab (callR tab) d dst 18 [.d (.int .i64 (n)), .d (.int .i64 (many))] S = some (.d (.int .i64 (pick n many)), S) :=
  ca_ret (ds := [.int .i64 (n), .int .i64 (many)]) (ret_picked n many h0) rfl (tab_opn (by kernel_rfl)) (tab_res (by kernel_rfl))
def small (n : Int) : Int := IntKind.i64.wrap (pick n 2199023255553 - 1099511627776)
end Go.Proofs.Ytnombkkfijlkfaa.Am
