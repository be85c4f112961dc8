/- What ValueOrderly comes to: the order of values. -/
import Derived.Test.YtjjjkoknodcaaaaVal
set_option linter.unusedVariables false
set_option linter.unusedSimpArgs false
namespace Go.Proofs.Ytjjjkoknodcaaaa.Am
open Go Go.RowKit
theorem ty_ValOrd_121 : type_of% (And.intro (And.intro (And.intro @rs121 (And.intro @lv121_0 @lv121_1)) (And.intro @und3 (And.intro @sz3 @ag3))) (And.intro (And.intro @lv3 (And.intro @inf3 @und4)) (And.intro (And.intro @sz4 @ag4) (And.intro @lv4 @inf4)))) := (And.intro (And.intro (And.intro @rs121 (And.intro @lv121_0 @lv121_1)) (And.intro @und3 (And.intro @sz3 @ag3))) (And.intro (And.intro @lv3 (And.intro @inf3 @und4)) (And.intro (And.intro @sz4 @ag4) (And.intro @lv4 @inf4))))
theorem ty_ValOrd_71 : type_of% (And.intro (And.intro (And.intro @rs71 (And.intro @lv71_0 @lv71_1)) (And.intro @und4 (And.intro @sz4 @ag4))) (And.intro (And.intro @lv4 (And.intro @inf4 @und9)) (And.intro (And.intro @sz9 @ag9) (And.intro @lv9 @inf9)))) := (And.intro (And.intro (And.intro @rs71 (And.intro @lv71_0 @lv71_1)) (And.intro @und4 (And.intro @sz4 @ag4))) (And.intro (And.intro @lv4 (And.intro @inf4 @und9)) (And.intro (And.intro @sz9 @ag9) (And.intro @lv9 @inf9))))
theorem ty_ValOrd_107 : type_of% (And.intro (And.intro (And.intro (And.intro @rs107 (And.intro @lv107_0 @lv107_1)) (And.intro @lv107_2 (And.intro @lv107_3 @lv107_4))) (And.intro (And.intro @lv107_5 (And.intro @lv107_6 @lv107_7)) (And.intro @lv107_8 (And.intro @lv107_9 @lv107_10)))) (And.intro (And.intro (And.intro @lv107_11 (And.intro @lv107_12 @lv107_13)) (And.intro @und3 (And.intro @sz3 @ag3))) (And.intro (And.intro @lv3 (And.intro @inf3 @und4)) (And.intro (And.intro @sz4 @ag4) (And.intro @lv4 @inf4))))) := (And.intro (And.intro (And.intro (And.intro @rs107 (And.intro @lv107_0 @lv107_1)) (And.intro @lv107_2 (And.intro @lv107_3 @lv107_4))) (And.intro (And.intro @lv107_5 (And.intro @lv107_6 @lv107_7)) (And.intro @lv107_8 (And.intro @lv107_9 @lv107_10)))) (And.intro (And.intro (And.intro @lv107_11 (And.intro @lv107_12 @lv107_13)) (And.intro @und3 (And.intro @sz3 @ag3))) (And.intro (And.intro @lv3 (And.intro @inf3 @und4)) (And.intro (And.intro @sz4 @ag4) (And.intro @lv4 @inf4)))))
theorem ty_ValOrd_108 : type_of% (And.intro (And.intro (And.intro (And.intro @rs108 (And.intro @lv108_0 @lv108_1)) (And.intro (And.intro @lv108_2 @lv108_3) (And.intro @lv108_4 @lv108_5))) (And.intro (And.intro (And.intro @lv108_6 @lv108_7) (And.intro @lv108_8 @lv108_9)) (And.intro (And.intro @lv108_10 @lv108_11) (And.intro @lv108_12 @lv108_13)))) (And.intro (And.intro (And.intro @und3 (And.intro @sz3 @ag3)) (And.intro (And.intro @lv3 @inf3) (And.intro @und4 @sz4))) (And.intro (And.intro (And.intro @ag4 @lv4) (And.intro @inf4 @und9)) (And.intro (And.intro @sz9 @ag9) (And.intro @lv9 @inf9))))) := (And.intro (And.intro (And.intro (And.intro @rs108 (And.intro @lv108_0 @lv108_1)) (And.intro (And.intro @lv108_2 @lv108_3) (And.intro @lv108_4 @lv108_5))) (And.intro (And.intro (And.intro @lv108_6 @lv108_7) (And.intro @lv108_8 @lv108_9)) (And.intro (And.intro @lv108_10 @lv108_11) (And.intro @lv108_12 @lv108_13)))) (And.intro (And.intro (And.intro @und3 (And.intro @sz3 @ag3)) (And.intro (And.intro @lv3 @inf3) (And.intro @und4 @sz4))) (And.intro (And.intro (And.intro @ag4 @lv4) (And.intro @inf4 @und9)) (And.intro (And.intro @sz9 @ag9) (And.intro @lv9 @inf9)))))
theorem ty_ValOrd_106 : type_of% (And.intro (And.intro (And.intro (And.intro @rs106 (And.intro @lv106_0 @lv106_1)) (And.intro @lv106_2 (And.intro @lv106_3 @lv106_4))) (And.intro (And.intro @lv106_5 (And.intro @lv106_6 @lv106_7)) (And.intro (And.intro @lv106_8 @kp106_3) (And.intro @und3 @sz3)))) (And.intro (And.intro (And.intro @ag3 (And.intro @lv3 @inf3)) (And.intro @und4 (And.intro @sz4 @ag4))) (And.intro (And.intro @lv4 (And.intro @inf4 @und67)) (And.intro (And.intro @sz67 @ag67) (And.intro @pT67 @inf67))))) := (And.intro (And.intro (And.intro (And.intro @rs106 (And.intro @lv106_0 @lv106_1)) (And.intro @lv106_2 (And.intro @lv106_3 @lv106_4))) (And.intro (And.intro @lv106_5 (And.intro @lv106_6 @lv106_7)) (And.intro (And.intro @lv106_8 @kp106_3) (And.intro @und3 @sz3)))) (And.intro (And.intro (And.intro @ag3 (And.intro @lv3 @inf3)) (And.intro @und4 (And.intro @sz4 @ag4))) (And.intro (And.intro @lv4 (And.intro @inf4 @und67)) (And.intro (And.intro @sz67 @ag67) (And.intro @pT67 @inf67)))))
theorem ty_ValOrd_88 : type_of% (And.intro (And.intro (And.intro (And.intro (And.intro @rs88 (And.intro @lv88_0 @ro24_2_value_go_126)) (And.intro @ro24_3_value_go_126 (And.intro @lv88_1 @lv88_2))) (And.intro (And.intro @dr88_3 (And.intro @lv88_3 @und1)) (And.intro (And.intro @sz1 @ag1) (And.intro @inf1 @und2)))) (And.intro (And.intro (And.intro @sz2 (And.intro @ag2 @lv2)) (And.intro @inf2 (And.intro @und3 @sz3))) (And.intro (And.intro @ag3 (And.intro @lv3 @inf3)) (And.intro (And.intro @und4 @sz4) (And.intro @ag4 @lv4))))) (And.intro (And.intro (And.intro (And.intro @inf4 (And.intro @und9 @sz9)) (And.intro @ag9 (And.intro @lv9 @inf9))) (And.intro (And.intro @und24 (And.intro @sz24 @ag24)) (And.intro (And.intro @fo24 @bA24) (And.intro @pT24_0 @pT24_1)))) (And.intro (And.intro (And.intro @pT24_2 (And.intro @lv24 @inf24)) (And.intro @und34 (And.intro @sz34 @ag34))) (And.intro (And.intro @lv34 (And.intro @inf34 @und67)) (And.intro (And.intro @sz67 @ag67) (And.intro @pT67 @inf67)))))) := (And.intro (And.intro (And.intro (And.intro (And.intro @rs88 (And.intro @lv88_0 @ro24_2_value_go_126)) (And.intro @ro24_3_value_go_126 (And.intro @lv88_1 @lv88_2))) (And.intro (And.intro @dr88_3 (And.intro @lv88_3 @und1)) (And.intro (And.intro @sz1 @ag1) (And.intro @inf1 @und2)))) (And.intro (And.intro (And.intro @sz2 (And.intro @ag2 @lv2)) (And.intro @inf2 (And.intro @und3 @sz3))) (And.intro (And.intro @ag3 (And.intro @lv3 @inf3)) (And.intro (And.intro @und4 @sz4) (And.intro @ag4 @lv4))))) (And.intro (And.intro (And.intro (And.intro @inf4 (And.intro @und9 @sz9)) (And.intro @ag9 (And.intro @lv9 @inf9))) (And.intro (And.intro @und24 (And.intro @sz24 @ag24)) (And.intro (And.intro @fo24 @bA24) (And.intro @pT24_0 @pT24_1)))) (And.intro (And.intro (And.intro @pT24_2 (And.intro @lv24 @inf24)) (And.intro @und34 (And.intro @sz34 @ag34))) (And.intro (And.intro @lv34 (And.intro @inf34 @und67)) (And.intro (And.intro @sz67 @ag67) (And.intro @pT67 @inf67))))))
set_option maxRecDepth 100000
set_option maxHeartbeats 40000000

theorem b_sgtr {T : Tab} {t : TypeId} {a b : List UInt8} : bin1 T .gtr t (some (.d (.str a))) (some (.d (.str b))) = some (.d (.bool (!(bytesLt a b || a == b)))) := rfl
def cmpI (a b : Int) : Int := if a < b then -1 else if a > b then 1 else 0
def cmpS (a b : Str) : Int := if bytesLt a b = true then -1 else if (!(bytesLt a b || a == b)) = true then 1 else 0
theorem ret_nanI (a : Int) : Ret tab 121 [.d (.int .i64 (a))] (.d (.bool (false))) := by
  refine ret_of (1) fn121 rfl rfl ?_
  simp only [amr, amc, amp, if_true, if_false, ne_eq, gt_iff_lt, Option.getD, argsT, Option.bind, Option.map, List.headD, List.tail, reduceIte, reduceDIte, Nat.reduceEqDiff, Nat.reduceAdd, Nat.reduceSub, Nat.reduceMul, Nat.reduceLT, reduceCtorEq, Int.reduceEq, Int.reduceLT, Int.reduceLE, Int.reduceNeg, Int.reduceToNat, Int.reduceBNe, Int.reduceBEq, Int.reduceAdd, Int.reduceSub, Int.reduceMul, opnsL, Nat.reduceLeDiff, Nat.reduceGT, List.replicate, Nat.reduceShiftRight, Nat.reduceMod, Nat.reduceBEq, lendsL, ty_ValOrd_121, bne_self_eq_false]
  repeat' ((first | refine good_ci (fun h => ?_) (fun h => ?_) | refine good_cgt (fun h => ?_) (fun h => ?_) | refine good_cgf (fun h => ?_) (fun h => ?_) | refine good_cqgt (fun h => ?_) (fun h => ?_) | refine good_cqgf (fun h => ?_) (fun h => ?_)) <;> simp only [amr, amc, amp, if_true, if_false, ne_eq, gt_iff_lt, Option.getD, argsT, Option.bind, Option.map, List.headD, List.tail, reduceIte, reduceDIte, Nat.reduceEqDiff, Nat.reduceAdd, Nat.reduceSub, Nat.reduceMul, Nat.reduceLT, reduceCtorEq, Int.reduceEq, Int.reduceLT, Int.reduceLE, Int.reduceNeg, Int.reduceToNat, Int.reduceBNe, Int.reduceBEq, Int.reduceAdd, Int.reduceSub, Int.reduceMul, opnsL, Nat.reduceLeDiff, Nat.reduceGT, List.replicate, Nat.reduceShiftRight, Nat.reduceMod, Nat.reduceBEq, lendsL, ty_ValOrd_121, bne_self_eq_false, h])
  all_goals (simp [*])
theorem ca_nanI {d dst : Nat} {S : St} (a : Int) : callA tab (callR tab) d dst 121 [.d (.int .i64 (a))] S = some (.d (.bool (false)), S) :=
  ca_ret (ds := [.int .i64 (a)]) (ret_nanI a) rfl (tab_opn (by kernel_rfl)) (tab_res (by kernel_rfl))
theorem ret_nanS (a : Str) : Ret tab 71 [.d (.str (a))] (.d (.bool (false))) := by
  refine ret_of (1) fn71 rfl rfl ?_
  simp only [amr, amc, amp, if_true, if_false, ne_eq, gt_iff_lt, Option.getD, argsT, Option.bind, Option.map, List.headD, List.tail, reduceIte, reduceDIte, Nat.reduceEqDiff, Nat.reduceAdd, Nat.reduceSub, Nat.reduceMul, Nat.reduceLT, reduceCtorEq, Int.reduceEq, Int.reduceLT, Int.reduceLE, Int.reduceNeg, Int.reduceToNat, Int.reduceBNe, Int.reduceBEq, Int.reduceAdd, Int.reduceSub, Int.reduceMul, opnsL, Nat.reduceLeDiff, Nat.reduceGT, List.replicate, Nat.reduceShiftRight, Nat.reduceMod, Nat.reduceBEq, lendsL, ty_ValOrd_71, BEq.rfl]
  repeat' ((first | refine good_ci (fun h => ?_) (fun h => ?_) | refine good_cgt (fun h => ?_) (fun h => ?_) | refine good_cgf (fun h => ?_) (fun h => ?_) | refine good_cqgt (fun h => ?_) (fun h => ?_) | refine good_cqgf (fun h => ?_) (fun h => ?_)) <;> simp only [amr, amc, amp, if_true, if_false, ne_eq, gt_iff_lt, Option.getD, argsT, Option.bind, Option.map, List.headD, List.tail, reduceIte, reduceDIte, Nat.reduceEqDiff, Nat.reduceAdd, Nat.reduceSub, Nat.reduceMul, Nat.reduceLT, reduceCtorEq, Int.reduceEq, Int.reduceLT, Int.reduceLE, Int.reduceNeg, Int.reduceToNat, Int.reduceBNe, Int.reduceBEq, Int.reduceAdd, Int.reduceSub, Int.reduceMul, opnsL, Nat.reduceLeDiff, Nat.reduceGT, List.replicate, Nat.reduceShiftRight, Nat.reduceMod, Nat.reduceBEq, lendsL, ty_ValOrd_71, BEq.rfl, h])
  all_goals (simp [*])
theorem ca_nanS {d dst : Nat} {S : St} (a : Str) : callA tab (callR tab) d dst 71 [.d (.str (a))] S = some (.d (.bool (false)), S) :=
  ca_ret (ds := [.str (a)]) (ret_nanS a) rfl (tab_opn (by kernel_rfl)) (tab_res (by kernel_rfl))
theorem ret_cmpI (a b : Int) : Ret tab 107 [.d (.int .i64 (a)), .d (.int .i64 (b))] (.d (.int .i64 (cmpI a b))) := by
  refine ret_of (1) fn107 rfl rfl ?_
  simp only [amr, amc, amp, if_true, if_false, ne_eq, gt_iff_lt, Option.getD, argsT, Option.bind, Option.map, List.headD, List.tail, reduceIte, reduceDIte, Nat.reduceEqDiff, Nat.reduceAdd, Nat.reduceSub, Nat.reduceMul, Nat.reduceLT, reduceCtorEq, Int.reduceEq, Int.reduceLT, Int.reduceLE, Int.reduceNeg, Int.reduceToNat, Int.reduceBNe, Int.reduceBEq, Int.reduceAdd, Int.reduceSub, Int.reduceMul, opnsL, Nat.reduceLeDiff, Nat.reduceGT, List.replicate, Nat.reduceShiftRight, Nat.reduceMod, Nat.reduceBEq, lendsL, ty_ValOrd_107, ca_nanI, cmpI]
  repeat' ((first | refine good_ci (fun h => ?_) (fun h => ?_) | refine good_cgt (fun h => ?_) (fun h => ?_) | refine good_cgf (fun h => ?_) (fun h => ?_) | refine good_cqgt (fun h => ?_) (fun h => ?_) | refine good_cqgf (fun h => ?_) (fun h => ?_)) <;> simp only [amr, amc, amp, if_true, if_false, ne_eq, gt_iff_lt, Option.getD, argsT, Option.bind, Option.map, List.headD, List.tail, reduceIte, reduceDIte, Nat.reduceEqDiff, Nat.reduceAdd, Nat.reduceSub, Nat.reduceMul, Nat.reduceLT, reduceCtorEq, Int.reduceEq, Int.reduceLT, Int.reduceLE, Int.reduceNeg, Int.reduceToNat, Int.reduceBNe, Int.reduceBEq, Int.reduceAdd, Int.reduceSub, Int.reduceMul, opnsL, Nat.reduceLeDiff, Nat.reduceGT, List.replicate, Nat.reduceShiftRight, Nat.reduceMod, Nat.reduceBEq, lendsL, ty_ValOrd_107, ca_nanI, cmpI, h])
  all_goals ((simp_all [cmpI] <;> omega))
theorem ca_cmpI {d dst : Nat} {S : St} (a b : Int) : callA tab (callR tab) d dst 107 [.d (.int .i64 (a)), .d (.int .i64 (b))] S = some (.d (.int .i64 (cmpI a b)), S) :=
  ca_ret (ds := [.int .i64 (a), .int .i64 (b)]) (ret_cmpI a b) rfl (tab_opn (by kernel_rfl)) (tab_res (by kernel_rfl))
theorem ret_cmpS (a b : Str) : Ret tab 108 [.d (.str (a)), .d (.str (b))] (.d (.int .i64 (cmpS a b))) := by
  refine ret_of (1) fn108 rfl rfl ?_
  simp only [amr, amc, amp, if_true, if_false, ne_eq, gt_iff_lt, Option.getD, argsT, Option.bind, Option.map, List.headD, List.tail, reduceIte, reduceDIte, Nat.reduceEqDiff, Nat.reduceAdd, Nat.reduceSub, Nat.reduceMul, Nat.reduceLT, reduceCtorEq, Int.reduceEq, Int.reduceLT, Int.reduceLE, Int.reduceNeg, Int.reduceToNat, Int.reduceBNe, Int.reduceBEq, Int.reduceAdd, Int.reduceSub, Int.reduceMul, opnsL, Nat.reduceLeDiff, Nat.reduceGT, List.replicate, Nat.reduceShiftRight, Nat.reduceMod, Nat.reduceBEq, lendsL, ty_ValOrd_108, ca_nanS, cmpS, b_sgtr]
  repeat' ((first | refine good_ci (fun h => ?_) (fun h => ?_) | refine good_cgt (fun h => ?_) (fun h => ?_) | refine good_cgf (fun h => ?_) (fun h => ?_) | refine good_cqgt (fun h => ?_) (fun h => ?_) | refine good_cqgf (fun h => ?_) (fun h => ?_)) <;> simp only [amr, amc, amp, if_true, if_false, ne_eq, gt_iff_lt, Option.getD, argsT, Option.bind, Option.map, List.headD, List.tail, reduceIte, reduceDIte, Nat.reduceEqDiff, Nat.reduceAdd, Nat.reduceSub, Nat.reduceMul, Nat.reduceLT, reduceCtorEq, Int.reduceEq, Int.reduceLT, Int.reduceLE, Int.reduceNeg, Int.reduceToNat, Int.reduceBNe, Int.reduceBEq, Int.reduceAdd, Int.reduceSub, Int.reduceMul, opnsL, Nat.reduceLeDiff, Nat.reduceGT, List.replicate, Nat.reduceShiftRight, Nat.reduceMod, Nat.reduceBEq, lendsL, ty_ValOrd_108, ca_nanS, cmpS, b_sgtr, h])
  all_goals (simp_all [cmpS])
theorem ca_cmpS {d dst : Nat} {S : St} (a b : Str) : callA tab (callR tab) d dst 108 [.d (.str (a)), .d (.str (b))] S = some (.d (.int .i64 (cmpS a b)), S) :=
  ca_ret (ds := [.str (a), .str (b)]) (ret_cmpS a b) rfl (tab_opn (by kernel_rfl)) (tab_res (by kernel_rfl))
theorem ret_orI (a b : Int) : Ret tab 106 [.d (.sl 1 ([.int .i64 a, .int .i64 b]))] (.d (.int .i64 (if a = 0 then b else a))) := by
  refine ret_of (3) fn106 rfl rfl ?_
  simp only [amr, amc, amp, if_true, if_false, ne_eq, gt_iff_lt, Option.getD, argsT, Option.bind, Option.map, List.headD, List.tail, reduceIte, reduceDIte, Nat.reduceEqDiff, Nat.reduceAdd, Nat.reduceSub, Nat.reduceMul, Nat.reduceLT, reduceCtorEq, Int.reduceEq, Int.reduceLT, Int.reduceLE, Int.reduceNeg, Int.reduceToNat, Int.reduceBNe, Int.reduceBEq, Int.reduceAdd, Int.reduceSub, Int.reduceMul, opnsL, Nat.reduceLeDiff, Nat.reduceGT, List.replicate, Nat.reduceShiftRight, Nat.reduceMod, Nat.reduceBEq, lendsL, ty_ValOrd_106, (show IntKind.i64.wrap 0 = 0 from rfl), (show IntKind.i64.wrap 1 = 1 from rfl), (show IntKind.i64.wrap 2 = 2 from rfl), (show IntKind.i64.wrap 3 = 3 from rfl), (show IntKind.i64.wrap 4 = 4 from rfl), (show IntKind.i64.wrap 5 = 5 from rfl), (show IntKind.i64.wrap 6 = 6 from rfl), (show IntKind.i64.wrap 7 = 7 from rfl), (show IntKind.i64.wrap 8 = 8 from rfl), (show IntKind.i64.wrap 9 = 9 from rfl), (show IntKind.i64.wrap 10 = 10 from rfl), (show IntKind.i64.wrap 11 = 11 from rfl), (show IntKind.i64.wrap 12 = 12 from rfl), (show IntKind.i64.wrap 13 = 13 from rfl), (show IntKind.i64.wrap 14 = 14 from rfl), cx_loop, clp_s, nameOf]
  repeat' ((first | refine good_ci (fun h => ?_) (fun h => ?_) | refine good_cgt (fun h => ?_) (fun h => ?_) | refine good_cgf (fun h => ?_) (fun h => ?_) | refine good_cqgt (fun h => ?_) (fun h => ?_) | refine good_cqgf (fun h => ?_) (fun h => ?_)) <;> simp only [amr, amc, amp, if_true, if_false, ne_eq, gt_iff_lt, Option.getD, argsT, Option.bind, Option.map, List.headD, List.tail, reduceIte, reduceDIte, Nat.reduceEqDiff, Nat.reduceAdd, Nat.reduceSub, Nat.reduceMul, Nat.reduceLT, reduceCtorEq, Int.reduceEq, Int.reduceLT, Int.reduceLE, Int.reduceNeg, Int.reduceToNat, Int.reduceBNe, Int.reduceBEq, Int.reduceAdd, Int.reduceSub, Int.reduceMul, opnsL, Nat.reduceLeDiff, Nat.reduceGT, List.replicate, Nat.reduceShiftRight, Nat.reduceMod, Nat.reduceBEq, lendsL, ty_ValOrd_106, (show IntKind.i64.wrap 0 = 0 from rfl), (show IntKind.i64.wrap 1 = 1 from rfl), (show IntKind.i64.wrap 2 = 2 from rfl), (show IntKind.i64.wrap 3 = 3 from rfl), (show IntKind.i64.wrap 4 = 4 from rfl), (show IntKind.i64.wrap 5 = 5 from rfl), (show IntKind.i64.wrap 6 = 6 from rfl), (show IntKind.i64.wrap 7 = 7 from rfl), (show IntKind.i64.wrap 8 = 8 from rfl), (show IntKind.i64.wrap 9 = 9 from rfl), (show IntKind.i64.wrap 10 = 10 from rfl), (show IntKind.i64.wrap 11 = 11 from rfl), (show IntKind.i64.wrap 12 = 12 from rfl), (show IntKind.i64.wrap 13 = 13 from rfl), (show IntKind.i64.wrap 14 = 14 from rfl), cx_loop, clp_s, nameOf, h])
  all_goals (simp_all)
theorem ca_orI {d dst : Nat} {S : St} (a b : Int) : callA tab (callR tab) d dst 106 [.d (.sl 1 ([.int .i64 a, .int .i64 b]))] S = some (.d (.int .i64 (if a = 0 then b else a)), S) :=
  ca_ret (ds := [.sl 1 ([.int .i64 a, .int .i64 b])]) (ret_orI a b) rfl (tab_opn (by kernel_rfl)) (tab_res (by kernel_rfl))
theorem ca_orO {d dst : Nat} {S : St} (a b : Int) : callA tab (callR tab) d dst 106 [.own 1 [.int .i64 a, .int .i64 b] none] S = some (.d (.int .i64 (if a = 0 then b else a)), S) :=
  ca_ret (ds := [.sl 1 [.int .i64 a, .int .i64 b]]) (ret_orI a b) rfl (tab_opn (by kernel_rfl)) (tab_res (by kernel_rfl))
def valCmp (a b : Val) : Int := if cmpI a.n b.n = 0 then cmpS a.s b.s else cmpI a.n b.n
theorem ret_VCompare (a b : Val) (ha : valKnown a = true) (hb : valKnown b = true) (hk : a.kind = b.kind) : Ret tab 88 [.d (a.dv), .d (b.dv)] (.tup [.d (.int .i64 (valCmp a b)), .d (.int .i64 (0))]) := by
  have hk2 : (a.kind != b.kind) = false := by rw [hk]; simp
  refine ret_of (1) fn88 rfl rfl ?_
  simp only [amr, amc, amp, if_true, if_false, ne_eq, gt_iff_lt, Option.getD, argsT, Option.bind, Option.map, List.headD, List.tail, reduceIte, reduceDIte, Nat.reduceEqDiff, Nat.reduceAdd, Nat.reduceSub, Nat.reduceMul, Nat.reduceLT, reduceCtorEq, Int.reduceEq, Int.reduceLT, Int.reduceLE, Int.reduceNeg, Int.reduceToNat, Int.reduceBNe, Int.reduceBEq, Int.reduceAdd, Int.reduceSub, Int.reduceMul, opnsL, Nat.reduceLeDiff, Nat.reduceGT, List.replicate, Nat.reduceShiftRight, Nat.reduceMod, Nat.reduceBEq, lendsL, ty_ValOrd_88, Val.dv, ca_Known a.kind a.n a.s, ca_Known b.kind b.n b.s, Val.eta, ha, hb, hk2, bne_self_eq_false, ca_cmpI, ca_cmpS, ca_orO, valCmp]
  repeat' ((first | refine good_ci (fun h => ?_) (fun h => ?_) | refine good_cgt (fun h => ?_) (fun h => ?_) | refine good_cgf (fun h => ?_) (fun h => ?_) | refine good_cqgt (fun h => ?_) (fun h => ?_) | refine good_cqgf (fun h => ?_) (fun h => ?_)) <;> simp only [amr, amc, amp, if_true, if_false, ne_eq, gt_iff_lt, Option.getD, argsT, Option.bind, Option.map, List.headD, List.tail, reduceIte, reduceDIte, Nat.reduceEqDiff, Nat.reduceAdd, Nat.reduceSub, Nat.reduceMul, Nat.reduceLT, reduceCtorEq, Int.reduceEq, Int.reduceLT, Int.reduceLE, Int.reduceNeg, Int.reduceToNat, Int.reduceBNe, Int.reduceBEq, Int.reduceAdd, Int.reduceSub, Int.reduceMul, opnsL, Nat.reduceLeDiff, Nat.reduceGT, List.replicate, Nat.reduceShiftRight, Nat.reduceMod, Nat.reduceBEq, lendsL, ty_ValOrd_88, Val.dv, ca_Known a.kind a.n a.s, ca_Known b.kind b.n b.s, Val.eta, ha, hb, hk2, bne_self_eq_false, ca_cmpI, ca_cmpS, ca_orO, valCmp, h])
  all_goals (skip)
theorem cf_VCompare {d dst : Nat} {S : St} (a b : Val) (ha : valKnown a = true) (hb : valKnown b = true) (hk : a.kind = b.kind) : callA tab (callR tab) d dst 88 [.d (a.dv), .d (b.dv)] S = some (.tup [.d (.int .i64 (valCmp a b)), .d (.int .i64 (0))], S) :=
  ca_ret_tup (ds := [a.dv, b.dv]) (ys := [.int .i64 (valCmp a b), .int .i64 (0)]) (ret_VCompare a b ha hb hk) rfl (tab_opn (by kernel_rfl)) (tab_res (by kernel_rfl)) rfl
theorem ca_VCompare {d dst : Nat} {S : St} (a_kind : Int) (a_n : Int) (a_s : List UInt8) (b_kind : Int) (b_n : Int) (b_s : List UInt8) (ha : valKnown (Val.mk a_kind a_n a_s) = true) (hb : valKnown (Val.mk b_kind b_n b_s) = true) (hk : (Val.mk a_kind a_n a_s).kind = (Val.mk b_kind b_n b_s).kind) : callA tab (callR tab) d dst 88 [.d (.agg [.int .i64 a_kind, .int .i64 a_n, .str a_s]), .d (.agg [.int .i64 b_kind, .int .i64 b_n, .str b_s])] S = some (.tup [.d (.int .i64 (valCmp (Val.mk a_kind a_n a_s) (Val.mk b_kind b_n b_s))), .d (.int .i64 (0))], S) :=
  ca_ret_tup (ds := [.agg [.int .i64 a_kind, .int .i64 a_n, .str a_s], .agg [.int .i64 b_kind, .int .i64 b_n, .str b_s]]) (ys := [.int .i64 (valCmp (Val.mk a_kind a_n a_s) (Val.mk b_kind b_n b_s)), .int .i64 (0)]) (ret_VCompare (Val.mk a_kind a_n a_s) (Val.mk b_kind b_n b_s) ha hb hk) rfl (tab_opn (by kernel_rfl)) (tab_res (by kernel_rfl)) rfl
theorem bl_irrefl : ∀ x, bytesLt x x = false
  | [] => rfl
  | a :: x => by simp [bytesLt, bl_irrefl x]
theorem bl_tri : ∀ x y, bytesLt x y = false → bytesLt y x = false → x = y
  | [], [], _, _ => rfl
  | [], _ :: _, h, _ => by simp [bytesLt] at h
  | _ :: _, [], _, h => by simp [bytesLt] at h
  | a :: x, b :: y, h, k => by
    simp only [bytesLt, Bool.or_eq_false_iff, decide_eq_false_iff_not, Bool.and_eq_false_iff] at h k
    have hab : a = b := by
      have h1 := h.1; have k1 := k.1
      rw [UInt8.lt_iff_toNat_lt] at h1 k1
      exact UInt8.toNat_inj.1 (by omega)
    subst hab
    simp at h k
    rw [bl_tri x y h k]
theorem bl_trans : ∀ x y z, bytesLt x y = true → bytesLt y z = true → bytesLt x z = true
  | [], [], _, h, _ => by simp [bytesLt] at h
  | [], _ :: _, [], _, h => by simp [bytesLt] at h
  | [], _ :: _, _ :: _, _, _ => rfl
  | _ :: _, [], _, h, _ => by simp [bytesLt] at h
  | _ :: _, _ :: _, [], _, h => by simp [bytesLt] at h
  | a :: x, b :: y, c :: z, h, k => by
    simp only [bytesLt, Bool.or_eq_true, decide_eq_true_eq, Bool.and_eq_true, beq_iff_eq] at h k ⊢
    rcases h with h | ⟨rfl, h⟩ <;> rcases k with k | ⟨rfl, k⟩
    · exact .inl (UInt8.lt_trans h k)
    · exact .inl h
    · exact .inl k
    · exact .inr ⟨rfl, bl_trans x y z h k⟩
theorem bl_asymm {x y : Str} (h : bytesLt x y = true) : bytesLt y x = false := by
  cases k : bytesLt y x with
  | false => rfl
  | true => have := bl_trans x y x h k; rw [bl_irrefl] at this; simp at this
theorem cmpS_spec (a b : Str) : (cmpS a b = -1 ∧ bytesLt a b = true) ∨ (cmpS a b = 0 ∧ a = b) ∨ (cmpS a b = 1 ∧ bytesLt b a = true) := by
  unfold cmpS
  cases h : bytesLt a b with
  | true => simp
  | false =>
    cases k : bytesLt b a with
    | true =>
      have : (a == b) = false := by
        rw [beq_eq_false_iff_ne]; intro e; subst e; rw [h] at k; simp at k
      simp [this]
    | false =>
      have := bl_tri a b h k
      subst this; simp
theorem cmpI_spec (a b : Int) : (cmpI a b = -1 ∧ a < b) ∨ (cmpI a b = 0 ∧ a = b) ∨ (cmpI a b = 1 ∧ b < a) := by
  unfold cmpI
  split
  · exact .inl ⟨rfl, by assumption⟩
  · split
    · exact .inr (.inr ⟨rfl, by omega⟩)
    · exact .inr (.inl ⟨rfl, by omega⟩)
/-- What the order says. -/
def vLt (a b : Val) : Prop := a.n < b.n ∨ (a.n = b.n ∧ bytesLt a.s b.s = true)
theorem valCmp_spec (a b : Val) (hk : a.kind = b.kind) : (valCmp a b = -1 ∧ vLt a b) ∨ (valCmp a b = 0 ∧ a = b) ∨ (valCmp a b = 1 ∧ vLt b a) := by
  unfold valCmp vLt
  rcases cmpI_spec a.n b.n with ⟨h, k⟩ | ⟨h, k⟩ | ⟨h, k⟩
  · rw [h]; simp [k]
  · rw [h, if_pos rfl]
    rcases cmpS_spec a.s b.s with ⟨h, m⟩ | ⟨h, m⟩ | ⟨h, m⟩
    · exact .inl ⟨h, .inr ⟨k, m⟩⟩
    · refine .inr (.inl ⟨h, ?_⟩)
      cases a; cases b; simp_all
    · exact .inr (.inr ⟨h, .inr ⟨k.symm, m⟩⟩)
  · rw [h]; simp [k]
theorem vLt_trans {a b c : Val} (h : vLt a b) (k : vLt b c) : vLt a c := by
  rcases h with h | ⟨h, h'⟩ <;> rcases k with k | ⟨k, k'⟩
  · exact .inl (by omega)
  · exact .inl (by omega)
  · exact .inl (by omega)
  · exact .inr ⟨by omega, bl_trans _ _ _ h' k'⟩
theorem vLt_irrefl {a : Val} (h : vLt a a) : False := by
  rcases h with h | ⟨_, h⟩
  · omega
  · rw [bl_irrefl] at h; simp at h
theorem valCmp_neg (a b : Val) (hk : a.kind = b.kind) : valCmp b a = - valCmp a b := by
  rcases valCmp_spec a b hk with ⟨h, k⟩ | ⟨h, k⟩ | ⟨h, k⟩ <;> rcases valCmp_spec b a hk.symm with ⟨h', k'⟩ | ⟨h', k'⟩ | ⟨h', k'⟩ <;> first
    | omega
    | exact (vLt_irrefl (vLt_trans k k')).elim
    | (rw [k] at k'; exact (vLt_irrefl k').elim)
    | (rw [k'] at k; exact (vLt_irrefl k).elim)
theorem valCmp_zero (a b : Val) (hk : a.kind = b.kind) : valCmp a b = 0 ↔ a = b := by
  rcases valCmp_spec a b hk with ⟨h, k⟩ | ⟨h, k⟩ | ⟨h, k⟩
  · rw [h]; exact ⟨fun h => by simp at h, fun e => by subst e; exact (vLt_irrefl k).elim⟩
  · rw [h]; exact ⟨fun _ => k, fun _ => rfl⟩
  · rw [h]; exact ⟨fun h => by simp at h, fun e => by subst e; exact (vLt_irrefl k).elim⟩
theorem valCmp_trans (a b c : Val) (h1 : a.kind = b.kind) (h2 : b.kind = c.kind) (h : valCmp a b ≤ 0) (k : valCmp b c ≤ 0) : valCmp a c ≤ 0 := by
  rcases valCmp_spec a b h1 with ⟨p, p'⟩ | ⟨p, rfl⟩ | ⟨p, p'⟩
  · rcases valCmp_spec b c h2 with ⟨q, q'⟩ | ⟨q, rfl⟩ | ⟨q, q'⟩
    · rcases valCmp_spec a c (h1.trans h2) with ⟨r, r'⟩ | ⟨r, r'⟩ | ⟨r, r'⟩
      · omega
      · omega
      · exact (vLt_irrefl (vLt_trans (vLt_trans p' q') r')).elim
    · omega
    · omega
  · exact k
  · omega
theorem valCmp_range (a b : Val) : -1 ≤ valCmp a b ∧ valCmp a b ≤ 1 := by
  unfold valCmp
  rcases cmpI_spec a.n b.n with ⟨h, k⟩ | ⟨h, k⟩ | ⟨h, k⟩ <;> rcases cmpS_spec a.s b.s with ⟨h', k'⟩ | ⟨h', k'⟩ | ⟨h', k'⟩ <;> rw [h] <;> simp [h']
end Go.Proofs.Ytjjjkoknodcaaaa.Am
