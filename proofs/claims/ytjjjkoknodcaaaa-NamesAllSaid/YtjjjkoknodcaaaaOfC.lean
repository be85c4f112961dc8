/- Lists of strings: sorted, compact, does one hold a string. -/
import Derived.Test.YtjjjkoknodcaaaaGenL
set_option linter.unusedVariables false
set_option linter.unusedSimpArgs false
namespace Go.Proofs.Ytjjjkoknodcaaaa.Am
open Go Go.RowKit
theorem ty_OfC_47 : type_of% (ai (ai (ai @rs47 (ai @lv47_0 @lv47_1)) (ai @und4 (ai @sz4 @ag4))) (ai (ai @lv4 (ai @inf4 @und9)) (ai (ai @sz9 @ag9) (ai @lv9 @inf9)))) := (ai (ai (ai @rs47 (ai @lv47_0 @lv47_1)) (ai @und4 (ai @sz4 @ag4))) (ai (ai @lv4 (ai @inf4 @und9)) (ai (ai @sz9 @ag9) (ai @lv9 @inf9))))
theorem ty_OfC_25 : type_of% (ai (ai (ai (ai @rs25 (ai @lv25_0 @lv25_1)) (ai (ai @lv25_2 @dr25_4) (ai @lv25_4 @lv25_5))) (ai (ai (ai @lv25_3 @lv25_6) (ai @kp25_2 @und3)) (ai (ai @sz3 @ag3) (ai @lv3 @inf3)))) (ai (ai (ai @und4 (ai @sz4 @ag4)) (ai (ai @lv4 @inf4) (ai @und9 @sz9))) (ai (ai (ai @ag9 @lv9) (ai @inf9 @und42)) (ai (ai @sz42 @ag42) (ai @pT42 @inf42))))) := (ai (ai (ai (ai @rs25 (ai @lv25_0 @lv25_1)) (ai (ai @lv25_2 @dr25_4) (ai @lv25_4 @lv25_5))) (ai (ai (ai @lv25_3 @lv25_6) (ai @kp25_2 @und3)) (ai (ai @sz3 @ag3) (ai @lv3 @inf3)))) (ai (ai (ai @und4 (ai @sz4 @ag4)) (ai (ai @lv4 @inf4) (ai @und9 @sz9))) (ai (ai (ai @ag9 @lv9) (ai @inf9 @und42)) (ai (ai @sz42 @ag42) (ai @pT42 @inf42)))))
theorem ty_OfC_26 : type_of% (ai (ai (ai (ai (ai @rs26 @lv26_0) (ai @lv26_1 (ai @lv26_2 @lv26_3))) (ai (ai @lv26_4 (ai @dr26_6 @lv26_6)) (ai @lv26_7 (ai @mu42_28 @lv26_8)))) (ai (ai (ai @lv26_9 @dr26_11) (ai @lv26_11 (ai @lv26_12 @lv26_13))) (ai (ai @lv26_10 (ai @lv26_14 @mu42_56)) (ai @lv26_15 (ai @mu42_59 @lv26_5))))) (ai (ai (ai (ai @lv26_16 @kp26_4) (ai @kp26_9 (ai @und3 @sz3))) (ai (ai @ag3 (ai @lv3 @inf3)) (ai @und4 (ai @sz4 @ag4)))) (ai (ai (ai @lv4 (ai @inf4 @und9)) (ai @sz9 (ai @ag9 @lv9))) (ai (ai @inf9 (ai @und42 @sz42)) (ai @ag42 (ai @pT42 @inf42)))))) := (ai (ai (ai (ai (ai @rs26 @lv26_0) (ai @lv26_1 (ai @lv26_2 @lv26_3))) (ai (ai @lv26_4 (ai @dr26_6 @lv26_6)) (ai @lv26_7 (ai @mu42_28 @lv26_8)))) (ai (ai (ai @lv26_9 @dr26_11) (ai @lv26_11 (ai @lv26_12 @lv26_13))) (ai (ai @lv26_10 (ai @lv26_14 @mu42_56)) (ai @lv26_15 (ai @mu42_59 @lv26_5))))) (ai (ai (ai (ai @lv26_16 @kp26_4) (ai @kp26_9 (ai @und3 @sz3))) (ai (ai @ag3 (ai @lv3 @inf3)) (ai @und4 (ai @sz4 @ag4)))) (ai (ai (ai @lv4 (ai @inf4 @und9)) (ai @sz9 (ai @ag9 @lv9))) (ai (ai @inf9 (ai @und42 @sz42)) (ai @ag42 (ai @pT42 @inf42))))))
theorem ty_OfC_48 : type_of% (ai (ai (ai (ai @rs48 (ai @lv48_0 @lv48_1)) (ai (ai @lv48_2 @lv48_3) (ai @lv48_4 @lv48_5))) (ai (ai (ai @lv48_6 @lv48_7) (ai @kp48_2 @und3)) (ai (ai @sz3 @ag3) (ai @lv3 @inf3)))) (ai (ai (ai @und4 (ai @sz4 @ag4)) (ai (ai @lv4 @inf4) (ai @und9 @sz9))) (ai (ai (ai @ag9 @lv9) (ai @inf9 @und42)) (ai (ai @sz42 @ag42) (ai @pT42 @inf42))))) := (ai (ai (ai (ai @rs48 (ai @lv48_0 @lv48_1)) (ai (ai @lv48_2 @lv48_3) (ai @lv48_4 @lv48_5))) (ai (ai (ai @lv48_6 @lv48_7) (ai @kp48_2 @und3)) (ai (ai @sz3 @ag3) (ai @lv3 @inf3)))) (ai (ai (ai @und4 (ai @sz4 @ag4)) (ai (ai @lv4 @inf4) (ai @und9 @sz9))) (ai (ai (ai @ag9 @lv9) (ai @inf9 @und42)) (ai (ai @sz42 @ag42) (ai @pT42 @inf42)))))
theorem ty_OfC_28 : type_of% (ai (ai (ai (ai @rs28 @lv28_0) (ai @lv28_1 (ai @und3 @sz3))) (ai (ai @ag3 (ai @lv3 @inf3)) (ai @und4 (ai @sz4 @ag4)))) (ai (ai (ai @lv4 (ai @inf4 @und9)) (ai @sz9 (ai @ag9 @lv9))) (ai (ai @inf9 (ai @und42 @sz42)) (ai @ag42 (ai @pT42 @inf42))))) := (ai (ai (ai (ai @rs28 @lv28_0) (ai @lv28_1 (ai @und3 @sz3))) (ai (ai @ag3 (ai @lv3 @inf3)) (ai @und4 (ai @sz4 @ag4)))) (ai (ai (ai @lv4 (ai @inf4 @und9)) (ai @sz9 (ai @ag9 @lv9))) (ai (ai @inf9 (ai @und42 @sz42)) (ai @ag42 (ai @pT42 @inf42)))))
theorem ty_OfC_24 : type_of% (ai (ai (ai (ai (ai @rs24 @lv24_0) (ai @lv24_1 @lv24_2)) (ai (ai @lv24_3 @lv24_4) (ai @lv24_5 @dr24_6))) (ai (ai (ai @lv24_6 @lv24_7) (ai @lv24_8 @lv24_9)) (ai (ai @kp24_4 @und3) (ai @sz3 @ag3)))) (ai (ai (ai (ai @lv3 @inf3) (ai @und4 @sz4)) (ai (ai @ag4 @lv4) (ai @inf4 @und9))) (ai (ai (ai @sz9 @ag9) (ai @lv9 @inf9)) (ai (ai @und42 @sz42) (ai @ag42 (ai @pT42 @inf42)))))) := (ai (ai (ai (ai (ai @rs24 @lv24_0) (ai @lv24_1 @lv24_2)) (ai (ai @lv24_3 @lv24_4) (ai @lv24_5 @dr24_6))) (ai (ai (ai @lv24_6 @lv24_7) (ai @lv24_8 @lv24_9)) (ai (ai @kp24_4 @und3) (ai @sz3 @ag3)))) (ai (ai (ai (ai @lv3 @inf3) (ai @und4 @sz4)) (ai (ai @ag4 @lv4) (ai @inf4 @und9))) (ai (ai (ai @sz9 @ag9) (ai @lv9 @inf9)) (ai (ai @und42 @sz42) (ai @ag42 (ai @pT42 @inf42))))))
theorem ty_OfC_27 : type_of% (ai (ai (ai (ai @rs27 @lv27_0) (ai @lv27_1 (ai @lv27_2 @lv27_3))) (ai (ai @mu42_7 @und4) (ai @sz4 (ai @ag4 @lv4)))) (ai (ai (ai @inf4 @und9) (ai @sz9 (ai @ag9 @lv9))) (ai (ai @inf9 (ai @und42 @sz42)) (ai @ag42 (ai @pT42 @inf42))))) := (ai (ai (ai (ai @rs27 @lv27_0) (ai @lv27_1 (ai @lv27_2 @lv27_3))) (ai (ai @mu42_7 @und4) (ai @sz4 (ai @ag4 @lv4)))) (ai (ai (ai @inf4 @und9) (ai @sz9 (ai @ag9 @lv9))) (ai (ai @inf9 (ai @und42 @sz42)) (ai @ag42 (ai @pT42 @inf42)))))
set_option maxRecDepth 100000
set_option maxHeartbeats 40000000

abbrev SL (l : List Str) : DV := .sl 1 (l.map DV.str)
theorem ret_LessS (a b : Str) : Ret tab 47 [.d (.str (a)), .d (.str (b))] (.d (.bool (bytesLt a b))) := by
  refine ret_of (1) fn47 rfl rfl ?_
  simp only [amr, amc, amp, if_true, if_false, ne_eq, gt_iff_lt, Option.getD, argsT, Option.bind, Option.map, List.headD, List.tail, opnsL, List.replicate, lendsL, seval, ty_OfC_47, ca_nanS]
  repeat' ((first | refine good_ci (fun h => ?_) (fun h => ?_) | refine good_cgt (fun h => ?_) (fun h => ?_) | refine good_cgf (fun h => ?_) (fun h => ?_) | refine good_cqgt (fun h => ?_) (fun h => ?_) | refine good_cqgf (fun h => ?_) (fun h => ?_)) <;> simp only [amr, amc, amp, if_true, if_false, ne_eq, gt_iff_lt, Option.getD, argsT, Option.bind, Option.map, List.headD, List.tail, opnsL, List.replicate, lendsL, seval, ty_OfC_47, ca_nanS, h])
  all_goals (simp_all)
theorem ca_LessS {d dst : Nat} {S : St} (a b : Str) : callA tab (callR tab) d dst 47 [.d (.str (a)), .d (.str (b))] S = some (.d (.bool (bytesLt a b)), S) :=
  ca_ret (ds := [.str (a), .str (b)]) (ret_LessS a b) rfl (tab_opn (by kernel_rfl)) (tab_res (by kernel_rfl))
theorem ret_SortedS : ∀ (l : List Str), l.length ≤ 5 → l.Pairwise (fun a b => bytesLt b a = false) → Ret tab 25 [.d (SL l)] (.d (.bool true))
  | [], _, h => by
    have wm : IntKind.i64.wrap (-1) = -1 := by decide
    refine ret_of 8 fn25 rfl rfl ?_
    simp only [amr, amc, amp, if_true, if_false, ne_eq, gt_iff_lt, Option.getD, argsT, Option.bind, Option.map, List.headD, List.tail, opnsL, List.replicate, lendsL, seval, ty_OfC_25, SL, cx_loop, clp_s, nameOf, (show IntKind.i64.wrap 0 = 0 from rfl), (show IntKind.i64.wrap 1 = 1 from rfl), (show IntKind.i64.wrap 2 = 2 from rfl), (show IntKind.i64.wrap 3 = 3 from rfl), (show IntKind.i64.wrap 4 = 4 from rfl), (show IntKind.i64.wrap 5 = 5 from rfl), (show IntKind.i64.wrap 6 = 6 from rfl), (show IntKind.i64.wrap 7 = 7 from rfl), (show IntKind.i64.wrap 8 = 8 from rfl), (show IntKind.i64.wrap 9 = 9 from rfl), (show IntKind.i64.wrap 10 = 10 from rfl), (show IntKind.i64.wrap 11 = 11 from rfl), (show IntKind.i64.wrap 12 = 12 from rfl), (show IntKind.i64.wrap 13 = 13 from rfl), (show IntKind.i64.wrap 14 = 14 from rfl), ca_LessS, wm]
  | [a], _, h => by
    refine ret_of 8 fn25 rfl rfl ?_
    simp only [amr, amc, amp, if_true, if_false, ne_eq, gt_iff_lt, Option.getD, argsT, Option.bind, Option.map, List.headD, List.tail, opnsL, List.replicate, lendsL, seval, ty_OfC_25, SL, cx_loop, clp_s, nameOf, (show IntKind.i64.wrap 0 = 0 from rfl), (show IntKind.i64.wrap 1 = 1 from rfl), (show IntKind.i64.wrap 2 = 2 from rfl), (show IntKind.i64.wrap 3 = 3 from rfl), (show IntKind.i64.wrap 4 = 4 from rfl), (show IntKind.i64.wrap 5 = 5 from rfl), (show IntKind.i64.wrap 6 = 6 from rfl), (show IntKind.i64.wrap 7 = 7 from rfl), (show IntKind.i64.wrap 8 = 8 from rfl), (show IntKind.i64.wrap 9 = 9 from rfl), (show IntKind.i64.wrap 10 = 10 from rfl), (show IntKind.i64.wrap 11 = 11 from rfl), (show IntKind.i64.wrap 12 = 12 from rfl), (show IntKind.i64.wrap 13 = 13 from rfl), (show IntKind.i64.wrap 14 = 14 from rfl), ca_LessS]
  | [a, b], _, h => by
    simp only [List.pairwise_cons, List.mem_cons, List.not_mem_nil, or_false, forall_eq_or_imp, forall_eq, false_implies, implies_true, and_true] at h
    have h0 : bytesLt b a = false := by first | exact h.1.1 | exact h.2.1.1 | exact h.2.2.1.1 | exact h.2.2.2.1.1 | (simp only [h])
    refine ret_of 8 fn25 rfl rfl ?_
    simp only [amr, amc, amp, if_true, if_false, ne_eq, gt_iff_lt, Option.getD, argsT, Option.bind, Option.map, List.headD, List.tail, opnsL, List.replicate, lendsL, seval, ty_OfC_25, SL, cx_loop, clp_s, nameOf, (show IntKind.i64.wrap 0 = 0 from rfl), (show IntKind.i64.wrap 1 = 1 from rfl), (show IntKind.i64.wrap 2 = 2 from rfl), (show IntKind.i64.wrap 3 = 3 from rfl), (show IntKind.i64.wrap 4 = 4 from rfl), (show IntKind.i64.wrap 5 = 5 from rfl), (show IntKind.i64.wrap 6 = 6 from rfl), (show IntKind.i64.wrap 7 = 7 from rfl), (show IntKind.i64.wrap 8 = 8 from rfl), (show IntKind.i64.wrap 9 = 9 from rfl), (show IntKind.i64.wrap 10 = 10 from rfl), (show IntKind.i64.wrap 11 = 11 from rfl), (show IntKind.i64.wrap 12 = 12 from rfl), (show IntKind.i64.wrap 13 = 13 from rfl), (show IntKind.i64.wrap 14 = 14 from rfl), ca_LessS, h0]
  | [a, b, c], _, h => by
    simp only [List.pairwise_cons, List.mem_cons, List.not_mem_nil, or_false, forall_eq_or_imp, forall_eq, false_implies, implies_true, and_true] at h
    have h0 : bytesLt b a = false := by first | exact h.1.1 | exact h.2.1.1 | exact h.2.2.1.1 | exact h.2.2.2.1.1 | (simp only [h])
    have h1 : bytesLt c b = false := by first | exact h.1.1 | exact h.2.1.1 | exact h.2.2.1.1 | exact h.2.2.2.1.1 | (simp only [h])
    refine ret_of 8 fn25 rfl rfl ?_
    simp only [amr, amc, amp, if_true, if_false, ne_eq, gt_iff_lt, Option.getD, argsT, Option.bind, Option.map, List.headD, List.tail, opnsL, List.replicate, lendsL, seval, ty_OfC_25, SL, cx_loop, clp_s, nameOf, (show IntKind.i64.wrap 0 = 0 from rfl), (show IntKind.i64.wrap 1 = 1 from rfl), (show IntKind.i64.wrap 2 = 2 from rfl), (show IntKind.i64.wrap 3 = 3 from rfl), (show IntKind.i64.wrap 4 = 4 from rfl), (show IntKind.i64.wrap 5 = 5 from rfl), (show IntKind.i64.wrap 6 = 6 from rfl), (show IntKind.i64.wrap 7 = 7 from rfl), (show IntKind.i64.wrap 8 = 8 from rfl), (show IntKind.i64.wrap 9 = 9 from rfl), (show IntKind.i64.wrap 10 = 10 from rfl), (show IntKind.i64.wrap 11 = 11 from rfl), (show IntKind.i64.wrap 12 = 12 from rfl), (show IntKind.i64.wrap 13 = 13 from rfl), (show IntKind.i64.wrap 14 = 14 from rfl), ca_LessS, h0, h1]
  | [a, b, c, d], _, h => by
    simp only [List.pairwise_cons, List.mem_cons, List.not_mem_nil, or_false, forall_eq_or_imp, forall_eq, false_implies, implies_true, and_true] at h
    have h0 : bytesLt b a = false := by first | exact h.1.1 | exact h.2.1.1 | exact h.2.2.1.1 | exact h.2.2.2.1.1 | (simp only [h])
    have h1 : bytesLt c b = false := by first | exact h.1.1 | exact h.2.1.1 | exact h.2.2.1.1 | exact h.2.2.2.1.1 | (simp only [h])
    have h2 : bytesLt d c = false := by first | exact h.1.1 | exact h.2.1.1 | exact h.2.2.1.1 | exact h.2.2.2.1.1 | (simp only [h])
    refine ret_of 8 fn25 rfl rfl ?_
    simp only [amr, amc, amp, if_true, if_false, ne_eq, gt_iff_lt, Option.getD, argsT, Option.bind, Option.map, List.headD, List.tail, opnsL, List.replicate, lendsL, seval, ty_OfC_25, SL, cx_loop, clp_s, nameOf, (show IntKind.i64.wrap 0 = 0 from rfl), (show IntKind.i64.wrap 1 = 1 from rfl), (show IntKind.i64.wrap 2 = 2 from rfl), (show IntKind.i64.wrap 3 = 3 from rfl), (show IntKind.i64.wrap 4 = 4 from rfl), (show IntKind.i64.wrap 5 = 5 from rfl), (show IntKind.i64.wrap 6 = 6 from rfl), (show IntKind.i64.wrap 7 = 7 from rfl), (show IntKind.i64.wrap 8 = 8 from rfl), (show IntKind.i64.wrap 9 = 9 from rfl), (show IntKind.i64.wrap 10 = 10 from rfl), (show IntKind.i64.wrap 11 = 11 from rfl), (show IntKind.i64.wrap 12 = 12 from rfl), (show IntKind.i64.wrap 13 = 13 from rfl), (show IntKind.i64.wrap 14 = 14 from rfl), ca_LessS, h0, h1, h2]
  | [a, b, c, d, e], _, h => by
    simp only [List.pairwise_cons, List.mem_cons, List.not_mem_nil, or_false, forall_eq_or_imp, forall_eq, false_implies, implies_true, and_true] at h
    have h0 : bytesLt b a = false := by first | exact h.1.1 | exact h.2.1.1 | exact h.2.2.1.1 | exact h.2.2.2.1.1 | (simp only [h])
    have h1 : bytesLt c b = false := by first | exact h.1.1 | exact h.2.1.1 | exact h.2.2.1.1 | exact h.2.2.2.1.1 | (simp only [h])
    have h2 : bytesLt d c = false := by first | exact h.1.1 | exact h.2.1.1 | exact h.2.2.1.1 | exact h.2.2.2.1.1 | (simp only [h])
    have h3 : bytesLt e d = false := by first | exact h.1.1 | exact h.2.1.1 | exact h.2.2.1.1 | exact h.2.2.2.1.1 | (simp only [h])
    refine ret_of 8 fn25 rfl rfl ?_
    simp only [amr, amc, amp, if_true, if_false, ne_eq, gt_iff_lt, Option.getD, argsT, Option.bind, Option.map, List.headD, List.tail, opnsL, List.replicate, lendsL, seval, ty_OfC_25, SL, cx_loop, clp_s, nameOf, (show IntKind.i64.wrap 0 = 0 from rfl), (show IntKind.i64.wrap 1 = 1 from rfl), (show IntKind.i64.wrap 2 = 2 from rfl), (show IntKind.i64.wrap 3 = 3 from rfl), (show IntKind.i64.wrap 4 = 4 from rfl), (show IntKind.i64.wrap 5 = 5 from rfl), (show IntKind.i64.wrap 6 = 6 from rfl), (show IntKind.i64.wrap 7 = 7 from rfl), (show IntKind.i64.wrap 8 = 8 from rfl), (show IntKind.i64.wrap 9 = 9 from rfl), (show IntKind.i64.wrap 10 = 10 from rfl), (show IntKind.i64.wrap 11 = 11 from rfl), (show IntKind.i64.wrap 12 = 12 from rfl), (show IntKind.i64.wrap 13 = 13 from rfl), (show IntKind.i64.wrap 14 = 14 from rfl), ca_LessS, h0, h1, h2, h3]
  | a :: b :: c :: d :: e :: f :: r, hl, _ => by simp at hl
theorem ret_CompactS : ∀ (l : List Str), l.length ≤ 5 → l.Nodup → RetD tab 26 [.d (SL l)] (SL l)
  | [], _, h => by
    refine retq_good 8 fn26 rfl rfl ?_
    simp only [amr, amc, amp, if_true, if_false, ne_eq, gt_iff_lt, Option.getD, argsT, Option.bind, Option.map, List.headD, List.tail, opnsL, List.replicate, lendsL, seval, ty_OfC_26, SL, cx_loop, clp_s, nameOf, (show IntKind.i64.wrap 0 = 0 from rfl), (show IntKind.i64.wrap 1 = 1 from rfl), (show IntKind.i64.wrap 2 = 2 from rfl), (show IntKind.i64.wrap 3 = 3 from rfl), (show IntKind.i64.wrap 4 = 4 from rfl), (show IntKind.i64.wrap 5 = 5 from rfl), (show IntKind.i64.wrap 6 = 6 from rfl), (show IntKind.i64.wrap 7 = 7 from rfl), (show IntKind.i64.wrap 8 = 8 from rfl), (show IntKind.i64.wrap 9 = 9 from rfl), (show IntKind.i64.wrap 10 = 10 from rfl), (show IntKind.i64.wrap 11 = 11 from rfl), (show IntKind.i64.wrap 12 = 12 from rfl), (show IntKind.i64.wrap 13 = 13 from rfl), (show IntKind.i64.wrap 14 = 14 from rfl)]
  | [a], _, h => by
    refine retq_good 8 fn26 rfl rfl ?_
    simp only [amr, amc, amp, if_true, if_false, ne_eq, gt_iff_lt, Option.getD, argsT, Option.bind, Option.map, List.headD, List.tail, opnsL, List.replicate, lendsL, seval, ty_OfC_26, SL, cx_loop, clp_s, nameOf, (show IntKind.i64.wrap 0 = 0 from rfl), (show IntKind.i64.wrap 1 = 1 from rfl), (show IntKind.i64.wrap 2 = 2 from rfl), (show IntKind.i64.wrap 3 = 3 from rfl), (show IntKind.i64.wrap 4 = 4 from rfl), (show IntKind.i64.wrap 5 = 5 from rfl), (show IntKind.i64.wrap 6 = 6 from rfl), (show IntKind.i64.wrap 7 = 7 from rfl), (show IntKind.i64.wrap 8 = 8 from rfl), (show IntKind.i64.wrap 9 = 9 from rfl), (show IntKind.i64.wrap 10 = 10 from rfl), (show IntKind.i64.wrap 11 = 11 from rfl), (show IntKind.i64.wrap 12 = 12 from rfl), (show IntKind.i64.wrap 13 = 13 from rfl), (show IntKind.i64.wrap 14 = 14 from rfl)]
  | [a, b], _, h => by
    simp only [List.nodup_cons, List.mem_cons, List.not_mem_nil, or_false, not_or] at h
    have h0 : (b == a) = false := beq_eq_false_iff_ne.2 (fun e => by simp [e] at h)
    refine retq_good 8 fn26 rfl rfl ?_
    simp only [amr, amc, amp, if_true, if_false, ne_eq, gt_iff_lt, Option.getD, argsT, Option.bind, Option.map, List.headD, List.tail, opnsL, List.replicate, lendsL, seval, ty_OfC_26, SL, cx_loop, clp_s, nameOf, (show IntKind.i64.wrap 0 = 0 from rfl), (show IntKind.i64.wrap 1 = 1 from rfl), (show IntKind.i64.wrap 2 = 2 from rfl), (show IntKind.i64.wrap 3 = 3 from rfl), (show IntKind.i64.wrap 4 = 4 from rfl), (show IntKind.i64.wrap 5 = 5 from rfl), (show IntKind.i64.wrap 6 = 6 from rfl), (show IntKind.i64.wrap 7 = 7 from rfl), (show IntKind.i64.wrap 8 = 8 from rfl), (show IntKind.i64.wrap 9 = 9 from rfl), (show IntKind.i64.wrap 10 = 10 from rfl), (show IntKind.i64.wrap 11 = 11 from rfl), (show IntKind.i64.wrap 12 = 12 from rfl), (show IntKind.i64.wrap 13 = 13 from rfl), (show IntKind.i64.wrap 14 = 14 from rfl), h0]
  | [a, b, c], _, h => by
    simp only [List.nodup_cons, List.mem_cons, List.not_mem_nil, or_false, not_or] at h
    have h0 : (b == a) = false := beq_eq_false_iff_ne.2 (fun e => by simp [e] at h)
    have h1 : (c == b) = false := beq_eq_false_iff_ne.2 (fun e => by simp [e] at h)
    refine retq_good 8 fn26 rfl rfl ?_
    simp only [amr, amc, amp, if_true, if_false, ne_eq, gt_iff_lt, Option.getD, argsT, Option.bind, Option.map, List.headD, List.tail, opnsL, List.replicate, lendsL, seval, ty_OfC_26, SL, cx_loop, clp_s, nameOf, (show IntKind.i64.wrap 0 = 0 from rfl), (show IntKind.i64.wrap 1 = 1 from rfl), (show IntKind.i64.wrap 2 = 2 from rfl), (show IntKind.i64.wrap 3 = 3 from rfl), (show IntKind.i64.wrap 4 = 4 from rfl), (show IntKind.i64.wrap 5 = 5 from rfl), (show IntKind.i64.wrap 6 = 6 from rfl), (show IntKind.i64.wrap 7 = 7 from rfl), (show IntKind.i64.wrap 8 = 8 from rfl), (show IntKind.i64.wrap 9 = 9 from rfl), (show IntKind.i64.wrap 10 = 10 from rfl), (show IntKind.i64.wrap 11 = 11 from rfl), (show IntKind.i64.wrap 12 = 12 from rfl), (show IntKind.i64.wrap 13 = 13 from rfl), (show IntKind.i64.wrap 14 = 14 from rfl), h0, h1]
  | [a, b, c, d], _, h => by
    simp only [List.nodup_cons, List.mem_cons, List.not_mem_nil, or_false, not_or] at h
    have h0 : (b == a) = false := beq_eq_false_iff_ne.2 (fun e => by simp [e] at h)
    have h1 : (c == b) = false := beq_eq_false_iff_ne.2 (fun e => by simp [e] at h)
    have h2 : (d == c) = false := beq_eq_false_iff_ne.2 (fun e => by simp [e] at h)
    refine retq_good 8 fn26 rfl rfl ?_
    simp only [amr, amc, amp, if_true, if_false, ne_eq, gt_iff_lt, Option.getD, argsT, Option.bind, Option.map, List.headD, List.tail, opnsL, List.replicate, lendsL, seval, ty_OfC_26, SL, cx_loop, clp_s, nameOf, (show IntKind.i64.wrap 0 = 0 from rfl), (show IntKind.i64.wrap 1 = 1 from rfl), (show IntKind.i64.wrap 2 = 2 from rfl), (show IntKind.i64.wrap 3 = 3 from rfl), (show IntKind.i64.wrap 4 = 4 from rfl), (show IntKind.i64.wrap 5 = 5 from rfl), (show IntKind.i64.wrap 6 = 6 from rfl), (show IntKind.i64.wrap 7 = 7 from rfl), (show IntKind.i64.wrap 8 = 8 from rfl), (show IntKind.i64.wrap 9 = 9 from rfl), (show IntKind.i64.wrap 10 = 10 from rfl), (show IntKind.i64.wrap 11 = 11 from rfl), (show IntKind.i64.wrap 12 = 12 from rfl), (show IntKind.i64.wrap 13 = 13 from rfl), (show IntKind.i64.wrap 14 = 14 from rfl), h0, h1, h2]
  | [a, b, c, d, e], _, h => by
    simp only [List.nodup_cons, List.mem_cons, List.not_mem_nil, or_false, not_or] at h
    have h0 : (b == a) = false := beq_eq_false_iff_ne.2 (fun e => by simp [e] at h)
    have h1 : (c == b) = false := beq_eq_false_iff_ne.2 (fun e => by simp [e] at h)
    have h2 : (d == c) = false := beq_eq_false_iff_ne.2 (fun e => by simp [e] at h)
    have h3 : (e == d) = false := beq_eq_false_iff_ne.2 (fun e => by simp [e] at h)
    refine retq_good 8 fn26 rfl rfl ?_
    simp only [amr, amc, amp, if_true, if_false, ne_eq, gt_iff_lt, Option.getD, argsT, Option.bind, Option.map, List.headD, List.tail, opnsL, List.replicate, lendsL, seval, ty_OfC_26, SL, cx_loop, clp_s, nameOf, (show IntKind.i64.wrap 0 = 0 from rfl), (show IntKind.i64.wrap 1 = 1 from rfl), (show IntKind.i64.wrap 2 = 2 from rfl), (show IntKind.i64.wrap 3 = 3 from rfl), (show IntKind.i64.wrap 4 = 4 from rfl), (show IntKind.i64.wrap 5 = 5 from rfl), (show IntKind.i64.wrap 6 = 6 from rfl), (show IntKind.i64.wrap 7 = 7 from rfl), (show IntKind.i64.wrap 8 = 8 from rfl), (show IntKind.i64.wrap 9 = 9 from rfl), (show IntKind.i64.wrap 10 = 10 from rfl), (show IntKind.i64.wrap 11 = 11 from rfl), (show IntKind.i64.wrap 12 = 12 from rfl), (show IntKind.i64.wrap 13 = 13 from rfl), (show IntKind.i64.wrap 14 = 14 from rfl), h0, h1, h2, h3]
  | a :: b :: c :: d :: e :: f :: r, hl, _ => by simp at hl
def idxS (s : Str) : List Str → Int → Int
  | [], _ => -1
  | a :: r, k => if (s == a) = true then k else idxS s r (k + 1)
theorem idxS_mem (s : Str) : ∀ (l : List Str) (k : Int), 0 ≤ k → (idxS s l k ≥ 0 ↔ s ∈ l)
  | [], k, h => by simp [idxS]
  | a :: r, k, h => by
    unfold idxS
    by_cases e : s = a
    · subst e; simp [h]
    · rw [if_neg (by simpa using e), idxS_mem s r (k + 1) (by omega)]
      simp [e]
theorem ret_IndexS (s : Str) : ∀ (l : List Str), l.length ≤ 5 → Ret tab 48 [.d (SL l), .d (.str s)] (.d (.int .i64 (idxS s l 0)))
  | [], _ => by
    refine ret_of 8 fn48 rfl rfl ?_
    simp only [amr, amc, amp, if_true, if_false, ne_eq, gt_iff_lt, Option.getD, argsT, Option.bind, Option.map, List.headD, List.tail, opnsL, List.replicate, lendsL, seval, ty_OfC_48, SL, cx_loop, clp_s, nameOf, (show IntKind.i64.wrap 0 = 0 from rfl), (show IntKind.i64.wrap 1 = 1 from rfl), (show IntKind.i64.wrap 2 = 2 from rfl), (show IntKind.i64.wrap 3 = 3 from rfl), (show IntKind.i64.wrap 4 = 4 from rfl), (show IntKind.i64.wrap 5 = 5 from rfl), (show IntKind.i64.wrap 6 = 6 from rfl), (show IntKind.i64.wrap 7 = 7 from rfl), (show IntKind.i64.wrap 8 = 8 from rfl), (show IntKind.i64.wrap 9 = 9 from rfl), (show IntKind.i64.wrap 10 = 10 from rfl), (show IntKind.i64.wrap 11 = 11 from rfl), (show IntKind.i64.wrap 12 = 12 from rfl), (show IntKind.i64.wrap 13 = 13 from rfl), (show IntKind.i64.wrap 14 = 14 from rfl), idxS]
  | [a], _ => by
    cases b0 : (s == a) with
    | true =>
      refine ret_of 8 fn48 rfl rfl ?_
      simp only [amr, amc, amp, if_true, if_false, ne_eq, gt_iff_lt, Option.getD, argsT, Option.bind, Option.map, List.headD, List.tail, opnsL, List.replicate, lendsL, seval, ty_OfC_48, SL, cx_loop, clp_s, nameOf, (show IntKind.i64.wrap 0 = 0 from rfl), (show IntKind.i64.wrap 1 = 1 from rfl), (show IntKind.i64.wrap 2 = 2 from rfl), (show IntKind.i64.wrap 3 = 3 from rfl), (show IntKind.i64.wrap 4 = 4 from rfl), (show IntKind.i64.wrap 5 = 5 from rfl), (show IntKind.i64.wrap 6 = 6 from rfl), (show IntKind.i64.wrap 7 = 7 from rfl), (show IntKind.i64.wrap 8 = 8 from rfl), (show IntKind.i64.wrap 9 = 9 from rfl), (show IntKind.i64.wrap 10 = 10 from rfl), (show IntKind.i64.wrap 11 = 11 from rfl), (show IntKind.i64.wrap 12 = 12 from rfl), (show IntKind.i64.wrap 13 = 13 from rfl), (show IntKind.i64.wrap 14 = 14 from rfl), idxS, b0]
    | false =>
      refine ret_of 8 fn48 rfl rfl ?_
      simp only [amr, amc, amp, if_true, if_false, ne_eq, gt_iff_lt, Option.getD, argsT, Option.bind, Option.map, List.headD, List.tail, opnsL, List.replicate, lendsL, seval, ty_OfC_48, SL, cx_loop, clp_s, nameOf, (show IntKind.i64.wrap 0 = 0 from rfl), (show IntKind.i64.wrap 1 = 1 from rfl), (show IntKind.i64.wrap 2 = 2 from rfl), (show IntKind.i64.wrap 3 = 3 from rfl), (show IntKind.i64.wrap 4 = 4 from rfl), (show IntKind.i64.wrap 5 = 5 from rfl), (show IntKind.i64.wrap 6 = 6 from rfl), (show IntKind.i64.wrap 7 = 7 from rfl), (show IntKind.i64.wrap 8 = 8 from rfl), (show IntKind.i64.wrap 9 = 9 from rfl), (show IntKind.i64.wrap 10 = 10 from rfl), (show IntKind.i64.wrap 11 = 11 from rfl), (show IntKind.i64.wrap 12 = 12 from rfl), (show IntKind.i64.wrap 13 = 13 from rfl), (show IntKind.i64.wrap 14 = 14 from rfl), idxS, b0]
  | [a, b], _ => by
    cases b0 : (s == a) with
    | true =>
      refine ret_of 8 fn48 rfl rfl ?_
      simp only [amr, amc, amp, if_true, if_false, ne_eq, gt_iff_lt, Option.getD, argsT, Option.bind, Option.map, List.headD, List.tail, opnsL, List.replicate, lendsL, seval, ty_OfC_48, SL, cx_loop, clp_s, nameOf, (show IntKind.i64.wrap 0 = 0 from rfl), (show IntKind.i64.wrap 1 = 1 from rfl), (show IntKind.i64.wrap 2 = 2 from rfl), (show IntKind.i64.wrap 3 = 3 from rfl), (show IntKind.i64.wrap 4 = 4 from rfl), (show IntKind.i64.wrap 5 = 5 from rfl), (show IntKind.i64.wrap 6 = 6 from rfl), (show IntKind.i64.wrap 7 = 7 from rfl), (show IntKind.i64.wrap 8 = 8 from rfl), (show IntKind.i64.wrap 9 = 9 from rfl), (show IntKind.i64.wrap 10 = 10 from rfl), (show IntKind.i64.wrap 11 = 11 from rfl), (show IntKind.i64.wrap 12 = 12 from rfl), (show IntKind.i64.wrap 13 = 13 from rfl), (show IntKind.i64.wrap 14 = 14 from rfl), idxS, b0]
    | false =>
      cases b1 : (s == b) with
      | true =>
        refine ret_of 8 fn48 rfl rfl ?_
        simp only [amr, amc, amp, if_true, if_false, ne_eq, gt_iff_lt, Option.getD, argsT, Option.bind, Option.map, List.headD, List.tail, opnsL, List.replicate, lendsL, seval, ty_OfC_48, SL, cx_loop, clp_s, nameOf, (show IntKind.i64.wrap 0 = 0 from rfl), (show IntKind.i64.wrap 1 = 1 from rfl), (show IntKind.i64.wrap 2 = 2 from rfl), (show IntKind.i64.wrap 3 = 3 from rfl), (show IntKind.i64.wrap 4 = 4 from rfl), (show IntKind.i64.wrap 5 = 5 from rfl), (show IntKind.i64.wrap 6 = 6 from rfl), (show IntKind.i64.wrap 7 = 7 from rfl), (show IntKind.i64.wrap 8 = 8 from rfl), (show IntKind.i64.wrap 9 = 9 from rfl), (show IntKind.i64.wrap 10 = 10 from rfl), (show IntKind.i64.wrap 11 = 11 from rfl), (show IntKind.i64.wrap 12 = 12 from rfl), (show IntKind.i64.wrap 13 = 13 from rfl), (show IntKind.i64.wrap 14 = 14 from rfl), idxS, b0, b1]
      | false =>
        refine ret_of 8 fn48 rfl rfl ?_
        simp only [amr, amc, amp, if_true, if_false, ne_eq, gt_iff_lt, Option.getD, argsT, Option.bind, Option.map, List.headD, List.tail, opnsL, List.replicate, lendsL, seval, ty_OfC_48, SL, cx_loop, clp_s, nameOf, (show IntKind.i64.wrap 0 = 0 from rfl), (show IntKind.i64.wrap 1 = 1 from rfl), (show IntKind.i64.wrap 2 = 2 from rfl), (show IntKind.i64.wrap 3 = 3 from rfl), (show IntKind.i64.wrap 4 = 4 from rfl), (show IntKind.i64.wrap 5 = 5 from rfl), (show IntKind.i64.wrap 6 = 6 from rfl), (show IntKind.i64.wrap 7 = 7 from rfl), (show IntKind.i64.wrap 8 = 8 from rfl), (show IntKind.i64.wrap 9 = 9 from rfl), (show IntKind.i64.wrap 10 = 10 from rfl), (show IntKind.i64.wrap 11 = 11 from rfl), (show IntKind.i64.wrap 12 = 12 from rfl), (show IntKind.i64.wrap 13 = 13 from rfl), (show IntKind.i64.wrap 14 = 14 from rfl), idxS, b0, b1]
  | [a, b, c], _ => by
    cases b0 : (s == a) with
    | true =>
      refine ret_of 8 fn48 rfl rfl ?_
      simp only [amr, amc, amp, if_true, if_false, ne_eq, gt_iff_lt, Option.getD, argsT, Option.bind, Option.map, List.headD, List.tail, opnsL, List.replicate, lendsL, seval, ty_OfC_48, SL, cx_loop, clp_s, nameOf, (show IntKind.i64.wrap 0 = 0 from rfl), (show IntKind.i64.wrap 1 = 1 from rfl), (show IntKind.i64.wrap 2 = 2 from rfl), (show IntKind.i64.wrap 3 = 3 from rfl), (show IntKind.i64.wrap 4 = 4 from rfl), (show IntKind.i64.wrap 5 = 5 from rfl), (show IntKind.i64.wrap 6 = 6 from rfl), (show IntKind.i64.wrap 7 = 7 from rfl), (show IntKind.i64.wrap 8 = 8 from rfl), (show IntKind.i64.wrap 9 = 9 from rfl), (show IntKind.i64.wrap 10 = 10 from rfl), (show IntKind.i64.wrap 11 = 11 from rfl), (show IntKind.i64.wrap 12 = 12 from rfl), (show IntKind.i64.wrap 13 = 13 from rfl), (show IntKind.i64.wrap 14 = 14 from rfl), idxS, b0]
    | false =>
      cases b1 : (s == b) with
      | true =>
        refine ret_of 8 fn48 rfl rfl ?_
        simp only [amr, amc, amp, if_true, if_false, ne_eq, gt_iff_lt, Option.getD, argsT, Option.bind, Option.map, List.headD, List.tail, opnsL, List.replicate, lendsL, seval, ty_OfC_48, SL, cx_loop, clp_s, nameOf, (show IntKind.i64.wrap 0 = 0 from rfl), (show IntKind.i64.wrap 1 = 1 from rfl), (show IntKind.i64.wrap 2 = 2 from rfl), (show IntKind.i64.wrap 3 = 3 from rfl), (show IntKind.i64.wrap 4 = 4 from rfl), (show IntKind.i64.wrap 5 = 5 from rfl), (show IntKind.i64.wrap 6 = 6 from rfl), (show IntKind.i64.wrap 7 = 7 from rfl), (show IntKind.i64.wrap 8 = 8 from rfl), (show IntKind.i64.wrap 9 = 9 from rfl), (show IntKind.i64.wrap 10 = 10 from rfl), (show IntKind.i64.wrap 11 = 11 from rfl), (show IntKind.i64.wrap 12 = 12 from rfl), (show IntKind.i64.wrap 13 = 13 from rfl), (show IntKind.i64.wrap 14 = 14 from rfl), idxS, b0, b1]
      | false =>
        cases b2 : (s == c) with
        | true =>
          refine ret_of 8 fn48 rfl rfl ?_
          simp only [amr, amc, amp, if_true, if_false, ne_eq, gt_iff_lt, Option.getD, argsT, Option.bind, Option.map, List.headD, List.tail, opnsL, List.replicate, lendsL, seval, ty_OfC_48, SL, cx_loop, clp_s, nameOf, (show IntKind.i64.wrap 0 = 0 from rfl), (show IntKind.i64.wrap 1 = 1 from rfl), (show IntKind.i64.wrap 2 = 2 from rfl), (show IntKind.i64.wrap 3 = 3 from rfl), (show IntKind.i64.wrap 4 = 4 from rfl), (show IntKind.i64.wrap 5 = 5 from rfl), (show IntKind.i64.wrap 6 = 6 from rfl), (show IntKind.i64.wrap 7 = 7 from rfl), (show IntKind.i64.wrap 8 = 8 from rfl), (show IntKind.i64.wrap 9 = 9 from rfl), (show IntKind.i64.wrap 10 = 10 from rfl), (show IntKind.i64.wrap 11 = 11 from rfl), (show IntKind.i64.wrap 12 = 12 from rfl), (show IntKind.i64.wrap 13 = 13 from rfl), (show IntKind.i64.wrap 14 = 14 from rfl), idxS, b0, b1, b2]
        | false =>
          refine ret_of 8 fn48 rfl rfl ?_
          simp only [amr, amc, amp, if_true, if_false, ne_eq, gt_iff_lt, Option.getD, argsT, Option.bind, Option.map, List.headD, List.tail, opnsL, List.replicate, lendsL, seval, ty_OfC_48, SL, cx_loop, clp_s, nameOf, (show IntKind.i64.wrap 0 = 0 from rfl), (show IntKind.i64.wrap 1 = 1 from rfl), (show IntKind.i64.wrap 2 = 2 from rfl), (show IntKind.i64.wrap 3 = 3 from rfl), (show IntKind.i64.wrap 4 = 4 from rfl), (show IntKind.i64.wrap 5 = 5 from rfl), (show IntKind.i64.wrap 6 = 6 from rfl), (show IntKind.i64.wrap 7 = 7 from rfl), (show IntKind.i64.wrap 8 = 8 from rfl), (show IntKind.i64.wrap 9 = 9 from rfl), (show IntKind.i64.wrap 10 = 10 from rfl), (show IntKind.i64.wrap 11 = 11 from rfl), (show IntKind.i64.wrap 12 = 12 from rfl), (show IntKind.i64.wrap 13 = 13 from rfl), (show IntKind.i64.wrap 14 = 14 from rfl), idxS, b0, b1, b2]
  | [a, b, c, d], _ => by
    cases b0 : (s == a) with
    | true =>
      refine ret_of 8 fn48 rfl rfl ?_
      simp only [amr, amc, amp, if_true, if_false, ne_eq, gt_iff_lt, Option.getD, argsT, Option.bind, Option.map, List.headD, List.tail, opnsL, List.replicate, lendsL, seval, ty_OfC_48, SL, cx_loop, clp_s, nameOf, (show IntKind.i64.wrap 0 = 0 from rfl), (show IntKind.i64.wrap 1 = 1 from rfl), (show IntKind.i64.wrap 2 = 2 from rfl), (show IntKind.i64.wrap 3 = 3 from rfl), (show IntKind.i64.wrap 4 = 4 from rfl), (show IntKind.i64.wrap 5 = 5 from rfl), (show IntKind.i64.wrap 6 = 6 from rfl), (show IntKind.i64.wrap 7 = 7 from rfl), (show IntKind.i64.wrap 8 = 8 from rfl), (show IntKind.i64.wrap 9 = 9 from rfl), (show IntKind.i64.wrap 10 = 10 from rfl), (show IntKind.i64.wrap 11 = 11 from rfl), (show IntKind.i64.wrap 12 = 12 from rfl), (show IntKind.i64.wrap 13 = 13 from rfl), (show IntKind.i64.wrap 14 = 14 from rfl), idxS, b0]
    | false =>
      cases b1 : (s == b) with
      | true =>
        refine ret_of 8 fn48 rfl rfl ?_
        simp only [amr, amc, amp, if_true, if_false, ne_eq, gt_iff_lt, Option.getD, argsT, Option.bind, Option.map, List.headD, List.tail, opnsL, List.replicate, lendsL, seval, ty_OfC_48, SL, cx_loop, clp_s, nameOf, (show IntKind.i64.wrap 0 = 0 from rfl), (show IntKind.i64.wrap 1 = 1 from rfl), (show IntKind.i64.wrap 2 = 2 from rfl), (show IntKind.i64.wrap 3 = 3 from rfl), (show IntKind.i64.wrap 4 = 4 from rfl), (show IntKind.i64.wrap 5 = 5 from rfl), (show IntKind.i64.wrap 6 = 6 from rfl), (show IntKind.i64.wrap 7 = 7 from rfl), (show IntKind.i64.wrap 8 = 8 from rfl), (show IntKind.i64.wrap 9 = 9 from rfl), (show IntKind.i64.wrap 10 = 10 from rfl), (show IntKind.i64.wrap 11 = 11 from rfl), (show IntKind.i64.wrap 12 = 12 from rfl), (show IntKind.i64.wrap 13 = 13 from rfl), (show IntKind.i64.wrap 14 = 14 from rfl), idxS, b0, b1]
      | false =>
        cases b2 : (s == c) with
        | true =>
          refine ret_of 8 fn48 rfl rfl ?_
          simp only [amr, amc, amp, if_true, if_false, ne_eq, gt_iff_lt, Option.getD, argsT, Option.bind, Option.map, List.headD, List.tail, opnsL, List.replicate, lendsL, seval, ty_OfC_48, SL, cx_loop, clp_s, nameOf, (show IntKind.i64.wrap 0 = 0 from rfl), (show IntKind.i64.wrap 1 = 1 from rfl), (show IntKind.i64.wrap 2 = 2 from rfl), (show IntKind.i64.wrap 3 = 3 from rfl), (show IntKind.i64.wrap 4 = 4 from rfl), (show IntKind.i64.wrap 5 = 5 from rfl), (show IntKind.i64.wrap 6 = 6 from rfl), (show IntKind.i64.wrap 7 = 7 from rfl), (show IntKind.i64.wrap 8 = 8 from rfl), (show IntKind.i64.wrap 9 = 9 from rfl), (show IntKind.i64.wrap 10 = 10 from rfl), (show IntKind.i64.wrap 11 = 11 from rfl), (show IntKind.i64.wrap 12 = 12 from rfl), (show IntKind.i64.wrap 13 = 13 from rfl), (show IntKind.i64.wrap 14 = 14 from rfl), idxS, b0, b1, b2]
        | false =>
          cases b3 : (s == d) with
          | true =>
            refine ret_of 8 fn48 rfl rfl ?_
            simp only [amr, amc, amp, if_true, if_false, ne_eq, gt_iff_lt, Option.getD, argsT, Option.bind, Option.map, List.headD, List.tail, opnsL, List.replicate, lendsL, seval, ty_OfC_48, SL, cx_loop, clp_s, nameOf, (show IntKind.i64.wrap 0 = 0 from rfl), (show IntKind.i64.wrap 1 = 1 from rfl), (show IntKind.i64.wrap 2 = 2 from rfl), (show IntKind.i64.wrap 3 = 3 from rfl), (show IntKind.i64.wrap 4 = 4 from rfl), (show IntKind.i64.wrap 5 = 5 from rfl), (show IntKind.i64.wrap 6 = 6 from rfl), (show IntKind.i64.wrap 7 = 7 from rfl), (show IntKind.i64.wrap 8 = 8 from rfl), (show IntKind.i64.wrap 9 = 9 from rfl), (show IntKind.i64.wrap 10 = 10 from rfl), (show IntKind.i64.wrap 11 = 11 from rfl), (show IntKind.i64.wrap 12 = 12 from rfl), (show IntKind.i64.wrap 13 = 13 from rfl), (show IntKind.i64.wrap 14 = 14 from rfl), idxS, b0, b1, b2, b3]
          | false =>
            refine ret_of 8 fn48 rfl rfl ?_
            simp only [amr, amc, amp, if_true, if_false, ne_eq, gt_iff_lt, Option.getD, argsT, Option.bind, Option.map, List.headD, List.tail, opnsL, List.replicate, lendsL, seval, ty_OfC_48, SL, cx_loop, clp_s, nameOf, (show IntKind.i64.wrap 0 = 0 from rfl), (show IntKind.i64.wrap 1 = 1 from rfl), (show IntKind.i64.wrap 2 = 2 from rfl), (show IntKind.i64.wrap 3 = 3 from rfl), (show IntKind.i64.wrap 4 = 4 from rfl), (show IntKind.i64.wrap 5 = 5 from rfl), (show IntKind.i64.wrap 6 = 6 from rfl), (show IntKind.i64.wrap 7 = 7 from rfl), (show IntKind.i64.wrap 8 = 8 from rfl), (show IntKind.i64.wrap 9 = 9 from rfl), (show IntKind.i64.wrap 10 = 10 from rfl), (show IntKind.i64.wrap 11 = 11 from rfl), (show IntKind.i64.wrap 12 = 12 from rfl), (show IntKind.i64.wrap 13 = 13 from rfl), (show IntKind.i64.wrap 14 = 14 from rfl), idxS, b0, b1, b2, b3]
  | [a, b, c, d, e], _ => by
    cases b0 : (s == a) with
    | true =>
      refine ret_of 8 fn48 rfl rfl ?_
      simp only [amr, amc, amp, if_true, if_false, ne_eq, gt_iff_lt, Option.getD, argsT, Option.bind, Option.map, List.headD, List.tail, opnsL, List.replicate, lendsL, seval, ty_OfC_48, SL, cx_loop, clp_s, nameOf, (show IntKind.i64.wrap 0 = 0 from rfl), (show IntKind.i64.wrap 1 = 1 from rfl), (show IntKind.i64.wrap 2 = 2 from rfl), (show IntKind.i64.wrap 3 = 3 from rfl), (show IntKind.i64.wrap 4 = 4 from rfl), (show IntKind.i64.wrap 5 = 5 from rfl), (show IntKind.i64.wrap 6 = 6 from rfl), (show IntKind.i64.wrap 7 = 7 from rfl), (show IntKind.i64.wrap 8 = 8 from rfl), (show IntKind.i64.wrap 9 = 9 from rfl), (show IntKind.i64.wrap 10 = 10 from rfl), (show IntKind.i64.wrap 11 = 11 from rfl), (show IntKind.i64.wrap 12 = 12 from rfl), (show IntKind.i64.wrap 13 = 13 from rfl), (show IntKind.i64.wrap 14 = 14 from rfl), idxS, b0]
    | false =>
      cases b1 : (s == b) with
      | true =>
        refine ret_of 8 fn48 rfl rfl ?_
        simp only [amr, amc, amp, if_true, if_false, ne_eq, gt_iff_lt, Option.getD, argsT, Option.bind, Option.map, List.headD, List.tail, opnsL, List.replicate, lendsL, seval, ty_OfC_48, SL, cx_loop, clp_s, nameOf, (show IntKind.i64.wrap 0 = 0 from rfl), (show IntKind.i64.wrap 1 = 1 from rfl), (show IntKind.i64.wrap 2 = 2 from rfl), (show IntKind.i64.wrap 3 = 3 from rfl), (show IntKind.i64.wrap 4 = 4 from rfl), (show IntKind.i64.wrap 5 = 5 from rfl), (show IntKind.i64.wrap 6 = 6 from rfl), (show IntKind.i64.wrap 7 = 7 from rfl), (show IntKind.i64.wrap 8 = 8 from rfl), (show IntKind.i64.wrap 9 = 9 from rfl), (show IntKind.i64.wrap 10 = 10 from rfl), (show IntKind.i64.wrap 11 = 11 from rfl), (show IntKind.i64.wrap 12 = 12 from rfl), (show IntKind.i64.wrap 13 = 13 from rfl), (show IntKind.i64.wrap 14 = 14 from rfl), idxS, b0, b1]
      | false =>
        cases b2 : (s == c) with
        | true =>
          refine ret_of 8 fn48 rfl rfl ?_
          simp only [amr, amc, amp, if_true, if_false, ne_eq, gt_iff_lt, Option.getD, argsT, Option.bind, Option.map, List.headD, List.tail, opnsL, List.replicate, lendsL, seval, ty_OfC_48, SL, cx_loop, clp_s, nameOf, (show IntKind.i64.wrap 0 = 0 from rfl), (show IntKind.i64.wrap 1 = 1 from rfl), (show IntKind.i64.wrap 2 = 2 from rfl), (show IntKind.i64.wrap 3 = 3 from rfl), (show IntKind.i64.wrap 4 = 4 from rfl), (show IntKind.i64.wrap 5 = 5 from rfl), (show IntKind.i64.wrap 6 = 6 from rfl), (show IntKind.i64.wrap 7 = 7 from rfl), (show IntKind.i64.wrap 8 = 8 from rfl), (show IntKind.i64.wrap 9 = 9 from rfl), (show IntKind.i64.wrap 10 = 10 from rfl), (show IntKind.i64.wrap 11 = 11 from rfl), (show IntKind.i64.wrap 12 = 12 from rfl), (show IntKind.i64.wrap 13 = 13 from rfl), (show IntKind.i64.wrap 14 = 14 from rfl), idxS, b0, b1, b2]
        | false =>
          cases b3 : (s == d) with
          | true =>
            refine ret_of 8 fn48 rfl rfl ?_
            simp only [amr, amc, amp, if_true, if_false, ne_eq, gt_iff_lt, Option.getD, argsT, Option.bind, Option.map, List.headD, List.tail, opnsL, List.replicate, lendsL, seval, ty_OfC_48, SL, cx_loop, clp_s, nameOf, (show IntKind.i64.wrap 0 = 0 from rfl), (show IntKind.i64.wrap 1 = 1 from rfl), (show IntKind.i64.wrap 2 = 2 from rfl), (show IntKind.i64.wrap 3 = 3 from rfl), (show IntKind.i64.wrap 4 = 4 from rfl), (show IntKind.i64.wrap 5 = 5 from rfl), (show IntKind.i64.wrap 6 = 6 from rfl), (show IntKind.i64.wrap 7 = 7 from rfl), (show IntKind.i64.wrap 8 = 8 from rfl), (show IntKind.i64.wrap 9 = 9 from rfl), (show IntKind.i64.wrap 10 = 10 from rfl), (show IntKind.i64.wrap 11 = 11 from rfl), (show IntKind.i64.wrap 12 = 12 from rfl), (show IntKind.i64.wrap 13 = 13 from rfl), (show IntKind.i64.wrap 14 = 14 from rfl), idxS, b0, b1, b2, b3]
          | false =>
            cases b4 : (s == e) with
            | true =>
              refine ret_of 8 fn48 rfl rfl ?_
              simp only [amr, amc, amp, if_true, if_false, ne_eq, gt_iff_lt, Option.getD, argsT, Option.bind, Option.map, List.headD, List.tail, opnsL, List.replicate, lendsL, seval, ty_OfC_48, SL, cx_loop, clp_s, nameOf, (show IntKind.i64.wrap 0 = 0 from rfl), (show IntKind.i64.wrap 1 = 1 from rfl), (show IntKind.i64.wrap 2 = 2 from rfl), (show IntKind.i64.wrap 3 = 3 from rfl), (show IntKind.i64.wrap 4 = 4 from rfl), (show IntKind.i64.wrap 5 = 5 from rfl), (show IntKind.i64.wrap 6 = 6 from rfl), (show IntKind.i64.wrap 7 = 7 from rfl), (show IntKind.i64.wrap 8 = 8 from rfl), (show IntKind.i64.wrap 9 = 9 from rfl), (show IntKind.i64.wrap 10 = 10 from rfl), (show IntKind.i64.wrap 11 = 11 from rfl), (show IntKind.i64.wrap 12 = 12 from rfl), (show IntKind.i64.wrap 13 = 13 from rfl), (show IntKind.i64.wrap 14 = 14 from rfl), idxS, b0, b1, b2, b3, b4]
            | false =>
              refine ret_of 8 fn48 rfl rfl ?_
              simp only [amr, amc, amp, if_true, if_false, ne_eq, gt_iff_lt, Option.getD, argsT, Option.bind, Option.map, List.headD, List.tail, opnsL, List.replicate, lendsL, seval, ty_OfC_48, SL, cx_loop, clp_s, nameOf, (show IntKind.i64.wrap 0 = 0 from rfl), (show IntKind.i64.wrap 1 = 1 from rfl), (show IntKind.i64.wrap 2 = 2 from rfl), (show IntKind.i64.wrap 3 = 3 from rfl), (show IntKind.i64.wrap 4 = 4 from rfl), (show IntKind.i64.wrap 5 = 5 from rfl), (show IntKind.i64.wrap 6 = 6 from rfl), (show IntKind.i64.wrap 7 = 7 from rfl), (show IntKind.i64.wrap 8 = 8 from rfl), (show IntKind.i64.wrap 9 = 9 from rfl), (show IntKind.i64.wrap 10 = 10 from rfl), (show IntKind.i64.wrap 11 = 11 from rfl), (show IntKind.i64.wrap 12 = 12 from rfl), (show IntKind.i64.wrap 13 = 13 from rfl), (show IntKind.i64.wrap 14 = 14 from rfl), idxS, b0, b1, b2, b3, b4]
  | a :: b :: c :: d :: e :: f :: r, hl => by simp at hl
theorem ca_IndexS {d dst : Nat} {S : St} (s : Str) (l : List Str) (hl : l.length ≤ 5) : callA tab (callR tab) d dst 48 [.d (SL l), .d (.str s)] S = some (.d (.int .i64 (idxS s l 0)), S) :=
  ca_ret (ds := [SL l, .str s]) (ret_IndexS s l hl) rfl (tab_opn (by kernel_rfl)) (tab_res (by kernel_rfl))
theorem ret_ContS (s : Str) (l : List Str) (hl : l.length ≤ 5) : Ret tab 28 [.d (SL l), .d (.str s)] (.d (.bool (decide (s ∈ l)))) := by
  have f0 := fun (S : St) (d dst : Nat) => ca_IndexS (d := d) (dst := dst) (S := S) s l hl
  have h := idxS_mem s l 0 (by decide)
  have hd : decide (idxS s l 0 ≥ 0) = decide (s ∈ l) := decide_eq_decide.2 h
  generalize idxS s l 0 = q at *
  rw [← hd]
  refine ret_of 1 fn28 rfl rfl ?_
  simp only [amr, amc, amp, if_true, if_false, ne_eq, gt_iff_lt, Option.getD, argsT, Option.bind, Option.map, List.headD, List.tail, opnsL, List.replicate, lendsL, seval, ty_OfC_28, f0]
theorem ca_ContS {d dst : Nat} {S : St} (s : Str) (l : List Str) (hl : l.length ≤ 5) : callA tab (callR tab) d dst 28 [.d (SL l), .d (.str s)] S = some (.d (.bool (decide (s ∈ l))), S) :=
  ca_ret (ds := [SL l, .str s]) (ret_ContS s l hl) rfl (tab_opn (by kernel_rfl)) (tab_res (by kernel_rfl))
theorem ca_SortedS {d dst : Nat} {S : St} (l : List Str) (hl : l.length ≤ 5) (h : l.Pairwise (fun a b => bytesLt b a = false)) : callA tab (callR tab) d dst 25 [.d (SL l)] S = some (.d (.bool true), S) :=
  ca_ret (ds := [SL l]) (ret_SortedS l hl h) rfl (tab_opn (by kernel_rfl)) (tab_res (by kernel_rfl))
theorem ca_CompactS {d dst : Nat} {S : St} (l : List Str) (hl : l.length ≤ 5) (h : l.Nodup) : callA tab (callR tab) d dst 26 [.d (SL l)] S = some (.d (SL l), S) :=
  ca_retD (ds := [SL l]) (ret_CompactS l hl h) rfl (tab_opn (by kernel_rfl)) (tab_res (by kernel_rfl))
theorem ret_EqA : Ret tab 24 [.d (.sl 1 [.str [97]]), .d (.sl 1 [.str [97]])] (.d (.bool true)) := by
  have b0 : (([97] : List UInt8) != [97]) = false := by decide
  have b1 : (([97] : List UInt8) == [97]) = true := by decide
  refine ret_of 4 fn24 rfl rfl ?_
  generalize ([97] : List UInt8) = q at *
  simp only [amr, amc, amp, if_true, if_false, ne_eq, gt_iff_lt, Option.getD, argsT, Option.bind, Option.map, List.headD, List.tail, opnsL, List.replicate, lendsL, seval, ty_OfC_24, cx_loop, clp_s, nameOf, (show IntKind.i64.wrap 0 = 0 from rfl), (show IntKind.i64.wrap 1 = 1 from rfl), (show IntKind.i64.wrap 2 = 2 from rfl), (show IntKind.i64.wrap 3 = 3 from rfl), (show IntKind.i64.wrap 4 = 4 from rfl), (show IntKind.i64.wrap 5 = 5 from rfl), (show IntKind.i64.wrap 6 = 6 from rfl), (show IntKind.i64.wrap 7 = 7 from rfl), (show IntKind.i64.wrap 8 = 8 from rfl), (show IntKind.i64.wrap 9 = 9 from rfl), (show IntKind.i64.wrap 10 = 10 from rfl), (show IntKind.i64.wrap 11 = 11 from rfl), (show IntKind.i64.wrap 12 = 12 from rfl), (show IntKind.i64.wrap 13 = 13 from rfl), (show IntKind.i64.wrap 14 = 14 from rfl), b0, b1, bne_self_eq_false]
theorem ca_EqA {d dst : Nat} {S : St} : callA tab (callR tab) d dst 24 [.d (.sl 1 [.str [97]]), .own 1 [.str [97]] none] S = some (.d (.bool true), S) :=
  ca_ret (ds := [.sl 1 [.str [97]], .sl 1 [.str [97]]]) ret_EqA rfl (tab_opn (by kernel_rfl)) (tab_res (by kernel_rfl))
/-- A list, cloned: its cells in a new block. -/
theorem run_cloneS {d : Nat} {g : List Nat} (x : DV) (xs : List DV) (hx : ∀ y ∈ x :: xs, y.cells.length = 1) (hl : (xs.length + 1) * 16 ≤ 140737488355328) :
    ∃ H', callR tab d 27 [.d (.sl 1 (x :: xs))] [] g = some (.arr ⟨d, 7, 0 :: g⟩ 0 (xs.length + 1) 1, H') ∧ H' = [(⟨d, 7, 0 :: g⟩, .box (flatD (x :: xs)))] := by
  refine ret_good rfl 1 fn27 rfl rfl ?_ (by simp [isAlt])
  simp only [amr, amc, amp, if_true, if_false, ne_eq, gt_iff_lt, Option.getD, argsT, Option.bind, Option.map, List.headD, List.tail, opnsL, List.replicate, lendsL, seval, ty_OfC_27, nl_c, hl, Nat.succ_ne_zero]
theorem run_clone0S {d : Nat} {g : List Nat} : ∃ H', callR tab d 27 [.d (.nils 1)] [] g = some (.own 1 [] none, H') ∧ True := by
  refine ret_good rfl 1 fn27 rfl rfl ?_ (by simp [isAlt])
  simp only [amr, amc, amp, if_true, if_false, ne_eq, gt_iff_lt, Option.getD, argsT, Option.bind, Option.map, List.headD, List.tail, opnsL, List.replicate, lendsL, seval, ty_OfC_27]
theorem run_clone1S {d : Nat} {g : List Nat} : ∃ H', callR tab d 27 [.d (.emps 1)] [] g = some (.own 1 [] none, H') ∧ True := by
  refine ret_good rfl 1 fn27 rfl rfl ?_ (by simp [isAlt])
  simp only [amr, amc, amp, if_true, if_false, ne_eq, gt_iff_lt, Option.getD, argsT, Option.bind, Option.map, List.headD, List.tail, opnsL, List.replicate, lendsL, seval, ty_OfC_27, Nat.zero_mul, Nat.zero_le]
theorem run_cloneES {d : Nat} {g : List Nat} : callR tab d 27 [.d (.sl 1 [])] [] g = some (.own 1 [] none, []) := by
  obtain ⟨H1, h1, _⟩ := run_clone0S (d := d) (g := g)
  obtain ⟨H2, h2, _⟩ := run_clone1S (d := d) (g := g)
  exact callR_alt (tab_alt (by kernel_rfl)) h1 h2
theorem ret_cloneS (xs : List DV) (hx : ∀ y ∈ xs, Elt 1 y) (hl : xs.length * 16 ≤ 140737488355328) : RetD tab 27 [.d (.sl 1 xs)] (.sl 1 xs) := by
  cases xs with
  | nil => exact ⟨_, _, run_cloneES, rfl, rfl⟩
  | cons x r =>
    obtain ⟨H', h1, h2⟩ := run_cloneS (d := 0) (g := []) x r (fun y hy => (hx y hy).1) hl
    refine ⟨_, _, h1, rfl, ?_⟩
    show toD (frzB H' (.arr ⟨0, 7, [0]⟩ 0 (r.length + 1) 1)) = some (DV.sl 1 (x :: r))
    have hz : frzB H' (.arr ⟨0, 7, [0]⟩ 0 (r.length + 1) 1) = _ := frz_list0 (xs := x :: r) (by rw [h2]; simp only [Heap.get, if_true]) rfl (by decide) hx
    rw [hz]
    rfl
/-- Cloned, to be written to. -/
theorem ca_cloneS {d dst : Nat} {S : St} {j : Nat} (xs : List DV) (h0 : xs ≠ []) (hx : ∀ y ∈ xs, Elt 1 y) (hl : xs.length * 16 ≤ 140737488355328) (ht : tab.thaw 27 dst = some j) :
    callA tab (callR tab) d dst 27 [.d (.sl 1 xs)] S = some (.arr ⟨d, dst, 0 :: S.g⟩ 0 xs.length 1, ⟨S.T, (⟨d, dst, 0 :: S.g⟩, .box (flatD xs)) :: S.H, 1 :: S.g⟩) := by
  cases xs with
  | nil => exact absurd rfl h0
  | cons x r =>
    obtain ⟨H', h1, h2⟩ := run_cloneS (d := 0) (g := []) x r (fun y hy => (hx y hy).1) hl
    exact call_thaw (ds := [.sl 1 (x :: r)]) h1 rfl rfl (tab_opn (by kernel_rfl)) ht (by rw [h2]; simp only [Heap.get, if_true]; rfl) (allD_map _)
theorem ca_clone0S {d dst : Nat} {S : St} {j : Nat} (ht : tab.thaw 27 dst = some j) :
    callA tab (callR tab) d dst 27 [.d (.sl 1 [])] S = some (.own 1 [] none, S) :=
  call_thaw0 (ds := [.sl 1 []]) run_cloneES rfl rfl (tab_opn (by kernel_rfl)) ht
/-- Cloned for good. -/
theorem ca_cloneDS {d dst : Nat} {S : St} (xs : List DV) (hx : ∀ y ∈ xs, Elt 1 y) (hl : xs.length * 16 ≤ 140737488355328) (ht : tab.thaw 27 dst = none) :
    callA tab (callR tab) d dst 27 [.d (.sl 1 xs)] S = some (.d (.sl 1 xs), S) :=
  ca_frz (ds := [.sl 1 xs]) (ret_cloneS xs hx hl) rfl (tab_opn (by kernel_rfl)) (by kernel_rfl) ht
/-- Cloned while it stands in a variable. -/
theorem ca_cloneLS {d dst : Nat} {S : St} {j n : Nat} {id : Id} {rest : List AV} (xs : List DV) (hg : S.H.get id = some (.box (flatD xs ++ rest))) (hn : n = xs.length) (h0 : xs ≠ []) (hx : ∀ y ∈ xs, Elt 1 y) (hf : (xs.flatMap DV.cells).all DV.flat = true) (hl : xs.length * 16 ≤ 140737488355328) (ht : tab.thaw 27 dst = some j) :
    callA tab (callR tab) d dst 27 [.arr id 0 n 1] S = some (.arr ⟨d, dst, 0 :: S.g⟩ 0 xs.length 1, ⟨S.T, (⟨d, dst, 0 :: S.g⟩, .box (flatD xs)) :: S.H, 1 :: S.g⟩) := by
  have hz := frz_list (sz := 1) hg hn (by decide) hx
  cases xs with
  | nil => exact absurd rfl h0
  | cons x r =>
    obtain ⟨H', h1, h2⟩ := run_cloneS (d := 0) (g := []) x r (fun y hy => (hx y hy).1) hl
    exact call_lent_thaw (ds := [.sl 1 (x :: r)]) (tab_lend (by kernel_rfl)) rfl (by rw [List.map_cons, hz]; rfl) h1 ht (by rw [h2]; simp only [Heap.get, if_true]; rfl) (allD_map _) hf
theorem ca_cloneL0S {d dst : Nat} {S : St} {j : Nat} {id : Id} {cs : List AV} (hg : S.H.get id = some (.box cs)) (ht : tab.thaw 27 dst = some j) :
    callA tab (callR tab) d dst 27 [.arr id 0 0 1] S = some (.own 1 [] none, S) := by
  have hz := frz_list (sz := 1) (n := 0) (xs := []) (rest := cs) (by simpa [flatD] using hg) rfl (by decide) (by simp)
  exact call_lent_thaw0 (ds := [.sl 1 []]) (tab_lend (by kernel_rfl)) rfl (by rw [List.map_cons, hz]; rfl) run_cloneES ht
end Go.Proofs.Ytjjjkoknodcaaaa.Am
