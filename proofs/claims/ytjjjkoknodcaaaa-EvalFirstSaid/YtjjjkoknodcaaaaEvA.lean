/- Ops on values. -/
import Derived.Test.YtjjjkoknodcaaaaNumDiv
import Derived.Test.YtjjjkoknodcaaaaValOrd
import Derived.Test.YtjjjkoknodcaaaaAmLoop
set_option linter.unusedVariables false
set_option linter.unusedSimpArgs false
namespace Go.Proofs.Ytjjjkoknodcaaaa.Am
open Go Go.RowKit
theorem ty_EvA_74 : type_of% (And.intro (And.intro (And.intro (And.intro @rs74 (And.intro @lv74_0 @lv74_1)) (And.intro (And.intro @und3 @sz3) (And.intro @ag3 @lv3))) (And.intro (And.intro @inf3 (And.intro @und9 @sz9)) (And.intro (And.intro @ag9 @lv9) (And.intro @inf9 @und24)))) (And.intro (And.intro (And.intro @sz24 (And.intro @ag24 @fo24)) (And.intro (And.intro @bA24 @pT24_0) (And.intro @pT24_1 @pT24_2))) (And.intro (And.intro @lv24 (And.intro @inf24 @und34)) (And.intro (And.intro @sz34 @ag34) (And.intro @lv34 @inf34))))) := (And.intro (And.intro (And.intro (And.intro @rs74 (And.intro @lv74_0 @lv74_1)) (And.intro (And.intro @und3 @sz3) (And.intro @ag3 @lv3))) (And.intro (And.intro @inf3 (And.intro @und9 @sz9)) (And.intro (And.intro @ag9 @lv9) (And.intro @inf9 @und24)))) (And.intro (And.intro (And.intro @sz24 (And.intro @ag24 @fo24)) (And.intro (And.intro @bA24 @pT24_0) (And.intro @pT24_1 @pT24_2))) (And.intro (And.intro @lv24 (And.intro @inf24 @und34)) (And.intro (And.intro @sz34 @ag34) (And.intro @lv34 @inf34)))))
theorem ty_EvA_89 : type_of% (And.intro (And.intro (And.intro (And.intro @rs89 (And.intro @lv89_0 @lv89_1)) (And.intro (And.intro @lv89_2 @lv89_3) (And.intro @und3 @sz3))) (And.intro (And.intro (And.intro @ag3 @lv3) (And.intro @inf3 @und4)) (And.intro (And.intro @sz4 @ag4) (And.intro @lv4 @inf4)))) (And.intro (And.intro (And.intro @und9 (And.intro @sz9 @ag9)) (And.intro (And.intro @lv9 @inf9) (And.intro @und24 @sz24))) (And.intro (And.intro (And.intro @ag24 @fo24) (And.intro @bA24 @pT24_0)) (And.intro (And.intro @pT24_1 @pT24_2) (And.intro @lv24 @inf24))))) := (And.intro (And.intro (And.intro (And.intro @rs89 (And.intro @lv89_0 @lv89_1)) (And.intro (And.intro @lv89_2 @lv89_3) (And.intro @und3 @sz3))) (And.intro (And.intro (And.intro @ag3 @lv3) (And.intro @inf3 @und4)) (And.intro (And.intro @sz4 @ag4) (And.intro @lv4 @inf4)))) (And.intro (And.intro (And.intro @und9 (And.intro @sz9 @ag9)) (And.intro (And.intro @lv9 @inf9) (And.intro @und24 @sz24))) (And.intro (And.intro (And.intro @ag24 @fo24) (And.intro @bA24 @pT24_0)) (And.intro (And.intro @pT24_1 @pT24_2) (And.intro @lv24 @inf24)))))
theorem ty_EvA_90 : type_of% (And.intro (And.intro (And.intro (And.intro (And.intro @rs90 @lv90_0) (And.intro @lv90_1 (And.intro @lv90_2 @lv90_3))) (And.intro (And.intro @lv90_4 @lv90_5) (And.intro @lv90_6 (And.intro @lv90_7 @kp90_2)))) (And.intro (And.intro (And.intro @und3 @sz3) (And.intro @ag3 (And.intro @lv3 @inf3))) (And.intro (And.intro @und4 @sz4) (And.intro @ag4 (And.intro @lv4 @inf4))))) (And.intro (And.intro (And.intro (And.intro @und9 @sz9) (And.intro @ag9 (And.intro @lv9 @inf9))) (And.intro (And.intro @und24 @sz24) (And.intro @ag24 (And.intro @fo24 @bA24)))) (And.intro (And.intro (And.intro @pT24_0 @pT24_1) (And.intro @pT24_2 (And.intro @lv24 @inf24))) (And.intro (And.intro @und121 @sz121) (And.intro @ag121 (And.intro @pT121 @inf121)))))) := (And.intro (And.intro (And.intro (And.intro (And.intro @rs90 @lv90_0) (And.intro @lv90_1 (And.intro @lv90_2 @lv90_3))) (And.intro (And.intro @lv90_4 @lv90_5) (And.intro @lv90_6 (And.intro @lv90_7 @kp90_2)))) (And.intro (And.intro (And.intro @und3 @sz3) (And.intro @ag3 (And.intro @lv3 @inf3))) (And.intro (And.intro @und4 @sz4) (And.intro @ag4 (And.intro @lv4 @inf4))))) (And.intro (And.intro (And.intro (And.intro @und9 @sz9) (And.intro @ag9 (And.intro @lv9 @inf9))) (And.intro (And.intro @und24 @sz24) (And.intro @ag24 (And.intro @fo24 @bA24)))) (And.intro (And.intro (And.intro @pT24_0 @pT24_1) (And.intro @pT24_2 (And.intro @lv24 @inf24))) (And.intro (And.intro @und121 @sz121) (And.intro @ag121 (And.intro @pT121 @inf121))))))
theorem ty_EvA_88 : type_of% (And.intro (And.intro (And.intro (And.intro (And.intro @rs88 (And.intro @lv88_0 @ro24_2_value_go_126)) (And.intro @ro24_3_value_go_126 (And.intro @lv88_1 @lv88_2))) (And.intro (And.intro @dr88_3 (And.intro @lv88_3 @und1)) (And.intro (And.intro @sz1 @ag1) (And.intro @inf1 @und2)))) (And.intro (And.intro (And.intro @sz2 (And.intro @ag2 @lv2)) (And.intro @inf2 (And.intro @und3 @sz3))) (And.intro (And.intro @ag3 (And.intro @lv3 @inf3)) (And.intro (And.intro @und4 @sz4) (And.intro @ag4 @lv4))))) (And.intro (And.intro (And.intro (And.intro @inf4 (And.intro @und9 @sz9)) (And.intro @ag9 (And.intro @lv9 @inf9))) (And.intro (And.intro @und24 (And.intro @sz24 @ag24)) (And.intro (And.intro @fo24 @bA24) (And.intro @pT24_0 @pT24_1)))) (And.intro (And.intro (And.intro @pT24_2 (And.intro @lv24 @inf24)) (And.intro @und34 (And.intro @sz34 @ag34))) (And.intro (And.intro @lv34 (And.intro @inf34 @und67)) (And.intro (And.intro @sz67 @ag67) (And.intro @pT67 @inf67)))))) := (And.intro (And.intro (And.intro (And.intro (And.intro @rs88 (And.intro @lv88_0 @ro24_2_value_go_126)) (And.intro @ro24_3_value_go_126 (And.intro @lv88_1 @lv88_2))) (And.intro (And.intro @dr88_3 (And.intro @lv88_3 @und1)) (And.intro (And.intro @sz1 @ag1) (And.intro @inf1 @und2)))) (And.intro (And.intro (And.intro @sz2 (And.intro @ag2 @lv2)) (And.intro @inf2 (And.intro @und3 @sz3))) (And.intro (And.intro @ag3 (And.intro @lv3 @inf3)) (And.intro (And.intro @und4 @sz4) (And.intro @ag4 @lv4))))) (And.intro (And.intro (And.intro (And.intro @inf4 (And.intro @und9 @sz9)) (And.intro @ag9 (And.intro @lv9 @inf9))) (And.intro (And.intro @und24 (And.intro @sz24 @ag24)) (And.intro (And.intro @fo24 @bA24) (And.intro @pT24_0 @pT24_1)))) (And.intro (And.intro (And.intro @pT24_2 (And.intro @lv24 @inf24)) (And.intro @und34 (And.intro @sz34 @ag34))) (And.intro (And.intro @lv34 (And.intro @inf34 @und67)) (And.intro (And.intro @sz67 @ag67) (And.intro @pT67 @inf67))))))
set_option maxRecDepth 100000
set_option maxHeartbeats 40000000

def fault (e : Int) : Val := ⟨5, e, []⟩
theorem ret_fault (e : Int) : Ret tab 74 [.d (.int .i64 (e))] (.d ((fault e).dv)) := by
  refine ret_of (1) fn74 rfl rfl ?_
  simp only [amr, amc, amp, if_true, if_false, ne_eq, gt_iff_lt, Option.getD, argsT, Option.bind, Option.map, List.headD, List.tail, reduceIte, reduceDIte, Nat.reduceEqDiff, Nat.reduceAdd, Nat.reduceSub, Nat.reduceMul, Nat.reduceLT, reduceCtorEq, Int.reduceEq, Int.reduceLT, Int.reduceLE, Int.reduceNeg, Int.reduceToNat, Int.reduceBNe, Int.reduceBEq, Int.reduceAdd, Int.reduceSub, Int.reduceMul, opnsL, Nat.reduceLeDiff, Nat.reduceGT, List.replicate, Nat.reduceShiftRight, Nat.reduceMod, Nat.reduceBEq, lendsL, ty_EvA_74, fault, Val.dv]
  repeat' ((first | refine good_ci (fun h => ?_) (fun h => ?_) | refine good_cgt (fun h => ?_) (fun h => ?_) | refine good_cgf (fun h => ?_) (fun h => ?_) | refine good_cqgt (fun h => ?_) (fun h => ?_) | refine good_cqgf (fun h => ?_) (fun h => ?_)) <;> simp only [amr, amc, amp, if_true, if_false, ne_eq, gt_iff_lt, Option.getD, argsT, Option.bind, Option.map, List.headD, List.tail, reduceIte, reduceDIte, Nat.reduceEqDiff, Nat.reduceAdd, Nat.reduceSub, Nat.reduceMul, Nat.reduceLT, reduceCtorEq, Int.reduceEq, Int.reduceLT, Int.reduceLE, Int.reduceNeg, Int.reduceToNat, Int.reduceBNe, Int.reduceBEq, Int.reduceAdd, Int.reduceSub, Int.reduceMul, opnsL, Nat.reduceLeDiff, Nat.reduceGT, List.replicate, Nat.reduceShiftRight, Nat.reduceMod, Nat.reduceBEq, lendsL, ty_EvA_74, fault, Val.dv, h])
  all_goals (simp)
theorem ca_fault {d dst : Nat} {S : St} (e : Int) : callA tab (callR tab) d dst 74 [.d (.int .i64 (e))] S = some (.d ((fault e).dv), S) :=
  ca_ret (ds := [.int .i64 (e)]) (ret_fault e) rfl (tab_opn (by kernel_rfl)) (tab_res (by kernel_rfl))
def truthV (b : Bool) : Val := ⟨2, if b = true then 1 else 0, []⟩
theorem ret_truthV (b : Bool) : Ret tab 89 [.d (.bool (b))] (.d ((truthV b).dv)) := by
  refine ret_of (1) fn89 rfl rfl ?_
  simp only [amr, amc, amp, if_true, if_false, ne_eq, gt_iff_lt, Option.getD, argsT, Option.bind, Option.map, List.headD, List.tail, reduceIte, reduceDIte, Nat.reduceEqDiff, Nat.reduceAdd, Nat.reduceSub, Nat.reduceMul, Nat.reduceLT, reduceCtorEq, Int.reduceEq, Int.reduceLT, Int.reduceLE, Int.reduceNeg, Int.reduceToNat, Int.reduceBNe, Int.reduceBEq, Int.reduceAdd, Int.reduceSub, Int.reduceMul, opnsL, Nat.reduceLeDiff, Nat.reduceGT, List.replicate, Nat.reduceShiftRight, Nat.reduceMod, Nat.reduceBEq, lendsL, ty_EvA_89, truthV, Val.dv]
  repeat' ((first | refine good_ci (fun h => ?_) (fun h => ?_) | refine good_cgt (fun h => ?_) (fun h => ?_) | refine good_cgf (fun h => ?_) (fun h => ?_) | refine good_cqgt (fun h => ?_) (fun h => ?_) | refine good_cqgf (fun h => ?_) (fun h => ?_)) <;> simp only [amr, amc, amp, if_true, if_false, ne_eq, gt_iff_lt, Option.getD, argsT, Option.bind, Option.map, List.headD, List.tail, reduceIte, reduceDIte, Nat.reduceEqDiff, Nat.reduceAdd, Nat.reduceSub, Nat.reduceMul, Nat.reduceLT, reduceCtorEq, Int.reduceEq, Int.reduceLT, Int.reduceLE, Int.reduceNeg, Int.reduceToNat, Int.reduceBNe, Int.reduceBEq, Int.reduceAdd, Int.reduceSub, Int.reduceMul, opnsL, Nat.reduceLeDiff, Nat.reduceGT, List.replicate, Nat.reduceShiftRight, Nat.reduceMod, Nat.reduceBEq, lendsL, ty_EvA_89, truthV, Val.dv, h])
  all_goals (simp_all [truthV, Val.dv])
theorem ca_truthV {d dst : Nat} {S : St} (b : Bool) : callA tab (callR tab) d dst 89 [.d (.bool (b))] S = some (.d ((truthV b).dv), S) :=
  ca_ret (ds := [.bool (b)]) (ret_truthV b) rfl (tab_opn (by kernel_rfl)) (tab_res (by kernel_rfl))
def kindsV (l : List Val) (k : Int) : Bool := l.all fun v => v.kind == k
theorem ret_kinds (l : List Val) (k : Int) (hl : l.length ≤ 1048576) : Ret tab 90 [.d (.sl 3 (l.map Val.dv)), .d (.int .i64 (k))] (.d (.bool (kindsV l k))) := by
  refine ret_of (l.length + 1) fn90 rfl rfl ?_
  simp only [amr, amc, amp, if_true, if_false, ne_eq, gt_iff_lt, Option.getD, argsT, Option.bind, Option.map, List.headD, List.tail, reduceIte, reduceDIte, Nat.reduceEqDiff, Nat.reduceAdd, Nat.reduceSub, Nat.reduceMul, Nat.reduceLT, reduceCtorEq, Int.reduceEq, Int.reduceLT, Int.reduceLE, Int.reduceNeg, Int.reduceToNat, Int.reduceBNe, Int.reduceBEq, Int.reduceAdd, Int.reduceSub, Int.reduceMul, opnsL, Nat.reduceLeDiff, Nat.reduceGT, List.replicate, Nat.reduceShiftRight, Nat.reduceMod, Nat.reduceBEq, lendsL, ty_EvA_90]
  refine good_range l (fun n (_ : Unit) g => ⟨[(1, .d (.int .i64 k)), (7, .d (.sl 3 (l.map Val.dv))), (8, .d (.int .i64 l.length)), (9, .d (.int .i64 (n : Nat)))], [], g⟩) (fun _ _ => True) (fun _ _ r => (if kindsV r k = true then .inr () else .inl false : Sum Bool Unit))
    (QO' (fun e => [(4, .d (.bool e))]) (.exit 0) []) () kp90_2 up_qo' trivial (by omega) (by omega) ?_ ?_ ?_ ?_
  · rintro n a g x rest hk hget hd _ hb w1
    have hget' : (l.map Val.dv)[n]? = some x.dv := by rw [List.getElem?_map, hget]; rfl
    have hS : kindsV (x :: rest) k = ((x.kind == k) && kindsV rest k) := by simp [kindsV]
    have hbn : (x.kind != k) = !(x.kind == k) := rfl
    cases hc : (x.kind == k) with
    | true =>
      simp only [amr, amc, amp, if_true, if_false, ne_eq, gt_iff_lt, Option.getD, argsT, Option.bind, Option.map, List.headD, List.tail, reduceIte, reduceDIte, Nat.reduceEqDiff, Nat.reduceAdd, Nat.reduceSub, Nat.reduceMul, Nat.reduceLT, reduceCtorEq, Int.reduceEq, Int.reduceLT, Int.reduceLE, Int.reduceNeg, Int.reduceToNat, Int.reduceBNe, Int.reduceBEq, Int.reduceAdd, Int.reduceSub, Int.reduceMul, opnsL, Nat.reduceLeDiff, Nat.reduceGT, List.replicate, Nat.reduceShiftRight, Nat.reduceMod, Nat.reduceBEq, lendsL, ty_EvA_90, Val.dv, hb, hget', w1, hbn, hc]
      refine step_nrm () trivial ?_ ?_
      · rw [hS, hc, Bool.true_and]
      · (apply Exists.intro; (try simp only [amr, amc, amp, if_true, if_false, ne_eq, gt_iff_lt, Option.getD, argsT, Option.bind, Option.map, List.headD, List.tail, reduceIte, reduceDIte, Nat.reduceEqDiff, Nat.reduceAdd, Nat.reduceSub, Nat.reduceMul, Nat.reduceLT, reduceCtorEq, Int.reduceEq, Int.reduceLT, Int.reduceLE, Int.reduceNeg, Int.reduceToNat, Int.reduceBNe, Int.reduceBEq, Int.reduceAdd, Int.reduceSub, Int.reduceMul, opnsL, Nat.reduceLeDiff, Nat.reduceGT, List.replicate, Nat.reduceShiftRight, Nat.reduceMod, Nat.reduceBEq, lendsL]); exact sub_mk (by repeat first | exact subT_nil | refine subT_cons (by first | rfl | simp [Tm.get, *]) ?_))
    | false =>
      simp only [amr, amc, amp, if_true, if_false, ne_eq, gt_iff_lt, Option.getD, argsT, Option.bind, Option.map, List.headD, List.tail, reduceIte, reduceDIte, Nat.reduceEqDiff, Nat.reduceAdd, Nat.reduceSub, Nat.reduceMul, Nat.reduceLT, reduceCtorEq, Int.reduceEq, Int.reduceLT, Int.reduceLE, Int.reduceNeg, Int.reduceToNat, Int.reduceBNe, Int.reduceBEq, Int.reduceAdd, Int.reduceSub, Int.reduceMul, opnsL, Nat.reduceLeDiff, Nat.reduceGT, List.replicate, Nat.reduceShiftRight, Nat.reduceMod, Nat.reduceBEq, lendsL, ty_EvA_90, Val.dv, hb, hget', w1, hbn, hc]
      refine step_end (r := .inl false) (by simp) ?_ ⟨rfl, ?_⟩
      · rw [hS, hc]; rfl
      · (apply Exists.intro; apply Exists.intro; (try simp only [amr, amc, amp, if_true, if_false, ne_eq, gt_iff_lt, Option.getD, argsT, Option.bind, Option.map, List.headD, List.tail, reduceIte, reduceDIte, Nat.reduceEqDiff, Nat.reduceAdd, Nat.reduceSub, Nat.reduceMul, Nat.reduceLT, reduceCtorEq, Int.reduceEq, Int.reduceLT, Int.reduceLE, Int.reduceNeg, Int.reduceToNat, Int.reduceBNe, Int.reduceBEq, Int.reduceAdd, Int.reduceSub, Int.reduceMul, opnsL, Nat.reduceLeDiff, Nat.reduceGT, List.replicate, Nat.reduceShiftRight, Nat.reduceMod, Nat.reduceBEq, lendsL]); exact sub_mk (by repeat first | exact subT_nil | refine subT_cons (by first | rfl | simp [Tm.get, *]) ?_))
  · intro a g _ hb
    simp only [amr, amc, amp, if_true, if_false, ne_eq, gt_iff_lt, Option.getD, argsT, Option.bind, Option.map, List.headD, List.tail, reduceIte, reduceDIte, Nat.reduceEqDiff, Nat.reduceAdd, Nat.reduceSub, Nat.reduceMul, Nat.reduceLT, reduceCtorEq, Int.reduceEq, Int.reduceLT, Int.reduceLE, Int.reduceNeg, Int.reduceToNat, Int.reduceBNe, Int.reduceBEq, Int.reduceAdd, Int.reduceSub, Int.reduceMul, opnsL, Nat.reduceLeDiff, Nat.reduceGT, List.replicate, Nat.reduceShiftRight, Nat.reduceMod, Nat.reduceBEq, lendsL, ty_EvA_90, hb]
    refine last_end (by simp) ?_
    have : kindsV [] k = true := rfl
    rw [if_pos this]
    refine ⟨rfl, ?_⟩
    (apply Exists.intro; (try simp only [amr, amc, amp, if_true, if_false, ne_eq, gt_iff_lt, Option.getD, argsT, Option.bind, Option.map, List.headD, List.tail, reduceIte, reduceDIte, Nat.reduceEqDiff, Nat.reduceAdd, Nat.reduceSub, Nat.reduceMul, Nat.reduceLT, reduceCtorEq, Int.reduceEq, Int.reduceLT, Int.reduceLE, Int.reduceNeg, Int.reduceToNat, Int.reduceBNe, Int.reduceBEq, Int.reduceAdd, Int.reduceSub, Int.reduceMul, opnsL, Nat.reduceLeDiff, Nat.reduceGT, List.replicate, Nat.reduceShiftRight, Nat.reduceMod, Nat.reduceBEq, lendsL]); exact sub_mk (by repeat first | exact subT_nil | refine subT_cons (by first | rfl | simp [Tm.get, *]) ?_))
  · (apply Exists.intro; (try simp only [amr, amc, amp, if_true, if_false, ne_eq, gt_iff_lt, Option.getD, argsT, Option.bind, Option.map, List.headD, List.tail, reduceIte, reduceDIte, Nat.reduceEqDiff, Nat.reduceAdd, Nat.reduceSub, Nat.reduceMul, Nat.reduceLT, reduceCtorEq, Int.reduceEq, Int.reduceLT, Int.reduceLE, Int.reduceNeg, Int.reduceToNat, Int.reduceBNe, Int.reduceBEq, Int.reduceAdd, Int.reduceSub, Int.reduceMul, opnsL, Nat.reduceLeDiff, Nat.reduceGT, List.replicate, Nat.reduceShiftRight, Nat.reduceMod, Nat.reduceBEq, lendsL]); exact sub_mk (by repeat first | exact subT_nil | refine subT_cons (by first | rfl | simp [Tm.get, *]) ?_))
  · intro o S' hq
    cases hr : kindsV l k with
    | false =>
      rw [hr] at hq
      obtain ⟨rfl, H, g, hs⟩ := hq
      refine good_sub_cr up_fin hs ?_
      simp only [amr, amc, amp, if_true, if_false, ne_eq, gt_iff_lt, Option.getD, argsT, Option.bind, Option.map, List.headD, List.tail, reduceIte, reduceDIte, Nat.reduceEqDiff, Nat.reduceAdd, Nat.reduceSub, Nat.reduceMul, Nat.reduceLT, reduceCtorEq, Int.reduceEq, Int.reduceLT, Int.reduceLE, Int.reduceNeg, Int.reduceToNat, Int.reduceBNe, Int.reduceBEq, Int.reduceAdd, Int.reduceSub, Int.reduceMul, opnsL, Nat.reduceLeDiff, Nat.reduceGT, List.replicate, Nat.reduceShiftRight, Nat.reduceMod, Nat.reduceBEq, lendsL, ty_EvA_90]
    | true =>
      rw [hr] at hq
      obtain ⟨rfl, g, hs⟩ := hq
      refine good_sub_cr up_fin hs ?_
      simp only [amr, amc, amp, if_true, if_false, ne_eq, gt_iff_lt, Option.getD, argsT, Option.bind, Option.map, List.headD, List.tail, reduceIte, reduceDIte, Nat.reduceEqDiff, Nat.reduceAdd, Nat.reduceSub, Nat.reduceMul, Nat.reduceLT, reduceCtorEq, Int.reduceEq, Int.reduceLT, Int.reduceLE, Int.reduceNeg, Int.reduceToNat, Int.reduceBNe, Int.reduceBEq, Int.reduceAdd, Int.reduceSub, Int.reduceMul, opnsL, Nat.reduceLeDiff, Nat.reduceGT, List.replicate, Nat.reduceShiftRight, Nat.reduceMod, Nat.reduceBEq, lendsL, ty_EvA_90]
theorem ca_kinds {d dst : Nat} {S : St} (l : List Val) (k : Int) (hl : l.length ≤ 1048576) : callA tab (callR tab) d dst 90 [.d (.sl 3 (l.map Val.dv)), .d (.int .i64 (k))] S = some (.d (.bool (kindsV l k)), S) :=
  ca_ret (ds := [.sl 3 (l.map Val.dv), .int .i64 (k)]) (ret_kinds l k hl) rfl (tab_opn (by kernel_rfl)) (tab_res (by kernel_rfl))
def cmpV (a b : Val) : Int × Int := if valKnown a = true then (if valKnown b = true then (if a.kind = b.kind then (valCmp a b, 0) else (0, 9)) else (0, 9)) else (0, 9)
theorem ret_cmpX (a b : Val) (h : ¬ (valKnown a = true ∧ valKnown b = true ∧ a.kind = b.kind)) : Ret tab 88 [.d (a.dv), .d (b.dv)] (.tup [.d (.int .i64 (0)), .d (.int .i64 (9))]) := by
  have f1 : ∀ (S : St) (d dst : Nat), callA tab (callR tab) d dst 33 [.d (.agg [.int .i64 a.kind, .int .i64 a.n, .str a.s])] S = some (.d (.bool (valKnown a)), S) := fun S d dst => ca_Known a.kind a.n a.s
  have f2 : ∀ (S : St) (d dst : Nat), callA tab (callR tab) d dst 33 [.d (.agg [.int .i64 b.kind, .int .i64 b.n, .str b.s])] S = some (.d (.bool (valKnown b)), S) := fun S d dst => ca_Known b.kind b.n b.s
  refine ret_of (1) fn88 rfl rfl ?_
  have hbn : (a.kind != b.kind) = !(a.kind == b.kind) := rfl
  have hke : a.kind = b.kind ↔ (a.kind == b.kind) = true := by simp
  rw [hke] at h
  generalize valKnown a = p at *
  generalize valKnown b = q at *
  generalize (a.kind == b.kind) = r at *
  cases p with
  | false => simp only [amr, amc, amp, if_true, if_false, ne_eq, gt_iff_lt, Option.getD, argsT, Option.bind, Option.map, List.headD, List.tail, reduceIte, reduceDIte, Nat.reduceEqDiff, Nat.reduceAdd, Nat.reduceSub, Nat.reduceMul, Nat.reduceLT, reduceCtorEq, Int.reduceEq, Int.reduceLT, Int.reduceLE, Int.reduceNeg, Int.reduceToNat, Int.reduceBNe, Int.reduceBEq, Int.reduceAdd, Int.reduceSub, Int.reduceMul, opnsL, Nat.reduceLeDiff, Nat.reduceGT, List.replicate, Nat.reduceShiftRight, Nat.reduceMod, Nat.reduceBEq, lendsL, ty_EvA_88, Val.dv, f1, f2, hbn]
  | true =>
    cases q with
    | false => simp only [amr, amc, amp, if_true, if_false, ne_eq, gt_iff_lt, Option.getD, argsT, Option.bind, Option.map, List.headD, List.tail, reduceIte, reduceDIte, Nat.reduceEqDiff, Nat.reduceAdd, Nat.reduceSub, Nat.reduceMul, Nat.reduceLT, reduceCtorEq, Int.reduceEq, Int.reduceLT, Int.reduceLE, Int.reduceNeg, Int.reduceToNat, Int.reduceBNe, Int.reduceBEq, Int.reduceAdd, Int.reduceSub, Int.reduceMul, opnsL, Nat.reduceLeDiff, Nat.reduceGT, List.replicate, Nat.reduceShiftRight, Nat.reduceMod, Nat.reduceBEq, lendsL, ty_EvA_88, Val.dv, f1, f2, hbn]
    | true =>
      cases r with
      | false => simp only [amr, amc, amp, if_true, if_false, ne_eq, gt_iff_lt, Option.getD, argsT, Option.bind, Option.map, List.headD, List.tail, reduceIte, reduceDIte, Nat.reduceEqDiff, Nat.reduceAdd, Nat.reduceSub, Nat.reduceMul, Nat.reduceLT, reduceCtorEq, Int.reduceEq, Int.reduceLT, Int.reduceLE, Int.reduceNeg, Int.reduceToNat, Int.reduceBNe, Int.reduceBEq, Int.reduceAdd, Int.reduceSub, Int.reduceMul, opnsL, Nat.reduceLeDiff, Nat.reduceGT, List.replicate, Nat.reduceShiftRight, Nat.reduceMod, Nat.reduceBEq, lendsL, ty_EvA_88, Val.dv, f1, f2, hbn]
      | true => exact absurd ⟨rfl, rfl, rfl⟩ h
theorem cf_cmpX {d dst : Nat} {S : St} (a b : Val) (h : ¬ (valKnown a = true ∧ valKnown b = true ∧ a.kind = b.kind)) : callA tab (callR tab) d dst 88 [.d (a.dv), .d (b.dv)] S = some (.tup [.d (.int .i64 (0)), .d (.int .i64 (9))], S) :=
  ca_ret_tup (ds := [a.dv, b.dv]) (ys := [.int .i64 (0), .int .i64 (9)]) (ret_cmpX a b h) rfl (tab_opn (by kernel_rfl)) (tab_res (by kernel_rfl)) rfl
theorem ca_cmpX {d dst : Nat} {S : St} (a_kind : Int) (a_n : Int) (a_s : List UInt8) (b_kind : Int) (b_n : Int) (b_s : List UInt8) (h : ¬ (valKnown (Val.mk a_kind a_n a_s) = true ∧ valKnown (Val.mk b_kind b_n b_s) = true ∧ (Val.mk a_kind a_n a_s).kind = (Val.mk b_kind b_n b_s).kind)) : callA tab (callR tab) d dst 88 [.d (.agg [.int .i64 a_kind, .int .i64 a_n, .str a_s]), .d (.agg [.int .i64 b_kind, .int .i64 b_n, .str b_s])] S = some (.tup [.d (.int .i64 (0)), .d (.int .i64 (9))], S) :=
  ca_ret_tup (ds := [.agg [.int .i64 a_kind, .int .i64 a_n, .str a_s], .agg [.int .i64 b_kind, .int .i64 b_n, .str b_s]]) (ys := [.int .i64 (0), .int .i64 (9)]) (ret_cmpX (Val.mk a_kind a_n a_s) (Val.mk b_kind b_n b_s) h) rfl (tab_opn (by kernel_rfl)) (tab_res (by kernel_rfl)) rfl
theorem ca_cmpV {d dst : Nat} {S : St} (a b : Val) : callA tab (callR tab) d dst 88 [.d a.dv, .d b.dv] S = some (.tup [.d (.int .i64 (cmpV a b).1), .d (.int .i64 (cmpV a b).2)], S) := by
  unfold cmpV
  by_cases h1 : valKnown a = true
  · rw [if_pos h1]
    by_cases h2 : valKnown b = true
    · rw [if_pos h2]
      by_cases h3 : a.kind = b.kind
      · rw [if_pos h3]; exact cf_VCompare a b h1 h2 h3
      · rw [if_neg h3]; exact cf_cmpX a b (fun h => h3 h.2.2)
    · rw [if_neg h2]; exact cf_cmpX a b (fun h => h2 h.2.1)
  · rw [if_neg h1]; exact cf_cmpX a b (fun h => h1 h.1)
def cmpOp (op c : Int) : Bool := if op = 11 then decide (c < 0) else if op = 12 then decide (c ≤ 0) else if op = 13 then c == 0 else c != 0
def numOp (op a b : Int) : Int × Int :=
  if op = 3 then numW 0 b (IntKind.i64.wrap (0 - b)) else if op = 5 then numW a b (mulI a b) else if op = 6 then (if b = 0 then (0, 8) else numW a b (flr a b).1)
  else if op = 7 then (if b = 0 then (0, 8) else numW a b (flr a b).2) else if op = 8 then numW a b (IntKind.i64.wrap (a + b)) else numW a b (IntKind.i64.wrap (a - b))
/-- An op of one value. -/
def apply1 (op : Int) (a : Val) : Val :=
  if op = 4 then (if a.kind = 2 then truthV (a.n == 0) else fault 9) else if op = 18 then (if a.kind = 3 then ⟨1, a.s.length, []⟩ else fault 9)
  else (if a.kind = 1 then (if (numOp op a.n a.n).2 ≠ 0 then fault (numOp op a.n a.n).2 else ⟨1, (numOp op a.n a.n).1, []⟩) else fault 9)
/-- An op of two values. -/
def apply2 (op : Int) (a b : Val) : Val :=
  if 11 ≤ op then (if (cmpV a b).2 ≠ 0 then fault (cmpV a b).2 else truthV (cmpOp op (cmpV a b).1))
  else if op = 10 then (if a.kind = 3 ∧ b.kind = 3 then (if a.s.length + b.s.length > 40 then fault 1 else ⟨3, 0, a.s ++ b.s⟩) else fault 9)
  else (if a.kind = 1 ∧ b.kind = 1 then (if (numOp op a.n b.n).2 ≠ 0 then fault (numOp op a.n b.n).2 else ⟨1, (numOp op a.n b.n).1, []⟩) else fault 9)
theorem kinds1 (a : Val) (k : Int) : kindsV [a] k = (a.kind == k) := by simp [kindsV]
theorem kinds2 (a b : Val) (k : Int) : kindsV [a, b] k = ((a.kind == k) && (b.kind == k)) := by simp [kindsV]
end Go.Proofs.Ytjjjkoknodcaaaa.Am
