/- What formulas are, walked. -/
import Derived.Test.YtjjjkoknodcaaaaEvD
set_option linter.unusedVariables false
set_option linter.unusedSimpArgs false
namespace Go.Proofs.Ytjjjkoknodcaaaa.Am
open Go Go.RowKit
theorem ty_EvE_75 : type_of% (And.intro (And.intro (And.intro (And.intro (And.intro @rs75 (And.intro @lv75_0 @ro27_3_eval_go_43)) (And.intro @lv75_1 (And.intro @lv75_2 @lv75_3))) (And.intro (And.intro @dr75_4 (And.intro @lv75_4 @und3)) (And.intro (And.intro @sz3 @ag3) (And.intro @lv3 @inf3)))) (And.intro (And.intro (And.intro @und4 (And.intro @sz4 @ag4)) (And.intro (And.intro @lv4 @inf4) (And.intro @und9 @sz9))) (And.intro (And.intro @ag9 (And.intro @lv9 @inf9)) (And.intro (And.intro @und24 @sz24) (And.intro @ag24 @fo24))))) (And.intro (And.intro (And.intro (And.intro @bA24 (And.intro @pT24_0 @pT24_1)) (And.intro @pT24_2 (And.intro @lv24 @inf24))) (And.intro (And.intro @und25 (And.intro @sz25 @ag25)) (And.intro (And.intro @pT25 @inf25) (And.intro @und27 @sz27)))) (And.intro (And.intro (And.intro @ag27 (And.intro @fo27 @bA27)) (And.intro (And.intro @pT27_0 @pT27_1) (And.intro @pT27_2 @pT27_3))) (And.intro (And.intro @inf27 (And.intro @und34 @sz34)) (And.intro (And.intro @ag34 @lv34) (And.intro @inf34 @und95)))))) := (And.intro (And.intro (And.intro (And.intro (And.intro @rs75 (And.intro @lv75_0 @ro27_3_eval_go_43)) (And.intro @lv75_1 (And.intro @lv75_2 @lv75_3))) (And.intro (And.intro @dr75_4 (And.intro @lv75_4 @und3)) (And.intro (And.intro @sz3 @ag3) (And.intro @lv3 @inf3)))) (And.intro (And.intro (And.intro @und4 (And.intro @sz4 @ag4)) (And.intro (And.intro @lv4 @inf4) (And.intro @und9 @sz9))) (And.intro (And.intro @ag9 (And.intro @lv9 @inf9)) (And.intro (And.intro @und24 @sz24) (And.intro @ag24 @fo24))))) (And.intro (And.intro (And.intro (And.intro @bA24 (And.intro @pT24_0 @pT24_1)) (And.intro @pT24_2 (And.intro @lv24 @inf24))) (And.intro (And.intro @und25 (And.intro @sz25 @ag25)) (And.intro (And.intro @pT25 @inf25) (And.intro @und27 @sz27)))) (And.intro (And.intro (And.intro @ag27 (And.intro @fo27 @bA27)) (And.intro (And.intro @pT27_0 @pT27_1) (And.intro @pT27_2 @pT27_3))) (And.intro (And.intro @inf27 (And.intro @und34 @sz34)) (And.intro (And.intro @ag34 @lv34) (And.intro @inf34 @und95))))))
theorem ty_EvE_76 : type_of% (And.intro (And.intro (And.intro (And.intro (And.intro @rs76 (And.intro @lv76_0 @ro27_3_eval_go_52)) (And.intro @lv76_1 (And.intro @lv76_2 @lv76_3))) (And.intro (And.intro @lv76_4 (And.intro @und3 @sz3)) (And.intro (And.intro @ag3 @lv3) (And.intro @inf3 @und4)))) (And.intro (And.intro (And.intro @sz4 (And.intro @ag4 @lv4)) (And.intro @inf4 (And.intro @und9 @sz9))) (And.intro (And.intro @ag9 (And.intro @lv9 @inf9)) (And.intro (And.intro @und24 @sz24) (And.intro @ag24 @fo24))))) (And.intro (And.intro (And.intro (And.intro @bA24 (And.intro @pT24_0 @pT24_1)) (And.intro @pT24_2 (And.intro @lv24 @inf24))) (And.intro (And.intro @und25 (And.intro @sz25 @ag25)) (And.intro (And.intro @pT25 @inf25) (And.intro @und27 @sz27)))) (And.intro (And.intro (And.intro @ag27 (And.intro @fo27 @bA27)) (And.intro (And.intro @pT27_0 @pT27_1) (And.intro @pT27_2 @pT27_3))) (And.intro (And.intro @inf27 (And.intro @und34 @sz34)) (And.intro (And.intro @ag34 @lv34) (And.intro @inf34 @und95)))))) := (And.intro (And.intro (And.intro (And.intro (And.intro @rs76 (And.intro @lv76_0 @ro27_3_eval_go_52)) (And.intro @lv76_1 (And.intro @lv76_2 @lv76_3))) (And.intro (And.intro @lv76_4 (And.intro @und3 @sz3)) (And.intro (And.intro @ag3 @lv3) (And.intro @inf3 @und4)))) (And.intro (And.intro (And.intro @sz4 (And.intro @ag4 @lv4)) (And.intro @inf4 (And.intro @und9 @sz9))) (And.intro (And.intro @ag9 (And.intro @lv9 @inf9)) (And.intro (And.intro @und24 @sz24) (And.intro @ag24 @fo24))))) (And.intro (And.intro (And.intro (And.intro @bA24 (And.intro @pT24_0 @pT24_1)) (And.intro @pT24_2 (And.intro @lv24 @inf24))) (And.intro (And.intro @und25 (And.intro @sz25 @ag25)) (And.intro (And.intro @pT25 @inf25) (And.intro @und27 @sz27)))) (And.intro (And.intro (And.intro @ag27 (And.intro @fo27 @bA27)) (And.intro (And.intro @pT27_0 @pT27_1) (And.intro @pT27_2 @pT27_3))) (And.intro (And.intro @inf27 (And.intro @und34 @sz34)) (And.intro (And.intro @ag34 @lv34) (And.intro @inf34 @und95))))))
theorem ty_EvE_77 : type_of% (And.intro (And.intro (And.intro (And.intro (And.intro (And.intro @rs77 @lv77_0) (And.intro @lv77_1 @lv77_2)) (And.intro (And.intro @lv77_3 @lv77_4) (And.intro @lv77_5 @lv77_6))) (And.intro (And.intro (And.intro @lv77_7 @dr77_8) (And.intro @lv77_8 @lv77_9)) (And.intro (And.intro @lv77_10 @lv77_11) (And.intro @mu121_31 (And.intro @lv77_12 @dr77_13))))) (And.intro (And.intro (And.intro (And.intro @lv77_13 @kp77_4) (And.intro @und1 @sz1)) (And.intro (And.intro @ag1 @inf1) (And.intro @und3 @sz3))) (And.intro (And.intro (And.intro @ag3 @lv3) (And.intro @inf3 @und4)) (And.intro (And.intro @sz4 @ag4) (And.intro @lv4 (And.intro @inf4 @und9)))))) (And.intro (And.intro (And.intro (And.intro (And.intro @sz9 @ag9) (And.intro @lv9 @inf9)) (And.intro (And.intro @und24 @sz24) (And.intro @ag24 @fo24))) (And.intro (And.intro (And.intro @bA24 @pT24_0) (And.intro @pT24_1 @pT24_2)) (And.intro (And.intro @lv24 @inf24) (And.intro @und25 (And.intro @sz25 @ag25))))) (And.intro (And.intro (And.intro (And.intro @pT25 @inf25) (And.intro @und27 @sz27)) (And.intro (And.intro @ag27 @fo27) (And.intro @bA27 (And.intro @pT27_0 @pT27_1)))) (And.intro (And.intro (And.intro @pT27_2 @pT27_3) (And.intro @inf27 @und95)) (And.intro (And.intro @und121 @sz121) (And.intro @ag121 (And.intro @pT121 @inf121))))))) := (And.intro (And.intro (And.intro (And.intro (And.intro (And.intro @rs77 @lv77_0) (And.intro @lv77_1 @lv77_2)) (And.intro (And.intro @lv77_3 @lv77_4) (And.intro @lv77_5 @lv77_6))) (And.intro (And.intro (And.intro @lv77_7 @dr77_8) (And.intro @lv77_8 @lv77_9)) (And.intro (And.intro @lv77_10 @lv77_11) (And.intro @mu121_31 (And.intro @lv77_12 @dr77_13))))) (And.intro (And.intro (And.intro (And.intro @lv77_13 @kp77_4) (And.intro @und1 @sz1)) (And.intro (And.intro @ag1 @inf1) (And.intro @und3 @sz3))) (And.intro (And.intro (And.intro @ag3 @lv3) (And.intro @inf3 @und4)) (And.intro (And.intro @sz4 @ag4) (And.intro @lv4 (And.intro @inf4 @und9)))))) (And.intro (And.intro (And.intro (And.intro (And.intro @sz9 @ag9) (And.intro @lv9 @inf9)) (And.intro (And.intro @und24 @sz24) (And.intro @ag24 @fo24))) (And.intro (And.intro (And.intro @bA24 @pT24_0) (And.intro @pT24_1 @pT24_2)) (And.intro (And.intro @lv24 @inf24) (And.intro @und25 (And.intro @sz25 @ag25))))) (And.intro (And.intro (And.intro (And.intro @pT25 @inf25) (And.intro @und27 @sz27)) (And.intro (And.intro @ag27 @fo27) (And.intro @bA27 (And.intro @pT27_0 @pT27_1)))) (And.intro (And.intro (And.intro @pT27_2 @pT27_3) (And.intro @inf27 @und95)) (And.intro (And.intro @und121 @sz121) (And.intro @ag121 (And.intro @pT121 @inf121)))))))
set_option maxRecDepth 100000
set_option maxHeartbeats 40000000


/-- A formula is walked. -/
def OfOK (m : VMap) (x : Exp) : Prop := Ret tab 53 [.d (.mp (mdv m)), .d x.dv] (.d (evE m x).dv)
theorem ca_of {m : VMap} {x : Exp} (h : OfOK m x) {d dst : Nat} {S : St} : callA tab (callR tab) d dst 53 [.d (.mp (mdv m)), .d (.agg [.int .i64 x.op, .int .i64 x.v.kind, .int .i64 x.v.n, .str x.v.s, .str x.name, .sl 6 (x.args.map Exp.dv)])] S = some (.d (.agg [.int .i64 (evE m x).kind, .int .i64 (evE m x).n, .str (evE m x).s]), S) := by
  rw [← Exp.dv_eq]
  exact ca_ret (ds := [.mp (mdv m), x.dv]) h rfl (tab_opn (by kernel_rfl)) (tab_res (by kernel_rfl))
theorem ret_first {m : VMap} (x y : Exp) (hy : x.args[0]? = some y) (h : OfOK m y) : Ret tab 75 [.d (.mp (mdv m)), .d x.dv] (.tup [.d (firstV (evE m y)).1.dv, .d (.bool (firstV (evE m y)).2)]) := by
  have f0 := fun (S : St) (d dst : Nat) => ca_of h (d := d) (dst := dst) (S := S)
  have hk := (List.getElem?_eq_some_iff.1 hy).1
  have k1 : (0 < (x.args.length : Int)) = True := eq_true (by omega)
  have hget : (x.args.map Exp.dv)[0]? = some (.agg [.int .i64 y.op, .int .i64 y.v.kind, .int .i64 y.v.n, .str y.v.s, .str y.name, .sl 6 (y.args.map Exp.dv)]) := by rw [List.getElem?_map, hy, ← Exp.dv_eq]; rfl
  rw [Exp.dv_eq x]
  generalize evE m y = w at *
  have n2 : (w.kind != 2) = !(w.kind == 2) := rfl
  have n4 : (w.kind != 4) = !(w.kind == 4) := rfl
  have n5 : (w.kind != 5) = !(w.kind == 5) := rfl
  have hF : firstV w = if (w.kind == 2) = true then (w, true) else if (w.kind == 4) = true then (w, false) else if (w.kind == 5) = true then (w, false) else (fault 9, false) := rfl
  rw [hF]
  cases b2 : (w.kind == 2) with
  | true =>
    rw [if_pos rfl]
    refine ret_of 1 fn75 rfl rfl ?_
    simp only [amr, amc, amp, if_true, if_false, ne_eq, gt_iff_lt, Option.getD, argsT, Option.bind, Option.map, List.headD, List.tail, reduceIte, reduceDIte, Nat.reduceEqDiff, Nat.reduceAdd, Nat.reduceSub, Nat.reduceMul, Nat.reduceLT, reduceCtorEq, Int.reduceEq, Int.reduceLT, Int.reduceLE, Int.reduceNeg, Int.reduceToNat, Int.reduceBNe, Int.reduceBEq, Int.reduceAdd, Int.reduceSub, Int.reduceMul, opnsL, Nat.reduceLeDiff, Nat.reduceGT, List.replicate, Nat.reduceShiftRight, Nat.reduceMod, Nat.reduceBEq, lendsL, ty_EvE_75, Val.dv, f0, k1, hget, n2, b2]
  | false =>
    rw [if_neg (by decide)]
    cases b4 : (w.kind == 4) with
    | true =>
      rw [if_pos rfl]
      refine ret_of 1 fn75 rfl rfl ?_
      simp only [amr, amc, amp, if_true, if_false, ne_eq, gt_iff_lt, Option.getD, argsT, Option.bind, Option.map, List.headD, List.tail, reduceIte, reduceDIte, Nat.reduceEqDiff, Nat.reduceAdd, Nat.reduceSub, Nat.reduceMul, Nat.reduceLT, reduceCtorEq, Int.reduceEq, Int.reduceLT, Int.reduceLE, Int.reduceNeg, Int.reduceToNat, Int.reduceBNe, Int.reduceBEq, Int.reduceAdd, Int.reduceSub, Int.reduceMul, opnsL, Nat.reduceLeDiff, Nat.reduceGT, List.replicate, Nat.reduceShiftRight, Nat.reduceMod, Nat.reduceBEq, lendsL, ty_EvE_75, Val.dv, f0, k1, hget, n2, n4, b2, b4]
    | false =>
      rw [if_neg (by decide)]
      cases b5 : (w.kind == 5) with
      | true =>
        rw [if_pos rfl]
        refine ret_of 1 fn75 rfl rfl ?_
        simp only [amr, amc, amp, if_true, if_false, ne_eq, gt_iff_lt, Option.getD, argsT, Option.bind, Option.map, List.headD, List.tail, reduceIte, reduceDIte, Nat.reduceEqDiff, Nat.reduceAdd, Nat.reduceSub, Nat.reduceMul, Nat.reduceLT, reduceCtorEq, Int.reduceEq, Int.reduceLT, Int.reduceLE, Int.reduceNeg, Int.reduceToNat, Int.reduceBNe, Int.reduceBEq, Int.reduceAdd, Int.reduceSub, Int.reduceMul, opnsL, Nat.reduceLeDiff, Nat.reduceGT, List.replicate, Nat.reduceShiftRight, Nat.reduceMod, Nat.reduceBEq, lendsL, ty_EvE_75, Val.dv, f0, k1, hget, n2, n4, n5, b2, b4, b5]
      | false =>
        rw [if_neg (by decide)]
        refine ret_of 1 fn75 rfl rfl ?_
        simp only [amr, amc, amp, if_true, if_false, ne_eq, gt_iff_lt, Option.getD, argsT, Option.bind, Option.map, List.headD, List.tail, reduceIte, reduceDIte, Nat.reduceEqDiff, Nat.reduceAdd, Nat.reduceSub, Nat.reduceMul, Nat.reduceLT, reduceCtorEq, Int.reduceEq, Int.reduceLT, Int.reduceLE, Int.reduceNeg, Int.reduceToNat, Int.reduceBNe, Int.reduceBEq, Int.reduceAdd, Int.reduceSub, Int.reduceMul, opnsL, Nat.reduceLeDiff, Nat.reduceGT, List.replicate, Nat.reduceShiftRight, Nat.reduceMod, Nat.reduceBEq, lendsL, ty_EvE_75, Val.dv, fault, ca_faultO, f0, k1, hget, n2, n4, n5, b2, b4, b5]
theorem ret_boolV {m : VMap} (x : Exp) (h : OfOK m x) : Ret tab 76 [.d (.mp (mdv m)), .d x.dv] (.d (boolV (evE m x)).dv) := by
  have f0 := fun (S : St) (d dst : Nat) => ca_of h (d := d) (dst := dst) (S := S)
  rw [Exp.dv_eq x]
  generalize evE m x = w at *
  have hF : boolV w = if (w.kind == 1) = true then fault 9 else if (w.kind == 3) = true then fault 9 else w := rfl
  rw [hF]
  cases b1 : (w.kind == 1) with
  | true =>
    rw [if_pos rfl]
    refine ret_of 1 fn76 rfl rfl ?_
    simp only [amr, amc, amp, if_true, if_false, ne_eq, gt_iff_lt, Option.getD, argsT, Option.bind, Option.map, List.headD, List.tail, reduceIte, reduceDIte, Nat.reduceEqDiff, Nat.reduceAdd, Nat.reduceSub, Nat.reduceMul, Nat.reduceLT, reduceCtorEq, Int.reduceEq, Int.reduceLT, Int.reduceLE, Int.reduceNeg, Int.reduceToNat, Int.reduceBNe, Int.reduceBEq, Int.reduceAdd, Int.reduceSub, Int.reduceMul, opnsL, Nat.reduceLeDiff, Nat.reduceGT, List.replicate, Nat.reduceShiftRight, Nat.reduceMod, Nat.reduceBEq, lendsL, ty_EvE_76, Val.dv, fault, ca_faultO, f0, b1]
  | false =>
    rw [if_neg (by decide)]
    cases b3 : (w.kind == 3) with
    | true =>
      rw [if_pos rfl]
      refine ret_of 1 fn76 rfl rfl ?_
      simp only [amr, amc, amp, if_true, if_false, ne_eq, gt_iff_lt, Option.getD, argsT, Option.bind, Option.map, List.headD, List.tail, reduceIte, reduceDIte, Nat.reduceEqDiff, Nat.reduceAdd, Nat.reduceSub, Nat.reduceMul, Nat.reduceLT, reduceCtorEq, Int.reduceEq, Int.reduceLT, Int.reduceLE, Int.reduceNeg, Int.reduceToNat, Int.reduceBNe, Int.reduceBEq, Int.reduceAdd, Int.reduceSub, Int.reduceMul, opnsL, Nat.reduceLeDiff, Nat.reduceGT, List.replicate, Nat.reduceShiftRight, Nat.reduceMod, Nat.reduceBEq, lendsL, ty_EvE_76, Val.dv, fault, ca_faultO, f0, b1, b3]
    | false =>
      rw [if_neg (by decide)]
      refine ret_of 1 fn76 rfl rfl ?_
      simp only [amr, amc, amp, if_true, if_false, ne_eq, gt_iff_lt, Option.getD, argsT, Option.bind, Option.map, List.headD, List.tail, reduceIte, reduceDIte, Nat.reduceEqDiff, Nat.reduceAdd, Nat.reduceSub, Nat.reduceMul, Nat.reduceLT, reduceCtorEq, Int.reduceEq, Int.reduceLT, Int.reduceLE, Int.reduceNeg, Int.reduceToNat, Int.reduceBNe, Int.reduceBEq, Int.reduceAdd, Int.reduceSub, Int.reduceMul, opnsL, Nat.reduceLeDiff, Nat.reduceGT, List.replicate, Nat.reduceShiftRight, Nat.reduceMod, Nat.reduceBEq, lendsL, ty_EvE_76, Val.dv, f0, b1, b3]
/-- What a loop over arguments ends with. -/
def QA (p5 p7 : Id) : Sum Val (List Val × Val) → Out → St → Prop := fun r o S => match r with
  | .inl w => o = .ret ∧ ∃ H g, Sub ⟨[(4, .own 3 [] none), (5, .ptr p5 0)], H, g⟩ S ∧ H.get p5 = some (.box [.d (.int .i64 w.kind), .d (.int .i64 w.n), .d (.str w.s)])
  | .inr (acc, p) => o = .exit 0 ∧ ∃ t g, Sub ⟨[(5, .ptr p5 0), (6, .own 3 (acc.map Val.dv) (tokD 0 31 t)), (7, .ptr p7 0)], tokP 0 31 (acc.length * 3) t ++ [(p7, .box [.d (.int .i64 p.kind), .d (.int .i64 p.n), .d (.str p.s)]), (p5, .box [.d (.int .i64 0), .d (.int .i64 0), .d (.str [])])], g⟩ S
theorem up_qa {p5 p7 : Id} (r : Sum Val (List Val × Val)) : Up (QA p5 p7 r) := fun o S S' h hq => match r, hq with
  | .inl _, ⟨h1, H, g, h2, h3⟩ => ⟨h1, H, g, h2.trans h, h3⟩
  | .inr (_, _), ⟨h1, t, g, h2⟩ => ⟨h1, t, g, h2.trans h⟩
theorem qa_inl {p5 p7 : Id} {w : Val} {T : Tm} {H : Heap} {g : List Nat} (h : SubT [(4, .own 3 [] none), (5, .ptr p5 0)] T) (hp : H.get p5 = some (.box [.d (.int .i64 w.kind), .d (.int .i64 w.n), .d (.str w.s)])) : QA p5 p7 (.inl w) .ret ⟨T, H, g⟩ := ⟨rfl, H, g, sub_mk h, hp⟩
/-- Arguments and what is no value among them, as they are answered. -/
def allAns (r : Sum Val (List Val × Val)) : List Val × Val := match r with
  | .inl w => ([], w)
  | .inr o => o
theorem ret_all {m : VMap} (l : List Exp) (hl : l.length ≤ 1048576) (h : ∀ x ∈ l, OfOK m x) : RetT tab 77 [.d (.mp (mdv m)), .d (.sl 6 (l.map Exp.dv))] [.sl 3 ((allAns (allSV (l.map (evE m)) [] Val.zero)).1.map Val.dv), (allAns (allSV (l.map (evE m)) [] Val.zero)).2.dv] := by
  refine retq_good (l.length + 1) fn77 rfl rfl ?_
  simp only [amr, amc, amp, if_true, if_false, ne_eq, gt_iff_lt, Option.getD, argsT, Option.bind, Option.map, List.headD, List.tail, reduceIte, reduceDIte, Nat.reduceEqDiff, Nat.reduceAdd, Nat.reduceSub, Nat.reduceMul, Nat.reduceLT, reduceCtorEq, Int.reduceEq, Int.reduceLT, Int.reduceLE, Int.reduceNeg, Int.reduceToNat, Int.reduceBNe, Int.reduceBEq, Int.reduceAdd, Int.reduceSub, Int.reduceMul, opnsL, Nat.reduceLeDiff, Nat.reduceGT, List.replicate, Nat.reduceShiftRight, Nat.reduceMod, Nat.reduceBEq, lendsL, ty_EvE_77]
  refine good_range l (fun k (a : List Val × Option (List Nat) × Val) g => ⟨[(0, .d (.mp (mdv m))), (5, .ptr ⟨0, 5, [0]⟩ 0), (6, .own 3 (a.1.map Val.dv) (tokD 0 31 a.2.1)), (7, .ptr ⟨0, 7, [0, 1]⟩ 0), (11, .d (.sl 6 (l.map Exp.dv))), (12, .d (.int .i64 l.length)), (13, .d (.int .i64 (k : Nat)))],
      tokP 0 31 (a.1.length * 3) a.2.1 ++ [(⟨0, 7, [0, 1]⟩, .box [.d (.int .i64 a.2.2.kind), .d (.int .i64 a.2.2.n), .d (.str a.2.2.s)]), (⟨0, 5, [0]⟩, .box [.d (.int .i64 0), .d (.int .i64 0), .d (.str [])])], g⟩) (fun k a => a.1.length ≤ k) (fun k a r => allSV (r.map (evE m)) a.1 a.2.2)
    (QA ⟨0, 5, [0]⟩ ⟨0, 7, [0, 1]⟩) ([], none, Val.zero) kp77_4 up_qa (Nat.le_refl _) (by omega) (by omega) ?_ ?_ ?_ ?_
  · rintro k ⟨acc, t, p⟩ g x rest hk hget hd hI hb w1
    have f0 := fun (S : St) (d dst : Nat) => ca_of (h x (List.mem_of_getElem? hget)) (d := d) (dst := dst) (S := S)
    have hget' : (l.map Exp.dv)[k]? = some (.agg [.int .i64 x.op, .int .i64 x.v.kind, .int .i64 x.v.n, .str x.v.s, .str x.name, .sl 6 (x.args.map Exp.dv)]) := by rw [List.getElem?_map, hget, ← Exp.dv_eq]; rfl
    simp only at hI
    have hA : ((acc.length + 1) * 32 ≤ 140737488355328) = True := eq_true (by omega)
    have hS : allSV ((x :: rest).map (evE m)) acc p = if ((evE m x).kind == 5) = true then .inl (evE m x) else allSV (rest.map (evE m)) (acc ++ [evE m x]) (if ((evE m x).kind == 4) = true then evE m x else p) := rfl
    generalize evE m x = w at *
    cases b5 : (w.kind == 5) with
    | true =>
      have hS' : allSV ((x :: rest).map (evE m)) acc p = .inl w := by rw [hS, if_pos b5]
      rcases t with _ | t
      · simp only [amr, amc, amp, if_true, if_false, ne_eq, gt_iff_lt, Option.getD, argsT, Option.bind, Option.map, List.headD, List.tail, reduceIte, reduceDIte, Nat.reduceEqDiff, Nat.reduceAdd, Nat.reduceSub, Nat.reduceMul, Nat.reduceLT, reduceCtorEq, Int.reduceEq, Int.reduceLT, Int.reduceLE, Int.reduceNeg, Int.reduceToNat, Int.reduceBNe, Int.reduceBEq, Int.reduceAdd, Int.reduceSub, Int.reduceMul, opnsL, Nat.reduceLeDiff, Nat.reduceGT, List.replicate, Nat.reduceShiftRight, Nat.reduceMod, Nat.reduceBEq, lendsL, ty_EvE_77, hb, hget', f0, b5, tokD, tokP, sx1, sx2]
        refine step_end (r := .inl w) (by simp) hS' (qa_inl ?_ ?_)
        · repeat first | exact subT_nil | refine subT_cons (by first | rfl | simp [Tm.get, *]) ?_
        · simp only [Heap.get, Id.mk.injEq, Nat.reduceEqDiff, false_and, and_false, if_false, if_true, and_self]
      · simp only [amr, amc, amp, if_true, if_false, ne_eq, gt_iff_lt, Option.getD, argsT, Option.bind, Option.map, List.headD, List.tail, reduceIte, reduceDIte, Nat.reduceEqDiff, Nat.reduceAdd, Nat.reduceSub, Nat.reduceMul, Nat.reduceLT, reduceCtorEq, Int.reduceEq, Int.reduceLT, Int.reduceLE, Int.reduceNeg, Int.reduceToNat, Int.reduceBNe, Int.reduceBEq, Int.reduceAdd, Int.reduceSub, Int.reduceMul, opnsL, Nat.reduceLeDiff, Nat.reduceGT, List.replicate, Nat.reduceShiftRight, Nat.reduceMod, Nat.reduceBEq, lendsL, ty_EvE_77, hb, hget', f0, b5, tokD, tokP, sx1, sx2]
        refine step_end (r := .inl w) (by simp) hS' (qa_inl ?_ ?_)
        · repeat first | exact subT_nil | refine subT_cons (by first | rfl | simp [Tm.get, *]) ?_
        · simp only [Heap.get, Id.mk.injEq, Nat.reduceEqDiff, false_and, and_false, if_false, if_true, and_self]
    | false =>
      have hS' : allSV ((x :: rest).map (evE m)) acc p = allSV (rest.map (evE m)) (acc ++ [w]) (if (w.kind == 4) = true then w else p) := by rw [hS, if_neg (by rw [b5]; decide)]
      cases b4 : (w.kind == 4) with
      | true =>
        rw [b4, if_pos rfl] at hS'
        rcases t with _ | t
        · simp only [amr, amc, amp, if_true, if_false, ne_eq, gt_iff_lt, Option.getD, argsT, Option.bind, Option.map, List.headD, List.tail, reduceIte, reduceDIte, Nat.reduceEqDiff, Nat.reduceAdd, Nat.reduceSub, Nat.reduceMul, Nat.reduceLT, reduceCtorEq, Int.reduceEq, Int.reduceLT, Int.reduceLE, Int.reduceNeg, Int.reduceToNat, Int.reduceBNe, Int.reduceBEq, Int.reduceAdd, Int.reduceSub, Int.reduceMul, opnsL, Nat.reduceLeDiff, Nat.reduceGT, List.replicate, Nat.reduceShiftRight, Nat.reduceMod, Nat.reduceBEq, lendsL, ty_EvE_77, hb, hget', f0, b5, b4, tokD, tokP, hA, w1]
          refine step_nrm (acc ++ [w], some (1 :: 1 :: g), w) ?_ hS' ?_
          · simp only [List.length_append, List.length_cons, List.length_nil]; omega
          · (apply Exists.intro; (try simp only [amr, amc, amp, if_true, if_false, ne_eq, gt_iff_lt, Option.getD, argsT, Option.bind, Option.map, List.headD, List.tail, reduceIte, reduceDIte, Nat.reduceEqDiff, Nat.reduceAdd, Nat.reduceSub, Nat.reduceMul, Nat.reduceLT, reduceCtorEq, Int.reduceEq, Int.reduceLT, Int.reduceLE, Int.reduceNeg, Int.reduceToNat, Int.reduceBNe, Int.reduceBEq, Int.reduceAdd, Int.reduceSub, Int.reduceMul, opnsL, Nat.reduceLeDiff, Nat.reduceGT, List.replicate, Nat.reduceShiftRight, Nat.reduceMod, Nat.reduceBEq, lendsL, tokD, tokP, Val.dv]); exact sub_mk (by repeat first | exact subT_nil | refine subT_cons (by first | rfl | simp [Tm.get, *]) ?_))
        · simp only [amr, amc, amp, if_true, if_false, ne_eq, gt_iff_lt, Option.getD, argsT, Option.bind, Option.map, List.headD, List.tail, reduceIte, reduceDIte, Nat.reduceEqDiff, Nat.reduceAdd, Nat.reduceSub, Nat.reduceMul, Nat.reduceLT, reduceCtorEq, Int.reduceEq, Int.reduceLT, Int.reduceLE, Int.reduceNeg, Int.reduceToNat, Int.reduceBNe, Int.reduceBEq, Int.reduceAdd, Int.reduceSub, Int.reduceMul, opnsL, Nat.reduceLeDiff, Nat.reduceGT, List.replicate, Nat.reduceShiftRight, Nat.reduceMod, Nat.reduceBEq, lendsL, ty_EvE_77, hb, hget', f0, b5, b4, tokD, tokP, hA, w1]
          refine step_nrm (acc ++ [w], some t, w) ?_ hS' ?_
          · simp only [List.length_append, List.length_cons, List.length_nil]; omega
          · (apply Exists.intro; (try simp only [amr, amc, amp, if_true, if_false, ne_eq, gt_iff_lt, Option.getD, argsT, Option.bind, Option.map, List.headD, List.tail, reduceIte, reduceDIte, Nat.reduceEqDiff, Nat.reduceAdd, Nat.reduceSub, Nat.reduceMul, Nat.reduceLT, reduceCtorEq, Int.reduceEq, Int.reduceLT, Int.reduceLE, Int.reduceNeg, Int.reduceToNat, Int.reduceBNe, Int.reduceBEq, Int.reduceAdd, Int.reduceSub, Int.reduceMul, opnsL, Nat.reduceLeDiff, Nat.reduceGT, List.replicate, Nat.reduceShiftRight, Nat.reduceMod, Nat.reduceBEq, lendsL, tokD, tokP, Val.dv]); exact sub_mk (by repeat first | exact subT_nil | refine subT_cons (by first | rfl | simp [Tm.get, *]) ?_))
      | false =>
        rw [b4, if_neg (by decide)] at hS'
        rcases t with _ | t
        · simp only [amr, amc, amp, if_true, if_false, ne_eq, gt_iff_lt, Option.getD, argsT, Option.bind, Option.map, List.headD, List.tail, reduceIte, reduceDIte, Nat.reduceEqDiff, Nat.reduceAdd, Nat.reduceSub, Nat.reduceMul, Nat.reduceLT, reduceCtorEq, Int.reduceEq, Int.reduceLT, Int.reduceLE, Int.reduceNeg, Int.reduceToNat, Int.reduceBNe, Int.reduceBEq, Int.reduceAdd, Int.reduceSub, Int.reduceMul, opnsL, Nat.reduceLeDiff, Nat.reduceGT, List.replicate, Nat.reduceShiftRight, Nat.reduceMod, Nat.reduceBEq, lendsL, ty_EvE_77, hb, hget', f0, b5, b4, tokD, tokP, hA, w1]
          refine step_nrm (acc ++ [w], some (1 :: 1 :: g), p) ?_ hS' ?_
          · simp only [List.length_append, List.length_cons, List.length_nil]; omega
          · (apply Exists.intro; (try simp only [amr, amc, amp, if_true, if_false, ne_eq, gt_iff_lt, Option.getD, argsT, Option.bind, Option.map, List.headD, List.tail, reduceIte, reduceDIte, Nat.reduceEqDiff, Nat.reduceAdd, Nat.reduceSub, Nat.reduceMul, Nat.reduceLT, reduceCtorEq, Int.reduceEq, Int.reduceLT, Int.reduceLE, Int.reduceNeg, Int.reduceToNat, Int.reduceBNe, Int.reduceBEq, Int.reduceAdd, Int.reduceSub, Int.reduceMul, opnsL, Nat.reduceLeDiff, Nat.reduceGT, List.replicate, Nat.reduceShiftRight, Nat.reduceMod, Nat.reduceBEq, lendsL, tokD, tokP, Val.dv]); exact sub_mk (by repeat first | exact subT_nil | refine subT_cons (by first | rfl | simp [Tm.get, *]) ?_))
        · simp only [amr, amc, amp, if_true, if_false, ne_eq, gt_iff_lt, Option.getD, argsT, Option.bind, Option.map, List.headD, List.tail, reduceIte, reduceDIte, Nat.reduceEqDiff, Nat.reduceAdd, Nat.reduceSub, Nat.reduceMul, Nat.reduceLT, reduceCtorEq, Int.reduceEq, Int.reduceLT, Int.reduceLE, Int.reduceNeg, Int.reduceToNat, Int.reduceBNe, Int.reduceBEq, Int.reduceAdd, Int.reduceSub, Int.reduceMul, opnsL, Nat.reduceLeDiff, Nat.reduceGT, List.replicate, Nat.reduceShiftRight, Nat.reduceMod, Nat.reduceBEq, lendsL, ty_EvE_77, hb, hget', f0, b5, b4, tokD, tokP, hA, w1]
          refine step_nrm (acc ++ [w], some t, p) ?_ hS' ?_
          · simp only [List.length_append, List.length_cons, List.length_nil]; omega
          · (apply Exists.intro; (try simp only [amr, amc, amp, if_true, if_false, ne_eq, gt_iff_lt, Option.getD, argsT, Option.bind, Option.map, List.headD, List.tail, reduceIte, reduceDIte, Nat.reduceEqDiff, Nat.reduceAdd, Nat.reduceSub, Nat.reduceMul, Nat.reduceLT, reduceCtorEq, Int.reduceEq, Int.reduceLT, Int.reduceLE, Int.reduceNeg, Int.reduceToNat, Int.reduceBNe, Int.reduceBEq, Int.reduceAdd, Int.reduceSub, Int.reduceMul, opnsL, Nat.reduceLeDiff, Nat.reduceGT, List.replicate, Nat.reduceShiftRight, Nat.reduceMod, Nat.reduceBEq, lendsL, tokD, tokP, Val.dv]); exact sub_mk (by repeat first | exact subT_nil | refine subT_cons (by first | rfl | simp [Tm.get, *]) ?_))
  · rintro ⟨acc, t, p⟩ g _ hb
    simp only [amr, amc, amp, if_true, if_false, ne_eq, gt_iff_lt, Option.getD, argsT, Option.bind, Option.map, List.headD, List.tail, reduceIte, reduceDIte, Nat.reduceEqDiff, Nat.reduceAdd, Nat.reduceSub, Nat.reduceMul, Nat.reduceLT, reduceCtorEq, Int.reduceEq, Int.reduceLT, Int.reduceLE, Int.reduceNeg, Int.reduceToNat, Int.reduceBNe, Int.reduceBEq, Int.reduceAdd, Int.reduceSub, Int.reduceMul, opnsL, Nat.reduceLeDiff, Nat.reduceGT, List.replicate, Nat.reduceShiftRight, Nat.reduceMod, Nat.reduceBEq, lendsL, ty_EvE_77, hb]
    refine last_end (by simp) ?_
    simp only [List.map_nil, allSV]
    refine ⟨rfl, t, ?_⟩
    rcases t with _ | t
    · (apply Exists.intro; (try simp only [amr, amc, amp, if_true, if_false, ne_eq, gt_iff_lt, Option.getD, argsT, Option.bind, Option.map, List.headD, List.tail, reduceIte, reduceDIte, Nat.reduceEqDiff, Nat.reduceAdd, Nat.reduceSub, Nat.reduceMul, Nat.reduceLT, reduceCtorEq, Int.reduceEq, Int.reduceLT, Int.reduceLE, Int.reduceNeg, Int.reduceToNat, Int.reduceBNe, Int.reduceBEq, Int.reduceAdd, Int.reduceSub, Int.reduceMul, opnsL, Nat.reduceLeDiff, Nat.reduceGT, List.replicate, Nat.reduceShiftRight, Nat.reduceMod, Nat.reduceBEq, lendsL, tokD, tokP]); exact sub_mk (by repeat first | exact subT_nil | refine subT_cons (by first | rfl | simp [Tm.get, *]) ?_))
    · (apply Exists.intro; (try simp only [amr, amc, amp, if_true, if_false, ne_eq, gt_iff_lt, Option.getD, argsT, Option.bind, Option.map, List.headD, List.tail, reduceIte, reduceDIte, Nat.reduceEqDiff, Nat.reduceAdd, Nat.reduceSub, Nat.reduceMul, Nat.reduceLT, reduceCtorEq, Int.reduceEq, Int.reduceLT, Int.reduceLE, Int.reduceNeg, Int.reduceToNat, Int.reduceBNe, Int.reduceBEq, Int.reduceAdd, Int.reduceSub, Int.reduceMul, opnsL, Nat.reduceLeDiff, Nat.reduceGT, List.replicate, Nat.reduceShiftRight, Nat.reduceMod, Nat.reduceBEq, lendsL, tokD, tokP]); exact sub_mk (by repeat first | exact subT_nil | refine subT_cons (by first | rfl | simp [Tm.get, *]) ?_))
  · (apply Exists.intro; (try simp only [amr, amc, amp, if_true, if_false, ne_eq, gt_iff_lt, Option.getD, argsT, Option.bind, Option.map, List.headD, List.tail, reduceIte, reduceDIte, Nat.reduceEqDiff, Nat.reduceAdd, Nat.reduceSub, Nat.reduceMul, Nat.reduceLT, reduceCtorEq, Int.reduceEq, Int.reduceLT, Int.reduceLE, Int.reduceNeg, Int.reduceToNat, Int.reduceBNe, Int.reduceBEq, Int.reduceAdd, Int.reduceSub, Int.reduceMul, opnsL, Nat.reduceLeDiff, Nat.reduceGT, List.replicate, Nat.reduceShiftRight, Nat.reduceMod, Nat.reduceBEq, lendsL, tokD, tokP, Val.zero]); exact sub_mk (by repeat first | exact subT_nil | refine subT_cons (by first | rfl | simp [Tm.get, *]) ?_))
  · intro o S' hq
    cases hr : allSV (l.map (evE m)) [] Val.zero with
    | inl w =>
      simp only [hr] at hq
      obtain ⟨rfl, H, g, hs, hp⟩ := hq
      refine good_sub_cr up_finq hs ?_
      simp only [allAns]
      simp only [amr, amc, amp, if_true, if_false, ne_eq, gt_iff_lt, Option.getD, argsT, Option.bind, Option.map, List.headD, List.tail, reduceIte, reduceDIte, Nat.reduceEqDiff, Nat.reduceAdd, Nat.reduceSub, Nat.reduceMul, Nat.reduceLT, reduceCtorEq, Int.reduceEq, Int.reduceLT, Int.reduceLE, Int.reduceNeg, Int.reduceToNat, Int.reduceBNe, Int.reduceBEq, Int.reduceAdd, Int.reduceSub, Int.reduceMul, opnsL, Nat.reduceLeDiff, Nat.reduceGT, List.replicate, Nat.reduceShiftRight, Nat.reduceMod, Nat.reduceBEq, lendsL, ty_EvE_77, Val.dv, hp]
    | inr q =>
      obtain ⟨acc, p⟩ := q
      simp only [hr] at hq
      obtain ⟨rfl, t, g, hs⟩ := hq
      refine good_sub_cr up_finq hs ?_
      simp only [allAns]
      rcases t with _ | t
      · simp only [amr, amc, amp, if_true, if_false, ne_eq, gt_iff_lt, Option.getD, argsT, Option.bind, Option.map, List.headD, List.tail, reduceIte, reduceDIte, Nat.reduceEqDiff, Nat.reduceAdd, Nat.reduceSub, Nat.reduceMul, Nat.reduceLT, reduceCtorEq, Int.reduceEq, Int.reduceLT, Int.reduceLE, Int.reduceNeg, Int.reduceToNat, Int.reduceBNe, Int.reduceBEq, Int.reduceAdd, Int.reduceSub, Int.reduceMul, opnsL, Nat.reduceLeDiff, Nat.reduceGT, List.replicate, Nat.reduceShiftRight, Nat.reduceMod, Nat.reduceBEq, lendsL, ty_EvE_77, Val.dv, tokD, tokP]
      · simp only [amr, amc, amp, if_true, if_false, ne_eq, gt_iff_lt, Option.getD, argsT, Option.bind, Option.map, List.headD, List.tail, reduceIte, reduceDIte, Nat.reduceEqDiff, Nat.reduceAdd, Nat.reduceSub, Nat.reduceMul, Nat.reduceLT, reduceCtorEq, Int.reduceEq, Int.reduceLT, Int.reduceLE, Int.reduceNeg, Int.reduceToNat, Int.reduceBNe, Int.reduceBEq, Int.reduceAdd, Int.reduceSub, Int.reduceMul, opnsL, Nat.reduceLeDiff, Nat.reduceGT, List.replicate, Nat.reduceShiftRight, Nat.reduceMod, Nat.reduceBEq, lendsL, ty_EvE_77, Val.dv, tokD, tokP]
theorem ca_all {m : VMap} (l : List Exp) (hl : l.length ≤ 1048576) (h : ∀ x ∈ l, OfOK m x) {d dst : Nat} {S : St} : callA tab (callR tab) d dst 77 [.d (.mp (mdv m)), .d (.sl 6 (l.map Exp.dv))] S = some (.tup [.d (.sl 3 ((allAns (allSV (l.map (evE m)) [] Val.zero)).1.map Val.dv)), .d (allAns (allSV (l.map (evE m)) [] Val.zero)).2.dv], S) :=
  ca_retT (ds := [.mp (mdv m), .sl 6 (l.map Exp.dv)]) (ret_all l hl h) rfl (tab_opn (by kernel_rfl)) (tab_res (by kernel_rfl))
end Go.Proofs.Ytjjjkoknodcaaaa.Am
