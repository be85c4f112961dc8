/- What formulas are: every formula. -/
import Derived.Test.YtjjjkoknodcaaaaEvE
set_option linter.unusedVariables false
set_option linter.unusedSimpArgs false
namespace Go.Proofs.Ytjjjkoknodcaaaa.Am
open Go Go.RowKit
theorem ty_EvF_53 : type_of% (And.intro (And.intro (And.intro (And.intro (And.intro (And.intro @rs53 @lv53_0) (And.intro @ro27_3_eval_go_61 (And.intro @lv53_1 @lv53_2))) (And.intro (And.intro @lv53_3 @lv53_4) (And.intro @lv53_5 (And.intro @lv53_6 @lv53_7)))) (And.intro (And.intro (And.intro @lv53_8 @lv53_9) (And.intro @lv53_10 (And.intro @lv53_11 @lv53_12))) (And.intro (And.intro @lv53_13 (And.intro @lv53_14 @lv53_15)) (And.intro @lv53_16 (And.intro @lv53_17 @lv53_18))))) (And.intro (And.intro (And.intro (And.intro @lv53_19 @lv53_20) (And.intro @lv53_21 (And.intro @lv53_22 @lv53_23))) (And.intro (And.intro @und1 (And.intro @sz1 @ag1)) (And.intro @inf1 (And.intro @und2 @sz2)))) (And.intro (And.intro (And.intro @ag2 @lv2) (And.intro @inf2 (And.intro @und3 @sz3))) (And.intro (And.intro @ag3 (And.intro @lv3 @inf3)) (And.intro @und4 (And.intro @sz4 @ag4)))))) (And.intro (And.intro (And.intro (And.intro (And.intro @lv4 @inf4) (And.intro @und9 (And.intro @sz9 @ag9))) (And.intro (And.intro @lv9 @inf9) (And.intro @und24 (And.intro @sz24 @ag24)))) (And.intro (And.intro (And.intro @fo24 @bA24) (And.intro @pT24_0 (And.intro @pT24_1 @pT24_2))) (And.intro (And.intro @lv24 (And.intro @inf24 @und25)) (And.intro @sz25 (And.intro @ag25 @pT25))))) (And.intro (And.intro (And.intro (And.intro @inf25 @und27) (And.intro @sz27 (And.intro @ag27 @fo27))) (And.intro (And.intro @bA27 (And.intro @pT27_0 @pT27_1)) (And.intro @pT27_2 (And.intro @pT27_3 @inf27)))) (And.intro (And.intro (And.intro @und34 @sz34) (And.intro @ag34 (And.intro @lv34 @inf34))) (And.intro (And.intro @und95 (And.intro @und121 @sz121)) (And.intro @ag121 (And.intro @pT121 @inf121))))))) := (And.intro (And.intro (And.intro (And.intro (And.intro (And.intro @rs53 @lv53_0) (And.intro @ro27_3_eval_go_61 (And.intro @lv53_1 @lv53_2))) (And.intro (And.intro @lv53_3 @lv53_4) (And.intro @lv53_5 (And.intro @lv53_6 @lv53_7)))) (And.intro (And.intro (And.intro @lv53_8 @lv53_9) (And.intro @lv53_10 (And.intro @lv53_11 @lv53_12))) (And.intro (And.intro @lv53_13 (And.intro @lv53_14 @lv53_15)) (And.intro @lv53_16 (And.intro @lv53_17 @lv53_18))))) (And.intro (And.intro (And.intro (And.intro @lv53_19 @lv53_20) (And.intro @lv53_21 (And.intro @lv53_22 @lv53_23))) (And.intro (And.intro @und1 (And.intro @sz1 @ag1)) (And.intro @inf1 (And.intro @und2 @sz2)))) (And.intro (And.intro (And.intro @ag2 @lv2) (And.intro @inf2 (And.intro @und3 @sz3))) (And.intro (And.intro @ag3 (And.intro @lv3 @inf3)) (And.intro @und4 (And.intro @sz4 @ag4)))))) (And.intro (And.intro (And.intro (And.intro (And.intro @lv4 @inf4) (And.intro @und9 (And.intro @sz9 @ag9))) (And.intro (And.intro @lv9 @inf9) (And.intro @und24 (And.intro @sz24 @ag24)))) (And.intro (And.intro (And.intro @fo24 @bA24) (And.intro @pT24_0 (And.intro @pT24_1 @pT24_2))) (And.intro (And.intro @lv24 (And.intro @inf24 @und25)) (And.intro @sz25 (And.intro @ag25 @pT25))))) (And.intro (And.intro (And.intro (And.intro @inf25 @und27) (And.intro @sz27 (And.intro @ag27 @fo27))) (And.intro (And.intro @bA27 (And.intro @pT27_0 @pT27_1)) (And.intro @pT27_2 (And.intro @pT27_3 @inf27)))) (And.intro (And.intro (And.intro @und34 @sz34) (And.intro @ag34 (And.intro @lv34 @inf34))) (And.intro (And.intro @und95 (And.intro @und121 @sz121)) (And.intro @ag121 (And.intro @pT121 @inf121)))))))
set_option maxRecDepth 100000
set_option maxHeartbeats 40000000


theorem ca_first {m : VMap} (x y : Exp) (hy : x.args[0]? = some y) (h : OfOK m y) {d dst : Nat} {S : St} : callA tab (callR tab) d dst 75 [.d (.mp (mdv m)), .d (.agg [.int .i64 x.op, .int .i64 x.v.kind, .int .i64 x.v.n, .str x.v.s, .str x.name, .sl 6 (x.args.map Exp.dv)])] S = some (.tup [.d (.agg [.int .i64 (firstV (evE m y)).1.kind, .int .i64 (firstV (evE m y)).1.n, .str (firstV (evE m y)).1.s]), .d (.bool (firstV (evE m y)).2)], S) := by
  rw [← Exp.dv_eq]
  exact ca_ret_tup (ds := [.mp (mdv m), x.dv]) (ys := [(firstV (evE m y)).1.dv, .bool (firstV (evE m y)).2]) (ret_first x y hy h) rfl (tab_opn (by kernel_rfl)) (tab_res (by kernel_rfl)) rfl
theorem ca_boolV {m : VMap} (x : Exp) (h : OfOK m x) {d dst : Nat} {S : St} : callA tab (callR tab) d dst 76 [.d (.mp (mdv m)), .d (.agg [.int .i64 x.op, .int .i64 x.v.kind, .int .i64 x.v.n, .str x.v.s, .str x.name, .sl 6 (x.args.map Exp.dv)])] S = some (.d (.agg [.int .i64 (boolV (evE m x)).kind, .int .i64 (boolV (evE m x)).n, .str (boolV (evE m x)).s]), S) := by
  rw [← Exp.dv_eq]
  exact ca_ret (ds := [.mp (mdv m), x.dv]) (ret_boolV x h) rfl (tab_opn (by kernel_rfl)) (tab_res (by kernel_rfl))
theorem ca_apply {op : Int} {vs : List Val} (h1 : 1 ≤ op) (hv : ∀ v ∈ vs, VOK v) (hn : (vs.length = 1 ∧ (op = 3 ∨ op = 4 ∨ op = 18)) ∨ (vs.length = 2 ∧ 5 ≤ op ∧ op ≤ 14)) {d dst : Nat} {S : St} : callA tab (callR tab) d dst 78 [.d (.int .i64 op), .d (.sl 3 (vs.map Val.dv))] S = some (.d (.agg [.int .i64 (applyV op vs).kind, .int .i64 (applyV op vs).n, .str (applyV op vs).s]), S) := by
  rcases hn with ⟨hn, ho⟩ | ⟨hn, ho⟩
  · obtain ⟨a, rfl⟩ := len1 hn
    exact ca_ret (ds := [.int .i64 op, .sl 3 [a.dv]]) (ret_ap1 op a ho (hv a (by simp))) rfl (tab_opn (by kernel_rfl)) (tab_res (by kernel_rfl))
  · obtain ⟨a, b, rfl⟩ := len2 hn
    have la := vok_len (hv a (by simp))
    have lb := vok_len (hv b (by simp))
    exact ca_ret (ds := [.int .i64 op, .sl 3 [a.dv, b.dv]]) (ret_ap2 op a b ho.1 ho.2 (hv a (by simp)) (by omega) (by omega)) rfl (tab_opn (by kernel_rfl)) (tab_res (by kernel_rfl))
theorem arg_at {l : List Exp} {k : Nat} {y : Exp} (h : l[k]? = some y) : (l.map Exp.dv)[k]? = some (.agg [.int .i64 y.op, .int .i64 y.v.kind, .int .i64 y.v.n, .str y.v.s, .str y.name, .sl 6 (y.args.map Exp.dv)]) := by rw [List.getElem?_map, h, ← Exp.dv_eq]; rfl
theorem mk_op (op : Int) (v : Val) (n : List UInt8) (l : List Exp) : (Exp.mk op v n l).op = op := rfl
theorem mk_v (op : Int) (v : Val) (n : List UInt8) (l : List Exp) : (Exp.mk op v n l).v = v := rfl
theorem mk_name (op : Int) (v : Val) (n : List UInt8) (l : List Exp) : (Exp.mk op v n l).name = n := rfl
theorem mk_args (op : Int) (v : Val) (n : List UInt8) (l : List Exp) : (Exp.mk op v n l).args = l := rfl
section
variable {m : VMap} {op : Int} {v : Val} {name : List UInt8} {args : List Exp}
theorem of_const : OfOK m (.mk 1 v name args) := by
  unfold OfOK
  rw [Exp.dv_mk, show evE m (.mk 1 v name args) = v by unfold evE; rw [if_pos rfl]]
  refine ret_of 1 fn53 rfl rfl ?_
  simp only [amr, amc, amp, if_true, if_false, ne_eq, gt_iff_lt, Option.getD, argsT, Option.bind, Option.map, List.headD, List.tail, reduceIte, reduceDIte, Nat.reduceEqDiff, Nat.reduceAdd, Nat.reduceSub, Nat.reduceMul, Nat.reduceLT, reduceCtorEq, Int.reduceEq, Int.reduceLT, Int.reduceLE, Int.reduceNeg, Int.reduceToNat, Int.reduceBNe, Int.reduceBEq, Int.reduceAdd, Int.reduceSub, Int.reduceMul, opnsL, Nat.reduceLeDiff, Nat.reduceGT, List.replicate, Nat.reduceShiftRight, Nat.reduceMod, Nat.reduceBEq, lendsL, ty_EvF_53, Val.dv]
theorem of_ref : OfOK m (.mk 2 v name args) := by
  unfold OfOK
  rw [Exp.dv_mk]
  have fk := fk_mdv name m
  have he : evE m (.mk 2 v name args) = match lookV m name with
      | some w => w
      | none => fault 5 := by rw [evE, if_neg (by decide), if_pos rfl]; cases lookV m name <;> rfl
  rw [he]
  cases hl : lookV m name with
  | none =>
    rw [hl, Option.map_none] at fk
    refine ret_of 1 fn53 rfl rfl ?_
    simp only [amr, amc, amp, if_true, if_false, ne_eq, gt_iff_lt, Option.getD, argsT, Option.bind, Option.map, List.headD, List.tail, reduceIte, reduceDIte, Nat.reduceEqDiff, Nat.reduceAdd, Nat.reduceSub, Nat.reduceMul, Nat.reduceLT, reduceCtorEq, Int.reduceEq, Int.reduceLT, Int.reduceLE, Int.reduceNeg, Int.reduceToNat, Int.reduceBNe, Int.reduceBEq, Int.reduceAdd, Int.reduceSub, Int.reduceMul, opnsL, Nat.reduceLeDiff, Nat.reduceGT, List.replicate, Nat.reduceShiftRight, Nat.reduceMod, Nat.reduceBEq, lendsL, ty_EvF_53, Val.dv, fault, fk, ca_faultO, beq_self_eq_true]
  | some w =>
    rw [hl, Option.map_some] at fk
    refine ret_of 1 fn53 rfl rfl ?_
    simp only [amr, amc, amp, if_true, if_false, ne_eq, gt_iff_lt, Option.getD, argsT, Option.bind, Option.map, List.headD, List.tail, reduceIte, reduceDIte, Nat.reduceEqDiff, Nat.reduceAdd, Nat.reduceSub, Nat.reduceMul, Nat.reduceLT, reduceCtorEq, Int.reduceEq, Int.reduceLT, Int.reduceLE, Int.reduceNeg, Int.reduceToNat, Int.reduceBNe, Int.reduceBEq, Int.reduceAdd, Int.reduceSub, Int.reduceMul, opnsL, Nat.reduceLeDiff, Nat.reduceGT, List.replicate, Nat.reduceShiftRight, Nat.reduceMod, Nat.reduceBEq, lendsL, ty_EvF_53, Val.dv, fk, beq_self_eq_true]
theorem of_if {a b c : Exp} (ha : OfOK m a) (hb : OfOK m b) (hc : OfOK m c) (va : VOK (evE m a)) : OfOK m (.mk 17 v name [a, b, c]) := by
  unfold OfOK
  have f1 := fun (S : St) (d dst : Nat) => ca_first (.mk 17 v name [a, b, c]) a rfl ha (d := d) (dst := dst) (S := S)
  have f2 := fun (S : St) (d dst : Nat) => ca_of hb (d := d) (dst := dst) (S := S)
  have f3 := fun (S : St) (d dst : Nat) => ca_of hc (d := d) (dst := dst) (S := S)
  have hv := vok_first va
  have he : evE m (.mk 17 v name [a, b, c]) = ifV (evE m a) (evE m b) (evE m c) := by rw [evE, if_neg (by decide), if_neg (by decide), if_pos rfl]; simp only [evL]
  rw [Exp.dv_mk, he]
  unfold ifV
  simp only [mk_op, mk_v, mk_name, mk_args, List.map_cons, List.map_nil, Exp.dv_eq a, Exp.dv_eq b, Exp.dv_eq c] at f1 ⊢
  generalize firstV (evE m a) = w at *
  generalize evE m b = vb at *
  generalize evE m c = vc at *
  cases k : w.2 with
  | false =>
    rw [if_pos rfl]
    refine ret_of 1 fn53 rfl rfl ?_
    simp only [amr, amc, amp, if_true, if_false, ne_eq, gt_iff_lt, Option.getD, argsT, Option.bind, Option.map, List.headD, List.tail, reduceIte, reduceDIte, Nat.reduceEqDiff, Nat.reduceAdd, Nat.reduceSub, Nat.reduceMul, Nat.reduceLT, reduceCtorEq, Int.reduceEq, Int.reduceLT, Int.reduceLE, Int.reduceNeg, Int.reduceToNat, Int.reduceBNe, Int.reduceBEq, Int.reduceAdd, Int.reduceSub, Int.reduceMul, opnsL, Nat.reduceLeDiff, Nat.reduceGT, List.replicate, Nat.reduceShiftRight, Nat.reduceMod, Nat.reduceBEq, lendsL, ty_EvF_53, Val.dv, f1, k]
  | true =>
    rw [if_neg (by decide)]
    have h01 := vok_bool hv.1 (hv.2 k)
    by_cases h1 : w.1.n = 1
    · rw [if_pos h1]
      rw [h1] at f1
      refine ret_of 1 fn53 rfl rfl ?_
      simp only [amr, amc, amp, if_true, if_false, ne_eq, gt_iff_lt, Option.getD, argsT, Option.bind, Option.map, List.headD, List.tail, reduceIte, reduceDIte, Nat.reduceEqDiff, Nat.reduceAdd, Nat.reduceSub, Nat.reduceMul, Nat.reduceLT, reduceCtorEq, Int.reduceEq, Int.reduceLT, Int.reduceLE, Int.reduceNeg, Int.reduceToNat, Int.reduceBNe, Int.reduceBEq, Int.reduceAdd, Int.reduceSub, Int.reduceMul, opnsL, Nat.reduceLeDiff, Nat.reduceGT, List.replicate, Nat.reduceShiftRight, Nat.reduceMod, Nat.reduceBEq, lendsL, ty_EvF_53, Val.dv, f1, f2, k, (show IntKind.i64.wrap 0 = 0 from rfl), (show IntKind.i64.wrap 1 = 1 from rfl), (show IntKind.i64.wrap 2 = 2 from rfl), (show IntKind.i64.wrap 3 = 3 from rfl), (show IntKind.i64.wrap 4 = 4 from rfl), (show IntKind.i64.wrap 5 = 5 from rfl), (show IntKind.i64.wrap 6 = 6 from rfl), (show IntKind.i64.wrap 7 = 7 from rfl), (show IntKind.i64.wrap 8 = 8 from rfl), (show IntKind.i64.wrap 9 = 9 from rfl), (show IntKind.i64.wrap 10 = 10 from rfl), (show IntKind.i64.wrap 11 = 11 from rfl), (show IntKind.i64.wrap 12 = 12 from rfl), (show IntKind.i64.wrap 13 = 13 from rfl), (show IntKind.i64.wrap 14 = 14 from rfl)]
    · have h0 : w.1.n = 0 := h01.resolve_right h1
      rw [if_neg h1]
      rw [h0] at f1
      refine ret_of 1 fn53 rfl rfl ?_
      simp only [amr, amc, amp, if_true, if_false, ne_eq, gt_iff_lt, Option.getD, argsT, Option.bind, Option.map, List.headD, List.tail, reduceIte, reduceDIte, Nat.reduceEqDiff, Nat.reduceAdd, Nat.reduceSub, Nat.reduceMul, Nat.reduceLT, reduceCtorEq, Int.reduceEq, Int.reduceLT, Int.reduceLE, Int.reduceNeg, Int.reduceToNat, Int.reduceBNe, Int.reduceBEq, Int.reduceAdd, Int.reduceSub, Int.reduceMul, opnsL, Nat.reduceLeDiff, Nat.reduceGT, List.replicate, Nat.reduceShiftRight, Nat.reduceMod, Nat.reduceBEq, lendsL, ty_EvF_53, Val.dv, f1, f3, k, (show IntKind.i64.wrap 0 = 0 from rfl), (show IntKind.i64.wrap 1 = 1 from rfl), (show IntKind.i64.wrap 2 = 2 from rfl), (show IntKind.i64.wrap 3 = 3 from rfl), (show IntKind.i64.wrap 4 = 4 from rfl), (show IntKind.i64.wrap 5 = 5 from rfl), (show IntKind.i64.wrap 6 = 6 from rfl), (show IntKind.i64.wrap 7 = 7 from rfl), (show IntKind.i64.wrap 8 = 8 from rfl), (show IntKind.i64.wrap 9 = 9 from rfl), (show IntKind.i64.wrap 10 = 10 from rfl), (show IntKind.i64.wrap 11 = 11 from rfl), (show IntKind.i64.wrap 12 = 12 from rfl), (show IntKind.i64.wrap 13 = 13 from rfl), (show IntKind.i64.wrap 14 = 14 from rfl)]
theorem of_and {a b : Exp} (hop : op = 15 ∨ op = 16) (ha : OfOK m a) (hb : OfOK m b) : OfOK m (.mk op v name [a, b]) := by
  unfold OfOK
  have f1 := fun (S : St) (d dst : Nat) => ca_first (.mk op v name [a, b]) a rfl ha (d := d) (dst := dst) (S := S)
  have f2 := fun (S : St) (d dst : Nat) => ca_boolV b hb (d := d) (dst := dst) (S := S)
  have he : evE m (.mk op v name [a, b]) = andV op (evE m a) (evE m b) := by rw [evE, if_neg (by omega), if_neg (by omega), if_neg (by omega), if_pos hop]; simp only [evL]
  rw [Exp.dv_mk, he]
  unfold andV
  simp only [mk_op, mk_v, mk_name, mk_args, List.map_cons, List.map_nil, Exp.dv_eq a, Exp.dv_eq b] at f1 ⊢
  generalize firstV (evE m a) = w at *
  generalize boolV (evE m b) = vb at *
  have b1 : (op == 1) = false := beq_eq_false_iff_ne.2 (by omega)
  have b2 : (op == 2) = false := beq_eq_false_iff_ne.2 (by omega)
  obtain ⟨⟨wk, wn, ws⟩, wb⟩ := w
  simp only at f1 ⊢
  rcases hop with rfl | rfl
  · cases wb with
    | false =>
      rw [if_pos rfl]
      refine ret_of 1 fn53 rfl rfl ?_
      simp only [amr, amc, amp, if_true, if_false, ne_eq, gt_iff_lt, Option.getD, argsT, Option.bind, Option.map, List.headD, List.tail, reduceIte, reduceDIte, Nat.reduceEqDiff, Nat.reduceAdd, Nat.reduceSub, Nat.reduceMul, Nat.reduceLT, reduceCtorEq, Int.reduceEq, Int.reduceLT, Int.reduceLE, Int.reduceNeg, Int.reduceToNat, Int.reduceBNe, Int.reduceBEq, Int.reduceAdd, Int.reduceSub, Int.reduceMul, opnsL, Nat.reduceLeDiff, Nat.reduceGT, List.replicate, Nat.reduceShiftRight, Nat.reduceMod, Nat.reduceBEq, lendsL, ty_EvF_53, Val.dv, f1]
    | true =>
      rw [if_neg (by decide)]
      cases k : (wn == 1) with
      | true =>
        rw [if_neg (by decide)]
        refine ret_of 1 fn53 rfl rfl ?_
        simp only [amr, amc, amp, if_true, if_false, ne_eq, gt_iff_lt, Option.getD, argsT, Option.bind, Option.map, List.headD, List.tail, reduceIte, reduceDIte, Nat.reduceEqDiff, Nat.reduceAdd, Nat.reduceSub, Nat.reduceMul, Nat.reduceLT, reduceCtorEq, Int.reduceEq, Int.reduceLT, Int.reduceLE, Int.reduceNeg, Int.reduceToNat, Int.reduceBNe, Int.reduceBEq, Int.reduceAdd, Int.reduceSub, Int.reduceMul, opnsL, Nat.reduceLeDiff, Nat.reduceGT, List.replicate, Nat.reduceShiftRight, Nat.reduceMod, Nat.reduceBEq, lendsL, ty_EvF_53, Val.dv, f1, f2, k, Bool.true_beq, Bool.false_beq]
      | false =>
        rw [if_pos (by decide)]
        refine ret_of 1 fn53 rfl rfl ?_
        simp only [amr, amc, amp, if_true, if_false, ne_eq, gt_iff_lt, Option.getD, argsT, Option.bind, Option.map, List.headD, List.tail, reduceIte, reduceDIte, Nat.reduceEqDiff, Nat.reduceAdd, Nat.reduceSub, Nat.reduceMul, Nat.reduceLT, reduceCtorEq, Int.reduceEq, Int.reduceLT, Int.reduceLE, Int.reduceNeg, Int.reduceToNat, Int.reduceBNe, Int.reduceBEq, Int.reduceAdd, Int.reduceSub, Int.reduceMul, opnsL, Nat.reduceLeDiff, Nat.reduceGT, List.replicate, Nat.reduceShiftRight, Nat.reduceMod, Nat.reduceBEq, lendsL, ty_EvF_53, Val.dv, f1, f2, k, Bool.true_beq, Bool.false_beq]
  · cases wb with
    | false =>
      rw [if_pos rfl]
      refine ret_of 1 fn53 rfl rfl ?_
      simp only [amr, amc, amp, if_true, if_false, ne_eq, gt_iff_lt, Option.getD, argsT, Option.bind, Option.map, List.headD, List.tail, reduceIte, reduceDIte, Nat.reduceEqDiff, Nat.reduceAdd, Nat.reduceSub, Nat.reduceMul, Nat.reduceLT, reduceCtorEq, Int.reduceEq, Int.reduceLT, Int.reduceLE, Int.reduceNeg, Int.reduceToNat, Int.reduceBNe, Int.reduceBEq, Int.reduceAdd, Int.reduceSub, Int.reduceMul, opnsL, Nat.reduceLeDiff, Nat.reduceGT, List.replicate, Nat.reduceShiftRight, Nat.reduceMod, Nat.reduceBEq, lendsL, ty_EvF_53, Val.dv, f1]
    | true =>
      rw [if_neg (by decide)]
      cases k : (wn == 1) with
      | true =>
        rw [if_pos (by decide)]
        refine ret_of 1 fn53 rfl rfl ?_
        simp only [amr, amc, amp, if_true, if_false, ne_eq, gt_iff_lt, Option.getD, argsT, Option.bind, Option.map, List.headD, List.tail, reduceIte, reduceDIte, Nat.reduceEqDiff, Nat.reduceAdd, Nat.reduceSub, Nat.reduceMul, Nat.reduceLT, reduceCtorEq, Int.reduceEq, Int.reduceLT, Int.reduceLE, Int.reduceNeg, Int.reduceToNat, Int.reduceBNe, Int.reduceBEq, Int.reduceAdd, Int.reduceSub, Int.reduceMul, opnsL, Nat.reduceLeDiff, Nat.reduceGT, List.replicate, Nat.reduceShiftRight, Nat.reduceMod, Nat.reduceBEq, lendsL, ty_EvF_53, Val.dv, f1, f2, k, Bool.true_beq, Bool.false_beq]
      | false =>
        rw [if_neg (by decide)]
        refine ret_of 1 fn53 rfl rfl ?_
        simp only [amr, amc, amp, if_true, if_false, ne_eq, gt_iff_lt, Option.getD, argsT, Option.bind, Option.map, List.headD, List.tail, reduceIte, reduceDIte, Nat.reduceEqDiff, Nat.reduceAdd, Nat.reduceSub, Nat.reduceMul, Nat.reduceLT, reduceCtorEq, Int.reduceEq, Int.reduceLT, Int.reduceLE, Int.reduceNeg, Int.reduceToNat, Int.reduceBNe, Int.reduceBEq, Int.reduceAdd, Int.reduceSub, Int.reduceMul, opnsL, Nat.reduceLeDiff, Nat.reduceGT, List.replicate, Nat.reduceShiftRight, Nat.reduceMod, Nat.reduceBEq, lendsL, ty_EvF_53, Val.dv, f1, f2, k, Bool.true_beq, Bool.false_beq]
theorem opV_ans (op : Int) (vs : List Val) : opV op vs = if (allAns (allSV vs [] Val.zero)).2.kind ≠ 0 then (allAns (allSV vs [] Val.zero)).2 else applyV op (allAns (allSV vs [] Val.zero)).1 := by
  unfold opV
  have h : ∀ r acc p w, allSV r acc p = .inl w → w.kind = 5 := by
    intro r
    induction r with
    | nil => intro acc p w h; simp [allSV] at h
    | cons x r ih =>
      intro acc p w h
      unfold allSV at h
      split at h
      · rename_i hk; injection h with h; rw [← h]; exact beq_iff_eq.1 hk
      · exact ih _ _ _ h
  have h := h vs [] Val.zero
  cases hs : allSV vs [] Val.zero with
  | inl w =>
    have := h w hs
    exact (if_pos (show (allAns (.inl w)).2.kind ≠ 0 by simp only [allAns]; omega)).symm
  | inr o => obtain ⟨o, p⟩ := o; rfl
theorem ans_vs {vs : List Val} (hv : ∀ v ∈ vs, VOK v) (hk : (allAns (allSV vs [] Val.zero)).2.kind = 0) : (allAns (allSV vs [] Val.zero)).1 = vs := by
  have h := vok_all vs [] Val.zero hv (fun v h => by simp at h) (.inl rfl)
  cases hs : allSV vs [] Val.zero with
  | inl w =>
    rw [hs] at h hk
    simp only [allAns] at hk
    have := h.2
    omega
  | inr o =>
    obtain ⟨o, p⟩ := o
    rw [hs] at h
    simp only [allAns]
    rw [h.1, List.nil_append]
theorem of_op (n1 : op ≠ 1) (n2 : op ≠ 2) (n3 : op ≠ 17) (n4 : ¬ (op = 15 ∨ op = 16)) (h1 : 1 ≤ op) (hl : args.length ≤ 1048576) (h : ∀ x ∈ args, OfOK m x) (hv : ∀ x ∈ args, VOK (evE m x)) (hn : (args.length = 1 ∧ (op = 3 ∨ op = 4 ∨ op = 18)) ∨ (args.length = 2 ∧ 5 ≤ op ∧ op ≤ 14)) : OfOK m (.mk op v name args) := by
  unfold OfOK
  have f1 := fun (S : St) (d dst : Nat) => ca_all args hl h (d := d) (dst := dst) (S := S)
  have he : evE m (.mk op v name args) = opV op (args.map (evE m)) := by rw [evE, if_neg n1, if_neg n2, if_neg n3, if_neg n4, evL_map]
  rw [Exp.dv_mk, he, opV_ans]
  have hv' : ∀ w ∈ args.map (evE m), VOK w := fun w hw => by
    obtain ⟨x, hx, rfl⟩ := List.mem_map.1 hw
    exact hv x hx
  have b1 : (op == 1) = false := beq_eq_false_iff_ne.2 n1
  have b2 : (op == 2) = false := beq_eq_false_iff_ne.2 n2
  have b3 : (op == 17) = false := beq_eq_false_iff_ne.2 n3
  have b4 : (op == 15) = false := beq_eq_false_iff_ne.2 (fun h => n4 (.inl h))
  have b5 : (op == 16) = false := beq_eq_false_iff_ne.2 (fun h => n4 (.inr h))
  by_cases hk : (allAns (allSV (args.map (evE m)) [] Val.zero)).2.kind = 0
  · rw [if_neg (by omega)]
    have f2 := fun (S : St) (d dst : Nat) => ca_apply (op := op) (vs := args.map (evE m)) h1 hv' (by rw [List.length_map]; exact hn) (d := d) (dst := dst) (S := S)
    rw [ans_vs hv' hk]
    rw [ans_vs hv' hk] at f1
    generalize allAns (allSV (args.map (evE m)) [] Val.zero) = q at *
    obtain ⟨o, qk, qn, qs⟩ := q
    simp only at hk
    subst hk
    generalize applyV op (args.map (evE m)) = w at *
    refine ret_of 1 fn53 rfl rfl ?_
    simp only [amr, amc, amp, if_true, if_false, ne_eq, gt_iff_lt, Option.getD, argsT, Option.bind, Option.map, List.headD, List.tail, reduceIte, reduceDIte, Nat.reduceEqDiff, Nat.reduceAdd, Nat.reduceSub, Nat.reduceMul, Nat.reduceLT, reduceCtorEq, Int.reduceEq, Int.reduceLT, Int.reduceLE, Int.reduceNeg, Int.reduceToNat, Int.reduceBNe, Int.reduceBEq, Int.reduceAdd, Int.reduceSub, Int.reduceMul, opnsL, Nat.reduceLeDiff, Nat.reduceGT, List.replicate, Nat.reduceShiftRight, Nat.reduceMod, Nat.reduceBEq, lendsL, ty_EvF_53, Val.dv, f1, f2, b1, b2, b3, b4, b5]
  · rw [if_pos hk]
    generalize allAns (allSV (args.map (evE m)) [] Val.zero) = q at *
    obtain ⟨o, qk, qn, qs⟩ := q
    simp only at hk
    have b0 : (qk == 0) = false := beq_eq_false_iff_ne.2 hk
    have b0' : (qk != 0) = true := by rw [bne, b0]; rfl
    refine ret_of 1 fn53 rfl rfl ?_
    simp only [amr, amc, amp, if_true, if_false, ne_eq, gt_iff_lt, Option.getD, argsT, Option.bind, Option.map, List.headD, List.tail, reduceIte, reduceDIte, Nat.reduceEqDiff, Nat.reduceAdd, Nat.reduceSub, Nat.reduceMul, Nat.reduceLT, reduceCtorEq, Int.reduceEq, Int.reduceLT, Int.reduceLE, Int.reduceNeg, Int.reduceToNat, Int.reduceBNe, Int.reduceBEq, Int.reduceAdd, Int.reduceSub, Int.reduceMul, opnsL, Nat.reduceLeDiff, Nat.reduceGT, List.replicate, Nat.reduceShiftRight, Nat.reduceMod, Nat.reduceBEq, lendsL, ty_EvF_53, Val.dv, f1, b1, b2, b3, b4, b5, b0, b0']
end
theorem wf_mem : ∀ {l : List Exp} {x : Exp}, Exp.wfL l → x ∈ l → x.wf
  | y :: r, x, hw, h => by
    rcases List.mem_cons.1 h with rfl | h
    · exact hw.1
    · exact wf_mem hw.2 h
theorem of_okN {m : VMap} (hm : MOK m) : ∀ (n : Nat) (x : Exp), x.nodes ≤ n → x.nodes ≤ 1048576 → x.wf → OfOK m x
  | 0, x, h, _, _ => by cases x; simp [Exp.nodes] at h
  | n + 1, .mk op v name args, h, hB, hw => by
    obtain ⟨⟨h1, h18, har, hp⟩, hwl⟩ := hw
    have hlen := Exp.nodes_len args
    simp only [Exp.nodes] at h hB
    have ih : ∀ a ∈ args, OfOK m a := fun a ha => of_okN hm n a (by have := Exp.nodes_mem ha; omega) (by have := Exp.nodes_mem ha; omega) (wf_mem hwl ha)
    have iv : ∀ a ∈ args, VOK (evE m a) := fun a ha => vok_ev hm a (wf_mem hwl ha)
    by_cases c1 : op = 1
    · subst c1; exact of_const
    by_cases c2 : op = 2
    · subst c2; exact of_ref
    by_cases c3 : op = 17
    · subst c3
      obtain ⟨a, b, c, rfl⟩ := len3 (arity_3 har rfl)
      exact of_if (ih a (by simp)) (ih b (by simp)) (ih c (by simp)) (iv a (by simp))
    by_cases c4 : op = 15 ∨ op = 16
    · obtain ⟨a, b, rfl⟩ := len2 (arity_2 har (by omega))
      exact of_and c4 (ih a (by simp)) (ih b (by simp))
    exact of_op c1 c2 c3 c4 h1 (by omega) ih iv (op_other h1 h18 har c1 c2 c3 c4)
theorem of_ok {m : VMap} (hm : MOK m) (x : Exp) (hB : x.nodes ≤ 1048576) (hw : x.wf) : OfOK m x := of_okN hm x.nodes x (Nat.le_refl _) hB hw
end Go.Proofs.Ytjjjkoknodcaaaa.Am
