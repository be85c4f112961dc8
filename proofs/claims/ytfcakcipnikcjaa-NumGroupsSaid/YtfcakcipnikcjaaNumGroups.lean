/- What NumGroups comes to. -/
import Derived.Test.YtfcakcipnikcjaaNumFacts
set_option linter.unusedVariables false
set_option linter.unusedSimpArgs false
namespace Go.Proofs.Ytfcakcipnikcjaa.Am
open Go Go.RowKit
set_option maxRecDepth 100000
set_option maxHeartbeats 4000000
theorem NumGroups (a b c : Int) (ha : -9223372036854775808 ≤ a ∧ a ≤ 9223372036854775807) (hb : -9223372036854775808 ≤ b ∧ b ≤ 9223372036854775807) (hc : -9223372036854775808 ≤ c ∧ c ≤ 9223372036854775807) :
    callR tab 0 5 [.d (.int .i64 a), .d (.int .i64 b), .d (.int .i64 c)] [] [] = some (.d (.bool true), []) := by
  have hx := small_num ha
  have hy := small_num hb
  have hz := small_num hc
  refine callR_step 1 ?_
  rw [step_eq fn5 rfl rfl]
  simp only [v1_some, v2_some, put_some, put_erase, put_none, get_nil, get_cons, set_nil, set_cons, erase_nil, erase_cons, ev_tmp, ev_const, ev_func, c_int, c_bool, c_str, o_move, o_assign, o_pick, pick_b, pick_t, pick_f, o_bin, b_add, b_sub, b_mul, b_quo, b_rem, b_eql, b_neq, b_lss, b_leq, b_gtr, b_geq, o_neg, n_int, o_not, n_bool, o_extract, e_tup, o_call, app_d, app_f, evs_nil, evs_cons, cons_some, cr_nil, cr_seq, cr_seq_ret, cr_seq_exit, cr_blk, cr_blk_ret, cr_blk_exit, cx_seq, cx_block, cx_region, cx_cond, cx_skip, cx_ret, cx_exit, ci_true, ci_false, co_nil, co_n, cp_some, co_g, gd_eq, cg_tt, cg_ff, cg_tf, cg_ft, cq_nil, cq_n, cqp_some, cq_g, cqg_tt, cqg_ff, cqg_tf, cqg_ft, kF_ret, kF_nrm, res_t, Option.getD, argsT, List.getElem?_cons_zero, List.getElem?_cons_succ, Option.bind, Option.map, if_true, if_false, List.headD, List.tail, List.nil_append, List.cons_append, List.append_nil, List.map_nil, List.map_cons, reduceIte, reduceDIte, Nat.reduceEqDiff, Nat.reduceAdd, Nat.reduceSub, Nat.reduceMul, Nat.reduceLT, reduceCtorEq, Int.reduceEq, Int.reduceLT, Int.reduceLE, Int.reduceNeg, Int.reduceToNat, Bool.true_eq_false, Bool.false_eq_true, Bool.not_true, Bool.not_false, decide_true, decide_false, Int.reduceBNe, Int.reduceBEq, Int.reduceAdd, Int.reduceSub, Int.reduceMul, ca_small, ca_Add, ca_Sub]
  generalize small a = x at *
  generalize small b = y at *
  generalize small c = z at *
  have hx' : -1099511627776 ≤ x ∧ x ≤ 1099511627776 := hx
  have hy' : -1099511627776 ≤ y ∧ y ≤ 1099511627776 := hy
  have hz' : -1099511627776 ≤ z ∧ z ≤ 1099511627776 := hz
  have w1 : IntKind.i64.wrap (x + y) = x + y := wrap_in (by omega) (by omega)
  have w2 : IntKind.i64.wrap (y + z) = y + z := wrap_in (by omega) (by omega)
  have w3 : IntKind.i64.wrap (x + y + z) = x + y + z := wrap_in (by omega) (by omega)
  have w4 : IntKind.i64.wrap (x + (y + z)) = x + y + z := by rw [← Int.add_assoc]; exact w3
  have w5 : IntKind.i64.wrap (0 - x) = 0 - x := wrap_in (by omega) (by omega)
  have w6 : IntKind.i64.wrap (0 - (0 - x)) = x := by rw [show 0 - (0 - x) = x by omega]; exact wrap_in (by omega) (by omega)
  have n1 : numW 0 x (0 - x) = (0 - x, 0) := numW_ok ⟨by decide, by decide⟩ hx ⟨by omega, by omega⟩
  have n2 : numW 0 (0 - x) x = (x, 0) := numW_ok ⟨by decide, by decide⟩ ⟨by omega, by omega⟩ hx
  have k7 : numW 0 7 (IntKind.i64.wrap (-7)) = (-7, 0) := by decide
  by_cases h1 : Num (x + y)
  · have e1 := numW_ok hx hy h1
    by_cases h2 : Num (y + z)
    · have e2 := numW_ok hy hz h2
      by_cases h3 : Num (x + y + z)
      · have e3 := numW_ok h1 hz h3
        have e4 := numW_ok hx h2 h3
        simp only [v1_some, v2_some, put_some, put_erase, put_none, get_nil, get_cons, set_nil, set_cons, erase_nil, erase_cons, ev_tmp, ev_const, ev_func, c_int, c_bool, c_str, o_move, o_assign, o_pick, pick_b, pick_t, pick_f, o_bin, b_add, b_sub, b_mul, b_quo, b_rem, b_eql, b_neq, b_lss, b_leq, b_gtr, b_geq, o_neg, n_int, o_not, n_bool, o_extract, e_tup, o_call, app_d, app_f, evs_nil, evs_cons, cons_some, cr_nil, cr_seq, cr_seq_ret, cr_seq_exit, cr_blk, cr_blk_ret, cr_blk_exit, cx_seq, cx_block, cx_region, cx_cond, cx_skip, cx_ret, cx_exit, ci_true, ci_false, co_nil, co_n, cp_some, co_g, gd_eq, cg_tt, cg_ff, cg_tf, cg_ft, cq_nil, cq_n, cqp_some, cq_g, cqg_tt, cqg_ff, cqg_tf, cqg_ft, kF_ret, kF_nrm, res_t, Option.getD, argsT, List.getElem?_cons_zero, List.getElem?_cons_succ, Option.bind, Option.map, if_true, if_false, List.headD, List.tail, List.nil_append, List.cons_append, List.append_nil, List.map_nil, List.map_cons, reduceIte, reduceDIte, Nat.reduceEqDiff, Nat.reduceAdd, Nat.reduceSub, Nat.reduceMul, Nat.reduceLT, reduceCtorEq, Int.reduceEq, Int.reduceLT, Int.reduceLE, Int.reduceNeg, Int.reduceToNat, Bool.true_eq_false, Bool.false_eq_true, Bool.not_true, Bool.not_false, decide_true, decide_false, Int.reduceBNe, Int.reduceBEq, Int.reduceAdd, Int.reduceSub, Int.reduceMul, ca_Add, ca_Sub, w1, w2, w3, w4, w5, w6, n1, n2, k7, e1, e2, e3, e4, bne_self_eq_false, beq_self_eq_true]
        rfl
      · have e3 := numW_over h1 hz h3
        have e4 := numW_over hx h2 h3
        simp only [v1_some, v2_some, put_some, put_erase, put_none, get_nil, get_cons, set_nil, set_cons, erase_nil, erase_cons, ev_tmp, ev_const, ev_func, c_int, c_bool, c_str, o_move, o_assign, o_pick, pick_b, pick_t, pick_f, o_bin, b_add, b_sub, b_mul, b_quo, b_rem, b_eql, b_neq, b_lss, b_leq, b_gtr, b_geq, o_neg, n_int, o_not, n_bool, o_extract, e_tup, o_call, app_d, app_f, evs_nil, evs_cons, cons_some, cr_nil, cr_seq, cr_seq_ret, cr_seq_exit, cr_blk, cr_blk_ret, cr_blk_exit, cx_seq, cx_block, cx_region, cx_cond, cx_skip, cx_ret, cx_exit, ci_true, ci_false, co_nil, co_n, cp_some, co_g, gd_eq, cg_tt, cg_ff, cg_tf, cg_ft, cq_nil, cq_n, cqp_some, cq_g, cqg_tt, cqg_ff, cqg_tf, cqg_ft, kF_ret, kF_nrm, res_t, Option.getD, argsT, List.getElem?_cons_zero, List.getElem?_cons_succ, Option.bind, Option.map, if_true, if_false, List.headD, List.tail, List.nil_append, List.cons_append, List.append_nil, List.map_nil, List.map_cons, reduceIte, reduceDIte, Nat.reduceEqDiff, Nat.reduceAdd, Nat.reduceSub, Nat.reduceMul, Nat.reduceLT, reduceCtorEq, Int.reduceEq, Int.reduceLT, Int.reduceLE, Int.reduceNeg, Int.reduceToNat, Bool.true_eq_false, Bool.false_eq_true, Bool.not_true, Bool.not_false, decide_true, decide_false, Int.reduceBNe, Int.reduceBEq, Int.reduceAdd, Int.reduceSub, Int.reduceMul, ca_Add, ca_Sub, w1, w2, w3, w4, w5, w6, n1, n2, k7, e1, e2, e3, e4, bne_self_eq_false, beq_self_eq_true]
        rfl
    · have e2 := numW_over hy hz h2
      simp only [v1_some, v2_some, put_some, put_erase, put_none, get_nil, get_cons, set_nil, set_cons, erase_nil, erase_cons, ev_tmp, ev_const, ev_func, c_int, c_bool, c_str, o_move, o_assign, o_pick, pick_b, pick_t, pick_f, o_bin, b_add, b_sub, b_mul, b_quo, b_rem, b_eql, b_neq, b_lss, b_leq, b_gtr, b_geq, o_neg, n_int, o_not, n_bool, o_extract, e_tup, o_call, app_d, app_f, evs_nil, evs_cons, cons_some, cr_nil, cr_seq, cr_seq_ret, cr_seq_exit, cr_blk, cr_blk_ret, cr_blk_exit, cx_seq, cx_block, cx_region, cx_cond, cx_skip, cx_ret, cx_exit, ci_true, ci_false, co_nil, co_n, cp_some, co_g, gd_eq, cg_tt, cg_ff, cg_tf, cg_ft, cq_nil, cq_n, cqp_some, cq_g, cqg_tt, cqg_ff, cqg_tf, cqg_ft, kF_ret, kF_nrm, res_t, Option.getD, argsT, List.getElem?_cons_zero, List.getElem?_cons_succ, Option.bind, Option.map, if_true, if_false, List.headD, List.tail, List.nil_append, List.cons_append, List.append_nil, List.map_nil, List.map_cons, reduceIte, reduceDIte, Nat.reduceEqDiff, Nat.reduceAdd, Nat.reduceSub, Nat.reduceMul, Nat.reduceLT, reduceCtorEq, Int.reduceEq, Int.reduceLT, Int.reduceLE, Int.reduceNeg, Int.reduceToNat, Bool.true_eq_false, Bool.false_eq_true, Bool.not_true, Bool.not_false, decide_true, decide_false, Int.reduceBNe, Int.reduceBEq, Int.reduceAdd, Int.reduceSub, Int.reduceMul, ca_Add, ca_Sub, w1, w2, w3, w4, w5, w6, n1, n2, k7, e1, e2, bne_self_eq_false, beq_self_eq_true]
      rfl
  · have e1 := numW_over hx hy h1
    simp only [v1_some, v2_some, put_some, put_erase, put_none, get_nil, get_cons, set_nil, set_cons, erase_nil, erase_cons, ev_tmp, ev_const, ev_func, c_int, c_bool, c_str, o_move, o_assign, o_pick, pick_b, pick_t, pick_f, o_bin, b_add, b_sub, b_mul, b_quo, b_rem, b_eql, b_neq, b_lss, b_leq, b_gtr, b_geq, o_neg, n_int, o_not, n_bool, o_extract, e_tup, o_call, app_d, app_f, evs_nil, evs_cons, cons_some, cr_nil, cr_seq, cr_seq_ret, cr_seq_exit, cr_blk, cr_blk_ret, cr_blk_exit, cx_seq, cx_block, cx_region, cx_cond, cx_skip, cx_ret, cx_exit, ci_true, ci_false, co_nil, co_n, cp_some, co_g, gd_eq, cg_tt, cg_ff, cg_tf, cg_ft, cq_nil, cq_n, cqp_some, cq_g, cqg_tt, cqg_ff, cqg_tf, cqg_ft, kF_ret, kF_nrm, res_t, Option.getD, argsT, List.getElem?_cons_zero, List.getElem?_cons_succ, Option.bind, Option.map, if_true, if_false, List.headD, List.tail, List.nil_append, List.cons_append, List.append_nil, List.map_nil, List.map_cons, reduceIte, reduceDIte, Nat.reduceEqDiff, Nat.reduceAdd, Nat.reduceSub, Nat.reduceMul, Nat.reduceLT, reduceCtorEq, Int.reduceEq, Int.reduceLT, Int.reduceLE, Int.reduceNeg, Int.reduceToNat, Bool.true_eq_false, Bool.false_eq_true, Bool.not_true, Bool.not_false, decide_true, decide_false, Int.reduceBNe, Int.reduceBEq, Int.reduceAdd, Int.reduceSub, Int.reduceMul, ca_Add, ca_Sub, w1, w2, w3, w4, w5, w6, n1, n2, k7, e1, bne_self_eq_false, beq_self_eq_true]
    rfl
end Go.Proofs.Ytfcakcipnikcjaa.Am
