import Derived.Test.YtfcakcipnikcjaaNum
set_option linter.unusedVariables false
set_option linter.unusedSimpArgs false
namespace Go.Proofs.Ytfcakcipnikcjaa.Am
open Go Go.RowKit
set_option maxRecDepth 100000
set_option maxHeartbeats 4000000
theorem pick_range (n many : Int) (h0 : -9223372036854775808 ≤ n) (h1 : n ≤ 9223372036854775807) (hm : 0 < many) : 0 ≤ pick n many ∧ pick n many < many := by
  unfold pick
  split
  · have e1 : IntKind.i64.wrap (n + 1) = n + 1 := by rw [IntKind.wrap_i64]; omega
    have e2 : IntKind.i64.wrap (0 - (n + 1)) = 0 - (n + 1) := by rw [IntKind.wrap_i64]; omega
    rw [e1, e2, Int.tmod_eq_emod_of_nonneg (by omega)]
    exact ⟨Int.emod_nonneg _ (by omega), Int.emod_lt_of_pos _ hm⟩
  · rw [Int.tmod_eq_emod_of_nonneg (by omega)]
    exact ⟨Int.emod_nonneg _ (by omega), Int.emod_lt_of_pos _ hm⟩
theorem small_range (n : Int) (h0 : -9223372036854775808 ≤ n) (h1 : n ≤ 9223372036854775807) : -1099511627776 ≤ small n ∧ small n ≤ 1099511627776 := by
  have := pick_range n 2199023255553 h0 h1 (by decide)
  unfold small
  rw [IntKind.wrap_i64]
  omega
theorem chk_in {n : Int} (h0 : -1099511627776 ≤ n) (h1 : n ≤ 1099511627776) : chk n = 0 := by unfold chk; rw [if_neg (by omega)]
theorem numW_in {a b r : Int} (ha : chk a = 0) (hb : chk b = 0) : numW a b r = if -1099511627776 ≤ r ∧ r ≤ 1099511627776 then (r, 0) else (0, 7) := by
  unfold numW
  rw [ha, hb]
  simp only [bne_self_eq_false, Bool.false_eq_true, or_self, if_false]
  by_cases h : -1099511627776 ≤ r ∧ r ≤ 1099511627776
  · rw [chk_in h.1 h.2, if_pos h]; rfl
  · have : chk r = 7 := by unfold chk; rw [if_pos (by omega)]
    rw [this, if_neg h]; rfl
theorem wrap_in {n : Int} (h0 : -9223372036854775808 ≤ n) (h1 : n ≤ 9223372036854775807) : IntKind.i64.wrap n = n := by rw [IntKind.wrap_i64]; omega
theorem NumBack (a b : Int) (ha : -9223372036854775808 ≤ a ∧ a ≤ 9223372036854775807) (hb : -9223372036854775808 ≤ b ∧ b ≤ 9223372036854775807) :
    callR tab 0 4 [.d (.int .i64 a), .d (.int .i64 b)] [] [] = some (.d (.bool true), []) := by
  obtain ⟨a0, a1⟩ := small_range a ha.1 ha.2
  obtain ⟨b0, b1⟩ := small_range b hb.1 hb.2
  have hn : ∀ r, numW (small a) (small b) r = _ := fun r => numW_in (chk_in a0 a1) (chk_in b0 b1)
  have hn2 : ∀ r, numW (small b) (small a) r = _ := fun r => numW_in (chk_in b0 b1) (chk_in a0 a1)
  have w1 : IntKind.i64.wrap (small a + small b) = small a + small b := wrap_in (by omega) (by omega)
  have w2 : IntKind.i64.wrap (small b + small a) = small a + small b := by rw [Int.add_comm]; exact w1
  have w3 : IntKind.i64.wrap (small a + small b - small b) = small a := by rw [Int.add_sub_cancel]; exact wrap_in (by omega) (by omega)
  have k23 : numW 2 3 (IntKind.i64.wrap 5) = (5, 0) := by decide
  refine callR_step 1 ?_
  rw [step_eq fn4 rfl rfl]
  by_cases h : -1099511627776 ≤ small a + small b ∧ small a + small b ≤ 1099511627776
  · have hs : numW (small a + small b) (small b) (small a) = (small a, 0) := by rw [numW_in (chk_in h.1 h.2) (chk_in b0 b1), if_pos ⟨a0, a1⟩]
    simp only [v1_some, v2_some, put_some, put_erase, put_none, get_nil, get_cons, set_nil, set_cons, erase_nil, erase_cons, ev_tmp, ev_const, ev_func, c_int, c_bool, c_str, o_move, o_assign, o_pick, pick_b, pick_t, pick_f, o_bin, b_add, b_sub, b_mul, b_quo, b_rem, b_eql, b_neq, b_lss, b_leq, b_gtr, b_geq, o_neg, n_int, o_not, n_bool, o_extract, e_tup, o_call, app_d, app_f, evs_nil, evs_cons, cons_some, cr_nil, cr_seq, cr_seq_ret, cr_seq_exit, cr_blk, cr_blk_ret, cr_blk_exit, cx_seq, cx_block, cx_region, cx_cond, cx_skip, cx_ret, cx_exit, ci_true, ci_false, co_nil, co_n, cp_some, co_g, gd_eq, cg_tt, cg_ff, cg_tf, cg_ft, cq_nil, cq_n, cqp_some, cq_g, cqg_tt, cqg_ff, cqg_tf, cqg_ft, kF_ret, kF_nrm, res_t, Option.getD, argsT, List.getElem?_cons_zero, List.getElem?_cons_succ, Option.bind, Option.map, if_true, if_false, List.headD, List.tail, List.nil_append, List.cons_append, List.append_nil, List.map_nil, List.map_cons, reduceIte, reduceDIte, Nat.reduceEqDiff, Nat.reduceAdd, Nat.reduceSub, Nat.reduceMul, Nat.reduceLT, reduceCtorEq, Int.reduceEq, Int.reduceLT, Int.reduceLE, Int.reduceNeg, Int.reduceToNat, Bool.true_eq_false, Bool.false_eq_true, Bool.not_true, Bool.not_false, decide_true, decide_false, Int.reduceBNe, Int.reduceBEq, Int.reduceAdd, Int.reduceSub, Int.reduceMul, ca_small, ca_Add, ca_Sub, hn, hn2, w1, w2, w3, k23, hs, if_pos h, bne_self_eq_false, beq_self_eq_true]
    rfl
  · by_cases h2 : small a + small b > 1099511627776
    · simp only [v1_some, v2_some, put_some, put_erase, put_none, get_nil, get_cons, set_nil, set_cons, erase_nil, erase_cons, ev_tmp, ev_const, ev_func, c_int, c_bool, c_str, o_move, o_assign, o_pick, pick_b, pick_t, pick_f, o_bin, b_add, b_sub, b_mul, b_quo, b_rem, b_eql, b_neq, b_lss, b_leq, b_gtr, b_geq, o_neg, n_int, o_not, n_bool, o_extract, e_tup, o_call, app_d, app_f, evs_nil, evs_cons, cons_some, cr_nil, cr_seq, cr_seq_ret, cr_seq_exit, cr_blk, cr_blk_ret, cr_blk_exit, cx_seq, cx_block, cx_region, cx_cond, cx_skip, cx_ret, cx_exit, ci_true, ci_false, co_nil, co_n, cp_some, co_g, gd_eq, cg_tt, cg_ff, cg_tf, cg_ft, cq_nil, cq_n, cqp_some, cq_g, cqg_tt, cqg_ff, cqg_tf, cqg_ft, kF_ret, kF_nrm, res_t, Option.getD, argsT, List.getElem?_cons_zero, List.getElem?_cons_succ, Option.bind, Option.map, if_true, if_false, List.headD, List.tail, List.nil_append, List.cons_append, List.append_nil, List.map_nil, List.map_cons, reduceIte, reduceDIte, Nat.reduceEqDiff, Nat.reduceAdd, Nat.reduceSub, Nat.reduceMul, Nat.reduceLT, reduceCtorEq, Int.reduceEq, Int.reduceLT, Int.reduceLE, Int.reduceNeg, Int.reduceToNat, Bool.true_eq_false, Bool.false_eq_true, Bool.not_true, Bool.not_false, decide_true, decide_false, Int.reduceBNe, Int.reduceBEq, Int.reduceAdd, Int.reduceSub, Int.reduceMul, ca_small, ca_Add, ca_Sub, hn, hn2, w1, w2, w3, k23, if_neg h, h2, bne_self_eq_false, beq_self_eq_true]
      rfl
    · have h3 : small a + small b < -1099511627776 := by omega
      simp only [v1_some, v2_some, put_some, put_erase, put_none, get_nil, get_cons, set_nil, set_cons, erase_nil, erase_cons, ev_tmp, ev_const, ev_func, c_int, c_bool, c_str, o_move, o_assign, o_pick, pick_b, pick_t, pick_f, o_bin, b_add, b_sub, b_mul, b_quo, b_rem, b_eql, b_neq, b_lss, b_leq, b_gtr, b_geq, o_neg, n_int, o_not, n_bool, o_extract, e_tup, o_call, app_d, app_f, evs_nil, evs_cons, cons_some, cr_nil, cr_seq, cr_seq_ret, cr_seq_exit, cr_blk, cr_blk_ret, cr_blk_exit, cx_seq, cx_block, cx_region, cx_cond, cx_skip, cx_ret, cx_exit, ci_true, ci_false, co_nil, co_n, cp_some, co_g, gd_eq, cg_tt, cg_ff, cg_tf, cg_ft, cq_nil, cq_n, cqp_some, cq_g, cqg_tt, cqg_ff, cqg_tf, cqg_ft, kF_ret, kF_nrm, res_t, Option.getD, argsT, List.getElem?_cons_zero, List.getElem?_cons_succ, Option.bind, Option.map, if_true, if_false, List.headD, List.tail, List.nil_append, List.cons_append, List.append_nil, List.map_nil, List.map_cons, reduceIte, reduceDIte, Nat.reduceEqDiff, Nat.reduceAdd, Nat.reduceSub, Nat.reduceMul, Nat.reduceLT, reduceCtorEq, Int.reduceEq, Int.reduceLT, Int.reduceLE, Int.reduceNeg, Int.reduceToNat, Bool.true_eq_false, Bool.false_eq_true, Bool.not_true, Bool.not_false, decide_true, decide_false, Int.reduceBNe, Int.reduceBEq, Int.reduceAdd, Int.reduceSub, Int.reduceMul, ca_small, ca_Add, ca_Sub, hn, hn2, w1, w2, w3, k23, if_neg h, h2, h3, bne_self_eq_false, beq_self_eq_true]
      rfl
end Go.Proofs.Ytfcakcipnikcjaa.Am
