/- Formulas: how great they are. -/
import Derived.Test.YtjjjkoknodcaaaaGenA
set_option linter.unusedVariables false
set_option linter.unusedSimpArgs false
namespace Go.Proofs.Ytjjjkoknodcaaaa.Am
open Go Go.RowKit
theorem ty_ExA_18 : type_of% (And.intro (And.intro (And.intro (And.intro (And.intro @rs18 (And.intro @lv18_0 @ro27_1_expr_go_40)) (And.intro @lv18_1 (And.intro @lv18_2 @lv18_3))) (And.intro (And.intro @lv18_4 (And.intro @lv18_5 @lv18_6)) (And.intro @lv18_7 (And.intro @lv18_8 @kp18_3)))) (And.intro (And.intro (And.intro @und1 (And.intro @sz1 @ag1)) (And.intro @inf1 (And.intro @und3 @sz3))) (And.intro (And.intro @ag3 (And.intro @lv3 @inf3)) (And.intro (And.intro @und9 @sz9) (And.intro @ag9 @lv9))))) (And.intro (And.intro (And.intro (And.intro @inf9 (And.intro @und24 @sz24)) (And.intro @ag24 (And.intro @fo24 @bA24))) (And.intro (And.intro @pT24_0 (And.intro @pT24_1 @pT24_2)) (And.intro (And.intro @lv24 @inf24) (And.intro @und25 @sz25)))) (And.intro (And.intro (And.intro @ag25 (And.intro @pT25 @inf25)) (And.intro @und27 (And.intro @sz27 @ag27))) (And.intro (And.intro @fo27 (And.intro @bA27 @pT27_0)) (And.intro (And.intro @pT27_1 @pT27_2) (And.intro @pT27_3 @inf27)))))) := (And.intro (And.intro (And.intro (And.intro (And.intro @rs18 (And.intro @lv18_0 @ro27_1_expr_go_40)) (And.intro @lv18_1 (And.intro @lv18_2 @lv18_3))) (And.intro (And.intro @lv18_4 (And.intro @lv18_5 @lv18_6)) (And.intro @lv18_7 (And.intro @lv18_8 @kp18_3)))) (And.intro (And.intro (And.intro @und1 (And.intro @sz1 @ag1)) (And.intro @inf1 (And.intro @und3 @sz3))) (And.intro (And.intro @ag3 (And.intro @lv3 @inf3)) (And.intro (And.intro @und9 @sz9) (And.intro @ag9 @lv9))))) (And.intro (And.intro (And.intro (And.intro @inf9 (And.intro @und24 @sz24)) (And.intro @ag24 (And.intro @fo24 @bA24))) (And.intro (And.intro @pT24_0 (And.intro @pT24_1 @pT24_2)) (And.intro (And.intro @lv24 @inf24) (And.intro @und25 @sz25)))) (And.intro (And.intro (And.intro @ag25 (And.intro @pT25 @inf25)) (And.intro @und27 (And.intro @sz27 @ag27))) (And.intro (And.intro @fo27 (And.intro @bA27 @pT27_0)) (And.intro (And.intro @pT27_1 @pT27_2) (And.intro @pT27_3 @inf27))))))
set_option maxRecDepth 100000
set_option maxHeartbeats 40000000



mutual
def Exp.nodes : Exp → Nat
  | .mk _ _ _ a => Exp.nodesL a + 1
def Exp.nodesL : List Exp → Nat
  | [] => 0
  | x :: r => x.nodes + Exp.nodesL r
end
mutual
def Exp.deep : Exp → Nat
  | .mk _ _ _ a => Exp.deepL a + 1
def Exp.deepL : List Exp → Nat
  | [] => 0
  | x :: r => max x.deep (Exp.deepL r)
end
theorem Exp.nodes_mem : ∀ {l : List Exp} {x : Exp}, x ∈ l → x.nodes ≤ Exp.nodesL l
  | y :: r, x, h => by
    rcases List.mem_cons.1 h with rfl | h
    · simp only [Exp.nodesL]; omega
    · have := Exp.nodes_mem h
      simp only [Exp.nodesL]; omega
theorem Exp.nodes_len : ∀ (l : List Exp), l.length ≤ Exp.nodesL l
  | [] => Nat.le_refl _
  | x :: r => by
    have := Exp.nodes_len r
    have h : 1 ≤ x.nodes := by cases x; simp [Exp.nodes]
    simp only [Exp.nodesL, List.length_cons]
    omega
mutual
theorem Exp.deep_le : ∀ (x : Exp), x.deep ≤ x.nodes
  | .mk _ _ _ a => by
    have := Exp.deepL_le a
    simp only [Exp.deep, Exp.nodes]; omega
theorem Exp.deepL_le : ∀ (l : List Exp), Exp.deepL l ≤ Exp.nodesL l
  | [] => Nat.le_refl _
  | x :: r => by
    have h1 := Exp.deep_le x
    have h2 := Exp.deepL_le r
    simp only [Exp.deepL, Exp.nodesL]
    omega
end
theorem ret_SizeN : ∀ (m : Nat) (x : Exp), x.nodes ≤ m → x.nodes ≤ 4611686018427387904 → Ret tab 18 [.d x.dv] (.tup [.d (.int .i64 x.nodes), .d (.int .i64 x.deep)])
  | 0, x, h, _ => by cases x; simp [Exp.nodes] at h
  | m + 1, .mk op v name args, h, hB => by
    have hlen := Exp.nodes_len args
    simp only [Exp.nodes] at h hB
    have ih : ∀ a ∈ args, Ret tab 18 [.d a.dv] (.tup [.d (.int .i64 a.nodes), .d (.int .i64 a.deep)]) := fun a ha => ret_SizeN m a (by have := Exp.nodes_mem ha; omega) (by have := Exp.nodes_mem ha; omega)
    rw [Exp.dv_mk]
    refine ret_of (args.length + 1) fn18 rfl rfl ?_
    simp only [amr, amc, amp, if_true, if_false, ne_eq, gt_iff_lt, Option.getD, argsT, Option.bind, Option.map, List.headD, List.tail, reduceIte, reduceDIte, Nat.reduceEqDiff, Nat.reduceAdd, Nat.reduceSub, Nat.reduceMul, Nat.reduceLT, reduceCtorEq, Int.reduceEq, Int.reduceLT, Int.reduceLE, Int.reduceNeg, Int.reduceToNat, Int.reduceBNe, Int.reduceBEq, Int.reduceAdd, Int.reduceSub, Int.reduceMul, opnsL, Nat.reduceLeDiff, Nat.reduceGT, List.replicate, Nat.reduceShiftRight, Nat.reduceMod, Nat.reduceBEq, lendsL, ty_ExA_18]
    refine good_range args (fun k (a : Nat × Nat) g => ⟨[(4, .d (.int .i64 a.1)), (5, .d (.int .i64 a.2)), (11, .d (.sl 6 (args.map Exp.dv))), (12, .d (.int .i64 args.length)), (13, .d (.int .i64 (k : Nat)))], [], g⟩)
      (fun k a => a.1 + Exp.nodesL (args.drop k) ≤ 4611686018427387904 ∧ a.2 ≤ a.1) (fun k a r => (a.1 + Exp.nodesL r, max a.2 (Exp.deepL r)))
      (QX (.exit 0) (fun o g => ⟨[(4, .d (.int .i64 o.1)), (5, .d (.int .i64 o.2))], [], g⟩)) (1, 0) kp18_3 up_qx ⟨by simp only [List.drop_zero]; omega, by decide⟩ (by omega) (by omega) ?_ ?_ ?_ ?_
    · rintro k ⟨n, dp⟩ g x rest hk hget hd ⟨hI1, hI2⟩ hb w1
      have hget' : (args.map Exp.dv)[k]? = some x.dv := by rw [List.getElem?_map, hget]; rfl
      have hdk : args.drop k = x :: rest := by rw [← hd]; obtain ⟨h1, h2⟩ := List.getElem?_eq_some_iff.1 hget; rw [← h2]; exact List.drop_eq_getElem_cons h1
      simp only [hdk, Exp.nodesL] at hI1 hI2
      have hx := Exp.deep_le x
      have f1 := fun (S : St) (d dst : Nat) => ca_ret_tup (d := d) (dst := dst) (S := S) (args := [.d x.dv]) (ds := [x.dv]) (ys := [.int .i64 x.nodes, .int .i64 x.deep]) (ih x (List.mem_of_getElem? hget)) rfl (tab_opn (by kernel_rfl)) (tab_res (by kernel_rfl)) rfl
      rw [Exp.dv_eq x] at hget' f1
      have w2 : IntKind.i64.wrap ((n : Int) + (x.nodes : Int)) = ((n + x.nodes : Nat) : Int) := by rw [wrap_in (by omega) (by omega)]; omega
      have w3 : (if (dp : Int) < (x.deep : Int) then (x.deep : Int) else (dp : Int)) = ((max dp x.deep : Nat) : Int) := by split <;> omega
      simp only [amr, amc, amp, if_true, if_false, ne_eq, gt_iff_lt, Option.getD, argsT, Option.bind, Option.map, List.headD, List.tail, reduceIte, reduceDIte, Nat.reduceEqDiff, Nat.reduceAdd, Nat.reduceSub, Nat.reduceMul, Nat.reduceLT, reduceCtorEq, Int.reduceEq, Int.reduceLT, Int.reduceLE, Int.reduceNeg, Int.reduceToNat, Int.reduceBNe, Int.reduceBEq, Int.reduceAdd, Int.reduceSub, Int.reduceMul, opnsL, Nat.reduceLeDiff, Nat.reduceGT, List.replicate, Nat.reduceShiftRight, Nat.reduceMod, Nat.reduceBEq, lendsL, ty_ExA_18, hb, hget', w1, w2, w3, f1]
      refine step_nrm (n + x.nodes, max dp x.deep) ⟨?_, ?_⟩ ?_ ?_
      · simp only [hd]; omega
      · simp only; omega
      · simp only [Exp.nodesL, Exp.deepL, Prod.mk.injEq]; omega
      · (apply Exists.intro; (try simp only [amr, amc, amp, if_true, if_false, ne_eq, gt_iff_lt, Option.getD, argsT, Option.bind, Option.map, List.headD, List.tail, reduceIte, reduceDIte, Nat.reduceEqDiff, Nat.reduceAdd, Nat.reduceSub, Nat.reduceMul, Nat.reduceLT, reduceCtorEq, Int.reduceEq, Int.reduceLT, Int.reduceLE, Int.reduceNeg, Int.reduceToNat, Int.reduceBNe, Int.reduceBEq, Int.reduceAdd, Int.reduceSub, Int.reduceMul, opnsL, Nat.reduceLeDiff, Nat.reduceGT, List.replicate, Nat.reduceShiftRight, Nat.reduceMod, Nat.reduceBEq, lendsL]); exact sub_mk (by repeat first | exact subT_nil | refine subT_cons (by first | rfl | simp [Tm.get, *]) ?_))
    · rintro ⟨n, dp⟩ g _ hb
      simp only [amr, amc, amp, if_true, if_false, ne_eq, gt_iff_lt, Option.getD, argsT, Option.bind, Option.map, List.headD, List.tail, reduceIte, reduceDIte, Nat.reduceEqDiff, Nat.reduceAdd, Nat.reduceSub, Nat.reduceMul, Nat.reduceLT, reduceCtorEq, Int.reduceEq, Int.reduceLT, Int.reduceLE, Int.reduceNeg, Int.reduceToNat, Int.reduceBNe, Int.reduceBEq, Int.reduceAdd, Int.reduceSub, Int.reduceMul, opnsL, Nat.reduceLeDiff, Nat.reduceGT, List.replicate, Nat.reduceShiftRight, Nat.reduceMod, Nat.reduceBEq, lendsL, ty_ExA_18, hb]
      refine last_end (by simp) ⟨rfl, ?_⟩
      simp only [Exp.nodesL, Exp.deepL, Nat.max_zero]
      (apply Exists.intro; (try simp only [amr, amc, amp, if_true, if_false, ne_eq, gt_iff_lt, Option.getD, argsT, Option.bind, Option.map, List.headD, List.tail, reduceIte, reduceDIte, Nat.reduceEqDiff, Nat.reduceAdd, Nat.reduceSub, Nat.reduceMul, Nat.reduceLT, reduceCtorEq, Int.reduceEq, Int.reduceLT, Int.reduceLE, Int.reduceNeg, Int.reduceToNat, Int.reduceBNe, Int.reduceBEq, Int.reduceAdd, Int.reduceSub, Int.reduceMul, opnsL, Nat.reduceLeDiff, Nat.reduceGT, List.replicate, Nat.reduceShiftRight, Nat.reduceMod, Nat.reduceBEq, lendsL]); exact sub_mk (by repeat first | exact subT_nil | refine subT_cons (by first | rfl | simp [Tm.get, *]) ?_))
    · (apply Exists.intro; (try simp only [amr, amc, amp, if_true, if_false, ne_eq, gt_iff_lt, Option.getD, argsT, Option.bind, Option.map, List.headD, List.tail, reduceIte, reduceDIte, Nat.reduceEqDiff, Nat.reduceAdd, Nat.reduceSub, Nat.reduceMul, Nat.reduceLT, reduceCtorEq, Int.reduceEq, Int.reduceLT, Int.reduceLE, Int.reduceNeg, Int.reduceToNat, Int.reduceBNe, Int.reduceBEq, Int.reduceAdd, Int.reduceSub, Int.reduceMul, opnsL, Nat.reduceLeDiff, Nat.reduceGT, List.replicate, Nat.reduceShiftRight, Nat.reduceMod, Nat.reduceBEq, lendsL]); exact sub_mk (by repeat first | exact subT_nil | refine subT_cons (by first | rfl | simp [Tm.get, *]) ?_))
    · rintro o S' ⟨rfl, g, hs⟩
      refine good_sub_cr up_fin hs ?_
      have hdl := Exp.deepL_le args
      have w4 : IntKind.i64.wrap ((Exp.deepL args : Int) + 1) = ((Exp.deepL args + 1 : Nat) : Int) := by rw [wrap_in (by omega) (by omega)]; omega
      simp only [Nat.zero_max, Exp.nodes, Exp.deep]
      rw [show 1 + Exp.nodesL args = Exp.nodesL args + 1 by omega]
      simp only [amr, amc, amp, if_true, if_false, ne_eq, gt_iff_lt, Option.getD, argsT, Option.bind, Option.map, List.headD, List.tail, reduceIte, reduceDIte, Nat.reduceEqDiff, Nat.reduceAdd, Nat.reduceSub, Nat.reduceMul, Nat.reduceLT, reduceCtorEq, Int.reduceEq, Int.reduceLT, Int.reduceLE, Int.reduceNeg, Int.reduceToNat, Int.reduceBNe, Int.reduceBEq, Int.reduceAdd, Int.reduceSub, Int.reduceMul, opnsL, Nat.reduceLeDiff, Nat.reduceGT, List.replicate, Nat.reduceShiftRight, Nat.reduceMod, Nat.reduceBEq, lendsL, ty_ExA_18, w4]
theorem ca_Size {d dst : Nat} {S : St} (x : Exp) (hx : x.nodes ≤ 4611686018427387904) : callA tab (callR tab) d dst 18 [.d x.dv] S = some (.tup [.d (.int .i64 x.nodes), .d (.int .i64 x.deep)], S) :=
  ca_ret_tup (ds := [x.dv]) (ys := [.int .i64 x.nodes, .int .i64 x.deep]) (ret_SizeN x.nodes x (Nat.le_refl _) hx) rfl (tab_opn (by kernel_rfl)) (tab_res (by kernel_rfl)) rfl
end Go.Proofs.Ytjjjkoknodcaaaa.Am
