/- A formula is put in the place of a field: names.Put. -/
import Derived.Test.YtjjjkoknodcaaaaNmA
set_option linter.unusedVariables false
set_option linter.unusedSimpArgs false
namespace Go.Proofs.Ytjjjkoknodcaaaa.Am
open Go Go.RowKit
theorem ty_NmB_20 : type_of% (ai (ai (ai (ai (ai (ai @rs20 @lv20_0) (ai @ro27_3_names_go_69 @ro27_5_names_go_69)) (ai (ai @lv20_1 @lv20_2) (ai @lv20_3 @lv20_4))) (ai (ai (ai @lv20_5 @lv20_6) (ai @lv20_7 @lv20_8)) (ai (ai @lv20_9 @lv20_10) (ai @lv20_11 (ai @lv20_12 @lv20_13))))) (ai (ai (ai (ai @lv20_14 @lv20_15) (ai @kp20_2 @und3)) (ai (ai @sz3 @ag3) (ai @lv3 (ai @inf3 @und4)))) (ai (ai (ai @sz4 @ag4) (ai @lv4 @inf4)) (ai (ai @und9 @sz9) (ai @ag9 (ai @lv9 @inf9)))))) (ai (ai (ai (ai (ai @und24 @sz24) (ai @ag24 @fo24)) (ai (ai @bA24 @pT24_0) (ai @pT24_1 (ai @pT24_2 @lv24)))) (ai (ai (ai @inf24 @und25) (ai @sz25 @ag25)) (ai (ai @pT25 @inf25) (ai @und27 (ai @sz27 @ag27))))) (ai (ai (ai (ai @fo27 @bA27) (ai @pT27_0 @pT27_1)) (ai (ai @pT27_2 @pT27_3) (ai @inf27 (ai @und34 @sz34)))) (ai (ai (ai @ag34 @lv34) (ai @inf34 @und75)) (ai (ai @sz75 @ag75) (ai @bA75 (ai @pT75 @inf75))))))) := (ai (ai (ai (ai (ai (ai @rs20 @lv20_0) (ai @ro27_3_names_go_69 @ro27_5_names_go_69)) (ai (ai @lv20_1 @lv20_2) (ai @lv20_3 @lv20_4))) (ai (ai (ai @lv20_5 @lv20_6) (ai @lv20_7 @lv20_8)) (ai (ai @lv20_9 @lv20_10) (ai @lv20_11 (ai @lv20_12 @lv20_13))))) (ai (ai (ai (ai @lv20_14 @lv20_15) (ai @kp20_2 @und3)) (ai (ai @sz3 @ag3) (ai @lv3 (ai @inf3 @und4)))) (ai (ai (ai @sz4 @ag4) (ai @lv4 @inf4)) (ai (ai @und9 @sz9) (ai @ag9 (ai @lv9 @inf9)))))) (ai (ai (ai (ai (ai @und24 @sz24) (ai @ag24 @fo24)) (ai (ai @bA24 @pT24_0) (ai @pT24_1 (ai @pT24_2 @lv24)))) (ai (ai (ai @inf24 @und25) (ai @sz25 @ag25)) (ai (ai @pT25 @inf25) (ai @und27 (ai @sz27 @ag27))))) (ai (ai (ai (ai @fo27 @bA27) (ai @pT27_0 @pT27_1)) (ai (ai @pT27_2 @pT27_3) (ai @inf27 (ai @und34 @sz34)))) (ai (ai (ai @ag34 @lv34) (ai @inf34 @und75)) (ai (ai @sz75 @ag75) (ai @bA75 (ai @pT75 @inf75)))))))
set_option maxRecDepth 100000
set_option maxHeartbeats 40000000


theorem putEL_len (s : List UInt8) (y : Exp) : ∀ l, (putEL s y l).length = l.length
  | [] => rfl
  | x :: r => by rw [putEL, List.length_cons, putEL_len s y r, List.length_cons]
mutual
theorem putE_wf {s : List UInt8} {y : Exp} (hy : y.wf) : ∀ (x : Exp), x.wf → (putE s y x).wf
  | .mk op v name args, hx => by
    unfold putE
    split
    · exact hy
    · refine ⟨?_, putEL_wf hy args hx.2⟩
      rw [putEL_len]
      exact hx.1
theorem putEL_wf {s : List UInt8} {y : Exp} (hy : y.wf) : ∀ (l : List Exp), Exp.wfL l → Exp.wfL (putEL s y l)
  | [], _ => by simp [putEL, Exp.wfL]
  | x :: r, h => by
    simp only [putEL, Exp.wfL] at h ⊢
    exact ⟨putE_wf hy x h.1, putEL_wf hy r h.2⟩
end
theorem nodes_pos (x : Exp) : 1 ≤ x.nodes := by cases x; simp only [Exp.nodes]; omega
mutual
theorem putE_nodes (s : List UInt8) (y : Exp) : ∀ (x : Exp), (putE s y x).nodes ≤ x.nodes * y.nodes
  | .mk op v name args => by
    have h1 := nodes_pos y
    unfold putE
    split
    · simp only [Exp.nodes]
      exact Nat.le_mul_of_pos_left _ (by omega)
    · have h2 := putEL_nodes s y args
      simp only [Exp.nodes, Nat.add_mul]
      omega
theorem putEL_nodes (s : List UInt8) (y : Exp) : ∀ (l : List Exp), Exp.nodesL (putEL s y l) ≤ Exp.nodesL l * y.nodes
  | [] => by simp [putEL, Exp.nodesL]
  | x :: r => by
    have h1 := putE_nodes s y x
    have h2 := putEL_nodes s y r
    simp only [putEL, Exp.nodesL, Nat.add_mul]
    omega
end
def zE : Exp := .mk 0 Val.zero [] []
theorem ret_Put (x y : Exp) (s : List UInt8) (hx : x.nodes ≤ 60 ∧ x.deep ≤ 12) (hy : y.nodes ≤ 60 ∧ y.deep ≤ 12) (wx : x.wf) (wy : y.wf) (hs : nameErr s = 0) : RetT tab 20 [.d x.dv, .d (.str s), .d y.dv] [if chkE (putE s y x) = 0 then (putE s y x).dv else zE.dv, .int .i64 (chkE (putE s y x))] := by
  have hn := putE_nodes s y x
  have hnb : (putE s y x).nodes ≤ 3600 := Nat.le_trans hn (Nat.mul_le_mul hx.1 hy.1)
  have f0 := fun (S : St) (d dst : Nat) => ca_CheckE (d := d) (dst := dst) (S := S) x (by omega) wx
  have f1 := fun (S : St) (d dst : Nat) => ca_CheckE (d := d) (dst := dst) (S := S) y (by omega) wy
  have f2 := fun (S : St) (d dst : Nat) => ca_CheckE (d := d) (dst := dst) (S := S) (putE s y x) (by omega) (putE_wf wy x wx)
  have f3 := fun (S : St) (d dst : Nat) => ca_put (d := d) (dst := dst) (S := S) s y x (by omega) (by omega)
  have f4 := fun (S : St) (d dst : Nat) => ca_Name (d := d) (dst := dst) (S := S) s
  have hcx : chkE x = 0 := by unfold chkE; rw [if_neg (by omega), if_neg (by omega)]
  have hcy : chkE y = 0 := by unfold chkE; rw [if_neg (by omega), if_neg (by omega)]
  rw [hs] at f4
  rw [hcx, Exp.dv_eq x] at f0
  rw [hcy, Exp.dv_eq y] at f1
  rw [Exp.dv_eq x, Exp.dv_eq y, Exp.dv_eq (putE s y x)] at f3
  rw [Exp.dv_eq (putE s y x)] at f2
  rw [Exp.dv_eq x, Exp.dv_eq y, Exp.dv_eq (putE s y x)]
  have hz : zE.dv = .agg [.int .i64 0, .int .i64 0, .int .i64 0, .str [], .str [], .sl 6 []] := rfl
  rw [hz]
  clear hn hnb
  generalize chkE (putE s y x) = e at *
  generalize putE s y x = z at *
  have w1 : IntKind.i64.wrap (0 + 1) = 1 := by decide
  have w2 : IntKind.i64.wrap (1 + 1) = 2 := by decide
  by_cases he : e = 0
  · subst he
    rw [if_pos rfl]
    refine retq_good 4 fn20 rfl rfl ?_
    simp only [amr, amc, amp, if_true, if_false, ne_eq, gt_iff_lt, Option.getD, argsT, Option.bind, Option.map, List.headD, List.tail, opnsL, List.replicate, lendsL, seval, ty_NmB_20, f0, f1, f2, f3, f4, w1, w2, cx_loop, clp_s, nameOf, (show IntKind.i64.wrap 0 = 0 from rfl), (show IntKind.i64.wrap 1 = 1 from rfl), (show IntKind.i64.wrap 2 = 2 from rfl), (show IntKind.i64.wrap 3 = 3 from rfl), (show IntKind.i64.wrap 4 = 4 from rfl), (show IntKind.i64.wrap 5 = 5 from rfl), (show IntKind.i64.wrap 6 = 6 from rfl), (show IntKind.i64.wrap 7 = 7 from rfl), (show IntKind.i64.wrap 8 = 8 from rfl), (show IntKind.i64.wrap 9 = 9 from rfl), (show IntKind.i64.wrap 10 = 10 from rfl), (show IntKind.i64.wrap 11 = 11 from rfl), (show IntKind.i64.wrap 12 = 12 from rfl), (show IntKind.i64.wrap 13 = 13 from rfl), (show IntKind.i64.wrap 14 = 14 from rfl), bne_self_eq_false]
  · have b1 : (e != 0) = true := bne_iff_ne.2 he
    rw [if_neg he]
    refine retq_good 4 fn20 rfl rfl ?_
    simp only [amr, amc, amp, if_true, if_false, ne_eq, gt_iff_lt, Option.getD, argsT, Option.bind, Option.map, List.headD, List.tail, opnsL, List.replicate, lendsL, seval, ty_NmB_20, f0, f1, f2, f3, f4, w1, w2, cx_loop, clp_s, nameOf, (show IntKind.i64.wrap 0 = 0 from rfl), (show IntKind.i64.wrap 1 = 1 from rfl), (show IntKind.i64.wrap 2 = 2 from rfl), (show IntKind.i64.wrap 3 = 3 from rfl), (show IntKind.i64.wrap 4 = 4 from rfl), (show IntKind.i64.wrap 5 = 5 from rfl), (show IntKind.i64.wrap 6 = 6 from rfl), (show IntKind.i64.wrap 7 = 7 from rfl), (show IntKind.i64.wrap 8 = 8 from rfl), (show IntKind.i64.wrap 9 = 9 from rfl), (show IntKind.i64.wrap 10 = 10 from rfl), (show IntKind.i64.wrap 11 = 11 from rfl), (show IntKind.i64.wrap 12 = 12 from rfl), (show IntKind.i64.wrap 13 = 13 from rfl), (show IntKind.i64.wrap 14 = 14 from rfl), bne_self_eq_false, b1]
    rfl
theorem ca_Put {d dst : Nat} {S : St} (x y : Exp) (s : List UInt8) (hx : x.nodes ≤ 60 ∧ x.deep ≤ 12) (hy : y.nodes ≤ 60 ∧ y.deep ≤ 12) (wx : x.wf) (wy : y.wf) (hs : nameErr s = 0) :
    callA tab (callR tab) d dst 20 [.d x.dv, .d (.str s), .d y.dv] S = some (.tup [.d (if chkE (putE s y x) = 0 then (putE s y x).dv else zE.dv), .d (.int .i64 (chkE (putE s y x)))], S) :=
  ca_retT (ds := [x.dv, .str s, y.dv]) (ret_Put x y s hx hy wx wy hs) rfl (tab_opn (by kernel_rfl)) (tab_res (by kernel_rfl))
end Go.Proofs.Ytjjjkoknodcaaaa.Am
