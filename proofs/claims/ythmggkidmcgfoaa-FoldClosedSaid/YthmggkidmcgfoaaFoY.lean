/- Fold, Closed; FoldLess. -/
import Derived.Test.YthmggkidmcgfoaaFoX
set_option linter.unusedVariables false
set_option linter.unusedSimpArgs false
namespace Go.Proofs.Ythmggkidmcgfoaa.Am
open Go Go.RowKit
theorem ty_FoY_9 : type_of% (ai (ai (ai (ai (ai @rs9 (ai @lv9_0 @ro27_1_fold_go_44)) (ai @lv9_1 (ai @lv9_2 @lv9_3))) (ai (ai @lv9_4 (ai @und3 @sz3)) (ai (ai @ag3 @lv3) (ai @inf3 @und4)))) (ai (ai (ai @sz4 (ai @ag4 @lv4)) (ai @inf4 (ai @und9 @sz9))) (ai (ai @ag9 (ai @lv9 @inf9)) (ai (ai @und24 @sz24) (ai @ag24 @fo24))))) (ai (ai (ai (ai @bA24 (ai @pT24_0 @pT24_1)) (ai @pT24_2 (ai @lv24 @inf24))) (ai (ai @und25 (ai @sz25 @ag25)) (ai (ai @pT25 @inf25) (ai @und27 @sz27)))) (ai (ai (ai @ag27 (ai @fo27 @bA27)) (ai @pT27_0 (ai @pT27_1 @pT27_2))) (ai (ai @pT27_3 (ai @inf27 @und32)) (ai (ai @sz32 @ag32) (ai @lv32 @inf32)))))) := (ai (ai (ai (ai (ai @rs9 (ai @lv9_0 @ro27_1_fold_go_44)) (ai @lv9_1 (ai @lv9_2 @lv9_3))) (ai (ai @lv9_4 (ai @und3 @sz3)) (ai (ai @ag3 @lv3) (ai @inf3 @und4)))) (ai (ai (ai @sz4 (ai @ag4 @lv4)) (ai @inf4 (ai @und9 @sz9))) (ai (ai @ag9 (ai @lv9 @inf9)) (ai (ai @und24 @sz24) (ai @ag24 @fo24))))) (ai (ai (ai (ai @bA24 (ai @pT24_0 @pT24_1)) (ai @pT24_2 (ai @lv24 @inf24))) (ai (ai @und25 (ai @sz25 @ag25)) (ai (ai @pT25 @inf25) (ai @und27 @sz27)))) (ai (ai (ai @ag27 (ai @fo27 @bA27)) (ai @pT27_0 (ai @pT27_1 @pT27_2))) (ai (ai @pT27_3 (ai @inf27 @und32)) (ai (ai @sz32 @ag32) (ai @lv32 @inf32))))))
theorem ty_FoY_12 : type_of% (ai (ai (ai (ai (ai @rs12 (ai @lv12_0 @ro27_1_fold_go_52)) (ai @lv12_1 (ai @lv12_2 @lv12_3))) (ai (ai @lv12_4 (ai @und3 @sz3)) (ai (ai @ag3 @lv3) (ai @inf3 @und4)))) (ai (ai (ai @sz4 (ai @ag4 @lv4)) (ai @inf4 (ai @und9 @sz9))) (ai (ai @ag9 (ai @lv9 @inf9)) (ai (ai @und24 @sz24) (ai @ag24 @fo24))))) (ai (ai (ai (ai @bA24 (ai @pT24_0 @pT24_1)) (ai @pT24_2 (ai @lv24 @inf24))) (ai (ai @und25 (ai @sz25 @ag25)) (ai (ai @pT25 @inf25) (ai @und27 @sz27)))) (ai (ai (ai @ag27 (ai @fo27 @bA27)) (ai @pT27_0 (ai @pT27_1 @pT27_2))) (ai (ai @pT27_3 (ai @inf27 @und32)) (ai (ai @sz32 @ag32) (ai @lv32 @inf32)))))) := (ai (ai (ai (ai (ai @rs12 (ai @lv12_0 @ro27_1_fold_go_52)) (ai @lv12_1 (ai @lv12_2 @lv12_3))) (ai (ai @lv12_4 (ai @und3 @sz3)) (ai (ai @ag3 @lv3) (ai @inf3 @und4)))) (ai (ai (ai @sz4 (ai @ag4 @lv4)) (ai @inf4 (ai @und9 @sz9))) (ai (ai @ag9 (ai @lv9 @inf9)) (ai (ai @und24 @sz24) (ai @ag24 @fo24))))) (ai (ai (ai (ai @bA24 (ai @pT24_0 @pT24_1)) (ai @pT24_2 (ai @lv24 @inf24))) (ai (ai @und25 (ai @sz25 @ag25)) (ai (ai @pT25 @inf25) (ai @und27 @sz27)))) (ai (ai (ai @ag27 (ai @fo27 @bA27)) (ai @pT27_0 (ai @pT27_1 @pT27_2))) (ai (ai @pT27_3 (ai @inf27 @und32)) (ai (ai @sz32 @ag32) (ai @lv32 @inf32))))))
set_option maxRecDepth 100000
set_option maxHeartbeats 40000000



theorem ret_Fold (k : Nat) (x : Exp) (hk : x.deep ≤ k) (hx : FOk x) : RetZT zF 64 (k + 2) 9 [.d x.dv] [(foldE x).dv, .int .i64 0] := by
  have f0 := fun (S : St) (d dst : Nat) => (ca_Z (Z := zF) (N := 64) (k := k + 2) (by decide) (by decide)).trans (ca_CheckE (d := d) (dst := dst) (S := S) x (by have := hx.n; omega) hx.w)
  have hc : chkE x = 0 := by have := hx.n; have := hx.d; unfold chkE; rw [if_neg (by omega), if_neg (by omega)]
  have f1 := fun (S : St) (d dst : Nat) => ca_retZ (d := d) (dst := dst) (S := S) (args := [.d x.dv]) (ds := [x.dv]) (by decide) (ret_fold k x hk hx) rfl (tab_opn (by kernel_rfl)) (tab_res (by kernel_rfl))
  rw [hc] at f0
  generalize foldE x = y at *
  rw [Exp.dv_eq x, Exp.dv_eq y] at f1
  rw [Exp.dv_eq x] at f0 ⊢
  rw [Exp.dv_eq y]
  refine stepq_good fn9 rfl rfl ?_
  simp only [amr, amc, amp, if_true, if_false, ne_eq, gt_iff_lt, Option.getD, argsT, Option.bind, Option.map, List.headD, List.tail, opnsL, List.replicate, lendsL, seval, ty_FoY_9, f0, f1, bne_self_eq_false]
theorem ret_ClosedF (k : Nat) (x : Exp) (hx : FOk x) : RetZT zF 64 (k + 1) 12 [.d x.dv] [.bool (decide (x.refs = [])), .int .i64 0] := by
  have f0 := fun (S : St) (d dst : Nat) => (ca_Z (Z := zF) (N := 64) (k := k + 1) (by decide) (by decide)).trans (ca_CheckE (d := d) (dst := dst) (S := S) x (by have := hx.n; omega) hx.w)
  have hc : chkE x = 0 := by have := hx.n; have := hx.d; unfold chkE; rw [if_neg (by omega), if_neg (by omega)]
  have f1 := fun (S : St) (d dst : Nat) => ca_retZ (d := d) (dst := dst) (S := S) (args := [.d x.dv]) (ds := [x.dv]) (by decide) (ret_closed k x hx) rfl (tab_opn (by kernel_rfl)) (tab_res (by kernel_rfl))
  rw [hc] at f0
  rw [Exp.dv_eq x] at f0 f1 ⊢
  refine stepq_good fn12 rfl rfl ?_
  simp only [amr, amc, amp, if_true, if_false, ne_eq, gt_iff_lt, Option.getD, argsT, Option.bind, Option.map, List.headD, List.tail, opnsL, List.replicate, lendsL, seval, ty_FoY_12, f0, f1, bne_self_eq_false]
end Go.Proofs.Ythmggkidmcgfoaa.Am
