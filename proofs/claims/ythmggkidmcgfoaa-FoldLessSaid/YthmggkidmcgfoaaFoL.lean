/- FoldLess, walked. -/
import Derived.Test.YthmggkidmcgfoaaFoY
set_option linter.unusedVariables false
set_option linter.unusedSimpArgs false
namespace Go.Proofs.Ythmggkidmcgfoaa.Am
open Go Go.RowKit
theorem ty_FoL_5 : type_of% (ai (ai (ai (ai (ai (ai @rs5 @lv5_0) (ai @lv5_1 (ai @lv5_2 @lv5_3))) (ai (ai @lv5_4 (ai @lv5_5 @lv5_6)) (ai @lv5_7 (ai @lv5_8 @lv5_9)))) (ai (ai (ai @lv5_10 (ai @lv5_11 @lv5_12)) (ai @lv5_13 (ai @kp5_8 @und1))) (ai (ai @sz1 (ai @ag1 @inf1)) (ai @und3 (ai @sz3 @ag3))))) (ai (ai (ai (ai @lv3 (ai @inf3 @und4)) (ai @sz4 (ai @ag4 @lv4))) (ai (ai @inf4 (ai @und9 @sz9)) (ai @ag9 (ai @lv9 @inf9)))) (ai (ai (ai @und22 (ai @sz22 @ag22)) (ai @pT22 (ai @inf22 @und24))) (ai (ai @sz24 (ai @ag24 @fo24)) (ai @bA24 (ai @pT24_0 @pT24_1)))))) (ai (ai (ai (ai (ai @pT24_2 (ai @lv24 @inf24)) (ai @und25 (ai @sz25 @ag25))) (ai (ai @pT25 (ai @inf25 @und27)) (ai @sz27 (ai @ag27 @fo27)))) (ai (ai (ai @bA27 (ai @pT27_0 @pT27_1)) (ai @pT27_2 (ai @pT27_3 @inf27))) (ai (ai @und30 (ai @sz30 @ag30)) (ai @pT30 (ai @inf30 @und32))))) (ai (ai (ai (ai @sz32 (ai @ag32 @lv32)) (ai @inf32 (ai @und49 @sz49))) (ai (ai @ag49 (ai @fo49 @bA49)) (ai @pT49_0 (ai @pT49_1 @pT49_2)))) (ai (ai (ai @pT49_3 (ai @inf49 @und58)) (ai @sz58 (ai @ag58 @fo58))) (ai (ai @bA58 (ai @pT58_0 @pT58_1)) (ai @pT58_2 (ai @pT58_3 @inf58))))))) := (ai (ai (ai (ai (ai (ai @rs5 @lv5_0) (ai @lv5_1 (ai @lv5_2 @lv5_3))) (ai (ai @lv5_4 (ai @lv5_5 @lv5_6)) (ai @lv5_7 (ai @lv5_8 @lv5_9)))) (ai (ai (ai @lv5_10 (ai @lv5_11 @lv5_12)) (ai @lv5_13 (ai @kp5_8 @und1))) (ai (ai @sz1 (ai @ag1 @inf1)) (ai @und3 (ai @sz3 @ag3))))) (ai (ai (ai (ai @lv3 (ai @inf3 @und4)) (ai @sz4 (ai @ag4 @lv4))) (ai (ai @inf4 (ai @und9 @sz9)) (ai @ag9 (ai @lv9 @inf9)))) (ai (ai (ai @und22 (ai @sz22 @ag22)) (ai @pT22 (ai @inf22 @und24))) (ai (ai @sz24 (ai @ag24 @fo24)) (ai @bA24 (ai @pT24_0 @pT24_1)))))) (ai (ai (ai (ai (ai @pT24_2 (ai @lv24 @inf24)) (ai @und25 (ai @sz25 @ag25))) (ai (ai @pT25 (ai @inf25 @und27)) (ai @sz27 (ai @ag27 @fo27)))) (ai (ai (ai @bA27 (ai @pT27_0 @pT27_1)) (ai @pT27_2 (ai @pT27_3 @inf27))) (ai (ai @und30 (ai @sz30 @ag30)) (ai @pT30 (ai @inf30 @und32))))) (ai (ai (ai (ai @sz32 (ai @ag32 @lv32)) (ai @inf32 (ai @und49 @sz49))) (ai (ai @ag49 (ai @fo49 @bA49)) (ai @pT49_0 (ai @pT49_1 @pT49_2)))) (ai (ai (ai @pT49_3 (ai @inf49 @und58)) (ai @sz58 (ai @ag58 @fo58))) (ai (ai @bA58 (ai @pT58_0 @pT58_1)) (ai @pT58_2 (ai @pT58_3 @inf58)))))))
set_option maxRecDepth 100000
set_option maxHeartbeats 40000000



theorem ret_FoldLess (l : List Raw) (kind : Int) (hl : l.length ≤ 9223372036854775807) (hr : ∀ r ∈ l, r.ok) (hki : -9223372036854775808 ≤ kind ∧ kind ≤ 9223372036854775807) : ∃ x H', stepA tab (callZ zF 64 20) 64 0 5 ([.sl 4 (l.map Raw.dv), .int .i64 kind].map AV.d) [] [] = some (x, H') ∧ x = .d (.bool true) := by
  obtain ⟨hty, w1⟩ := ty_pick hki
  have p1 : ∀ (S : St) (d dst : Nat), callA tab (callZ zF 64 20) d dst 7 [.d (.int .i64 kind), .d (.int .i64 3)] S = some (.d (.int .i64 (pick kind 3)), S) := fun S d dst => (ca_Z (by decide) (by decide)).trans (ca_picked kind 3 (by decide))
  have fE := fun (S : St) (d dst : Nat) => (ca_Z (Z := zF) (N := 64) (k := 20) (by decide) (by decide)).trans (ca_Expr (d := d) (dst := dst) (S := S) l (1 + pick kind 3) someF (by decide) hl hr)
  have fS := fun (S : St) (d dst : Nat) => (ca_Z (Z := zF) (N := 64) (k := 20) (by decide) (by decide)).trans (ca_Some (d := d) (dst := dst) (S := S))
  have wX := mkE_wf hr hty someF_ok
  have nX := mkE_nodes l (1 + pick kind 3) someF
  have dX := mkE_deep l (1 + pick kind 3) someF
  have mX := l5_mem hr (kind := 1 + pick kind 3)
  generalize mkE l (1 + pick kind 3) someF = X at *
  have hX : FOk X := ⟨wX, by omega, by omega, fun s hs => by have := mX s hs; simp only [l5, List.mem_cons, List.not_mem_nil, or_false] at this; rcases this with rfl | rfl | rfl | rfl | rfl <;> decide⟩
  have fF := fun (S : St) (d dst : Nat) => ca_retZT (Z := zF) (N := 64) (k := 19) (d := d) (dst := dst) (S := S) (args := [.d X.dv]) (ds := [X.dv]) (by decide) (ret_Fold 17 X (by omega) hX) rfl (tab_opn (by kernel_rfl)) (tab_res (by kernel_rfl))
  have hY := fold_less X wX
  generalize foldE X = Y at *
  have nY := hY.n
  have dY := hY.d
  have f1 := fun (S : St) (d dst : Nat) => (ca_Z (Z := zF) (N := 64) (k := 20) (by decide) (by decide)).trans (ca_Size (d := d) (dst := dst) (S := S) X (by omega))
  have f2 := fun (S : St) (d dst : Nat) => (ca_Z (Z := zF) (N := 64) (k := 20) (by decide) (by decide)).trans (ca_Size (d := d) (dst := dst) (S := S) Y (by omega))
  have f3 := fun (S : St) (d dst : Nat) => (ca_Z (Z := zF) (N := 64) (k := 20) (by decide) (by decide)).trans (ca_CheckE (d := d) (dst := dst) (S := S) Y (by omega) hY.w)
  have hc : chkE Y = 0 := by unfold chkE; rw [if_neg (by omega), if_neg (by omega)]
  rw [hc] at f3
  have gY := fun (s : Str) (S : St) (d dst : Nat) => (ca_Z (Z := zF) (N := 64) (k := 20) (by decide) (by decide)).trans (ca_Has (d := d) (dst := dst) (S := S) Y s)
  have gX := fun (s : Str) (h : decide (s ∈ Y.refs) = true) (S : St) (d dst : Nat) => (ca_Z (Z := zF) (N := 64) (k := 20) (by decide) (by decide)).trans ((ca_Has (d := d) (dst := dst) (S := S) X s).trans (by rw [decide_eq_true (hY.r s (of_decide_eq_true h))]))
  have one := (one_node X).1
  have b1 : decide ((X.nodes : Int) < 1) = false := decide_eq_false (by omega)
  have b2 : decide ((Y.nodes : Int) > (X.nodes : Int)) = false := decide_eq_false (by omega)
  have b3 : decide ((X.nodes : Int) < (Y.nodes : Int)) = false := decide_eq_false (by omega)
  have y0 := gY [110]
  have x0 := gX [110]
  have y1 := gY [109]
  have x1 := gX [109]
  have y2 := gY [116]
  have x2 := gX [116]
  have y3 := gY [117]
  have x3 := gX [117]
  have y4 := gY [115]
  have x4 := gX [115]
  clear gY gX hX hY mX wX hc
  rw [Exp.dv_eq X] at fE fF f1
  rw [Exp.dv_eq Y] at fF f2 f3
  rw [Exp.dv_eq Y] at y0
  rw [Exp.dv_eq X] at x0
  generalize decide ([110] ∈ Y.refs) = v0 at *
  have e0 : (someF.map Field.dv)[0]? = some (.agg [.str [110], .int .i64 1, .int .i64 1, .int .i64 0, .int .i64 0, .int .i64 0, .str [], .str [], .sl 6 []]) := rfl
  rw [Exp.dv_eq Y] at y1
  rw [Exp.dv_eq X] at x1
  generalize decide ([109] ∈ Y.refs) = v1 at *
  have e1 : (someF.map Field.dv)[1]? = some (.agg [.str [109], .int .i64 1, .int .i64 1, .int .i64 0, .int .i64 0, .int .i64 0, .str [], .str [], .sl 6 []]) := rfl
  rw [Exp.dv_eq Y] at y2
  rw [Exp.dv_eq X] at x2
  generalize decide ([116] ∈ Y.refs) = v2 at *
  have e2 : (someF.map Field.dv)[2]? = some (.agg [.str [116], .int .i64 1, .int .i64 2, .int .i64 0, .int .i64 0, .int .i64 0, .str [], .str [], .sl 6 []]) := rfl
  rw [Exp.dv_eq Y] at y3
  rw [Exp.dv_eq X] at x3
  generalize decide ([117] ∈ Y.refs) = v3 at *
  have e3 : (someF.map Field.dv)[3]? = some (.agg [.str [117], .int .i64 1, .int .i64 2, .int .i64 0, .int .i64 0, .int .i64 0, .str [], .str [], .sl 6 []]) := rfl
  rw [Exp.dv_eq Y] at y4
  rw [Exp.dv_eq X] at x4
  generalize decide ([115] ∈ Y.refs) = v4 at *
  have e4 : (someF.map Field.dv)[4]? = some (.agg [.str [115], .int .i64 1, .int .i64 3, .int .i64 0, .int .i64 0, .int .i64 0, .str [], .str [], .sl 6 []]) := rfl
  have eL : (someF.map Field.dv).length = 5 := rfl
  generalize someF.map Field.dv = D at *
  cases v0 <;> cases v1 <;> cases v2 <;> cases v3 <;> cases v4 <;> (
    refine stepq_good fn5 rfl rfl ?_
    simp only [amr, amc, amp, if_true, if_false, ne_eq, gt_iff_lt, Option.getD, argsT, Option.bind, Option.map, List.headD, List.tail, opnsL, List.replicate, lendsL, seval, ty_FoL_5, p1, w1, fE, fS, fF, f1, f2, f3, x0, x1, x2, x3, x4, y0, y1, y2, y3, y4, b1, b2, b3, cx_loop, clp_s, nameOf, (show IntKind.i64.wrap 0 = 0 from rfl), (show IntKind.i64.wrap 1 = 1 from rfl), (show IntKind.i64.wrap 2 = 2 from rfl), (show IntKind.i64.wrap 3 = 3 from rfl), (show IntKind.i64.wrap 4 = 4 from rfl), (show IntKind.i64.wrap 5 = 5 from rfl), (show IntKind.i64.wrap 6 = 6 from rfl), (show IntKind.i64.wrap 7 = 7 from rfl), (show IntKind.i64.wrap 8 = 8 from rfl), (show IntKind.i64.wrap 9 = 9 from rfl), (show IntKind.i64.wrap 10 = 10 from rfl), (show IntKind.i64.wrap 11 = 11 from rfl), (show IntKind.i64.wrap 12 = 12 from rfl), (show IntKind.i64.wrap 13 = 13 from rfl), (show IntKind.i64.wrap 14 = 14 from rfl), e0, e1, e2, e3, e4, eL, bne_self_eq_false])
end Go.Proofs.Ythmggkidmcgfoaa.Am
