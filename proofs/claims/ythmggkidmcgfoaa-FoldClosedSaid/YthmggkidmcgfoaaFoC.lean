/- FoldClosed, walked. -/
import Derived.Test.YthmggkidmcgfoaaFoY
set_option linter.unusedVariables false
set_option linter.unusedSimpArgs false
namespace Go.Proofs.Ythmggkidmcgfoaa.Am
open Go Go.RowKit
theorem ty_FoC_4 : type_of% (ai (ai (ai (ai (ai (ai @rs4 (ai @lv4_0 @lv4_1)) (ai @lv4_2 (ai @lv4_3 @lv4_4))) (ai (ai @lv4_5 (ai @lv4_6 @lv4_7)) (ai (ai @lv4_8 @lv4_9) (ai @lv4_10 @lv4_11)))) (ai (ai (ai @lv4_12 (ai @und1 @sz1)) (ai @ag1 (ai @inf1 @und3))) (ai (ai @sz3 (ai @ag3 @lv3)) (ai (ai @inf3 @und4) (ai @sz4 @ag4))))) (ai (ai (ai (ai @lv4 (ai @inf4 @und9)) (ai @sz9 (ai @ag9 @lv9))) (ai (ai @inf9 (ai @und22 @sz22)) (ai (ai @ag22 @pT22) (ai @inf22 @und24)))) (ai (ai (ai @sz24 (ai @ag24 @fo24)) (ai (ai @bA24 @pT24_0) (ai @pT24_1 @pT24_2))) (ai (ai @lv24 (ai @inf24 @und25)) (ai (ai @sz25 @ag25) (ai @pT25 @inf25)))))) (ai (ai (ai (ai (ai @und27 (ai @sz27 @ag27)) (ai @fo27 (ai @bA27 @pT27_0))) (ai (ai @pT27_1 (ai @pT27_2 @pT27_3)) (ai (ai @inf27 @und30) (ai @sz30 @ag30)))) (ai (ai (ai @pT30 (ai @inf30 @und32)) (ai (ai @sz32 @ag32) (ai @lv32 @inf32))) (ai (ai @und35 (ai @sz35 @ag35)) (ai (ai @pT35 @inf35) (ai @und38 @sz38))))) (ai (ai (ai (ai @ag38 (ai @fo38 @bA38)) (ai @pT38_0 (ai @pT38_1 @pT38_2))) (ai (ai @inf38 (ai @und49 @sz49)) (ai (ai @ag49 @fo49) (ai @bA49 @pT49_0)))) (ai (ai (ai @pT49_1 (ai @pT49_2 @pT49_3)) (ai (ai @inf49 @und58) (ai @sz58 @ag58))) (ai (ai @fo58 (ai @bA58 @pT58_0)) (ai (ai @pT58_1 @pT58_2) (ai @pT58_3 @inf58))))))) := (ai (ai (ai (ai (ai (ai @rs4 (ai @lv4_0 @lv4_1)) (ai @lv4_2 (ai @lv4_3 @lv4_4))) (ai (ai @lv4_5 (ai @lv4_6 @lv4_7)) (ai (ai @lv4_8 @lv4_9) (ai @lv4_10 @lv4_11)))) (ai (ai (ai @lv4_12 (ai @und1 @sz1)) (ai @ag1 (ai @inf1 @und3))) (ai (ai @sz3 (ai @ag3 @lv3)) (ai (ai @inf3 @und4) (ai @sz4 @ag4))))) (ai (ai (ai (ai @lv4 (ai @inf4 @und9)) (ai @sz9 (ai @ag9 @lv9))) (ai (ai @inf9 (ai @und22 @sz22)) (ai (ai @ag22 @pT22) (ai @inf22 @und24)))) (ai (ai (ai @sz24 (ai @ag24 @fo24)) (ai (ai @bA24 @pT24_0) (ai @pT24_1 @pT24_2))) (ai (ai @lv24 (ai @inf24 @und25)) (ai (ai @sz25 @ag25) (ai @pT25 @inf25)))))) (ai (ai (ai (ai (ai @und27 (ai @sz27 @ag27)) (ai @fo27 (ai @bA27 @pT27_0))) (ai (ai @pT27_1 (ai @pT27_2 @pT27_3)) (ai (ai @inf27 @und30) (ai @sz30 @ag30)))) (ai (ai (ai @pT30 (ai @inf30 @und32)) (ai (ai @sz32 @ag32) (ai @lv32 @inf32))) (ai (ai @und35 (ai @sz35 @ag35)) (ai (ai @pT35 @inf35) (ai @und38 @sz38))))) (ai (ai (ai (ai @ag38 (ai @fo38 @bA38)) (ai @pT38_0 (ai @pT38_1 @pT38_2))) (ai (ai @inf38 (ai @und49 @sz49)) (ai (ai @ag49 @fo49) (ai @bA49 @pT49_0)))) (ai (ai (ai @pT49_1 (ai @pT49_2 @pT49_3)) (ai (ai @inf49 @und58) (ai @sz58 @ag58))) (ai (ai @fo58 (ai @bA58 @pT58_0)) (ai (ai @pT58_1 @pT58_2) (ai @pT58_3 @inf58)))))))
set_option maxRecDepth 100000
set_option maxHeartbeats 40000000



theorem ca_ExprN {d dst : Nat} {S : St} (l : List Raw) (kind : Int) (hl : l.length ≤ 9223372036854775807) (hr : ∀ r ∈ l, r.ok) : callA tab (callR tab) d dst 6 [.d (.sl 4 (l.map Raw.dv)), .d (.int .i64 kind), .own 9 [] none] S = some (.d (mkE l kind []).dv, S) :=
  ca_retD (ds := [.sl 4 (l.map Raw.dv), .int .i64 kind, .sl 9 (([] : List Field).map Field.dv)]) (ret_Expr l kind [] (by decide) hl hr) rfl (tab_opn (by kernel_rfl)) (tab_res (by kernel_rfl))
theorem known_of {v : Val} (h : VOK v) (h4 : v.kind ≠ 4) (h5 : v.kind ≠ 5) : valKnown v = true := by
  have hk := vok_kind h
  have h' : valChk v = 0 := h
  unfold valKnown
  rw [h']
  simp
  omega
theorem ret_FoldClosed (l : List Raw) (kind : Int) (hl : l.length ≤ 9223372036854775807) (hr : ∀ r ∈ l, r.ok) (hki : -9223372036854775808 ≤ kind ∧ kind ≤ 9223372036854775807) : ∃ x H', stepA tab (callZ zF 64 20) 64 0 4 ([.sl 4 (l.map Raw.dv), .int .i64 kind].map AV.d) [] [] = some (x, H') ∧ x = .d (.bool true) := by
  obtain ⟨hty, w1⟩ := ty_pick hki
  have p1 : ∀ (S : St) (d dst : Nat), callA tab (callZ zF 64 20) d dst 7 [.d (.int .i64 kind), .d (.int .i64 3)] S = some (.d (.int .i64 (pick kind 3)), S) := fun S d dst => (ca_Z (by decide) (by decide)).trans (ca_picked kind 3 (by decide))
  have fE := fun (S : St) (d dst : Nat) => (ca_Z (Z := zF) (N := 64) (k := 20) (by decide) (by decide)).trans (ca_ExprN (d := d) (dst := dst) (S := S) l (1 + pick kind 3) hl hr)
  have wX := mkE_wf hr hty (fs := []) (by intro f hf; cases hf)
  have nX := mkE_nodes l (1 + pick kind 3) []
  have dX := mkE_deep l (1 + pick kind 3) []
  have rX : (mkE l (1 + pick kind 3) []).refs = [] := by
    have h := gexpr_refs (fs := []) (by decide) hr 3 (1 + pick kind 3) 0
    change ∀ t, t ∈ (mkE l (1 + pick kind 3) []).refs → _ at h
    generalize (mkE l (1 + pick kind 3) []).refs = L at *
    cases L with
    | nil => rfl
    | cons t L => obtain ⟨f, hf, _⟩ := h t (by simp); cases hf
  generalize mkE l (1 + pick kind 3) [] = X at *
  have hX : FOk X := ⟨wX, by omega, by omega, fun s hs => by rw [rX] at hs; cases hs⟩
  have fF := fun (S : St) (d dst : Nat) => ca_retZT (Z := zF) (N := 64) (k := 19) (d := d) (dst := dst) (S := S) (args := [.d X.dv]) (ds := [X.dv]) (by decide) (ret_Fold 17 X (by omega) hX) rfl (tab_opn (by kernel_rfl)) (tab_res (by kernel_rfl))
  have fC := fun (S : St) (d dst : Nat) => ca_retZT (Z := zF) (N := 64) (k := 19) (d := d) (dst := dst) (S := S) (args := [.d X.dv]) (ds := [X.dv]) (by decide) (ret_ClosedF 18 X hX) rfl (tab_opn (by kernel_rfl)) (tab_res (by kernel_rfl))
  have hT : decide (X.refs = []) = true := decide_eq_true rX
  rw [hT] at fC
  have fV := fun (S : St) (d dst : Nat) => (ca_Z (Z := zF) (N := 64) (k := 20) (by decide) (by decide)).trans (ca_OfE (d := d) (dst := dst) (S := S) (x := X) ⟨by omega, by omega⟩ wX)
  have hY := fold_less X wX
  have vX := vok_ev mok_e X wX
  have h4 := np_ev X wX
  have hfl : (evE [] X).kind = 5 → (foldE X).op ≠ 1 := fold_fault wX
  have hkn : (evE [] X).kind ≠ 5 → foldE X = negC (evE [] X) := fun h5 => fold_known rX (known_of vX h4 h5)
  have hk5 : (evE [] X).kind ≠ 5 → valKnown (evE [] X) = true := known_of vX h4
  have nY := hY.n
  have dY := hY.d
  have f2 := fun (S : St) (d dst : Nat) => (ca_Z (Z := zF) (N := 64) (k := 20) (by decide) (by decide)).trans (ca_Size (d := d) (dst := dst) (S := S) (foldE X) (by omega))
  generalize foldE X = Y at *
  generalize evE [] X = v at *
  clear hX hY wX rX hT vX h4
  rw [Exp.dv_eq X] at fE fF fC fV
  rw [Exp.dv_eq Y] at fF f2
  by_cases c5 : v.kind = 5
  · have b5 : (v.kind == 5) = true := beq_iff_eq.2 c5
    have b1 : (Y.op == 1) = false := beq_eq_false_iff_ne.2 (hfl c5)
    have b1' : (Y.op != 1) = true := by simp [bne, b1]
    clear hfl hkn hk5
    refine stepq_good fn4 rfl rfl ?_
    simp only [amr, amc, amp, if_true, if_false, ne_eq, gt_iff_lt, Option.getD, argsT, Option.bind, Option.map, List.headD, List.tail, opnsL, List.replicate, lendsL, seval, ty_FoC_4, p1, w1, fE, fF, fC, fV, f2, b5, b1', bne_self_eq_false]
  · have b5 : (v.kind == 5) = false := beq_eq_false_iff_ne.2 c5
    have hy := hkn c5
    have hkk := hk5 c5
    clear hfl hkn hk5
    by_cases c1 : v.kind = 1 ∧ v.n < 0
    · obtain ⟨n2, _, _, _⟩ := less_neg hkk c1
      rw [← hy] at n2
      have o3 : Y.op = 3 := by rw [hy]; unfold negC; rw [if_pos c1]; rfl
      have b1 : (v.kind == 1) = true := beq_iff_eq.2 c1.1
      have b2 : decide (v.n < 0) = true := decide_eq_true c1.2
      rw [n2] at f2
      rw [o3] at fF f2
      clear hy
      refine stepq_good fn4 rfl rfl ?_
      simp only [amr, amc, amp, if_true, if_false, ne_eq, gt_iff_lt, Option.getD, argsT, Option.bind, Option.map, List.headD, List.tail, opnsL, List.replicate, lendsL, seval, ty_FoC_4, p1, w1, fE, fF, fC, fV, f2, b5, b1, b2, bne_self_eq_false]
    · obtain ⟨n1, _, _, _⟩ := less_pos hkk c1
      rw [← hy] at n1
      have o1 : Y.op = 1 := by rw [hy]; unfold negC; rw [if_neg c1]; rfl
      have ov : Y.v = v := by rw [hy]; unfold negC; rw [if_neg c1]; rfl
      rw [n1] at f2
      rw [o1, ov] at fF f2
      clear hy
      by_cases k1 : v.kind = 1
      · have b1 : (v.kind == 1) = true := beq_iff_eq.2 k1
        have b2 : decide (v.n < 0) = false := decide_eq_false (fun h => c1 ⟨k1, h⟩)
        refine stepq_good fn4 rfl rfl ?_
        simp only [amr, amc, amp, if_true, if_false, ne_eq, gt_iff_lt, Option.getD, argsT, Option.bind, Option.map, List.headD, List.tail, opnsL, List.replicate, lendsL, seval, ty_FoC_4, p1, w1, fE, fF, fC, fV, f2, b5, b1, b2, bne_self_eq_false, beq_self_eq_true]
      · have b1 : (v.kind == 1) = false := beq_eq_false_iff_ne.2 k1
        refine stepq_good fn4 rfl rfl ?_
        simp only [amr, amc, amp, if_true, if_false, ne_eq, gt_iff_lt, Option.getD, argsT, Option.bind, Option.map, List.headD, List.tail, opnsL, List.replicate, lendsL, seval, ty_FoC_4, p1, w1, fE, fF, fC, fV, f2, b5, b1, bne_self_eq_false, beq_self_eq_true]
end Go.Proofs.Ythmggkidmcgfoaa.Am
