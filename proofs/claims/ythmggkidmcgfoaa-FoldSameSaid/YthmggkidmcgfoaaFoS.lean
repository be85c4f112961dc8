/- FoldSame, walked. -/
import Derived.Test.YthmggkidmcgfoaaFoY
set_option linter.unusedVariables false
set_option linter.unusedSimpArgs false
namespace Go.Proofs.Ythmggkidmcgfoaa.Am
open Go Go.RowKit
theorem ty_FoS_3 : type_of% (ai (ai (ai (ai (ai (ai @rs3 (ai @lv3_0 @lv3_1)) (ai @lv3_2 (ai @lv3_3 @lv3_4))) (ai (ai @lv3_5 (ai @lv3_6 @lv3_7)) (ai (ai @lv3_8 @lv3_9) (ai @und1 @sz1)))) (ai (ai (ai @ag1 (ai @inf1 @und2)) (ai (ai @sz2 @ag2) (ai @lv2 @inf2))) (ai (ai @und3 (ai @sz3 @ag3)) (ai (ai @lv3 @inf3) (ai @und4 @sz4))))) (ai (ai (ai (ai @ag4 (ai @lv4 @inf4)) (ai @und9 (ai @sz9 @ag9))) (ai (ai @lv9 (ai @inf9 @und22)) (ai (ai @sz22 @ag22) (ai @pT22 @inf22)))) (ai (ai (ai @und24 (ai @sz24 @ag24)) (ai (ai @fo24 @bA24) (ai @pT24_0 @pT24_1))) (ai (ai @pT24_2 (ai @lv24 @inf24)) (ai (ai @und25 @sz25) (ai @ag25 @pT25)))))) (ai (ai (ai (ai (ai @inf25 (ai @und27 @sz27)) (ai @ag27 (ai @fo27 @bA27))) (ai (ai @pT27_0 (ai @pT27_1 @pT27_2)) (ai (ai @pT27_3 @inf27) (ai @und30 @sz30)))) (ai (ai (ai @ag30 (ai @pT30 @inf30)) (ai (ai @und32 @sz32) (ai @ag32 @lv32))) (ai (ai @inf32 (ai @und35 @sz35)) (ai (ai @ag35 @pT35) (ai @inf35 @und38))))) (ai (ai (ai (ai @sz38 (ai @ag38 @fo38)) (ai (ai @bA38 @pT38_0) (ai @pT38_1 @pT38_2))) (ai (ai @inf38 (ai @und49 @sz49)) (ai (ai @ag49 @fo49) (ai @bA49 @pT49_0)))) (ai (ai (ai @pT49_1 (ai @pT49_2 @pT49_3)) (ai (ai @inf49 @und58) (ai @sz58 @ag58))) (ai (ai @fo58 (ai @bA58 @pT58_0)) (ai (ai @pT58_1 @pT58_2) (ai @pT58_3 @inf58))))))) := (ai (ai (ai (ai (ai (ai @rs3 (ai @lv3_0 @lv3_1)) (ai @lv3_2 (ai @lv3_3 @lv3_4))) (ai (ai @lv3_5 (ai @lv3_6 @lv3_7)) (ai (ai @lv3_8 @lv3_9) (ai @und1 @sz1)))) (ai (ai (ai @ag1 (ai @inf1 @und2)) (ai (ai @sz2 @ag2) (ai @lv2 @inf2))) (ai (ai @und3 (ai @sz3 @ag3)) (ai (ai @lv3 @inf3) (ai @und4 @sz4))))) (ai (ai (ai (ai @ag4 (ai @lv4 @inf4)) (ai @und9 (ai @sz9 @ag9))) (ai (ai @lv9 (ai @inf9 @und22)) (ai (ai @sz22 @ag22) (ai @pT22 @inf22)))) (ai (ai (ai @und24 (ai @sz24 @ag24)) (ai (ai @fo24 @bA24) (ai @pT24_0 @pT24_1))) (ai (ai @pT24_2 (ai @lv24 @inf24)) (ai (ai @und25 @sz25) (ai @ag25 @pT25)))))) (ai (ai (ai (ai (ai @inf25 (ai @und27 @sz27)) (ai @ag27 (ai @fo27 @bA27))) (ai (ai @pT27_0 (ai @pT27_1 @pT27_2)) (ai (ai @pT27_3 @inf27) (ai @und30 @sz30)))) (ai (ai (ai @ag30 (ai @pT30 @inf30)) (ai (ai @und32 @sz32) (ai @ag32 @lv32))) (ai (ai @inf32 (ai @und35 @sz35)) (ai (ai @ag35 @pT35) (ai @inf35 @und38))))) (ai (ai (ai (ai @sz38 (ai @ag38 @fo38)) (ai (ai @bA38 @pT38_0) (ai @pT38_1 @pT38_2))) (ai (ai @inf38 (ai @und49 @sz49)) (ai (ai @ag49 @fo49) (ai @bA49 @pT49_0)))) (ai (ai (ai @pT49_1 (ai @pT49_2 @pT49_3)) (ai (ai @inf49 @und58) (ai @sz58 @ag58))) (ai (ai @fo58 (ai @bA58 @pT58_0)) (ai (ai @pT58_1 @pT58_2) (ai @pT58_3 @inf58)))))))
set_option maxRecDepth 100000
set_option maxHeartbeats 40000000



theorem ret_FoldSame (l m : List Raw) (kind which : Int) (hl : l.length ≤ 9223372036854775807) (hr : ∀ r ∈ l, r.ok) (hm : m.length ≤ 9223372036854775807) (hs : ∀ r ∈ m, r.ok) (hki : -9223372036854775808 ≤ kind ∧ kind ≤ 9223372036854775807) (hwi : -9223372036854775808 ≤ which ∧ which ≤ 9223372036854775807) : ∃ x H', stepA tab (callZ zF 64 20) 64 0 3 ([.sl 4 (l.map Raw.dv), .sl 4 (m.map Raw.dv), .int .i64 kind, .int .i64 which].map AV.d) [] [] = some (x, H') ∧ x = .d (.bool true) := by
  obtain ⟨hty, w1⟩ := ty_pick hki
  have p1 : ∀ (S : St) (d dst : Nat), callA tab (callZ zF 64 20) d dst 7 [.d (.int .i64 kind), .d (.int .i64 3)] S = some (.d (.int .i64 (pick kind 3)), S) := fun S d dst => (ca_Z (by decide) (by decide)).trans (ca_picked kind 3 (by decide))
  have p2 : ∀ (S : St) (d dst : Nat), callA tab (callZ zF 64 20) d dst 7 [.d (.int .i64 which), .d (.int .i64 10)] S = some (.d (.int .i64 (pick which 10)), S) := fun S d dst => (ca_Z (by decide) (by decide)).trans (ca_picked which 10 (by decide))
  have hq := pick_range which 10 hwi.1 hwi.2 (by decide)
  obtain ⟨k, hk⟩ : ∃ k : Nat, pick which 10 = (k : Int) := ⟨(pick which 10).toNat, by omega⟩
  rw [hk] at p2 hq
  have fE := fun (S : St) (d dst : Nat) => (ca_Z (Z := zF) (N := 64) (k := 20) (by decide) (by decide)).trans (ca_Expr (d := d) (dst := dst) (S := S) l (1 + pick kind 3) someF (by decide) hl hr)
  have fS := fun (S : St) (d dst : Nat) => (ca_Z (Z := zF) (N := 64) (k := 20) (by decide) (by decide)).trans (ca_Some (d := d) (dst := dst) (S := S))
  have f3 := fun (S : St) (d : Nat) => (ca_Z (Z := zF) (N := 64) (k := 20) (by decide) (by decide)).trans (ca_factsT m hm hs (d := d) (dst := 30) (j := 0) (S := S) (tab_thaw (by kernel_rfl)))
  have wX := mkE_wf hr hty someF_ok
  have nX := mkE_nodes l (1 + pick kind 3) someF
  have dX := mkE_deep l (1 + pick kind 3) someF
  have mX := l5_mem hr (kind := 1 + pick kind 3)
  generalize mkE l (1 + pick kind 3) someF = X at *
  have hX : FOk X := ⟨wX, by omega, by omega, fun s hs => by have := mX s hs; simp only [l5, List.mem_cons, List.not_mem_nil, or_false] at this; rcases this with rfl | rfl | rfl | rfl | rfl <;> decide⟩
  have fF := fun (S : St) (d dst : Nat) => ca_retZT (Z := zF) (N := 64) (k := 19) (d := d) (dst := dst) (S := S) (args := [.d X.dv]) (ds := [X.dv]) (by decide) (ret_Fold 17 X (by omega) hX) rfl (tab_opn (by kernel_rfl)) (tab_res (by kernel_rfl))
  have hY := fold_less X wX
  have hEq := fun (M : VMap) (hM : MOK M) => ev_fold hM X wX
  generalize foldE X = Y at *
  have nY := hY.n
  have dY := hY.d
  have wY := hY.w
  have hF := facts_ok hs someF 0 someF_ok
  have lF : (factsL m).length = 5 := factsF_len m someF 0
  change ∀ f ∈ factsL m, VOK f.has at hF
  generalize factsL m = F at *
  have gE : ∀ (G : List Fact), G.length = 5 → (∀ f ∈ G, VOK f.has) → ∀ (Z : Exp), Z.nodes ≤ 60 → Z.deep ≤ 12 → Z.wf → ∀ (S : St) (d dst : Nat) (id : Id), S.H.get id = some (.box (flatD (G.map Fact.dv))) →
      callA tab (callZ zF 64 20) d dst 11 [.d Z.dv, .arr id 0 5 7] S = some (.tup [.d (evE (fmap [] G) Z).dv, .d (.int .i64 0)], S) := fun G lG hG Z nZ dZ wZ S d dst id h => by
    have hb := frz_list0 (sz := 7) (n := 5) (xs := G.map Fact.dv) h (by rw [List.length_map, lG]) (by decide) (elt_f G)
    exact (ca_Z (Z := zF) (N := 64) (k := 20) (by decide) (by decide)).trans (ca_lentT (ds := [Z.dv, .sl 7 (G.map Fact.dv)]) (ys := [(evE (fmap [] G) Z).dv, .int .i64 0]) (ret_Of Z G (by unfold chkE; rw [if_neg (by omega), if_neg (by omega)]) (by omega) wZ (by omega) hG) rfl (by rw [List.map_cons, List.map_cons, hb]; rfl) (tab_lend (by kernel_rfl)) (tab_res (by kernel_rfl)) rfl)
  have hlC : (flatD (F.map Fact.dv)).length = 35 := by rw [flatD_len _ (elt_f F), List.length_map, lF]
  have hpos : ∀ (G : List Fact), (∀ f ∈ G, VOK f.has) → decide (0 < (evE (fmap [] G) X).kind) = true := fun G hG => decide_eq_true (by
    have := vok_kind (vok_ev (mok_fmap G [] mok_nil hG) X wX)
    omega)
  clear hX hY mX
  by_cases hk5 : k < 5
  · have b1 : decide ((k : Int) < 5) = true := decide_eq_true (by omega)
    obtain ⟨x, hx⟩ : ∃ x, F[k]? = some x := ⟨F[k]'(by omega), List.getElem?_eq_getElem _⟩
    have hG : ∀ f ∈ F.set k { x with has := ⟨4, 0, []⟩ }, VOK f.has := by
      intro f hf
      rcases List.mem_or_eq_of_mem_set hf with h | rfl
      · exact hF f h
      · rfl
    have lG : (F.set k { x with has := ⟨4, 0, []⟩ }).length = 5 := by rw [List.length_set, lF]
    have hz := flat_setF (f := Fact.dv) (sz := 7) (off := 4) (vs := [.d (.int .i64 4), .d (.int .i64 0), .d (.str [])]) (fun _ => rfl) F k x { x with has := ⟨4, 0, []⟩ } hx (by decide) rfl
    generalize F.set k { x with has := ⟨4, 0, []⟩ } = G at *
    have g1 : ∀ (S : St) (d dst : Nat) (id : Id), S.H.get id = some (.box ((flatD (F.map Fact.dv)).take (k * 7 + 4) ++ [.d (.int .i64 4), .d (.int .i64 0), .d (.str [])] ++ (flatD (F.map Fact.dv)).drop (k * 7 + 4 + 3))) →
        callA tab (callZ zF 64 20) d dst 11 [.d X.dv, .arr id 0 5 7] S = some (.tup [.d (evE (fmap [] G) X).dv, .d (.int .i64 0)], S) := fun S d dst id h =>
      gE G lG hG X (by omega) (by omega) wX S d dst id (by rw [h, ← hz]; rfl)
    have g2 : ∀ (S : St) (d dst : Nat) (id : Id), S.H.get id = some (.box ((flatD (F.map Fact.dv)).take (k * 7 + 4) ++ [.d (.int .i64 4), .d (.int .i64 0), .d (.str [])] ++ (flatD (F.map Fact.dv)).drop (k * 7 + 4 + 3))) →
        callA tab (callZ zF 64 20) d dst 11 [.d Y.dv, .arr id 0 5 7] S = some (.tup [.d (evE (fmap [] G) X).dv, .d (.int .i64 0)], S) := fun S d dst id h => by
      rw [← hEq _ (mok_fmap G [] mok_nil hG)]
      exact gE G lG hG Y (by omega) (by omega) wY S d dst id (by rw [h, ← hz]; rfl)
    have hp := hpos G hG
    have k1 : (k * 7 + 7 ≤ 35) = True := eq_true (by omega)
    have k2 : ((k : Int) < 5) = True := eq_true (by omega)
    clear hz gE hpos hEq
    generalize evE (fmap [] G) X = v at *
    generalize flatD (F.map Fact.dv) = C at *
    simp only [Exp.dv_eq X] at fE fF g1
    simp only [Exp.dv_eq Y] at fF g2
    simp only [Val.dv] at g1 g2
    refine stepq_good fn3 rfl rfl ?_
    simp only [amr, amc, amp, if_true, if_false, ne_eq, gt_iff_lt, Option.getD, argsT, Option.bind, Option.map, List.headD, List.tail, opnsL, List.replicate, lendsL, seval, ty_FoS_3, p1, p2, w1, (show IntKind.i64.wrap 0 = 0 from rfl), (show IntKind.i64.wrap 1 = 1 from rfl), (show IntKind.i64.wrap 2 = 2 from rfl), (show IntKind.i64.wrap 3 = 3 from rfl), (show IntKind.i64.wrap 4 = 4 from rfl), (show IntKind.i64.wrap 5 = 5 from rfl), (show IntKind.i64.wrap 6 = 6 from rfl), (show IntKind.i64.wrap 7 = 7 from rfl), (show IntKind.i64.wrap 8 = 8 from rfl), (show IntKind.i64.wrap 9 = 9 from rfl), (show IntKind.i64.wrap 10 = 10 from rfl), (show IntKind.i64.wrap 11 = 11 from rfl), (show IntKind.i64.wrap 12 = 12 from rfl), (show IntKind.i64.wrap 13 = 13 from rfl), (show IntKind.i64.wrap 14 = 14 from rfl), fE, fS, fF, f3, g1, g2, hlC, k1, k2, b1, hp, beq_self_eq_true, Nat.add_assoc, gt_iff_lt]
  · have b1 : decide ((k : Int) < 5) = false := decide_eq_false (by omega)
    have g1 := gE F lF hF X (by omega) (by omega) wX
    have g2 := gE F lF hF Y (by omega) (by omega) wY
    rw [hEq _ (mok_fmap F [] mok_nil hF)] at g2
    have hp := hpos F hF
    clear gE hpos hEq
    generalize evE (fmap [] F) X = v at *
    generalize flatD (F.map Fact.dv) = C at *
    simp only [Exp.dv_eq X] at fE fF g1
    simp only [Exp.dv_eq Y] at fF g2
    simp only [Val.dv] at g1 g2
    refine stepq_good fn3 rfl rfl ?_
    simp only [amr, amc, amp, if_true, if_false, ne_eq, gt_iff_lt, Option.getD, argsT, Option.bind, Option.map, List.headD, List.tail, opnsL, List.replicate, lendsL, seval, ty_FoS_3, p1, p2, w1, (show IntKind.i64.wrap 0 = 0 from rfl), (show IntKind.i64.wrap 1 = 1 from rfl), (show IntKind.i64.wrap 2 = 2 from rfl), (show IntKind.i64.wrap 3 = 3 from rfl), (show IntKind.i64.wrap 4 = 4 from rfl), (show IntKind.i64.wrap 5 = 5 from rfl), (show IntKind.i64.wrap 6 = 6 from rfl), (show IntKind.i64.wrap 7 = 7 from rfl), (show IntKind.i64.wrap 8 = 8 from rfl), (show IntKind.i64.wrap 9 = 9 from rfl), (show IntKind.i64.wrap 10 = 10 from rfl), (show IntKind.i64.wrap 11 = 11 from rfl), (show IntKind.i64.wrap 12 = 12 from rfl), (show IntKind.i64.wrap 13 = 13 from rfl), (show IntKind.i64.wrap 14 = 14 from rfl), fE, fS, fF, f3, g1, g2, hlC, b1, hp, beq_self_eq_true, Nat.add_assoc, gt_iff_lt]
end Go.Proofs.Ythmggkidmcgfoaa.Am
