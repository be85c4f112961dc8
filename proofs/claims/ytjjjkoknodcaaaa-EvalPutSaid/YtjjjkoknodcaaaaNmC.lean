/- To put a formula in the place of a field is to give the field the formula's value. -/
import Derived.Test.YtjjjkoknodcaaaaNmB
import Derived.Test.YtjjjkoknodcaaaaEvLz
set_option linter.unusedVariables false
set_option linter.unusedSimpArgs false
namespace Go.Proofs.Ytjjjkoknodcaaaa.Am
open Go Go.RowKit
theorem ty_NmC_14 : type_of% (ai (ai (ai (ai (ai (ai @rs14 (ai @lv14_0 @lv14_1)) (ai @lv14_2 (ai @mu30_27 @lv14_3))) (ai (ai @dr14_4 (ai @lv14_4 @lv14_5)) (ai (ai @lv14_6 @lv14_7) (ai @lv14_8 @dr14_9)))) (ai (ai (ai @lv14_9 (ai @dr14_10 @lv14_10)) (ai (ai @mu56_65 @lv14_11) (ai @und1 @sz1))) (ai (ai @ag1 (ai @inf1 @und3)) (ai (ai @sz3 @ag3) (ai @lv3 @inf3))))) (ai (ai (ai (ai @und4 (ai @sz4 @ag4)) (ai (ai @lv4 @inf4) (ai @und9 @sz9))) (ai (ai @ag9 (ai @lv9 @inf9)) (ai (ai @und22 @sz22) (ai @ag22 @pT22)))) (ai (ai (ai @inf22 (ai @und24 @sz24)) (ai (ai @ag24 @fo24) (ai @bA24 @pT24_0))) (ai (ai @pT24_1 (ai @pT24_2 @lv24)) (ai (ai @inf24 @und25) (ai @sz25 @ag25)))))) (ai (ai (ai (ai (ai @pT25 (ai @inf25 @und27)) (ai (ai @sz27 @ag27) (ai @fo27 @bA27))) (ai (ai @pT27_0 (ai @pT27_1 @pT27_2)) (ai (ai @pT27_3 @inf27) (ai @und30 @sz30)))) (ai (ai (ai @ag30 (ai @pT30 @inf30)) (ai (ai @und34 @sz34) (ai @ag34 @lv34))) (ai (ai @inf34 (ai @und49 @sz49)) (ai (ai @ag49 @fo49) (ai @bA49 @pT49_0))))) (ai (ai (ai (ai @pT49_1 (ai @pT49_2 @pT49_3)) (ai (ai @inf49 @und56) (ai @sz56 @ag56))) (ai (ai @pT56 (ai @inf56 @und65)) (ai (ai @sz65 @ag65) (ai @fo65 @bA65)))) (ai (ai (ai @pT65_0 (ai @pT65_1 @pT65_2)) (ai (ai @inf65 @und99) (ai @sz99 @ag99))) (ai (ai @fo99 (ai @bA99 @pT99_0)) (ai (ai @pT99_1 @pT99_2) (ai @pT99_3 @inf99))))))) := (ai (ai (ai (ai (ai (ai @rs14 (ai @lv14_0 @lv14_1)) (ai @lv14_2 (ai @mu30_27 @lv14_3))) (ai (ai @dr14_4 (ai @lv14_4 @lv14_5)) (ai (ai @lv14_6 @lv14_7) (ai @lv14_8 @dr14_9)))) (ai (ai (ai @lv14_9 (ai @dr14_10 @lv14_10)) (ai (ai @mu56_65 @lv14_11) (ai @und1 @sz1))) (ai (ai @ag1 (ai @inf1 @und3)) (ai (ai @sz3 @ag3) (ai @lv3 @inf3))))) (ai (ai (ai (ai @und4 (ai @sz4 @ag4)) (ai (ai @lv4 @inf4) (ai @und9 @sz9))) (ai (ai @ag9 (ai @lv9 @inf9)) (ai (ai @und22 @sz22) (ai @ag22 @pT22)))) (ai (ai (ai @inf22 (ai @und24 @sz24)) (ai (ai @ag24 @fo24) (ai @bA24 @pT24_0))) (ai (ai @pT24_1 (ai @pT24_2 @lv24)) (ai (ai @inf24 @und25) (ai @sz25 @ag25)))))) (ai (ai (ai (ai (ai @pT25 (ai @inf25 @und27)) (ai (ai @sz27 @ag27) (ai @fo27 @bA27))) (ai (ai @pT27_0 (ai @pT27_1 @pT27_2)) (ai (ai @pT27_3 @inf27) (ai @und30 @sz30)))) (ai (ai (ai @ag30 (ai @pT30 @inf30)) (ai (ai @und34 @sz34) (ai @ag34 @lv34))) (ai (ai @inf34 (ai @und49 @sz49)) (ai (ai @ag49 @fo49) (ai @bA49 @pT49_0))))) (ai (ai (ai (ai @pT49_1 (ai @pT49_2 @pT49_3)) (ai (ai @inf49 @und56) (ai @sz56 @ag56))) (ai (ai @pT56 (ai @inf56 @und65)) (ai (ai @sz65 @ag65) (ai @fo65 @bA65)))) (ai (ai (ai @pT65_0 (ai @pT65_1 @pT65_2)) (ai (ai @inf65 @und99) (ai @sz99 @ag99))) (ai (ai @fo99 (ai @bA99 @pT99_0)) (ai (ai @pT99_1 @pT99_2) (ai @pT99_3 @inf99)))))))
set_option maxRecDepth 100000
set_option maxHeartbeats 40000000



mutual
theorem ev_put {M N : VMap} {s : List UInt8} {y : Exp} {w : Val} (hw : evE M y = w) (hM : ∀ t, lookV N t = if t = s then some w else lookV M t) : ∀ x : Exp, evE M (putE s y x) = evE N x
  | .mk op v name args => by
    have ih := ev_putL hw hM args
    unfold putE
    split
    · rename_i h
      obtain ⟨rfl, rfl⟩ := h
      rw [hw, evE, if_neg (by decide), if_pos rfl, hM, if_pos rfl]
    · rename_i h
      unfold evE
      rw [ih]
      by_cases h1 : op = 1
      · rw [if_pos h1, if_pos h1]
      rw [if_neg h1, if_neg h1]
      by_cases h2 : op = 2
      · rw [if_pos h2, if_pos h2, hM, if_neg (fun e => h ⟨h2, e⟩)]
      rw [if_neg h2, if_neg h2]
theorem ev_putL {M N : VMap} {s : List UInt8} {y : Exp} {w : Val} (hw : evE M y = w) (hM : ∀ t, lookV N t = if t = s then some w else lookV M t) : ∀ l : List Exp, evL M (putEL s y l) = evL N l
  | [] => by simp only [putEL, evL]
  | x :: r => by simp only [putEL, evL, ev_put hw hM x, ev_putL hw hM r]
end
theorem look_endP (s : List UInt8) (v : Val) (t : List UInt8) : ∀ m : VMap, lookV (m ++ [(s, v)]) t = match lookV m t with
    | some w => some w
    | none => if t = s then some v else none
  | [] => rfl
  | (k, u) :: r => by
    simp only [List.cons_append, lookV]
    split
    · rfl
    · exact look_endP s v t r
/-- The first of a name counts. -/
theorem look_fmap (t : List UInt8) : ∀ (l : List Fact) (m : VMap), lookV (fmap m l) t = match lookV m t with
    | some w => some w
    | none => lookV (l.map fun f => (f.name, f.has)) t
  | [], m => by
    simp only [fmap, List.map_nil, lookV]
    cases lookV m t <;> rfl
  | f :: r, m => by
    rw [fmap, look_fmap t r]
    simp only [List.map_cons, lookV]
    by_cases h : (lookV m f.name).isSome = true
    · rw [if_pos h]
      cases hm : lookV m t with
      | some w => rfl
      | none =>
        simp only
        rw [if_neg]
        intro e
        rw [← e, hm] at h
        cases h
    · rw [if_neg h, look_endP]
      cases hm : lookV m t with
      | some w => rfl
      | none =>
        by_cases e : t = f.name
        · simp [e]
        · simp [e]
theorem look_first (f : Fact) (l : List Fact) (t : List UInt8) : lookV (fmap [] (f :: l)) t = if t = f.name then some f.has else lookV (fmap [] l) t := by
  rw [look_fmap, look_fmap]
  simp only [lookV, List.map_cons]
def nFact (w : Val) : Fact := ⟨[110], Val.zero, w⟩
theorem fst_tail : someF.drop 1 = [⟨[109], 1, 1, ez⟩, ⟨[116], 1, 2, ez⟩, ⟨[117], 1, 2, ez⟩, ⟨[115], 1, 3, ez⟩] := rfl
theorem ret_EvalPut (l m k : List Raw) (kind : Int) (hl : l.length ≤ 9223372036854775807) (hr : ∀ r ∈ l, r.ok) (hm : m.length ≤ 9223372036854775807) (hs : ∀ r ∈ m, r.ok) (hk : k.length ≤ 9223372036854775807) (ht : ∀ r ∈ k, r.ok) (hki : -9223372036854775808 ≤ kind ∧ kind ≤ 9223372036854775807) : Ret tab 14 [.d (.sl 4 (l.map Raw.dv)), .d (.sl 4 (m.map Raw.dv)), .d (.sl 4 (k.map Raw.dv)), .d (.int .i64 kind)] (.d (.bool true)) := by
  obtain ⟨hty, w1⟩ := ty_pick hki
  have p1 : ∀ (S : St) (d dst : Nat), callA tab (callR tab) d dst 16 [.d (.int .i64 kind), .d (.int .i64 3)] S = some (.d (.int .i64 (pick kind 3)), S) := fun S d dst => ca_picked kind 3 (by decide)
  have hft : FsOK (someF.drop 1) := fun f hf => someF_ok f (List.mem_of_mem_drop hf)
  have l5 : someF.length = 5 := rfl
  have hdr : List.drop 1 (List.take 5 (List.map Field.dv someF)) = (someF.drop 1).map Field.dv := rfl
  have fE := fun (S : St) (d dst : Nat) => ca_Expr (d := d) (dst := dst) (S := S) l (1 + pick kind 3) someF (by decide) hl hr
  have fY := fun (S : St) (d dst : Nat) => ca_Expr (d := d) (dst := dst) (S := S) k 1 (someF.drop 1) (by decide) hk ht
  have f3 := fun (S : St) (d dst : Nat) => ca_factsL m hm hs (d := d) (dst := dst) (S := S)
  have wX := mkE_wf hr hty someF_ok
  have nX := mkE_nodes l (1 + pick kind 3) someF
  have dX := mkE_deep l (1 + pick kind 3) someF
  have wY := mkE_wf ht (show Ty 1 by unfold Ty; decide) hft
  have nY := mkE_nodes k 1 (someF.drop 1)
  have dY := mkE_deep k 1 (someF.drop 1)
  generalize mkE l (1 + pick kind 3) someF = X at *
  generalize mkE k 1 (someF.drop 1) = Y at *
  have hF := facts_ok hs someF 0 someF_ok
  have lF : (factsL m).length = 5 := factsF_len m someF 0
  change ∀ f ∈ factsL m, VOK f.has at hF
  generalize factsL m = F at *
  have fP := fun (S : St) (d dst : Nat) => ca_Put (d := d) (dst := dst) (S := S) X Y [110] ⟨by omega, by omega⟩ ⟨by omega, by omega⟩ wX wY (by kernel_rfl)
  have gY := fun (S : St) (d dst : Nat) => ca_OfD (x := Y) (l := F) (by omega) wY (by omega) hF rfl (d := d) (dst := dst) (S := S)
  have hM := mok_fmap F [] mok_nil hF
  have vY := vok_ev hM Y wY
  have hlaw := fun w (hw : evE (fmap [] F) Y = w) => ev_put (N := fmap [] (nFact w :: F)) (s := [110]) hw (fun t => look_first (nFact w) F t) X
  have wZ := putE_wf (s := [110]) wY X wX
  generalize evE (fmap [] F) Y = w at *
  have hlaw := hlaw w rfl
  have hG : ∀ f ∈ nFact w :: F, VOK f.has := fun f hf => by
    rcases List.mem_cons.1 hf with rfl | h
    · exact vY
    · exact hF f h
  have gB : ∀ (S : St) (d dst : Nat) (tok : Option Id), callA tab (callR tab) d dst 31 [.d X.dv, .own 7 ((nFact w).dv :: F.map Fact.dv) tok] S = some (.tup [.d (evE (fmap [] (nFact w :: F)) X).dv, .d (.int .i64 0)], S) := fun S d dst tok =>
    ca_ret_tup (ds := [X.dv, .sl 7 ((nFact w :: F).map Fact.dv)]) (ys := [(evE (fmap [] (nFact w :: F)) X).dv, .int .i64 0]) (ret_Of X (nFact w :: F) (by unfold chkE; rw [if_neg (by omega), if_neg (by omega)]) (by omega) wX (by simp only [List.length_cons]; omega) hG) rfl (tab_opn (by kernel_rfl)) (tab_res (by kernel_rfl)) rfl
  have hk0 : (w.kind == 0) = false := beq_eq_false_iff_ne.2 (by rcases vok_kind vY with h | h | h | h | h <;> omega)
  have hA : ((1 + F.length) * 80 ≤ 140737488355328) = True := eq_true (by omega)
  by_cases he : chkE (putE [110] Y X) = 0
  · have hz : (putE [110] Y X).nodes ≤ 60 ∧ (putE [110] Y X).deep ≤ 12 := by
      unfold chkE at he
      split at he
      · cases he
      · split at he
        · cases he
        · exact ⟨by omega, by omega⟩
    have gA := fun (S : St) (d dst : Nat) => ca_OfD (x := putE [110] Y X) (l := F) hz wZ (by omega) hF hlaw (d := d) (dst := dst) (S := S)
    simp only [he, if_true] at fP
    generalize putE [110] Y X = Z at *
    generalize evE (fmap [] (nFact w :: F)) X = u at *
    clear hlaw hG hM
    simp only [Exp.dv_eq X, Exp.dv_eq Y, Exp.dv_eq Z, Val.dv, nFact, Fact.dv, Val.zero] at fE fY fP gY gA gB
    refine ret_of 1 fn14 rfl rfl ?_
    simp only [amr, amc, amp, if_true, if_false, ne_eq, gt_iff_lt, Option.getD, argsT, Option.bind, Option.map, List.headD, List.tail, opnsL, List.replicate, lendsL, seval, ty_NmC_14, p1, w1, fE, fY, f3, fP, ca_Some, l5, hdr, gY, gA, gB, hk0, hA, lF, bne_self_eq_false, beq_self_eq_true, List.length_map]
  · have b1 : (chkE (putE [110] Y X) != 0) = true := bne_iff_ne.2 he
    simp only [he, if_false] at fP
    generalize chkE (putE [110] Y X) = e at *
    have hz : zE.dv = .agg [.int .i64 0, .int .i64 0, .int .i64 0, .str [], .str [], .sl 6 []] := rfl
    simp only [Exp.dv_eq X, Exp.dv_eq Y, Val.dv, hz] at fE fY fP gY
    refine ret_of 1 fn14 rfl rfl ?_
    simp only [amr, amc, amp, if_true, if_false, ne_eq, gt_iff_lt, Option.getD, argsT, Option.bind, Option.map, List.headD, List.tail, opnsL, List.replicate, lendsL, seval, ty_NmC_14, p1, w1, fE, fY, f3, fP, ca_Some, l5, hdr, gY, hk0, b1, bne_self_eq_false, beq_self_eq_true]
end Go.Proofs.Ytjjjkoknodcaaaa.Am
