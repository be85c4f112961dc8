/- NamesPut, walked. -/
import Derived.Test.YtjjjkoknodcaaaaNmD
set_option linter.unusedVariables false
set_option linter.unusedSimpArgs false
namespace Go.Proofs.Ytjjjkoknodcaaaa.Am
open Go Go.RowKit
theorem ty_NmE_43 : type_of% (ai (ai (ai (ai (ai @rs43 (ai @lv43_0 @lv43_1)) (ai (ai @lv43_2 @lv43_3) (ai @lv43_4 @lv43_5))) (ai (ai @lv43_6 (ai @lv43_7 @lv43_8)) (ai (ai @lv43_9 @lv43_10) (ai @kp43_4 @und3)))) (ai (ai (ai @sz3 (ai @ag3 @lv3)) (ai (ai @inf3 @und4) (ai @sz4 @ag4))) (ai (ai @lv4 (ai @inf4 @und9)) (ai (ai @sz9 @ag9) (ai @lv9 @inf9))))) (ai (ai (ai (ai @und24 (ai @sz24 @ag24)) (ai (ai @fo24 @bA24) (ai @pT24_0 @pT24_1))) (ai (ai @pT24_2 (ai @lv24 @inf24)) (ai (ai @und25 @sz25) (ai @ag25 @pT25)))) (ai (ai (ai @inf25 (ai @und27 @sz27)) (ai (ai @ag27 @fo27) (ai @bA27 @pT27_0))) (ai (ai (ai @pT27_1 @pT27_2) (ai @pT27_3 @inf27)) (ai (ai @und39 @sz39) (ai @ag39 @inf39)))))) := (ai (ai (ai (ai (ai @rs43 (ai @lv43_0 @lv43_1)) (ai (ai @lv43_2 @lv43_3) (ai @lv43_4 @lv43_5))) (ai (ai @lv43_6 (ai @lv43_7 @lv43_8)) (ai (ai @lv43_9 @lv43_10) (ai @kp43_4 @und3)))) (ai (ai (ai @sz3 (ai @ag3 @lv3)) (ai (ai @inf3 @und4) (ai @sz4 @ag4))) (ai (ai @lv4 (ai @inf4 @und9)) (ai (ai @sz9 @ag9) (ai @lv9 @inf9))))) (ai (ai (ai (ai @und24 (ai @sz24 @ag24)) (ai (ai @fo24 @bA24) (ai @pT24_0 @pT24_1))) (ai (ai @pT24_2 (ai @lv24 @inf24)) (ai (ai @und25 @sz25) (ai @ag25 @pT25)))) (ai (ai (ai @inf25 (ai @und27 @sz27)) (ai (ai @ag27 @fo27) (ai @bA27 @pT27_0))) (ai (ai (ai @pT27_1 @pT27_2) (ai @pT27_3 @inf27)) (ai (ai @und39 @sz39) (ai @ag39 @inf39))))))
theorem ty_NmE_21 : type_of% (ai (ai (ai (ai (ai @rs21 (ai @lv21_0 @ro27_2_raw_go_247)) (ai (ai @ro27_3_raw_go_247 @lv21_1) (ai @und1 @sz1))) (ai (ai @ag1 (ai @inf1 @und2)) (ai (ai @sz2 @ag2) (ai @lv2 @inf2)))) (ai (ai (ai @und3 (ai @sz3 @ag3)) (ai (ai @lv3 @inf3) (ai @und4 @sz4))) (ai (ai (ai @ag4 @lv4) (ai @inf4 @und9)) (ai (ai @sz9 @ag9) (ai @lv9 @inf9))))) (ai (ai (ai (ai @und24 (ai @sz24 @ag24)) (ai (ai @fo24 @bA24) (ai @pT24_0 @pT24_1))) (ai (ai @pT24_2 (ai @lv24 @inf24)) (ai (ai @und25 @sz25) (ai @ag25 @pT25)))) (ai (ai (ai @inf25 (ai @und27 @sz27)) (ai (ai @ag27 @fo27) (ai @bA27 @pT27_0))) (ai (ai (ai @pT27_1 @pT27_2) (ai @pT27_3 @inf27)) (ai (ai @und39 @sz39) (ai @ag39 @inf39)))))) := (ai (ai (ai (ai (ai @rs21 (ai @lv21_0 @ro27_2_raw_go_247)) (ai (ai @ro27_3_raw_go_247 @lv21_1) (ai @und1 @sz1))) (ai (ai @ag1 (ai @inf1 @und2)) (ai (ai @sz2 @ag2) (ai @lv2 @inf2)))) (ai (ai (ai @und3 (ai @sz3 @ag3)) (ai (ai @lv3 @inf3) (ai @und4 @sz4))) (ai (ai (ai @ag4 @lv4) (ai @inf4 @und9)) (ai (ai @sz9 @ag9) (ai @lv9 @inf9))))) (ai (ai (ai (ai @und24 (ai @sz24 @ag24)) (ai (ai @fo24 @bA24) (ai @pT24_0 @pT24_1))) (ai (ai @pT24_2 (ai @lv24 @inf24)) (ai (ai @und25 @sz25) (ai @ag25 @pT25)))) (ai (ai (ai @inf25 (ai @und27 @sz27)) (ai (ai @ag27 @fo27) (ai @bA27 @pT27_0))) (ai (ai (ai @pT27_1 @pT27_2) (ai @pT27_3 @inf27)) (ai (ai @und39 @sz39) (ai @ag39 @inf39))))))
theorem ty_NmE_4 : type_of% (ai (ai (ai (ai (ai (ai @rs4 @lv4_0) (ai @lv4_1 (ai @lv4_2 @mu30_21))) (ai (ai @lv4_3 (ai @lv4_4 @lv4_5)) (ai @lv4_6 (ai @lv4_7 @lv4_8)))) (ai (ai (ai @dr4_9 (ai @lv4_9 @und1)) (ai @sz1 (ai @ag1 @inf1))) (ai (ai @und3 (ai @sz3 @ag3)) (ai @lv3 (ai @inf3 @und4))))) (ai (ai (ai (ai @sz4 @ag4) (ai @lv4 (ai @inf4 @und9))) (ai (ai @sz9 (ai @ag9 @lv9)) (ai @inf9 (ai @und22 @sz22)))) (ai (ai (ai @ag22 (ai @pT22 @inf22)) (ai @und24 (ai @sz24 @ag24))) (ai (ai @fo24 (ai @bA24 @pT24_0)) (ai @pT24_1 (ai @pT24_2 @lv24)))))) (ai (ai (ai (ai (ai @inf24 @und25) (ai @sz25 (ai @ag25 @pT25))) (ai (ai @inf25 (ai @und27 @sz27)) (ai @ag27 (ai @fo27 @bA27)))) (ai (ai (ai @pT27_0 (ai @pT27_1 @pT27_2)) (ai @pT27_3 (ai @inf27 @und30))) (ai (ai @sz30 (ai @ag30 @pT30)) (ai @inf30 (ai @und34 @sz34))))) (ai (ai (ai (ai @ag34 @lv34) (ai @inf34 (ai @und49 @sz49))) (ai (ai @ag49 (ai @fo49 @bA49)) (ai @pT49_0 (ai @pT49_1 @pT49_2)))) (ai (ai (ai @pT49_3 (ai @inf49 @und99)) (ai @sz99 (ai @ag99 @fo99))) (ai (ai @bA99 (ai @pT99_0 @pT99_1)) (ai @pT99_2 (ai @pT99_3 @inf99))))))) := (ai (ai (ai (ai (ai (ai @rs4 @lv4_0) (ai @lv4_1 (ai @lv4_2 @mu30_21))) (ai (ai @lv4_3 (ai @lv4_4 @lv4_5)) (ai @lv4_6 (ai @lv4_7 @lv4_8)))) (ai (ai (ai @dr4_9 (ai @lv4_9 @und1)) (ai @sz1 (ai @ag1 @inf1))) (ai (ai @und3 (ai @sz3 @ag3)) (ai @lv3 (ai @inf3 @und4))))) (ai (ai (ai (ai @sz4 @ag4) (ai @lv4 (ai @inf4 @und9))) (ai (ai @sz9 (ai @ag9 @lv9)) (ai @inf9 (ai @und22 @sz22)))) (ai (ai (ai @ag22 (ai @pT22 @inf22)) (ai @und24 (ai @sz24 @ag24))) (ai (ai @fo24 (ai @bA24 @pT24_0)) (ai @pT24_1 (ai @pT24_2 @lv24)))))) (ai (ai (ai (ai (ai @inf24 @und25) (ai @sz25 (ai @ag25 @pT25))) (ai (ai @inf25 (ai @und27 @sz27)) (ai @ag27 (ai @fo27 @bA27)))) (ai (ai (ai @pT27_0 (ai @pT27_1 @pT27_2)) (ai @pT27_3 (ai @inf27 @und30))) (ai (ai @sz30 (ai @ag30 @pT30)) (ai @inf30 (ai @und34 @sz34))))) (ai (ai (ai (ai @ag34 @lv34) (ai @inf34 (ai @und49 @sz49))) (ai (ai @ag49 (ai @fo49 @bA49)) (ai @pT49_0 (ai @pT49_1 @pT49_2)))) (ai (ai (ai @pT49_3 (ai @inf49 @und99)) (ai @sz99 (ai @ag99 @fo99))) (ai (ai @bA99 (ai @pT99_0 @pT99_1)) (ai @pT99_2 (ai @pT99_3 @inf99)))))))
set_option maxRecDepth 100000
set_option maxHeartbeats 40000000



theorem ret_EqF (l : List Exp) (hl : l.length ≤ 1048576) (h : ∀ a ∈ l, Ret tab 21 [.d a.dv, .d a.dv] (.d (.bool true))) : Ret tab 43 [.d (.sl 6 (l.map Exp.dv)), .d (.sl 6 (l.map Exp.dv)), .d (.fn 21 [])] (.d (.bool true)) := by
  refine ret_of (l.length + 1) fn43 rfl rfl ?_
  simp only [amr, amc, amp, if_true, if_false, ne_eq, gt_iff_lt, Option.getD, argsT, Option.bind, Option.map, List.headD, List.tail, opnsL, List.replicate, lendsL, seval, ty_NmE_43, bne_self_eq_false]
  refine good_range l (fun k (_ : Unit) g => ⟨[(1, .d (.sl 6 (l.map Exp.dv))), (2, .d (.fn 21 [])), (15, .d (.sl 6 (l.map Exp.dv))), (16, .d (.int .i64 l.length)), (17, .d (.int .i64 (k : Nat)))], [], g⟩)
    (fun _ _ => True) (fun _ _ _ => ()) (QX (.exit 0) (fun _ g => ⟨[], [], g⟩)) () kp43_4 up_qx trivial (by omega) (by omega) ?_ ?_ ?_ ?_
  · rintro k _ g x rest hk hget hd _ hb w1
    have hget' : (l.map Exp.dv)[k]? = some x.dv := by rw [List.getElem?_map, hget]; rfl
    have hkl : ((k : Int) < (l.length : Int)) = True := eq_true (by omega)
    have f1 := fun (S : St) (d dst : Nat) => ca_ret (d := d) (dst := dst) (S := S) (args := [.d x.dv, .d x.dv]) (ds := [x.dv, x.dv]) (h x (List.mem_of_getElem? hget)) rfl (tab_opn (by kernel_rfl)) (tab_res (by kernel_rfl))
    rw [Exp.dv_eq x] at hget' f1
    simp only [amr, amc, amp, if_true, if_false, ne_eq, gt_iff_lt, Option.getD, argsT, Option.bind, Option.map, List.headD, List.tail, opnsL, List.replicate, lendsL, seval, ty_NmE_43, hb, hget', w1, f1, hkl]
    refine step_nrm () trivial rfl ?_
    (apply Exists.intro; (try simp only [amr, amc, amp, if_true, if_false, ne_eq, gt_iff_lt, Option.getD, argsT, Option.bind, Option.map, List.headD, List.tail, opnsL, List.replicate, lendsL, seval]); exact sub_mk (by repeat first | exact subT_nil | refine subT_cons (by first | rfl | simp [Tm.get, *]) ?_))
  · rintro _ g _ hb
    simp only [amr, amc, amp, if_true, if_false, ne_eq, gt_iff_lt, Option.getD, argsT, Option.bind, Option.map, List.headD, List.tail, opnsL, List.replicate, lendsL, seval, ty_NmE_43, hb]
    refine last_end (by simp) ⟨rfl, ?_⟩
    (apply Exists.intro; (try simp only [amr, amc, amp, if_true, if_false, ne_eq, gt_iff_lt, Option.getD, argsT, Option.bind, Option.map, List.headD, List.tail, opnsL, List.replicate, lendsL, seval]); exact sub_mk (by repeat first | exact subT_nil | refine subT_cons (by first | rfl | simp [Tm.get, *]) ?_))
  · (apply Exists.intro; (try simp only [amr, amc, amp, if_true, if_false, ne_eq, gt_iff_lt, Option.getD, argsT, Option.bind, Option.map, List.headD, List.tail, opnsL, List.replicate, lendsL, seval]); exact sub_mk (by repeat first | exact subT_nil | refine subT_cons (by first | rfl | simp [Tm.get, *]) ?_))
  · rintro o S' ⟨rfl, g, hs⟩
    refine good_sub_cr up_fin hs ?_
    simp only [amr, amc, amp, if_true, if_false, ne_eq, gt_iff_lt, Option.getD, argsT, Option.bind, Option.map, List.headD, List.tail, opnsL, List.replicate, lendsL, seval, ty_NmE_43]
theorem ret_SameN : ∀ (m : Nat) (x : Exp), x.nodes ≤ m → x.nodes ≤ 1048576 → Ret tab 21 [.d x.dv, .d x.dv] (.d (.bool true))
  | 0, x, h, _ => by cases x; simp [Exp.nodes] at h
  | m + 1, .mk op v name args, h, hB => by
    have hlen := Exp.nodes_len args
    simp only [Exp.nodes] at h hB
    have ih : ∀ a ∈ args, Ret tab 21 [.d a.dv, .d a.dv] (.d (.bool true)) := fun a ha => ret_SameN m a (by have := Exp.nodes_mem ha; omega) (by have := Exp.nodes_mem ha; omega)
    have f1 := fun (S : St) (d dst : Nat) => ca_ret (d := d) (dst := dst) (S := S) (args := [.d (.sl 6 (args.map Exp.dv)), .d (.sl 6 (args.map Exp.dv)), .d (.fn 21 [])]) (ds := [.sl 6 (args.map Exp.dv), .sl 6 (args.map Exp.dv), .fn 21 []]) (ret_EqF args (by omega) ih) rfl (tab_opn (by kernel_rfl)) (tab_res (by kernel_rfl))
    rw [Exp.dv_mk]
    refine ret_of 1 fn21 rfl rfl ?_
    simp only [amr, amc, amp, if_true, if_false, ne_eq, gt_iff_lt, Option.getD, argsT, Option.bind, Option.map, List.headD, List.tail, opnsL, List.replicate, lendsL, seval, ty_NmE_21, f1, beq_self_eq_true]
theorem ca_Same {d dst : Nat} {S : St} (x : Exp) (hx : x.nodes ≤ 1048576) : callA tab (callR tab) d dst 21 [.d x.dv, .d x.dv] S = some (.d (.bool true), S) :=
  ca_ret (ds := [x.dv, x.dv]) (ret_SameN x.nodes x (Nat.le_refl _) hx) rfl (tab_opn (by kernel_rfl)) (tab_res (by kernel_rfl))
theorem ret_NamesPut (l m : List Raw) (kind : Int) (hl : l.length ≤ 9223372036854775807) (hr : ∀ r ∈ l, r.ok) (hm : m.length ≤ 9223372036854775807) (hs : ∀ r ∈ m, r.ok) (hki : -9223372036854775808 ≤ kind ∧ kind ≤ 9223372036854775807) : Ret tab 4 [.d (.sl 4 (l.map Raw.dv)), .d (.sl 4 (m.map Raw.dv)), .d (.int .i64 kind)] (.d (.bool true)) := by
  obtain ⟨hty, w1⟩ := ty_pick hki
  have p1 : ∀ (S : St) (d dst : Nat), callA tab (callR tab) d dst 16 [.d (.int .i64 kind), .d (.int .i64 3)] S = some (.d (.int .i64 (pick kind 3)), S) := fun S d dst => ca_picked kind 3 (by decide)
  have hft : FsOK [⟨[109], 1, 1, ez⟩] := fun f hf => someF_ok f (by rw [List.mem_singleton] at hf; subst hf; simp [someF])
  have l5 : someF.length = 5 := rfl
  have hdr : List.drop 1 (List.take 2 (List.map Field.dv someF)) = [(⟨[109], 1, 1, ez⟩ : Field)].map Field.dv := rfl
  have fE := fun (S : St) (d dst : Nat) => ca_Expr (d := d) (dst := dst) (S := S) l (1 + pick kind 3) someF (by decide) hl hr
  have fY := fun (S : St) (d dst : Nat) => ca_Expr (d := d) (dst := dst) (S := S) m 1 [⟨[109], 1, 1, ez⟩] (by decide) hm hs
  simp only [List.map_cons, List.map_nil] at fY
  have wX := mkE_wf hr hty someF_ok
  have nX := mkE_nodes l (1 + pick kind 3) someF
  have dX := mkE_deep l (1 + pick kind 3) someF
  have wY := mkE_wf hs (show Ty 1 by unfold Ty; decide) hft
  have nY := mkE_nodes m 1 [⟨[109], 1, 1, ez⟩]
  have dY := mkE_deep m 1 [⟨[109], 1, 1, ez⟩]
  have rY : [110] ∉ (mkE m 1 [⟨[109], 1, 1, ez⟩]).refs := fun h => by
    obtain ⟨f, hf, he⟩ := gexpr_refs (by decide) hs 3 1 0 _ h
    rw [List.mem_singleton] at hf
    subst hf
    simp at he
  generalize mkE l (1 + pick kind 3) someF = X at *
  generalize mkE m 1 [⟨[109], 1, 1, ez⟩] = Y at *
  have fP := fun (S : St) (d dst : Nat) => ca_Put (d := d) (dst := dst) (S := S) X Y [110] ⟨by omega, by omega⟩ ⟨by omega, by omega⟩ wX wY (by kernel_rfl)
  have fQ : ∀ (S : St) (d dst : Nat), callA tab (callR tab) d dst 20 [.d X.dv, .d (.str [110]), .agg [.d (.int .i64 2), .d (.int .i64 0), .d (.int .i64 0), .d (.str []), .d (.str [110]), .own 6 [] none]] S = some (.tup [.d X.dv, .d (.int .i64 0)], S) := fun S d dst => by
    have h := ret_Put X (refX [110]) [110] ⟨by omega, by omega⟩ ⟨by decide, by decide⟩ wX (wf_refX (by kernel_rfl)) (by kernel_rfl)
    rw [puE_self X wX] at h
    have hc : chkE X = 0 := by unfold chkE; rw [if_neg (by omega), if_neg (by omega)]
    rw [if_pos hc, hc] at h
    exact ca_retT (ds := [X.dv, .str [110], (refX [110]).dv]) h rfl (tab_opn (by kernel_rfl)) (tab_res (by kernel_rfl))
  have fS := fun (S : St) (d dst : Nat) => ca_Same (d := d) (dst := dst) (S := S) X (by omega)
  have hX := fun (S : St) (d dst : Nat) (s : List UInt8) => ca_Has (d := d) (dst := dst) (S := S) X s
  have hY := fun (S : St) (d dst : Nat) (s : List UInt8) => ca_Has (d := d) (dst := dst) (S := S) Y s
  have hZ := fun (S : St) (d dst : Nat) (s : List UInt8) => ca_Has (d := d) (dst := dst) (S := S) (putE [110] Y X) s
  have mN := mem_put (s := [110]) (y := Y) [110] X wX
  have mM := mem_put (s := [110]) (y := Y) [109] X wX
  by_cases he : chkE (putE [110] Y X) = 0
  · simp only [he, if_true] at fP
    by_cases hn : [110] ∈ X.refs
    · have b1 : decide (([110] : List UInt8) ∈ X.refs) = true := decide_eq_true hn
      have b2 : decide (([110] : List UInt8) ∈ (putE [110] Y X).refs) = false := decide_eq_false (by rw [mN]; rintro (⟨_, h⟩ | ⟨_, h⟩); exact h rfl; exact rY h)
      have b3 : decide (([109] : List UInt8) ∈ (putE [110] Y X).refs) = (decide (([109] : List UInt8) ∈ X.refs) || decide (([109] : List UInt8) ∈ Y.refs)) := by
        rw [Bool.eq_iff_iff]
        simp only [decide_eq_true_eq, Bool.or_eq_true, mM, hn, true_and]
        constructor
        · rintro (⟨h, _⟩ | h)
          · exact .inl h
          · exact .inr h
        · rintro (h | h)
          · exact .inl ⟨h, by decide⟩
          · exact .inr h
      generalize putE [110] Y X = Z at *
      clear mN mM
      simp only [Exp.dv_eq X, Exp.dv_eq Y, Exp.dv_eq Z] at fE fY fP fQ fS hX hY hZ
      cases c1 : decide (([109] : List UInt8) ∈ X.refs) <;> cases c2 : decide (([109] : List UInt8) ∈ Y.refs) <;> rw [c1, c2] at b3
      all_goals
        refine ret_of 1 fn4 rfl rfl ?_
        simp only [amr, amc, amp, if_true, if_false, ne_eq, gt_iff_lt, Option.getD, argsT, Option.bind, Option.map, List.headD, List.tail, opnsL, List.replicate, lendsL, seval, ty_NmE_4, p1, w1, fE, fY, fP, fQ, fS, hX, hY, hZ, b1, b2, b3, c1, c2, ca_Some, l5, hdr, bne_self_eq_false, beq_self_eq_true, Bool.or_true, Bool.true_or, Bool.or_false]
    · have b1 : decide (([110] : List UInt8) ∈ X.refs) = false := decide_eq_false hn
      rw [puE_none X hn] at fP
      clear mN mM hZ
      simp only [Exp.dv_eq X, Exp.dv_eq Y] at fE fY fP fQ fS hX hY
      refine ret_of 1 fn4 rfl rfl ?_
      simp only [amr, amc, amp, if_true, if_false, ne_eq, gt_iff_lt, Option.getD, argsT, Option.bind, Option.map, List.headD, List.tail, opnsL, List.replicate, lendsL, seval, ty_NmE_4, p1, w1, fE, fY, fP, fQ, fS, hX, hY, b1, ca_Some, l5, hdr, bne_self_eq_false, beq_self_eq_true]
  · have b1 : (chkE (putE [110] Y X) != 0) = true := bne_iff_ne.2 he
    have b2 : chkE (putE [110] Y X) = 1 ∨ chkE (putE [110] Y X) = 4 := by
      unfold chkE at he ⊢
      split
      · exact .inl rfl
      · rename_i h
        rw [if_neg h] at he
        split
        · exact .inr rfl
        · rename_i h2
          rw [if_neg h2] at he
          exact absurd rfl he
    simp only [he, if_false] at fP
    clear mN mM hZ
    generalize chkE (putE [110] Y X) = e at *
    have hz : zE.dv = .agg [.int .i64 0, .int .i64 0, .int .i64 0, .str [], .str [], .sl 6 []] := rfl
    simp only [Exp.dv_eq X, Exp.dv_eq Y, hz] at fE fY fP fQ fS
    rcases b2 with rfl | rfl
    · refine ret_of 1 fn4 rfl rfl ?_
      simp only [amr, amc, amp, if_true, if_false, ne_eq, gt_iff_lt, Option.getD, argsT, Option.bind, Option.map, List.headD, List.tail, opnsL, List.replicate, lendsL, seval, ty_NmE_4, p1, w1, fE, fY, fP, fQ, fS, ca_Some, l5, hdr, bne_self_eq_false, beq_self_eq_true]
    · refine ret_of 1 fn4 rfl rfl ?_
      simp only [amr, amc, amp, if_true, if_false, ne_eq, gt_iff_lt, Option.getD, argsT, Option.bind, Option.map, List.headD, List.tail, opnsL, List.replicate, lendsL, seval, ty_NmE_4, p1, w1, fE, fY, fP, fQ, fS, ca_Some, l5, hdr, bne_self_eq_false, beq_self_eq_true]
end Go.Proofs.Ytjjjkoknodcaaaa.Am
