/- FieldAsks, walked. -/
import Derived.Test.YtnombkkfijlkfaaFmT
set_option linter.unusedVariables false
set_option linter.unusedSimpArgs false
namespace Go.Proofs.Ytnombkkfijlkfaa.Am
open Go Go.RowKit
theorem ty_FmA_4 : type_of% (ai (ai (ai (ai (ai (ai @rs4 (ai @lv4_0 @ro41_4_low_go_391)) (ai (ai @dr4_1 @lv4_1) (ai @lv4_2 @lv4_3))) (ai (ai (ai @lv4_4 @dr4_5) (ai @lv4_5 @lv4_6)) (ai (ai @lv4_7 @lv4_8) (ai @lv4_9 @kp4_3)))) (ai (ai (ai (ai @und1 @sz1) (ai @ag1 @inf1)) (ai (ai @und2 @sz2) (ai @ag2 @lv2))) (ai (ai (ai @inf2 @und3) (ai @sz3 @ag3)) (ai (ai @lv3 @inf3) (ai @und4 @sz4))))) (ai (ai (ai (ai (ai @ag4 @lv4) (ai @inf4 @und9)) (ai (ai @sz9 @ag9) (ai @lv9 @inf9))) (ai (ai (ai @und22 @sz22) (ai @ag22 @pT22)) (ai (ai @inf22 @und23) (ai @sz23 @ag23)))) (ai (ai (ai (ai @pT23 @inf23) (ai @und24 @sz24)) (ai (ai @ag24 @pT24) (ai @inf24 @und26))) (ai (ai (ai @sz26 @ag26) (ai @fo26 @bA26)) (ai (ai @pT26_0 @pT26_1) (ai @inf26 @und29)))))) (ai (ai (ai (ai (ai @sz29 (ai @ag29 @fo29)) (ai (ai @bA29 @pT29_0) (ai @pT29_1 @pT29_2))) (ai (ai (ai @lv29 @inf29) (ai @und30 @sz30)) (ai (ai @ag30 @pT30) (ai @inf30 @und32)))) (ai (ai (ai (ai @sz32 @ag32) (ai @fo32 @bA32)) (ai (ai @pT32_0 @pT32_1) (ai @pT32_2 @pT32_3))) (ai (ai (ai @inf32 @und34) (ai @sz34 @ag34)) (ai (ai @fo34 @bA34) (ai @pT34_0 @pT34_1))))) (ai (ai (ai (ai (ai @pT34_2 @pT34_3) (ai @inf34 @und35)) (ai (ai @sz35 @ag35) (ai @lv35 @inf35))) (ai (ai (ai @und41 @sz41) (ai @ag41 @fo41)) (ai (ai @bA41 @pT41_0) (ai @pT41_1 @pT41_2)))) (ai (ai (ai (ai @pT41_3 @inf41) (ai @und56 @sz56)) (ai (ai @ag56 @pT56) (ai @inf56 @und58))) (ai (ai (ai @sz58 @ag58) (ai @fo58 @bA58)) (ai (ai @pT58_0 @pT58_1) (ai @pT58_2 @inf58))))))) := (ai (ai (ai (ai (ai (ai @rs4 (ai @lv4_0 @ro41_4_low_go_391)) (ai (ai @dr4_1 @lv4_1) (ai @lv4_2 @lv4_3))) (ai (ai (ai @lv4_4 @dr4_5) (ai @lv4_5 @lv4_6)) (ai (ai @lv4_7 @lv4_8) (ai @lv4_9 @kp4_3)))) (ai (ai (ai (ai @und1 @sz1) (ai @ag1 @inf1)) (ai (ai @und2 @sz2) (ai @ag2 @lv2))) (ai (ai (ai @inf2 @und3) (ai @sz3 @ag3)) (ai (ai @lv3 @inf3) (ai @und4 @sz4))))) (ai (ai (ai (ai (ai @ag4 @lv4) (ai @inf4 @und9)) (ai (ai @sz9 @ag9) (ai @lv9 @inf9))) (ai (ai (ai @und22 @sz22) (ai @ag22 @pT22)) (ai (ai @inf22 @und23) (ai @sz23 @ag23)))) (ai (ai (ai (ai @pT23 @inf23) (ai @und24 @sz24)) (ai (ai @ag24 @pT24) (ai @inf24 @und26))) (ai (ai (ai @sz26 @ag26) (ai @fo26 @bA26)) (ai (ai @pT26_0 @pT26_1) (ai @inf26 @und29)))))) (ai (ai (ai (ai (ai @sz29 (ai @ag29 @fo29)) (ai (ai @bA29 @pT29_0) (ai @pT29_1 @pT29_2))) (ai (ai (ai @lv29 @inf29) (ai @und30 @sz30)) (ai (ai @ag30 @pT30) (ai @inf30 @und32)))) (ai (ai (ai (ai @sz32 @ag32) (ai @fo32 @bA32)) (ai (ai @pT32_0 @pT32_1) (ai @pT32_2 @pT32_3))) (ai (ai (ai @inf32 @und34) (ai @sz34 @ag34)) (ai (ai @fo34 @bA34) (ai @pT34_0 @pT34_1))))) (ai (ai (ai (ai (ai @pT34_2 @pT34_3) (ai @inf34 @und35)) (ai (ai @sz35 @ag35) (ai @lv35 @inf35))) (ai (ai (ai @und41 @sz41) (ai @ag41 @fo41)) (ai (ai @bA41 @pT41_0) (ai @pT41_1 @pT41_2)))) (ai (ai (ai (ai @pT41_3 @inf41) (ai @und56 @sz56)) (ai (ai @ag56 @pT56) (ai @inf56 @und58))) (ai (ai (ai @sz58 @ag58) (ai @fo58 @bA58)) (ai (ai @pT58_0 @pT58_1) (ai @pT58_2 @inf58)))))))
set_option maxRecDepth 100000
set_option maxHeartbeats 40000000





theorem ret_FieldAsks (l : List Raw) (r : Raw) (kind : Int) (hl : l.length ≤ 9223372036854775807) (hr : ∀ r ∈ l, r.ok) (hrr : r.ok) (hki : -9223372036854775808 ≤ kind ∧ kind ≤ 9223372036854775807) : Ret tab 4 [.d (.sl 4 (l.map Raw.dv)), .d r.dv, .d (.int .i64 kind)] (.d (.bool true)) := by
  have hp := pick_range kind 3 hki.1 hki.2 (by decide)
  have w1 : IntKind.i64.wrap (1 + pick kind 3) = 1 + pick kind 3 := wrap_in (by omega) (by omega)
  have hty : 1 + pick kind 3 = 1 ∨ 1 + pick kind 3 = 2 ∨ 1 + pick kind 3 = 3 := by omega
  have p1 : ∀ (S : St) (d dst : Nat), callA tab (callR tab) d dst 18 [.d (.int .i64 kind), .d (.int .i64 3)] S = some (.d (.int .i64 (pick kind 3)), S) := fun S d dst => ca_picked kind 3 (by decide)
  have fV := fun (S : St) (d dst : Nat) => cf_Value (d := d) (dst := dst) (S := S) (1 + pick kind 3) r hrr.text
  have hk := mkVal_known (1 + pick kind 3) r hrr hty
  have fF := fun (S : St) (d dst : Nat) => ca_Form (d := d) (dst := dst) (S := S) l hl hr
  have hlen := fields_len hr
  have hnd := fields_nodup hr
  simp only [Frm.dv] at fF
  generalize (mkForm l).fields = fs at *
  generalize (mkForm l).pages = ps at *
  simp only [Raw.dv, Val.dv] at fV
  generalize mkVal (1 + pick kind 3) r = v at *
  have fN := fun (S : St) (d dst : Nat) => ca_ToldNo (d := d) (dst := dst) (S := S) [] [97] v (by decide) rfl
  have fN' : ∀ (S : St) (d dst : Nat), callA tab (callR tab) d dst 19 [.own 9 [] none, .d (.str [97]), .d (.agg [.int .i64 v.kind, .int .i64 v.n, .str v.s])] S = some (.d (.int .i64 5), S) := fun S d dst =>
    ca_ret (ds := [.sl 9 (([] : List Field).map Field.dv), .str [97], v.dv]) (ret_ToldNo [] [97] v (by decide) rfl) rfl (tab_opn (by kernel_rfl)) (tab_res (by kernel_rfl))
  have hto : toldX ⟨[97], 1, v.kind, Exp.zero⟩ v = 0 := by unfold toldX; rw [if_pos rfl, if_pos hk, if_pos rfl]
  have fO : ∀ (S : St) (d dst : Nat), callA tab (callR tab) d dst 19 [.own 9 [.agg [.str [97], .int .i64 1, .int .i64 v.kind, .int .i64 0, .int .i64 0, .int .i64 0, .str [], .str [], .sl 6 []]] none, .d (.str [97]), .d (.agg [.int .i64 v.kind, .int .i64 v.n, .str v.s])] S = some (.d (.int .i64 0), S) := fun S d dst => by
    have h := ret_ToldAt [⟨[97], 1, v.kind, Exp.zero⟩] [97] v 0 ⟨[97], 1, v.kind, Exp.zero⟩ (by simp) rfl rfl
    rw [hto] at h
    exact ca_ret (ds := [.sl 9 ([(⟨[97], 1, v.kind, Exp.zero⟩ : Field)].map Field.dv), .str [97], v.dv]) h rfl (tab_opn (by kernel_rfl)) (tab_res (by kernel_rfl))
  have hgt : ∀ x : Field, toldX x v = if x.kind = 1 then (if v.kind = x.ty then 0 else 9) else 2 := fun x => by unfold toldX; rw [if_pos hk]
  have hrd : r.dv = .agg [.int .i64 r.kind, .int .i64 r.a, .int .i64 r.b, .str r.text] := rfl
  rw [hrd]
  refine ret_of 64 fn4 rfl rfl ?_
  simp only [amr, amc, amp, if_true, if_false, ne_eq, gt_iff_lt, Option.getD, argsT, Option.bind, Option.map, List.headD, List.tail, opnsL, List.replicate, lendsL, seval, ty_FmA_4, fF, fV, p1, w1]
  refine good_range fs (fun k (g : List Nat) _ => ⟨[(0, .d (.sl 4 (l.map Raw.dv))), (7, .ptr ⟨0, 7, [0, 7, 1]⟩ 0), (18, .d (.sl 9 (fs.map Field.dv))), (19, .d (.int .i64 fs.length)), (20, .d (.int .i64 (k : Nat)))], [(⟨0, 7, [0, 7, 1]⟩, .box [.d (.int .i64 v.kind), .d (.int .i64 v.n), .d (.str v.s)]), (⟨0, 4, [0]⟩, .box [.d (.int .i64 r.kind), .d (.int .i64 r.a), .d (.int .i64 r.b), .d (.str r.text)])], g⟩) (fun _ g => 2 ≤ g.length) (fun _ _ _ => ())
    (QX (.exit 0) (fun (_ : Unit) g => ⟨[(7, .ptr ⟨0, 7, [0, 7, 1]⟩ 0)], [(⟨0, 7, [0, 7, 1]⟩, .box [.d (.int .i64 v.kind), .d (.int .i64 v.n), .d (.str v.s)]), (⟨0, 4, [0]⟩, .box [.d (.int .i64 r.kind), .d (.int .i64 r.a), .d (.int .i64 r.b), .d (.str r.text)])], g⟩)) [1, 1] kp4_3 up_qx (by simp) (by omega) (by omega) ?_ ?_ ?_ ?_
  · rintro k g _ x rest hk hget hdr hI hb w1
    have hsx : ∀ (m a : Nat), (List.drop m [0, 7, 1] = a :: 1 :: g) = False := fun m a => eq_false (fun h => by have := congrArg List.length h; simp only [List.length_drop, List.length_cons, List.length_nil] at this; omega)
    have hget' : (fs.map Field.dv)[k]? = some x.dv := by rw [List.getElem?_map, hget]; rfl
    have f3 := fun (S : St) (d dst : Nat) => ca_ToldAt (d := d) (dst := dst) (S := S) fs x.name v k x (by omega) hget (ffind_at hnd hget)
    rw [hgt x] at f3
    by_cases c1 : x.kind = 1
    · have b1 : (x.kind == 1) = true := beq_iff_eq.2 c1
      rw [if_pos c1] at f3
      by_cases c2 : v.kind = x.ty
      · have b2 : (x.ty == v.kind) = true := beq_iff_eq.2 c2.symm
        rw [if_pos c2] at f3
        simp only [amr, amc, amp, if_true, if_false, ne_eq, gt_iff_lt, Option.getD, argsT, Option.bind, Option.map, List.headD, List.tail, opnsL, List.replicate, lendsL, seval, ty_FmA_4, Field.dv, hb, hget', fF, f3, b1, b2, w1, sx1, sx2, hsx, beq_self_eq_true, bne_self_eq_false]
        refine step_nrm (1 :: 1 :: g) (by simp only [List.length_cons]; omega) rfl ?_
        (refine ⟨[], ?_⟩; (try simp only [amr, amc, amp, if_true, if_false, ne_eq, gt_iff_lt, Option.getD, argsT, Option.bind, Option.map, List.headD, List.tail, opnsL, List.replicate, lendsL, seval]); exact sub_mk (by repeat first | exact subT_nil | refine subT_cons (by first | rfl | simp [Tm.get, *]) ?_))
      · have b2 : (x.ty == v.kind) = false := beq_eq_false_iff_ne.2 (fun e => c2 e.symm)
        rw [if_neg c2] at f3
        simp only [amr, amc, amp, if_true, if_false, ne_eq, gt_iff_lt, Option.getD, argsT, Option.bind, Option.map, List.headD, List.tail, opnsL, List.replicate, lendsL, seval, ty_FmA_4, Field.dv, hb, hget', fF, f3, b1, b2, w1, sx1, sx2, hsx, beq_self_eq_true, bne_self_eq_false]
        refine step_nrm (1 :: 1 :: g) (by simp only [List.length_cons]; omega) rfl ?_
        (refine ⟨[], ?_⟩; (try simp only [amr, amc, amp, if_true, if_false, ne_eq, gt_iff_lt, Option.getD, argsT, Option.bind, Option.map, List.headD, List.tail, opnsL, List.replicate, lendsL, seval]); exact sub_mk (by repeat first | exact subT_nil | refine subT_cons (by first | rfl | simp [Tm.get, *]) ?_))
    · have b1 : (x.kind == 1) = false := beq_eq_false_iff_ne.2 c1
      rw [if_neg c1] at f3
      simp only [amr, amc, amp, if_true, if_false, ne_eq, gt_iff_lt, Option.getD, argsT, Option.bind, Option.map, List.headD, List.tail, opnsL, List.replicate, lendsL, seval, ty_FmA_4, Field.dv, hb, hget', fF, f3, b1, w1, sx1, sx2, hsx, beq_self_eq_true, bne_self_eq_false]
      refine step_nrm (1 :: 1 :: g) (by simp only [List.length_cons]; omega) rfl ?_
      (refine ⟨[], ?_⟩; (try simp only [amr, amc, amp, if_true, if_false, ne_eq, gt_iff_lt, Option.getD, argsT, Option.bind, Option.map, List.headD, List.tail, opnsL, List.replicate, lendsL, seval]); exact sub_mk (by repeat first | exact subT_nil | refine subT_cons (by first | rfl | simp [Tm.get, *]) ?_))
  · intro g _ _ hb
    simp only [amr, amc, amp, if_true, if_false, ne_eq, gt_iff_lt, Option.getD, argsT, Option.bind, Option.map, List.headD, List.tail, opnsL, List.replicate, lendsL, seval, ty_FmA_4, hb]
    refine last_end (by simp) ⟨rfl, ?_⟩
    (apply Exists.intro; (try simp only [amr, amc, amp, if_true, if_false, ne_eq, gt_iff_lt, Option.getD, argsT, Option.bind, Option.map, List.headD, List.tail, opnsL, List.replicate, lendsL, seval]); exact sub_mk (by repeat first | exact subT_nil | refine subT_cons (by first | rfl | simp [Tm.get, *]) ?_))
  · (refine ⟨[], ?_⟩; (try simp only [amr, amc, amp, if_true, if_false, ne_eq, gt_iff_lt, Option.getD, argsT, Option.bind, Option.map, List.headD, List.tail, opnsL, List.replicate, lendsL, seval]); exact sub_mk (by repeat first | exact subT_nil | refine subT_cons (by first | rfl | simp [Tm.get, *]) ?_))
  · rintro o S' ⟨rfl, g, hs⟩
    refine good_sub_cr up_fin hs ?_
    simp only [amr, amc, amp, if_true, if_false, ne_eq, gt_iff_lt, Option.getD, argsT, Option.bind, Option.map, List.headD, List.tail, opnsL, List.replicate, lendsL, seval, ty_FmA_4, fN', fO, el_agg, beq_self_eq_true]
end Go.Proofs.Ytnombkkfijlkfaa.Am
