/- FieldPlaces, walked. -/
import Derived.Test.YtnombkkfijlkfaaFmL
set_option linter.unusedVariables false
set_option linter.unusedSimpArgs false
namespace Go.Proofs.Ytnombkkfijlkfaa.Am
open Go Go.RowKit
theorem ty_FmP_3 : type_of% (ai (ai (ai (ai (ai (ai @rs3 (ai @lv3_0 @lv3_1)) (ai (ai @lv3_2 @lv3_3) (ai @lv3_4 @lv3_5))) (ai (ai (ai @lv3_6 @lv3_7) (ai @lv3_8 @lv3_9)) (ai (ai @lv3_10 @lv3_11) (ai @kp3_3 @und1)))) (ai (ai (ai @sz1 (ai @ag1 @inf1)) (ai (ai @und3 @sz3) (ai @ag3 @lv3))) (ai (ai (ai @inf3 @und4) (ai @sz4 @ag4)) (ai (ai @lv4 @inf4) (ai @und9 @sz9))))) (ai (ai (ai (ai @ag9 (ai @lv9 @inf9)) (ai (ai @und22 @sz22) (ai @ag22 @pT22))) (ai (ai (ai @inf22 @und23) (ai @sz23 @ag23)) (ai (ai @pT23 @inf23) (ai @und24 @sz24)))) (ai (ai (ai @ag24 (ai @pT24 @inf24)) (ai (ai @und26 @sz26) (ai @ag26 @fo26))) (ai (ai (ai @bA26 @pT26_0) (ai @pT26_1 @inf26)) (ai (ai @und29 @sz29) (ai @ag29 @fo29)))))) (ai (ai (ai (ai (ai @bA29 (ai @pT29_0 @pT29_1)) (ai (ai @pT29_2 @lv29) (ai @inf29 @und30))) (ai (ai (ai @sz30 @ag30) (ai @pT30 @inf30)) (ai (ai @und32 @sz32) (ai @ag32 @fo32)))) (ai (ai (ai @bA32 (ai @pT32_0 @pT32_1)) (ai (ai @pT32_2 @pT32_3) (ai @inf32 @und34))) (ai (ai (ai @sz34 @ag34) (ai @fo34 @bA34)) (ai (ai @pT34_0 @pT34_1) (ai @pT34_2 @pT34_3))))) (ai (ai (ai (ai @inf34 (ai @und35 @sz35)) (ai (ai @ag35 @lv35) (ai @inf35 @und41))) (ai (ai (ai @sz41 @ag41) (ai @fo41 @bA41)) (ai (ai @pT41_0 @pT41_1) (ai @pT41_2 @pT41_3)))) (ai (ai (ai @inf41 (ai @und56 @sz56)) (ai (ai @ag56 @pT56) (ai @inf56 @und58))) (ai (ai (ai @sz58 @ag58) (ai @fo58 @bA58)) (ai (ai @pT58_0 @pT58_1) (ai @pT58_2 @inf58))))))) := (ai (ai (ai (ai (ai (ai @rs3 (ai @lv3_0 @lv3_1)) (ai (ai @lv3_2 @lv3_3) (ai @lv3_4 @lv3_5))) (ai (ai (ai @lv3_6 @lv3_7) (ai @lv3_8 @lv3_9)) (ai (ai @lv3_10 @lv3_11) (ai @kp3_3 @und1)))) (ai (ai (ai @sz1 (ai @ag1 @inf1)) (ai (ai @und3 @sz3) (ai @ag3 @lv3))) (ai (ai (ai @inf3 @und4) (ai @sz4 @ag4)) (ai (ai @lv4 @inf4) (ai @und9 @sz9))))) (ai (ai (ai (ai @ag9 (ai @lv9 @inf9)) (ai (ai @und22 @sz22) (ai @ag22 @pT22))) (ai (ai (ai @inf22 @und23) (ai @sz23 @ag23)) (ai (ai @pT23 @inf23) (ai @und24 @sz24)))) (ai (ai (ai @ag24 (ai @pT24 @inf24)) (ai (ai @und26 @sz26) (ai @ag26 @fo26))) (ai (ai (ai @bA26 @pT26_0) (ai @pT26_1 @inf26)) (ai (ai @und29 @sz29) (ai @ag29 @fo29)))))) (ai (ai (ai (ai (ai @bA29 (ai @pT29_0 @pT29_1)) (ai (ai @pT29_2 @lv29) (ai @inf29 @und30))) (ai (ai (ai @sz30 @ag30) (ai @pT30 @inf30)) (ai (ai @und32 @sz32) (ai @ag32 @fo32)))) (ai (ai (ai @bA32 (ai @pT32_0 @pT32_1)) (ai (ai @pT32_2 @pT32_3) (ai @inf32 @und34))) (ai (ai (ai @sz34 @ag34) (ai @fo34 @bA34)) (ai (ai @pT34_0 @pT34_1) (ai @pT34_2 @pT34_3))))) (ai (ai (ai (ai @inf34 (ai @und35 @sz35)) (ai (ai @ag35 @lv35) (ai @inf35 @und41))) (ai (ai (ai @sz41 @ag41) (ai @fo41 @bA41)) (ai (ai @pT41_0 @pT41_1) (ai @pT41_2 @pT41_3)))) (ai (ai (ai @inf41 (ai @und56 @sz56)) (ai (ai @ag56 @pT56) (ai @inf56 @und58))) (ai (ai (ai @sz58 @ag58) (ai @fo58 @bA58)) (ai (ai @pT58_0 @pT58_1) (ai @pT58_2 @inf58)))))))
set_option maxRecDepth 100000
set_option maxHeartbeats 40000000





theorem ret_FieldPlaces (l : List Raw) (hl : l.length ≤ 9223372036854775807) (hr : ∀ r ∈ l, r.ok) : Ret tab 3 [.d (.sl 4 (l.map Raw.dv))] (.d (.bool true)) := by
  have fF := fun (S : St) (d dst : Nat) => ca_Form (d := d) (dst := dst) (S := S) l hl hr
  have hlen := fields_len hr
  have hnd := fields_nodup hr
  have hnm := fields_name hr
  simp only [Frm.dv] at fF
  generalize (mkForm l).fields = fs at *
  generalize (mkForm l).pages = ps at *
  have f0 := fun (s : Str) (S : St) (d dst : Nat) => ca_Find (d := d) (dst := dst) (S := S) fs s (by omega)
  have fN := f0 [110, 111, 110, 101]
  rw [ffind_no (fun f hf he => by have := hnm f hf; rw [he] at this; revert this; decide +kernel)] at fN
  have fS := fun (S : St) (d dst : Nat) => ca_small (d := d) (dst := dst) (S := S)
  have f1 := fun (S : St) (d dst : Nat) => ca_Find (d := d) (dst := dst) (S := S) smallF.fields [99] (by decide)
  have f2 : ffind smallF.fields [99] = (2, 0) := rfl
  rw [f2] at f1
  simp only [Frm.dv] at fS
  generalize smallF.fields = ss at *
  generalize smallF.pages = sp at *
  refine ret_of 64 fn3 rfl rfl ?_
  simp only [amr, amc, amp, if_true, if_false, ne_eq, gt_iff_lt, Option.getD, argsT, Option.bind, Option.map, List.headD, List.tail, opnsL, List.replicate, lendsL, seval, ty_FmP_3, fF]
  refine good_range fs (fun k (_ : Unit) g => ⟨[(3, .d (.sl 9 (fs.map Field.dv))), (15, .d (.sl 9 (fs.map Field.dv))), (16, .d (.int .i64 fs.length)), (17, .d (.int .i64 (k : Nat)))], [], g⟩) (fun _ _ => True) (fun _ _ _ => ())
    (QX (.exit 0) (fun _ g => ⟨[(3, .d (.sl 9 (fs.map Field.dv)))], [], g⟩)) () kp3_3 up_qx trivial (by omega) (by omega) ?_ ?_ ?_ ?_
  · rintro k a g x rest hk hget hdr _ hb w1
    have hget' : (fs.map Field.dv)[k]? = some x.dv := by rw [List.getElem?_map, hget]; rfl
    have f3 := f0 x.name
    rw [ffind_at hnd hget] at f3
    simp only [amr, amc, amp, if_true, if_false, ne_eq, gt_iff_lt, Option.getD, argsT, Option.bind, Option.map, List.headD, List.tail, opnsL, List.replicate, lendsL, seval, ty_FmP_3, Field.dv, hb, hget', f3, w1, bne_self_eq_false]
    refine step_nrm () trivial rfl ?_
    (apply Exists.intro; (try simp only [amr, amc, amp, if_true, if_false, ne_eq, gt_iff_lt, Option.getD, argsT, Option.bind, Option.map, List.headD, List.tail, opnsL, List.replicate, lendsL, seval]); exact sub_mk (by repeat first | exact subT_nil | refine subT_cons (by first | rfl | simp [Tm.get, *]) ?_))
  · intro a g _ hb
    simp only [amr, amc, amp, if_true, if_false, ne_eq, gt_iff_lt, Option.getD, argsT, Option.bind, Option.map, List.headD, List.tail, opnsL, List.replicate, lendsL, seval, ty_FmP_3, hb]
    refine last_end (by simp) ⟨rfl, ?_⟩
    (apply Exists.intro; (try simp only [amr, amc, amp, if_true, if_false, ne_eq, gt_iff_lt, Option.getD, argsT, Option.bind, Option.map, List.headD, List.tail, opnsL, List.replicate, lendsL, seval]); exact sub_mk (by repeat first | exact subT_nil | refine subT_cons (by first | rfl | simp [Tm.get, *]) ?_))
  · (apply Exists.intro; (try simp only [amr, amc, amp, if_true, if_false, ne_eq, gt_iff_lt, Option.getD, argsT, Option.bind, Option.map, List.headD, List.tail, opnsL, List.replicate, lendsL, seval]); exact sub_mk (by repeat first | exact subT_nil | refine subT_cons (by first | rfl | simp [Tm.get, *]) ?_))
  · rintro o S' ⟨rfl, g, hs⟩
    refine good_sub_cr up_fin hs ?_
    simp only [amr, amc, amp, if_true, if_false, ne_eq, gt_iff_lt, Option.getD, argsT, Option.bind, Option.map, List.headD, List.tail, opnsL, List.replicate, lendsL, seval, ty_FmP_3, fN, fS, f1, beq_self_eq_true]
end Go.Proofs.Ytnombkkfijlkfaa.Am
