/- Told: may a field be told a value? -/
import Derived.Test.YtnombkkfijlkfaaFmL
set_option linter.unusedVariables false
set_option linter.unusedSimpArgs false
namespace Go.Proofs.Ytnombkkfijlkfaa.Am
open Go Go.RowKit
theorem ty_FmT_19 : type_of% (ai (ai (ai (ai (ai (ai @rs19 @lv19_0) (ai @ro29_5_field_go_80 (ai @lv19_1 @lv19_2))) (ai (ai @lv19_3 @lv19_4) (ai @lv19_5 (ai @dr19_6 @lv19_6)))) (ai (ai (ai @lv19_7 @lv19_8) (ai @und1 (ai @sz1 @ag1))) (ai (ai @inf1 @und2) (ai @sz2 (ai @ag2 @lv2))))) (ai (ai (ai (ai @inf2 @und3) (ai @sz3 (ai @ag3 @lv3))) (ai (ai @inf3 @und4) (ai @sz4 (ai @ag4 @lv4)))) (ai (ai (ai @inf4 @und9) (ai @sz9 (ai @ag9 @lv9))) (ai (ai @inf9 @und23) (ai @sz23 (ai @ag23 @pT23)))))) (ai (ai (ai (ai (ai @inf23 @und29) (ai @sz29 (ai @ag29 @fo29))) (ai (ai @bA29 @pT29_0) (ai @pT29_1 (ai @pT29_2 @lv29)))) (ai (ai (ai @inf29 @und30) (ai @sz30 (ai @ag30 @pT30))) (ai (ai @inf30 @und32) (ai @sz32 (ai @ag32 @fo32))))) (ai (ai (ai (ai @bA32 @pT32_0) (ai @pT32_1 (ai @pT32_2 @pT32_3))) (ai (ai @inf32 @und34) (ai @sz34 (ai @ag34 @fo34)))) (ai (ai (ai @bA34 @pT34_0) (ai @pT34_1 (ai @pT34_2 @pT34_3))) (ai (ai @inf34 (ai @und35 @sz35)) (ai @ag35 (ai @lv35 @inf35))))))) := (ai (ai (ai (ai (ai (ai @rs19 @lv19_0) (ai @ro29_5_field_go_80 (ai @lv19_1 @lv19_2))) (ai (ai @lv19_3 @lv19_4) (ai @lv19_5 (ai @dr19_6 @lv19_6)))) (ai (ai (ai @lv19_7 @lv19_8) (ai @und1 (ai @sz1 @ag1))) (ai (ai @inf1 @und2) (ai @sz2 (ai @ag2 @lv2))))) (ai (ai (ai (ai @inf2 @und3) (ai @sz3 (ai @ag3 @lv3))) (ai (ai @inf3 @und4) (ai @sz4 (ai @ag4 @lv4)))) (ai (ai (ai @inf4 @und9) (ai @sz9 (ai @ag9 @lv9))) (ai (ai @inf9 @und23) (ai @sz23 (ai @ag23 @pT23)))))) (ai (ai (ai (ai (ai @inf23 @und29) (ai @sz29 (ai @ag29 @fo29))) (ai (ai @bA29 @pT29_0) (ai @pT29_1 (ai @pT29_2 @lv29)))) (ai (ai (ai @inf29 @und30) (ai @sz30 (ai @ag30 @pT30))) (ai (ai @inf30 @und32) (ai @sz32 (ai @ag32 @fo32))))) (ai (ai (ai (ai @bA32 @pT32_0) (ai @pT32_1 (ai @pT32_2 @pT32_3))) (ai (ai @inf32 @und34) (ai @sz34 (ai @ag34 @fo34)))) (ai (ai (ai @bA34 @pT34_0) (ai @pT34_1 (ai @pT34_2 @pT34_3))) (ai (ai @inf34 (ai @und35 @sz35)) (ai @ag35 (ai @lv35 @inf35)))))))
set_option maxRecDepth 100000
set_option maxHeartbeats 40000000





def toldX (x : Field) (v : Val) : Int := if x.kind = 1 then (if valKnown v = true then (if v.kind = x.ty then 0 else 9) else 9) else 2
theorem ret_ToldAt (l : List Field) (s : Str) (v : Val) (j : Nat) (x : Field) (hl : l.length ≤ 1048576) (hx : l[j]? = some x) (hf : ffind l s = ((j : Int), 0)) : Ret tab 19 [.d (.sl 9 (l.map Field.dv)), .d (.str s), .d v.dv] (.d (.int .i64 (toldX x v))) := by
  have f1 := fun (S : St) (d dst : Nat) => ca_Find (d := d) (dst := dst) (S := S) l s hl
  rw [hf] at f1
  have f2 := fun (S : St) (d dst : Nat) => ca_Known (d := d) (dst := dst) (S := S) v.kind v.n v.s
  have hv : (⟨v.kind, v.n, v.s⟩ : Val) = v := rfl
  rw [hv] at f2
  have hget' : (l.map Field.dv)[j]? = some x.dv := by rw [List.getElem?_map, hx]; rfl
  unfold toldX Val.dv
  by_cases c1 : x.kind = 1
  · have b1 : (x.kind != 1) = false := by simp [c1]
    rw [if_pos c1]
    cases c2 : valKnown v with
    | true =>
      rw [c2] at f2
      rw [if_pos rfl]
      by_cases c3 : v.kind = x.ty
      · have b3 : (v.kind != x.ty) = false := by simp [c3]
        rw [if_pos c3]
        refine ret_of 1 fn19 rfl rfl ?_
        simp only [amr, amc, amp, if_true, if_false, ne_eq, gt_iff_lt, Option.getD, argsT, Option.bind, Option.map, List.headD, List.tail, opnsL, List.replicate, lendsL, seval, ty_FmT_19, Field.dv, f1, f2, hget', b1, b3, bne_self_eq_false]
      · have b3 : (v.kind != x.ty) = true := by simp [c3]
        rw [if_neg c3]
        refine ret_of 1 fn19 rfl rfl ?_
        simp only [amr, amc, amp, if_true, if_false, ne_eq, gt_iff_lt, Option.getD, argsT, Option.bind, Option.map, List.headD, List.tail, opnsL, List.replicate, lendsL, seval, ty_FmT_19, Field.dv, f1, f2, hget', b1, b3, bne_self_eq_false]
    | false =>
      rw [c2] at f2
      rw [if_neg (by decide)]
      refine ret_of 1 fn19 rfl rfl ?_
      simp only [amr, amc, amp, if_true, if_false, ne_eq, gt_iff_lt, Option.getD, argsT, Option.bind, Option.map, List.headD, List.tail, opnsL, List.replicate, lendsL, seval, ty_FmT_19, Field.dv, f1, f2, hget', b1, bne_self_eq_false]
  · have b1 : (x.kind != 1) = true := by simp [c1]
    rw [if_neg c1]
    refine ret_of 1 fn19 rfl rfl ?_
    simp only [amr, amc, amp, if_true, if_false, ne_eq, gt_iff_lt, Option.getD, argsT, Option.bind, Option.map, List.headD, List.tail, opnsL, List.replicate, lendsL, seval, ty_FmT_19, Field.dv, f1, hget', b1, bne_self_eq_false]
theorem ca_ToldAt {d dst : Nat} {S : St} (l : List Field) (s : Str) (v : Val) (j : Nat) (x : Field) (hl : l.length ≤ 1048576) (hx : l[j]? = some x) (hf : ffind l s = ((j : Int), 0)) : callA tab (callR tab) d dst 19 [.d (.sl 9 (l.map Field.dv)), .d (.str s), .d (.agg [.int .i64 v.kind, .int .i64 v.n, .str v.s])] S = some (.d (.int .i64 (toldX x v)), S) :=
  ca_ret (ds := [.sl 9 (l.map Field.dv), .str s, v.dv]) (ret_ToldAt l s v j x hl hx hf) rfl (tab_opn (by kernel_rfl)) (tab_res (by kernel_rfl))
theorem ret_ToldNo (l : List Field) (s : Str) (v : Val) (hl : l.length ≤ 1048576) (hf : ffind l s = (0, 5)) : Ret tab 19 [.d (.sl 9 (l.map Field.dv)), .d (.str s), .d v.dv] (.d (.int .i64 5)) := by
  have f1 := fun (S : St) (d dst : Nat) => ca_Find (d := d) (dst := dst) (S := S) l s hl
  rw [hf] at f1
  unfold Val.dv
  refine ret_of 1 fn19 rfl rfl ?_
  simp only [amr, amc, amp, if_true, if_false, ne_eq, gt_iff_lt, Option.getD, argsT, Option.bind, Option.map, List.headD, List.tail, opnsL, List.replicate, lendsL, seval, ty_FmT_19, f1, bne_self_eq_false]
theorem ca_ToldNo {d dst : Nat} {S : St} (l : List Field) (s : Str) (v : Val) (hl : l.length ≤ 1048576) (hf : ffind l s = (0, 5)) : callA tab (callR tab) d dst 19 [.d (.sl 9 (l.map Field.dv)), .d (.str s), .d (.agg [.int .i64 v.kind, .int .i64 v.n, .str v.s])] S = some (.d (.int .i64 5), S) :=
  ca_ret (ds := [.sl 9 (l.map Field.dv), .str s, v.dv]) (ret_ToldNo l s v hl hf) rfl (tab_opn (by kernel_rfl)) (tab_res (by kernel_rfl))
end Go.Proofs.Ytnombkkfijlkfaa.Am
