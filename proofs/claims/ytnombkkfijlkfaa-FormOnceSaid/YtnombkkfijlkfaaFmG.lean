/- Fields, found; a small form. -/
import Derived.Test.YtnombkkfijlkfaaFmE
set_option linter.unusedVariables false
set_option linter.unusedSimpArgs false
namespace Go.Proofs.Ytnombkkfijlkfaa.Am
open Go Go.RowKit
theorem ty_FmG_42 : type_of% (ai (ai (ai (ai @rs42 @lv42_0) (ai @lv42_1 @und9)) (ai (ai @sz9 @ag9) (ai @lv9 (ai @inf9 @und10)))) (ai (ai (ai @sz10 @ag10) (ai @lv10 @inf10)) (ai (ai @und56 @sz56) (ai @ag56 (ai @pT56 @inf56))))) := (ai (ai (ai (ai @rs42 @lv42_0) (ai @lv42_1 @und9)) (ai (ai @sz9 @ag9) (ai @lv9 (ai @inf9 @und10)))) (ai (ai (ai @sz10 @ag10) (ai @lv10 @inf10)) (ai (ai @und56 @sz56) (ai @ag56 (ai @pT56 @inf56)))))
theorem ty_FmG_46 : type_of% (ai (ai (ai (ai (ai @rs46 (ai @lv46_0 @ro34_2_field_go_17)) (ai @lv46_1 (ai @und3 @sz3))) (ai (ai @ag3 (ai @lv3 @inf3)) (ai (ai @und4 @sz4) (ai @ag4 @lv4)))) (ai (ai (ai @inf4 (ai @und9 @sz9)) (ai (ai @ag9 @lv9) (ai @inf9 @und29))) (ai (ai @sz29 (ai @ag29 @fo29)) (ai (ai @bA29 @pT29_0) (ai @pT29_1 @pT29_2))))) (ai (ai (ai (ai @lv29 (ai @inf29 @und30)) (ai @sz30 (ai @ag30 @pT30))) (ai (ai @inf30 (ai @und32 @sz32)) (ai (ai @ag32 @fo32) (ai @bA32 @pT32_0)))) (ai (ai (ai @pT32_1 (ai @pT32_2 @pT32_3)) (ai (ai @inf32 @und34) (ai @sz34 @ag34))) (ai (ai @fo34 (ai @bA34 @pT34_0)) (ai (ai @pT34_1 @pT34_2) (ai @pT34_3 @inf34)))))) := (ai (ai (ai (ai (ai @rs46 (ai @lv46_0 @ro34_2_field_go_17)) (ai @lv46_1 (ai @und3 @sz3))) (ai (ai @ag3 (ai @lv3 @inf3)) (ai (ai @und4 @sz4) (ai @ag4 @lv4)))) (ai (ai (ai @inf4 (ai @und9 @sz9)) (ai (ai @ag9 @lv9) (ai @inf9 @und29))) (ai (ai @sz29 (ai @ag29 @fo29)) (ai (ai @bA29 @pT29_0) (ai @pT29_1 @pT29_2))))) (ai (ai (ai (ai @lv29 (ai @inf29 @und30)) (ai @sz30 (ai @ag30 @pT30))) (ai (ai @inf30 (ai @und32 @sz32)) (ai (ai @ag32 @fo32) (ai @bA32 @pT32_0)))) (ai (ai (ai @pT32_1 (ai @pT32_2 @pT32_3)) (ai (ai @inf32 @und34) (ai @sz34 @ag34))) (ai (ai @fo34 (ai @bA34 @pT34_0)) (ai (ai @pT34_1 @pT34_2) (ai @pT34_3 @inf34))))))
theorem ty_FmG_45 : type_of% (ai (ai (ai (ai (ai (ai @rs45 @lv45_0) (ai @lv45_1 @lv45_2)) (ai (ai @lv45_3 @lv45_4) (ai @lv45_5 @lv45_6))) (ai (ai (ai @lv45_7 @kp45_2) (ai @und3 @sz3)) (ai (ai @ag3 @lv3) (ai @inf3 (ai @und4 @sz4))))) (ai (ai (ai (ai @ag4 @lv4) (ai @inf4 @und9)) (ai (ai @sz9 @ag9) (ai @lv9 @inf9))) (ai (ai (ai @und23 @sz23) (ai @ag23 @pT23)) (ai (ai @inf23 @und29) (ai @sz29 (ai @ag29 @fo29)))))) (ai (ai (ai (ai (ai @bA29 @pT29_0) (ai @pT29_1 @pT29_2)) (ai (ai @lv29 @inf29) (ai @und30 @sz30))) (ai (ai (ai @ag30 @pT30) (ai @inf30 @und32)) (ai (ai @sz32 @ag32) (ai @fo32 (ai @bA32 @pT32_0))))) (ai (ai (ai (ai @pT32_1 @pT32_2) (ai @pT32_3 @inf32)) (ai (ai @und34 @sz34) (ai @ag34 (ai @fo34 @bA34)))) (ai (ai (ai @pT34_0 @pT34_1) (ai @pT34_2 @pT34_3)) (ai (ai @inf34 @und87) (ai @sz87 (ai @ag87 @inf87))))))) := (ai (ai (ai (ai (ai (ai @rs45 @lv45_0) (ai @lv45_1 @lv45_2)) (ai (ai @lv45_3 @lv45_4) (ai @lv45_5 @lv45_6))) (ai (ai (ai @lv45_7 @kp45_2) (ai @und3 @sz3)) (ai (ai @ag3 @lv3) (ai @inf3 (ai @und4 @sz4))))) (ai (ai (ai (ai @ag4 @lv4) (ai @inf4 @und9)) (ai (ai @sz9 @ag9) (ai @lv9 @inf9))) (ai (ai (ai @und23 @sz23) (ai @ag23 @pT23)) (ai (ai @inf23 @und29) (ai @sz29 (ai @ag29 @fo29)))))) (ai (ai (ai (ai (ai @bA29 @pT29_0) (ai @pT29_1 @pT29_2)) (ai (ai @lv29 @inf29) (ai @und30 @sz30))) (ai (ai (ai @ag30 @pT30) (ai @inf30 @und32)) (ai (ai @sz32 @ag32) (ai @fo32 (ai @bA32 @pT32_0))))) (ai (ai (ai (ai @pT32_1 @pT32_2) (ai @pT32_3 @inf32)) (ai (ai @und34 @sz34) (ai @ag34 (ai @fo34 @bA34)))) (ai (ai (ai @pT34_0 @pT34_1) (ai @pT34_2 @pT34_3)) (ai (ai @inf34 @und87) (ai @sz87 (ai @ag87 @inf87)))))))
theorem ty_FmG_15 : type_of% (ai (ai (ai (ai (ai (ai @rs15 @lv15_0) (ai @ro9_3_field_go_16 @lv15_1)) (ai (ai @lv15_2 @lv15_3) (ai @lv15_4 @und3))) (ai (ai (ai @sz3 @ag3) (ai @lv3 @inf3)) (ai (ai @und4 @sz4) (ai @ag4 (ai @lv4 @inf4))))) (ai (ai (ai (ai @und9 @sz9) (ai @ag9 @lv9)) (ai (ai @inf9 @und23) (ai @sz23 (ai @ag23 @pT23)))) (ai (ai (ai @inf23 @und29) (ai @sz29 @ag29)) (ai (ai @fo29 @bA29) (ai @pT29_0 (ai @pT29_1 @pT29_2)))))) (ai (ai (ai (ai (ai @lv29 @inf29) (ai @und30 @sz30)) (ai (ai @ag30 @pT30) (ai @inf30 (ai @und32 @sz32)))) (ai (ai (ai @ag32 @fo32) (ai @bA32 @pT32_0)) (ai (ai @pT32_1 @pT32_2) (ai @pT32_3 (ai @inf32 @und34))))) (ai (ai (ai (ai @sz34 @ag34) (ai @fo34 @bA34)) (ai (ai @pT34_0 @pT34_1) (ai @pT34_2 (ai @pT34_3 @inf34)))) (ai (ai (ai @und35 @sz35) (ai @ag35 @lv35)) (ai (ai @inf35 @und87) (ai @sz87 (ai @ag87 @inf87))))))) := (ai (ai (ai (ai (ai (ai @rs15 @lv15_0) (ai @ro9_3_field_go_16 @lv15_1)) (ai (ai @lv15_2 @lv15_3) (ai @lv15_4 @und3))) (ai (ai (ai @sz3 @ag3) (ai @lv3 @inf3)) (ai (ai @und4 @sz4) (ai @ag4 (ai @lv4 @inf4))))) (ai (ai (ai (ai @und9 @sz9) (ai @ag9 @lv9)) (ai (ai @inf9 @und23) (ai @sz23 (ai @ag23 @pT23)))) (ai (ai (ai @inf23 @und29) (ai @sz29 @ag29)) (ai (ai @fo29 @bA29) (ai @pT29_0 (ai @pT29_1 @pT29_2)))))) (ai (ai (ai (ai (ai @lv29 @inf29) (ai @und30 @sz30)) (ai (ai @ag30 @pT30) (ai @inf30 (ai @und32 @sz32)))) (ai (ai (ai @ag32 @fo32) (ai @bA32 @pT32_0)) (ai (ai @pT32_1 @pT32_2) (ai @pT32_3 (ai @inf32 @und34))))) (ai (ai (ai (ai @sz34 @ag34) (ai @fo34 @bA34)) (ai (ai @pT34_0 @pT34_1) (ai @pT34_2 (ai @pT34_3 @inf34)))) (ai (ai (ai @und35 @sz35) (ai @ag35 @lv35)) (ai (ai @inf35 @und87) (ai @sz87 (ai @ag87 @inf87)))))))
theorem ty_FmG_16 : type_of% (ai (ai (ai (ai (ai (ai @rs16 @lv16_0) (ai @lv16_1 (ai @lv16_2 @und1))) (ai (ai @sz1 (ai @ag1 @inf1)) (ai @und2 (ai @sz2 @ag2)))) (ai (ai (ai @lv2 @inf2) (ai @und3 (ai @sz3 @ag3))) (ai (ai @lv3 (ai @inf3 @und9)) (ai @sz9 (ai @ag9 @lv9))))) (ai (ai (ai (ai @inf9 @und23) (ai @sz23 (ai @ag23 @pT23))) (ai (ai @inf23 (ai @und24 @sz24)) (ai @ag24 (ai @pT24 @inf24)))) (ai (ai (ai @und26 (ai @sz26 @ag26)) (ai @fo26 (ai @bA26 @pT26_0))) (ai (ai @pT26_1 (ai @inf26 @und29)) (ai @sz29 (ai @ag29 @fo29)))))) (ai (ai (ai (ai (ai @bA29 @pT29_0) (ai @pT29_1 (ai @pT29_2 @lv29))) (ai (ai @inf29 (ai @und30 @sz30)) (ai @ag30 (ai @pT30 @inf30)))) (ai (ai (ai @und32 @sz32) (ai @ag32 (ai @fo32 @bA32))) (ai (ai @pT32_0 (ai @pT32_1 @pT32_2)) (ai @pT32_3 (ai @inf32 @und34))))) (ai (ai (ai (ai @sz34 @ag34) (ai @fo34 (ai @bA34 @pT34_0))) (ai (ai @pT34_1 (ai @pT34_2 @pT34_3)) (ai @inf34 (ai @und56 @sz56)))) (ai (ai (ai @ag56 (ai @pT56 @inf56)) (ai @und58 (ai @sz58 @ag58))) (ai (ai @fo58 (ai @bA58 @pT58_0)) (ai @pT58_1 (ai @pT58_2 @inf58))))))) := (ai (ai (ai (ai (ai (ai @rs16 @lv16_0) (ai @lv16_1 (ai @lv16_2 @und1))) (ai (ai @sz1 (ai @ag1 @inf1)) (ai @und2 (ai @sz2 @ag2)))) (ai (ai (ai @lv2 @inf2) (ai @und3 (ai @sz3 @ag3))) (ai (ai @lv3 (ai @inf3 @und9)) (ai @sz9 (ai @ag9 @lv9))))) (ai (ai (ai (ai @inf9 @und23) (ai @sz23 (ai @ag23 @pT23))) (ai (ai @inf23 (ai @und24 @sz24)) (ai @ag24 (ai @pT24 @inf24)))) (ai (ai (ai @und26 (ai @sz26 @ag26)) (ai @fo26 (ai @bA26 @pT26_0))) (ai (ai @pT26_1 (ai @inf26 @und29)) (ai @sz29 (ai @ag29 @fo29)))))) (ai (ai (ai (ai (ai @bA29 @pT29_0) (ai @pT29_1 (ai @pT29_2 @lv29))) (ai (ai @inf29 (ai @und30 @sz30)) (ai @ag30 (ai @pT30 @inf30)))) (ai (ai (ai @und32 @sz32) (ai @ag32 (ai @fo32 @bA32))) (ai (ai @pT32_0 (ai @pT32_1 @pT32_2)) (ai @pT32_3 (ai @inf32 @und34))))) (ai (ai (ai (ai @sz34 @ag34) (ai @fo34 (ai @bA34 @pT34_0))) (ai (ai @pT34_1 (ai @pT34_2 @pT34_3)) (ai @inf34 (ai @und56 @sz56)))) (ai (ai (ai @ag56 (ai @pT56 @inf56)) (ai @und58 (ai @sz58 @ag58))) (ai (ai @fo58 (ai @bA58 @pT58_0)) (ai @pT58_1 (ai @pT58_2 @inf58)))))))
set_option maxRecDepth 100000
set_option maxHeartbeats 40000000





/-- The place of the first such one. -/
def fidx {α : Type} (p : α → Bool) : List α → Nat → Int
  | [], _ => -1
  | x :: r, k => if p x = true then k else fidx p r (k + 1)
theorem fidx_any {α : Type} (p : α → Bool) : ∀ (l : List α) (k : Nat), decide (fidx p l k ≥ 0) = l.any p
  | [], k => rfl
  | x :: r, k => by
    unfold fidx
    by_cases h : p x = true
    · rw [if_pos h, List.any_cons, h, Bool.true_or]; exact decide_eq_true (by omega)
    · rw [if_neg h, fidx_any p r, List.any_cons, Bool.eq_false_iff.2 h, Bool.false_or]
theorem fidx_at {α : Type} (p : α → Bool) : ∀ (l : List α) (k j : Nat) (x : α), l[j]? = some x → p x = true → (∀ i y, i < j → l[i]? = some y → p y = false) → fidx p l k = (k + j : Nat)
  | [], k, j, x, h, _, _ => by simp at h
  | z :: r, k, 0, x, h, hx, _ => by
    obtain rfl : z = x := by simpa using h
    unfold fidx
    rw [if_pos hx]
    rfl
  | z :: r, k, j + 1, x, h, hx, hn => by
    unfold fidx
    rw [if_neg (by rw [hn 0 z (by omega) rfl]; decide), fidx_at p r (k + 1) j x (by simpa using h) hx (fun i y hi hy => hn (i + 1) y (by omega) (by simpa using hy))]
    omega
theorem fidx_none {α : Type} (p : α → Bool) : ∀ (l : List α) (k : Nat), (∀ x ∈ l, p x = false) → fidx p l k = -1
  | [], k, _ => rfl
  | z :: r, k, h => by
    unfold fidx
    rw [if_neg (by rw [h z (by simp)]; decide), fidx_none p r (k + 1) (fun x hx => h x (by simp [hx]))]
theorem fidx_lt {α : Type} (p : α → Bool) : ∀ (l : List α) (k : Nat), fidx p l k < (k + l.length : Nat) ∧ -1 ≤ fidx p l k
  | [], k => by simp [fidx]; omega
  | x :: r, k => by
    have := fidx_lt p r (k + 1)
    unfold fidx
    split
    · simp only [List.length_cons]; omega
    · simp only [List.length_cons]; omega
theorem el_agg {cs : List AV} {s : List DV} : el1 (some (.agg cs)) (some s) = (toD (.agg cs)).map fun z => z :: s := rfl
theorem ret_fnames  : RetD tab 42 [] (.sl 1 (fnm.map DV.str)) := by
  refine retq_good (1) fn42 rfl rfl ?_
  simp only [amr, amc, amp, if_true, if_false, ne_eq, gt_iff_lt, Option.getD, argsT, Option.bind, Option.map, List.headD, List.tail, opnsL, List.replicate, lendsL, seval, ty_FmG_42, el_agg]
  repeat' ((first | refine good_ci (fun h => ?_) (fun h => ?_) | refine good_cgt (fun h => ?_) (fun h => ?_) | refine good_cgf (fun h => ?_) (fun h => ?_) | refine good_cqgt (fun h => ?_) (fun h => ?_) | refine good_cqgf (fun h => ?_) (fun h => ?_)) <;> simp only [amr, amc, amp, if_true, if_false, ne_eq, gt_iff_lt, Option.getD, argsT, Option.bind, Option.map, List.headD, List.tail, opnsL, List.replicate, lendsL, seval, ty_FmG_42, el_agg, h])
  all_goals (rfl)
theorem ca_fnames {d dst : Nat} {S : St}  : callA tab (callR tab) d dst 42 [] S = some (.d (.sl 1 (fnm.map DV.str)), S) :=
  ca_retD (ds := []) (ret_fnames ) rfl (tab_opn (by kernel_rfl)) (tab_res (by kernel_rfl))
theorem ret_find1 (f : Field) (s : Str) : Ret tab 46 [.d (f.dv), .d (.rp [.str s])] (.d (.bool (f.name == s))) := by
  refine ret_of (1) fn46 rfl rfl ?_
  simp only [amr, amc, amp, if_true, if_false, ne_eq, gt_iff_lt, Option.getD, argsT, Option.bind, Option.map, List.headD, List.tail, opnsL, List.replicate, lendsL, seval, ty_FmG_46, Field.dv]
  repeat' ((first | refine good_ci (fun h => ?_) (fun h => ?_) | refine good_cgt (fun h => ?_) (fun h => ?_) | refine good_cgf (fun h => ?_) (fun h => ?_) | refine good_cqgt (fun h => ?_) (fun h => ?_) | refine good_cqgf (fun h => ?_) (fun h => ?_)) <;> simp only [amr, amc, amp, if_true, if_false, ne_eq, gt_iff_lt, Option.getD, argsT, Option.bind, Option.map, List.headD, List.tail, opnsL, List.replicate, lendsL, seval, ty_FmG_46, Field.dv, h])
  all_goals (simp [*])
theorem cf_find1 {d dst : Nat} {S : St} (f : Field) (s : Str) : callA tab (callR tab) d dst 46 [.d (f.dv), .d (.rp [.str s])] S = some (.d (.bool (f.name == s)), S) :=
  ca_ret (ds := [f.dv, .rp [.str s]]) (ret_find1 f s) rfl (tab_opn (by kernel_rfl)) (tab_res (by kernel_rfl))
theorem ca_find1 {d dst : Nat} {S : St} (f_name : List UInt8) (f_kind : Int) (f_ty : Int) (f_source_op : Int) (f_source_v_kind : Int) (f_source_v_n : Int) (f_source_v_s : List UInt8) (f_source_name : List UInt8) (f_source_args : List Exp) (s : Str) : callA tab (callR tab) d dst 46 [.d (.agg [.str f_name, .int .i64 f_kind, .int .i64 f_ty, .int .i64 f_source_op, .int .i64 f_source_v_kind, .int .i64 f_source_v_n, .str f_source_v_s, .str f_source_name, .sl 6 (f_source_args.map Exp.dv)]), .d (.rp [.str s])] S = some (.d (.bool ((Field.mk f_name f_kind f_ty (Exp.mk f_source_op (Val.mk f_source_v_kind f_source_v_n f_source_v_s) f_source_name f_source_args)).name == s)), S) :=
  ca_ret (ds := [.agg [.str f_name, .int .i64 f_kind, .int .i64 f_ty, .int .i64 f_source_op, .int .i64 f_source_v_kind, .int .i64 f_source_v_n, .str f_source_v_s, .str f_source_name, .sl 6 (f_source_args.map Exp.dv)], .rp [.str s]]) (ret_find1 (Field.mk f_name f_kind f_ty (Exp.mk f_source_op (Val.mk f_source_v_kind f_source_v_n f_source_v_s) f_source_name f_source_args)) s) rfl (tab_opn (by kernel_rfl)) (tab_res (by kernel_rfl))
theorem ca_idxF {d dst : Nat} {S : St} (f : Nat) (caps : List DV) (p : Field → Bool) (hp : ∀ (S : St) (d dst : Nat) (t : Field), callA tab (callR tab) d dst f (.d (Field.dv t) :: caps.map .d) S = some (.d (.bool (p t)), S)) (l : List Field) (hl : l.length ≤ 1048576) :
    callA tab (callR tab) d dst 45 [.d (.sl 9 (l.map Field.dv)), .d (.fn f caps)] S = some (.d (.int .i64 (fidx p l 0)), S) := by
  refine ca_ret (ds := [.sl 9 (l.map Field.dv), .fn f caps]) ?_ rfl (tab_opn (by kernel_rfl)) (tab_res (by kernel_rfl))
  refine ret_of (l.length + 1) fn45 rfl rfl ?_
  simp only [Field.dv] at hp
  simp only [amr, amc, amp, if_true, if_false, ne_eq, gt_iff_lt, Option.getD, argsT, Option.bind, Option.map, List.headD, List.tail, opnsL, List.replicate, lendsL, seval, ty_FmG_45]
  refine good_range l (fun k (_ : Unit) g => ⟨[(0, .d (.sl 9 (l.map Field.dv))), (1, .d (.fn f caps)), (7, .d (.int .i64 l.length)), (8, .d (.int .i64 (k : Nat)))], [], g⟩) (fun _ _ => True) (fun k _ r => (if fidx p r k = -1 then .inr () else .inl (fidx p r k) : Sum Int Unit))
    (QO .ret (fun e g => ⟨[(4, .d (.int .i64 e))], [], g⟩) (.exit 0) (fun _ g => ⟨[], [], g⟩)) () kp45_2 up_qo trivial (by omega) (by omega) ?_ ?_ ?_ ?_
  · rintro k a g x rest hk hget hdr _ hb w1
    have hget' : (l.map Field.dv)[k]? = some (Field.dv x) := by rw [List.getElem?_map, hget]; rfl
    cases hq : p x with
    | true =>
      simp only [amr, amc, amp, if_true, if_false, ne_eq, gt_iff_lt, Option.getD, argsT, Option.bind, Option.map, List.headD, List.tail, opnsL, List.replicate, lendsL, seval, ty_FmG_45, Field.dv, hb, hget', hp, hq, w1]
      refine step_end (r := .inl (k : Int)) (by simp) ?_ ⟨rfl, ?_⟩
      · simp only [fidx, hq, if_true]; rw [if_neg (by omega)]
      · (apply Exists.intro; (try simp only [amr, amc, amp, if_true, if_false, ne_eq, gt_iff_lt, Option.getD, argsT, Option.bind, Option.map, List.headD, List.tail, opnsL, List.replicate, lendsL, seval]); exact sub_mk (by repeat first | exact subT_nil | refine subT_cons (by first | rfl | simp [Tm.get, *]) ?_))
    | false =>
      simp only [amr, amc, amp, if_true, if_false, ne_eq, gt_iff_lt, Option.getD, argsT, Option.bind, Option.map, List.headD, List.tail, opnsL, List.replicate, lendsL, seval, ty_FmG_45, Field.dv, hb, hget', hp, hq, w1]
      refine step_nrm () trivial ?_ ?_
      · simp only [fidx, hq, Bool.false_eq_true, if_false]
      · (apply Exists.intro; (try simp only [amr, amc, amp, if_true, if_false, ne_eq, gt_iff_lt, Option.getD, argsT, Option.bind, Option.map, List.headD, List.tail, opnsL, List.replicate, lendsL, seval]); exact sub_mk (by repeat first | exact subT_nil | refine subT_cons (by first | rfl | simp [Tm.get, *]) ?_))
  · intro a g _ hb
    simp only [amr, amc, amp, if_true, if_false, ne_eq, gt_iff_lt, Option.getD, argsT, Option.bind, Option.map, List.headD, List.tail, opnsL, List.replicate, lendsL, seval, ty_FmG_45, hb]
    refine last_end (by simp) ?_
    simp only [fidx, if_true]
    refine ⟨rfl, ?_⟩
    (apply Exists.intro; (try simp only [amr, amc, amp, if_true, if_false, ne_eq, gt_iff_lt, Option.getD, argsT, Option.bind, Option.map, List.headD, List.tail, opnsL, List.replicate, lendsL, seval]); exact sub_mk (by repeat first | exact subT_nil | refine subT_cons (by first | rfl | simp [Tm.get, *]) ?_))
  · (apply Exists.intro; (try simp only [amr, amc, amp, if_true, if_false, ne_eq, gt_iff_lt, Option.getD, argsT, Option.bind, Option.map, List.headD, List.tail, opnsL, List.replicate, lendsL, seval]); exact sub_mk (by repeat first | exact subT_nil | refine subT_cons (by first | rfl | simp [Tm.get, *]) ?_))
  · intro o S' hq
    by_cases hz : fidx p l 0 = -1
    · rw [if_pos hz] at hq
      obtain ⟨rfl, g, hs⟩ := hq
      refine good_sub_cr up_fin hs ?_
      rw [hz]
      simp only [amr, amc, amp, if_true, if_false, ne_eq, gt_iff_lt, Option.getD, argsT, Option.bind, Option.map, List.headD, List.tail, opnsL, List.replicate, lendsL, seval, ty_FmG_45]
    · rw [if_neg hz] at hq
      obtain ⟨rfl, g, hs⟩ := hq
      refine good_sub_cr up_fin hs ?_
      simp only [amr, amc, amp, if_true, if_false, ne_eq, gt_iff_lt, Option.getD, argsT, Option.bind, Option.map, List.headD, List.tail, opnsL, List.replicate, lendsL, seval, ty_FmG_45]
/-- The place of a field of a name, or why there is none. -/
def ffind (l : List Field) (s : Str) : Int × Int := if fidx (fun f => f.name == s) l 0 < 0 then (0, 5) else (fidx (fun f => f.name == s) l 0, 0)
theorem ret_Find (l : List Field) (s : Str) (hl : l.length ≤ 1048576) : Ret tab 15 [.d (.sl 9 (l.map Field.dv)), .d (.str (s))] (.tup [.d (.int .i64 ((ffind l s).1)), .d (.int .i64 ((ffind l s).2))]) := by
  refine ret_of (1) fn15 rfl rfl ?_
  have f1 := fun (S : St) (d dst : Nat) => ca_idxF (d := d) (dst := dst) (S := S) 46 [.rp [.str s]] (fun f => f.name == s) (fun S d dst t => cf_find1 t s) l hl
  unfold ffind
  generalize fidx (fun f => f.name == s) l 0 = k at *
  by_cases c : k < 0
  · have b : decide (k < 0) = true := decide_eq_true c
    rw [if_pos c]
    simp only [amr, amc, amp, if_true, if_false, ne_eq, gt_iff_lt, Option.getD, argsT, Option.bind, Option.map, List.headD, List.tail, opnsL, List.replicate, lendsL, seval, ty_FmG_15, f1, b]
  · have b : decide (k < 0) = false := decide_eq_false c
    rw [if_neg c]
    simp only [amr, amc, amp, if_true, if_false, ne_eq, gt_iff_lt, Option.getD, argsT, Option.bind, Option.map, List.headD, List.tail, opnsL, List.replicate, lendsL, seval, ty_FmG_15, f1, b]
theorem ca_Find {d dst : Nat} {S : St} (l : List Field) (s : Str) (hl : l.length ≤ 1048576) : callA tab (callR tab) d dst 15 [.d (.sl 9 (l.map Field.dv)), .d (.str (s))] S = some (.tup [.d (.int .i64 ((ffind l s).1)), .d (.int .i64 ((ffind l s).2))], S) :=
  ca_ret_tup (ds := [.sl 9 (l.map Field.dv), .str (s)]) (ys := [.int .i64 ((ffind l s).1), .int .i64 ((ffind l s).2)]) (ret_Find l s hl) rfl (tab_opn (by kernel_rfl)) (tab_res (by kernel_rfl)) rfl
def smallF : Frm := ⟨[⟨[98], 2, 1, .mk 8 Val.zero [] [.mk 2 Val.zero [97] [], .mk 1 ⟨1, 1, []⟩ [] []]⟩, ⟨[97], 1, 1, Exp.zero⟩, ⟨[99], 3, 3, .mk 2 Val.zero [98] []⟩], [⟨[112, 49], [[97]], Exp.zero⟩, ⟨[112, 50], [[99]], Exp.zero⟩]⟩
theorem smallF_dv : smallF.dv = .agg [.sl 9 [.agg [.str [98], .int .i64 2, .int .i64 1, .int .i64 8, .int .i64 0, .int .i64 0, .str [], .str [], .sl 6 [.agg [.int .i64 2, .int .i64 0, .int .i64 0, .str [], .str [97], .sl 6 []], .agg [.int .i64 1, .int .i64 1, .int .i64 1, .str [], .str [], .sl 6 []]]],
    .agg [.str [97], .int .i64 1, .int .i64 1, .int .i64 0, .int .i64 0, .int .i64 0, .str [], .str [], .sl 6 []], .agg [.str [99], .int .i64 3, .int .i64 3, .int .i64 2, .int .i64 0, .int .i64 0, .str [], .str [98], .sl 6 []]],
    .sl 8 [.agg [.str [112, 49], .sl 1 [.str [97]], .int .i64 0, .int .i64 0, .int .i64 0, .str [], .str [], .sl 6 []], .agg [.str [112, 50], .sl 1 [.str [99]], .int .i64 0, .int .i64 0, .int .i64 0, .str [], .str [], .sl 6 []]]] := by
  simp [smallF, Frm.dv, Field.dv, Page.dv, Exp.dv_mk, Exp.zero, Val.zero, Exp.op, Exp.v, Exp.name, Exp.args]
theorem ret_small  : RetD tab 16 [] (smallF.dv) := by
  rw [smallF_dv]
  refine retq_good (1) fn16 rfl rfl ?_
  simp only [amr, amc, amp, if_true, if_false, ne_eq, gt_iff_lt, Option.getD, argsT, Option.bind, Option.map, List.headD, List.tail, opnsL, List.replicate, lendsL, seval, ty_FmG_16, el_agg]
  repeat' ((first | refine good_ci (fun h => ?_) (fun h => ?_) | refine good_cgt (fun h => ?_) (fun h => ?_) | refine good_cgf (fun h => ?_) (fun h => ?_) | refine good_cqgt (fun h => ?_) (fun h => ?_) | refine good_cqgf (fun h => ?_) (fun h => ?_)) <;> simp only [amr, amc, amp, if_true, if_false, ne_eq, gt_iff_lt, Option.getD, argsT, Option.bind, Option.map, List.headD, List.tail, opnsL, List.replicate, lendsL, seval, ty_FmG_16, el_agg, h])
  all_goals (rfl)
theorem ca_small {d dst : Nat} {S : St}  : callA tab (callR tab) d dst 16 [] S = some (.d (smallF.dv), S) :=
  ca_retD (ds := []) (ret_small ) rfl (tab_opn (by kernel_rfl)) (tab_res (by kernel_rfl))
end Go.Proofs.Ytnombkkfijlkfaa.Am
