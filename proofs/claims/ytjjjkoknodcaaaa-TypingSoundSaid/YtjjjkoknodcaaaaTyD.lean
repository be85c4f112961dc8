/- Of which type a formula is: typing.Of, typing.Fits; formulas of raw things; TypingOne. -/
import Derived.Test.YtjjjkoknodcaaaaTyC
set_option linter.unusedVariables false
set_option linter.unusedSimpArgs false
namespace Go.Proofs.Ytjjjkoknodcaaaa.Am
open Go Go.RowKit
theorem ty_TyD_30 : type_of% (ai (ai (ai (ai (ai (ai @rs30 @lv30_0) (ai @ro27_2_typing_go_71 (ai @lv30_1 @lv30_2))) (ai (ai @lv30_3 @dr30_4) (ai @lv30_4 (ai @und1 @sz1)))) (ai (ai (ai @ag1 @inf1) (ai @und3 (ai @sz3 @ag3))) (ai (ai @lv3 (ai @inf3 @und4)) (ai @sz4 (ai @ag4 @lv4))))) (ai (ai (ai (ai @inf4 @und9) (ai @sz9 (ai @ag9 @lv9))) (ai (ai @inf9 (ai @und24 @sz24)) (ai @ag24 (ai @fo24 @bA24)))) (ai (ai (ai @pT24_0 @pT24_1) (ai @pT24_2 (ai @lv24 @inf24))) (ai (ai @und25 (ai @sz25 @ag25)) (ai @pT25 (ai @inf25 @und27)))))) (ai (ai (ai (ai (ai @sz27 @ag27) (ai @fo27 (ai @bA27 @pT27_0))) (ai (ai @pT27_1 (ai @pT27_2 @pT27_3)) (ai @inf27 (ai @und30 @sz30)))) (ai (ai (ai @ag30 @pT30) (ai @inf30 (ai @und34 @sz34))) (ai (ai @ag34 (ai @lv34 @inf34)) (ai @und49 (ai @sz49 @ag49))))) (ai (ai (ai (ai @fo49 @bA49) (ai @pT49_0 (ai @pT49_1 @pT49_2))) (ai (ai @pT49_3 (ai @inf49 @und67)) (ai @sz67 (ai @ag67 @pT67)))) (ai (ai (ai @inf67 @und88) (ai @und90 (ai @und112 @sz112))) (ai (ai @ag112 (ai @fo112 @bA112)) (ai @pT112_0 (ai @pT112_1 @inf112))))))) := (ai (ai (ai (ai (ai (ai @rs30 @lv30_0) (ai @ro27_2_typing_go_71 (ai @lv30_1 @lv30_2))) (ai (ai @lv30_3 @dr30_4) (ai @lv30_4 (ai @und1 @sz1)))) (ai (ai (ai @ag1 @inf1) (ai @und3 (ai @sz3 @ag3))) (ai (ai @lv3 (ai @inf3 @und4)) (ai @sz4 (ai @ag4 @lv4))))) (ai (ai (ai (ai @inf4 @und9) (ai @sz9 (ai @ag9 @lv9))) (ai (ai @inf9 (ai @und24 @sz24)) (ai @ag24 (ai @fo24 @bA24)))) (ai (ai (ai @pT24_0 @pT24_1) (ai @pT24_2 (ai @lv24 @inf24))) (ai (ai @und25 (ai @sz25 @ag25)) (ai @pT25 (ai @inf25 @und27)))))) (ai (ai (ai (ai (ai @sz27 @ag27) (ai @fo27 (ai @bA27 @pT27_0))) (ai (ai @pT27_1 (ai @pT27_2 @pT27_3)) (ai @inf27 (ai @und30 @sz30)))) (ai (ai (ai @ag30 @pT30) (ai @inf30 (ai @und34 @sz34))) (ai (ai @ag34 (ai @lv34 @inf34)) (ai @und49 (ai @sz49 @ag49))))) (ai (ai (ai (ai @fo49 @bA49) (ai @pT49_0 (ai @pT49_1 @pT49_2))) (ai (ai @pT49_3 (ai @inf49 @und67)) (ai @sz67 (ai @ag67 @pT67)))) (ai (ai (ai @inf67 @und88) (ai @und90 (ai @und112 @sz112))) (ai (ai @ag112 (ai @fo112 @bA112)) (ai @pT112_0 (ai @pT112_1 @inf112)))))))
theorem ty_TyD_29 : type_of% (ai (ai (ai (ai (ai (ai @rs29 @lv29_0) (ai @ro27_3_typing_go_79 @lv29_1)) (ai (ai @lv29_2 @lv29_3) (ai @lv29_4 (ai @lv29_5 @lv29_6)))) (ai (ai (ai @und1 @sz1) (ai @ag1 @inf1)) (ai (ai @und3 @sz3) (ai @ag3 (ai @lv3 @inf3))))) (ai (ai (ai (ai @und4 @sz4) (ai @ag4 @lv4)) (ai (ai @inf4 @und9) (ai @sz9 (ai @ag9 @lv9)))) (ai (ai (ai @inf9 @und24) (ai @sz24 @ag24)) (ai (ai @fo24 @bA24) (ai @pT24_0 (ai @pT24_1 @pT24_2)))))) (ai (ai (ai (ai (ai @lv24 @inf24) (ai @und25 @sz25)) (ai (ai @ag25 @pT25) (ai @inf25 (ai @und27 @sz27)))) (ai (ai (ai @ag27 @fo27) (ai @bA27 @pT27_0)) (ai (ai @pT27_1 @pT27_2) (ai @pT27_3 (ai @inf27 @und30))))) (ai (ai (ai (ai @sz30 @ag30) (ai @pT30 @inf30)) (ai (ai @und34 @sz34) (ai @ag34 (ai @lv34 @inf34)))) (ai (ai (ai @und49 @sz49) (ai @ag49 (ai @fo49 @bA49))) (ai (ai @pT49_0 @pT49_1) (ai @pT49_2 (ai @pT49_3 @inf49))))))) := (ai (ai (ai (ai (ai (ai @rs29 @lv29_0) (ai @ro27_3_typing_go_79 @lv29_1)) (ai (ai @lv29_2 @lv29_3) (ai @lv29_4 (ai @lv29_5 @lv29_6)))) (ai (ai (ai @und1 @sz1) (ai @ag1 @inf1)) (ai (ai @und3 @sz3) (ai @ag3 (ai @lv3 @inf3))))) (ai (ai (ai (ai @und4 @sz4) (ai @ag4 @lv4)) (ai (ai @inf4 @und9) (ai @sz9 (ai @ag9 @lv9)))) (ai (ai (ai @inf9 @und24) (ai @sz24 @ag24)) (ai (ai @fo24 @bA24) (ai @pT24_0 (ai @pT24_1 @pT24_2)))))) (ai (ai (ai (ai (ai @lv24 @inf24) (ai @und25 @sz25)) (ai (ai @ag25 @pT25) (ai @inf25 (ai @und27 @sz27)))) (ai (ai (ai @ag27 @fo27) (ai @bA27 @pT27_0)) (ai (ai @pT27_1 @pT27_2) (ai @pT27_3 (ai @inf27 @und30))))) (ai (ai (ai (ai @sz30 @ag30) (ai @pT30 @inf30)) (ai (ai @und34 @sz34) (ai @ag34 (ai @lv34 @inf34)))) (ai (ai (ai @und49 @sz49) (ai @ag49 (ai @fo49 @bA49))) (ai (ai @pT49_0 @pT49_1) (ai @pT49_2 (ai @pT49_3 @inf49)))))))
theorem ty_TyD_6 : type_of% (ai (ai (ai (ai (ai (ai @rs6 @lv6_0) (ai @lv6_1 (ai @lv6_2 @lv6_3))) (ai (ai @lv6_4 (ai @lv6_5 @dr6_6)) (ai @lv6_6 (ai @lv6_7 @lv6_8)))) (ai (ai (ai @lv6_9 @kp6_4) (ai @und3 (ai @sz3 @ag3))) (ai (ai @lv3 (ai @inf3 @und4)) (ai @sz4 (ai @ag4 @lv4))))) (ai (ai (ai (ai @inf4 @und9) (ai @sz9 (ai @ag9 @lv9))) (ai (ai @inf9 (ai @und22 @sz22)) (ai @ag22 (ai @pT22 @inf22)))) (ai (ai (ai @und24 @sz24) (ai @ag24 (ai @fo24 @bA24))) (ai (ai @pT24_0 (ai @pT24_1 @pT24_2)) (ai @lv24 (ai @inf24 @und25)))))) (ai (ai (ai (ai (ai @sz25 @ag25) (ai @pT25 (ai @inf25 @und27))) (ai (ai @sz27 (ai @ag27 @fo27)) (ai @bA27 (ai @pT27_0 @pT27_1)))) (ai (ai (ai @pT27_2 @pT27_3) (ai @inf27 (ai @und30 @sz30))) (ai (ai @ag30 (ai @pT30 @inf30)) (ai @und34 (ai @sz34 @ag34))))) (ai (ai (ai (ai @lv34 @inf34) (ai @und49 (ai @sz49 @ag49))) (ai (ai @fo49 (ai @bA49 @pT49_0)) (ai @pT49_1 (ai @pT49_2 @pT49_3)))) (ai (ai (ai @inf49 @und99) (ai @sz99 (ai @ag99 @fo99))) (ai (ai @bA99 (ai @pT99_0 @pT99_1)) (ai @pT99_2 (ai @pT99_3 @inf99))))))) := (ai (ai (ai (ai (ai (ai @rs6 @lv6_0) (ai @lv6_1 (ai @lv6_2 @lv6_3))) (ai (ai @lv6_4 (ai @lv6_5 @dr6_6)) (ai @lv6_6 (ai @lv6_7 @lv6_8)))) (ai (ai (ai @lv6_9 @kp6_4) (ai @und3 (ai @sz3 @ag3))) (ai (ai @lv3 (ai @inf3 @und4)) (ai @sz4 (ai @ag4 @lv4))))) (ai (ai (ai (ai @inf4 @und9) (ai @sz9 (ai @ag9 @lv9))) (ai (ai @inf9 (ai @und22 @sz22)) (ai @ag22 (ai @pT22 @inf22)))) (ai (ai (ai @und24 @sz24) (ai @ag24 (ai @fo24 @bA24))) (ai (ai @pT24_0 (ai @pT24_1 @pT24_2)) (ai @lv24 (ai @inf24 @und25)))))) (ai (ai (ai (ai (ai @sz25 @ag25) (ai @pT25 (ai @inf25 @und27))) (ai (ai @sz27 (ai @ag27 @fo27)) (ai @bA27 (ai @pT27_0 @pT27_1)))) (ai (ai (ai @pT27_2 @pT27_3) (ai @inf27 (ai @und30 @sz30))) (ai (ai @ag30 (ai @pT30 @inf30)) (ai @und34 (ai @sz34 @ag34))))) (ai (ai (ai (ai @lv34 @inf34) (ai @und49 (ai @sz49 @ag49))) (ai (ai @fo49 (ai @bA49 @pT49_0)) (ai @pT49_1 (ai @pT49_2 @pT49_3)))) (ai (ai (ai @inf49 @und99) (ai @sz99 (ai @ag99 @fo99))) (ai (ai @bA99 (ai @pT99_0 @pT99_1)) (ai @pT99_2 (ai @pT99_3 @inf99)))))))
set_option maxRecDepth 100000
set_option maxHeartbeats 40000000



theorem ca_ofT {d dst : Nat} {S : St} (tm : List (List UInt8 × Int)) (x : Exp) (hx : x.nodes ≤ 1048576) (ht : x.ty tm ≠ 0) : callA tab (callR tab) d dst 49 [.d x.dv, .d (.mp (mdvI tm)), .d (.ump knownL)] S = some (.tup [.d (.int .i64 (x.ty tm)), .d (.int .i64 0)], S) :=
  ca_retT (ds := [x.dv, .mp (mdvI tm), .ump knownL]) (ret_ofN tm x.nodes x (Nat.le_refl _) hx ht) rfl (tab_opn (by kernel_rfl)) (tab_res (by kernel_rfl))
theorem ret_OfT (x : Exp) (fs : List Field) (hx : x.nodes ≤ 60 ∧ x.deep ≤ 12) (wx : x.wf) (ht : x.ty (tmap fs) ≠ 0) : RetT tab 30 [.d x.dv, .d (.sl 9 (fs.map Field.dv))] [.int .i64 (x.ty (tmap fs)), .int .i64 0] := by
  have f0 := fun (S : St) (d dst : Nat) => ca_CheckE (d := d) (dst := dst) (S := S) x (by omega) wx
  have hcx : chkE x = 0 := by unfold chkE; rw [if_neg (by omega), if_neg (by omega)]
  have f1 := fun (S : St) (d dst : Nat) => ca_types (d := d) (dst := dst) (S := S) fs
  have f2 := fun (S : St) (d dst : Nat) => ca_rules (d := d) (dst := dst) (S := S)
  have f3 := fun (S : St) (d dst : Nat) => ca_ofT (d := d) (dst := dst) (S := S) (tmap fs) x (by omega) ht
  rw [hcx] at f0
  generalize x.ty (tmap fs) = t at *
  rw [Exp.dv_eq x] at f0 f3 ⊢
  refine retq_good 1 fn30 rfl rfl ?_
  simp only [amr, amc, amp, if_true, if_false, ne_eq, gt_iff_lt, Option.getD, argsT, Option.bind, Option.map, List.headD, List.tail, opnsL, List.replicate, lendsL, seval, ty_TyD_30, f0, f1, f2, f3, bne_self_eq_false]
theorem ca_OfT {d dst : Nat} {S : St} (x : Exp) (fs : List Field) (hx : x.nodes ≤ 60 ∧ x.deep ≤ 12) (wx : x.wf) (ht : x.ty (tmap fs) ≠ 0) : callA tab (callR tab) d dst 30 [.d x.dv, .d (.sl 9 (fs.map Field.dv))] S = some (.tup [.d (.int .i64 (x.ty (tmap fs))), .d (.int .i64 0)], S) :=
  ca_retT (ds := [x.dv, .sl 9 (fs.map Field.dv)]) (ret_OfT x fs hx wx ht) rfl (tab_opn (by kernel_rfl)) (tab_res (by kernel_rfl))
theorem ret_FitsT (x : Exp) (fs : List Field) (want : Int) (hx : x.nodes ≤ 60 ∧ x.deep ≤ 12) (wx : x.wf) (ht : x.ty (tmap fs) ≠ 0) : Ret tab 29 [.d x.dv, .d (.sl 9 (fs.map Field.dv)), .d (.int .i64 want)] (.d (.int .i64 (if x.ty (tmap fs) = want then 0 else 9))) := by
  have f0 := fun (S : St) (d dst : Nat) => ca_OfT (d := d) (dst := dst) (S := S) x fs hx wx ht
  generalize x.ty (tmap fs) = t at *
  rw [Exp.dv_eq x] at f0 ⊢
  by_cases e : t = want
  · subst e
    rw [if_pos rfl]
    refine ret_of 1 fn29 rfl rfl ?_
    simp only [amr, amc, amp, if_true, if_false, ne_eq, gt_iff_lt, Option.getD, argsT, Option.bind, Option.map, List.headD, List.tail, opnsL, List.replicate, lendsL, seval, ty_TyD_29, f0, bne_self_eq_false]
  · have b1 : (t != want) = true := bne_iff_ne.2 e
    rw [if_neg e]
    refine ret_of 1 fn29 rfl rfl ?_
    simp only [amr, amc, amp, if_true, if_false, ne_eq, gt_iff_lt, Option.getD, argsT, Option.bind, Option.map, List.headD, List.tail, opnsL, List.replicate, lendsL, seval, ty_TyD_29, f0, b1, bne_self_eq_false]
theorem ca_FitsT {d dst : Nat} {S : St} (x : Exp) (fs : List Field) (want : Int) (hx : x.nodes ≤ 60 ∧ x.deep ≤ 12) (wx : x.wf) (ht : x.ty (tmap fs) ≠ 0) : callA tab (callR tab) d dst 29 [.d x.dv, .d (.sl 9 (fs.map Field.dv)), .d (.int .i64 want)] S = some (.d (.int .i64 (if x.ty (tmap fs) = want then 0 else 9)), S) :=
  ca_ret (ds := [x.dv, .sl 9 (fs.map Field.dv), .int .i64 want]) (ret_FitsT x fs want hx wx ht) rfl (tab_opn (by kernel_rfl)) (tab_res (by kernel_rfl))
/-! ### formulas of raw things have the type that they are made for -/
theorem gshape_rule {kind : Int} (hk : Ty kind) {r : Raw} (hr : r.ok) : ruleT (gshape kind r).1 (gshape kind r).2 = kind ∧ ∀ k ∈ (gshape kind r).2, Ty k := by
  have p1 := pick_range r.b 7 hr.b.1 hr.b.2 (by decide)
  have p2 := pick_range r.a 3 hr.a.1 hr.a.2 (by decide)
  unfold gshape
  generalize pick r.a 6 = u
  generalize pick r.b 7 = v at *
  generalize pick r.a 3 = z at *
  have hv : v = 0 ∨ v = 1 ∨ v = 2 ∨ v = 3 ∨ v = 4 ∨ v = 5 ∨ v = 6 := by omega
  have hz : z = 0 ∨ z = 1 ∨ z = 2 := by omega
  by_cases hu : u = 0
  · rw [if_pos hu]
    rcases hk with rfl | rfl | rfl
    · exact ⟨by decide, by intro k h; simp only [List.mem_cons, List.not_mem_nil, or_false] at h; unfold Ty; omega⟩
    · exact ⟨by decide, by intro k h; simp only [List.mem_cons, List.not_mem_nil, or_false] at h; unfold Ty; omega⟩
    · exact ⟨by decide, by intro k h; simp only [List.mem_cons, List.not_mem_nil, or_false] at h; unfold Ty; omega⟩
  · rw [if_neg hu]
    rcases hk with rfl | rfl | rfl <;> rcases hv with rfl | rfl | rfl | rfl | rfl | rfl | rfl <;> rcases hz with rfl | rfl | rfl
    all_goals exact ⟨by decide, by intro k h; simp at h; unfold Ty; omega⟩
theorem leaf_ty {kind : Int} (hk : Ty kind) {tm : List (List UInt8 × Int)} {fs : List Field} (hT : ∀ f ∈ fs, lookI tm f.name = f.ty) (hlf : fs.length ≤ 1048576) {r : Raw} (hr : r.ok) : (gleafE kind fs r).ty tm = kind := by
  have hc : (constE kind r).ty tm = kind := by
    unfold constE
    rw [Exp.ty, if_pos rfl]
    exact (constV_ok hr hk).2.1
  unfold gleafE
  split
  · exact hc
  · rename_i h0
    split
    · exact hc
    · have hl := fnames_le kind fs
      have hp := pick_range r.b (fnames kind fs).length hr.b.1 hr.b.2 (by omega)
      have hlt : (pick r.b (fnames kind fs).length).toNat < (fnames kind fs).length := by omega
      have hm : (fnames kind fs).getD (pick r.b (fnames kind fs).length).toNat [] ∈ fnames kind fs := by
        rw [List.getD_eq_getElem?_getD, List.getElem?_eq_getElem hlt]
        exact List.getElem_mem hlt
      obtain ⟨f, h1, h2, h3⟩ := fnames_mem hm
      rw [Exp.ty, if_neg (by decide), if_pos rfl, ← h2, hT f h1, h3]
theorem gargs_ty {ge : Int → Nat → Exp × Nat} {tm : List (List UInt8 × Int)} (h : ∀ k n, Ty k → (ge k n).1.ty tm = k) : ∀ (ks : List Int) (n : Nat), (∀ k ∈ ks, Ty k) → Exp.tyL tm (gargs ge ks n).1 = ks
  | [], n, _ => rfl
  | k :: ks, n, hk => by
    simp only [gargs, Exp.tyL]
    rw [h k n (hk k (by simp)), gargs_ty h ks _ (fun x hx => hk x (by simp [hx]))]
theorem rule_op {op : Int} {ts : List Int} (h : ruleT op ts ≠ 0) : op ≠ 1 ∧ op ≠ 2 := by
  rcases rule_cases h with ⟨h, _⟩ | ⟨h, _⟩ | ⟨h, _⟩ | ⟨h, _⟩ | ⟨h, _⟩ | ⟨h, _⟩ | ⟨h, _⟩ | ⟨h, _⟩ <;> omega
theorem gexpr_ty {tm : List (List UInt8 × Int)} {fs : List Field} (hT : ∀ f ∈ fs, lookI tm f.name = f.ty) (hlf : fs.length ≤ 1048576) {l : List Raw} (hr : ∀ r ∈ l, r.ok) : ∀ (d : Nat) (kind : Int) (k : Nat), Ty kind → (gexpr fs l d kind k).1.ty tm = kind
  | 0, kind, k, hk => leaf_ty hk hT hlf (gnext_ok hr _)
  | d + 1, kind, k, hk => by
    unfold gexpr
    split
    · exact leaf_ty hk hT hlf (gnext_ok hr _)
    · obtain ⟨h1, h2⟩ := gshape_rule hk (gnext_ok hr k)
      have hne : ruleT (gshape kind (gnext l k)).1 (gshape kind (gnext l k)).2 ≠ 0 := by rw [h1]; rcases hk with h | h | h <;> omega
      have hop := rule_op hne
      rw [Exp.ty, if_neg hop.1, if_neg hop.2, gargs_ty (fun k n hk => gexpr_ty hT hlf hr d k n hk) _ _ h2, h1]
theorem some_ty : ∀ f ∈ someF, lookI (tmap someF) f.name = f.ty := by
  intro f hf
  simp only [someF, List.mem_cons, List.not_mem_nil, or_false] at hf
  rcases hf with rfl | rfl | rfl | rfl | rfl <;> rfl
theorem mkE_ty {l : List Raw} (hr : ∀ r ∈ l, r.ok) {kind : Int} (hk : Ty kind) : (mkE l kind someF).ty (tmap someF) = kind := gexpr_ty some_ty (by decide) hr 3 kind 0 hk
theorem ret_TypingOne (l : List Raw) (kind : Int) (hl : l.length ≤ 9223372036854775807) (hr : ∀ r ∈ l, r.ok) (hki : -9223372036854775808 ≤ kind ∧ kind ≤ 9223372036854775807) : Ret tab 6 [.d (.sl 4 (l.map Raw.dv)), .d (.int .i64 kind)] (.d (.bool true)) := by
  obtain ⟨hty, w1⟩ := ty_pick hki
  have p1 : ∀ (S : St) (d dst : Nat), callA tab (callR tab) d dst 16 [.d (.int .i64 kind), .d (.int .i64 3)] S = some (.d (.int .i64 (pick kind 3)), S) := fun S d dst => ca_picked kind 3 (by decide)
  have fE := fun (S : St) (d dst : Nat) => ca_Expr (d := d) (dst := dst) (S := S) l (1 + pick kind 3) someF (by decide) hl hr
  have wX := mkE_wf hr hty someF_ok
  have nX := mkE_nodes l (1 + pick kind 3) someF
  have dX := mkE_deep l (1 + pick kind 3) someF
  have tX := mkE_ty hr hty
  generalize mkE l (1 + pick kind 3) someF = X at *
  have f1 := fun (S : St) (d dst : Nat) (want : Int) => ca_FitsT (d := d) (dst := dst) (S := S) X someF want ⟨by omega, by omega⟩ wX (by rw [tX]; rcases hty with h | h | h <;> omega)
  rw [tX] at f1
  simp only [Exp.dv_eq X] at fE f1
  have q0 : (1 + pick kind 3 = 0) = False := eq_false (by rcases hty with h | h | h <;> omega)
  have q4 : (1 + pick kind 3 = 4) = False := eq_false (by rcases hty with h | h | h <;> omega)
  rcases hty with h | h | h
  · have q1 : (1 + pick kind 3 = 1) = True := eq_true h
    have q2 : (1 + pick kind 3 = 2) = False := eq_false (by omega)
    have q3 : (1 + pick kind 3 = 3) = False := eq_false (by omega)
    refine ret_of 8 fn6 rfl rfl ?_
    simp only [amr, amc, amp, if_true, if_false, ne_eq, gt_iff_lt, Option.getD, argsT, Option.bind, Option.map, List.headD, List.tail, opnsL, List.replicate, lendsL, seval, ty_TyD_6, p1, w1, fE, f1, q0, q1, q2, q3, q4, ca_Some, cx_loop, clp_s, nameOf, (show IntKind.i64.wrap 0 = 0 from rfl), (show IntKind.i64.wrap 1 = 1 from rfl), (show IntKind.i64.wrap 2 = 2 from rfl), (show IntKind.i64.wrap 3 = 3 from rfl), (show IntKind.i64.wrap 4 = 4 from rfl), (show IntKind.i64.wrap 5 = 5 from rfl), (show IntKind.i64.wrap 6 = 6 from rfl), (show IntKind.i64.wrap 7 = 7 from rfl), (show IntKind.i64.wrap 8 = 8 from rfl), (show IntKind.i64.wrap 9 = 9 from rfl), (show IntKind.i64.wrap 10 = 10 from rfl), (show IntKind.i64.wrap 11 = 11 from rfl), (show IntKind.i64.wrap 12 = 12 from rfl), (show IntKind.i64.wrap 13 = 13 from rfl), (show IntKind.i64.wrap 14 = 14 from rfl)]
  · have q1 : (1 + pick kind 3 = 1) = False := eq_false (by omega)
    have q2 : (1 + pick kind 3 = 2) = True := eq_true h
    have q3 : (1 + pick kind 3 = 3) = False := eq_false (by omega)
    refine ret_of 8 fn6 rfl rfl ?_
    simp only [amr, amc, amp, if_true, if_false, ne_eq, gt_iff_lt, Option.getD, argsT, Option.bind, Option.map, List.headD, List.tail, opnsL, List.replicate, lendsL, seval, ty_TyD_6, p1, w1, fE, f1, q0, q1, q2, q3, q4, ca_Some, cx_loop, clp_s, nameOf, (show IntKind.i64.wrap 0 = 0 from rfl), (show IntKind.i64.wrap 1 = 1 from rfl), (show IntKind.i64.wrap 2 = 2 from rfl), (show IntKind.i64.wrap 3 = 3 from rfl), (show IntKind.i64.wrap 4 = 4 from rfl), (show IntKind.i64.wrap 5 = 5 from rfl), (show IntKind.i64.wrap 6 = 6 from rfl), (show IntKind.i64.wrap 7 = 7 from rfl), (show IntKind.i64.wrap 8 = 8 from rfl), (show IntKind.i64.wrap 9 = 9 from rfl), (show IntKind.i64.wrap 10 = 10 from rfl), (show IntKind.i64.wrap 11 = 11 from rfl), (show IntKind.i64.wrap 12 = 12 from rfl), (show IntKind.i64.wrap 13 = 13 from rfl), (show IntKind.i64.wrap 14 = 14 from rfl)]
  · have q1 : (1 + pick kind 3 = 1) = False := eq_false (by omega)
    have q2 : (1 + pick kind 3 = 2) = False := eq_false (by omega)
    have q3 : (1 + pick kind 3 = 3) = True := eq_true h
    refine ret_of 8 fn6 rfl rfl ?_
    simp only [amr, amc, amp, if_true, if_false, ne_eq, gt_iff_lt, Option.getD, argsT, Option.bind, Option.map, List.headD, List.tail, opnsL, List.replicate, lendsL, seval, ty_TyD_6, p1, w1, fE, f1, q0, q1, q2, q3, q4, ca_Some, cx_loop, clp_s, nameOf, (show IntKind.i64.wrap 0 = 0 from rfl), (show IntKind.i64.wrap 1 = 1 from rfl), (show IntKind.i64.wrap 2 = 2 from rfl), (show IntKind.i64.wrap 3 = 3 from rfl), (show IntKind.i64.wrap 4 = 4 from rfl), (show IntKind.i64.wrap 5 = 5 from rfl), (show IntKind.i64.wrap 6 = 6 from rfl), (show IntKind.i64.wrap 7 = 7 from rfl), (show IntKind.i64.wrap 8 = 8 from rfl), (show IntKind.i64.wrap 9 = 9 from rfl), (show IntKind.i64.wrap 10 = 10 from rfl), (show IntKind.i64.wrap 11 = 11 from rfl), (show IntKind.i64.wrap 12 = 12 from rfl), (show IntKind.i64.wrap 13 = 13 from rfl), (show IntKind.i64.wrap 14 = 14 from rfl)]
end Go.Proofs.Ytjjjkoknodcaaaa.Am
