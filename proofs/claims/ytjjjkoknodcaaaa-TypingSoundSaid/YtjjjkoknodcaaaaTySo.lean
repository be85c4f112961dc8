/- A formula of a type has a value of this type, or is a fault for no type's sake; TypingSound. -/
import Derived.Test.YtjjjkoknodcaaaaEvLy
import Derived.Test.YtjjjkoknodcaaaaTyD
set_option linter.unusedVariables false
set_option linter.unusedSimpArgs false
namespace Go.Proofs.Ytjjjkoknodcaaaa.Am
open Go Go.RowKit
theorem ty_TySo_8 : type_of% (ai (ai (ai (ai (ai (ai @rs8 (ai @lv8_0 @lv8_1)) (ai @lv8_2 (ai @dr8_3 @lv8_3))) (ai (ai @dr8_4 (ai @lv8_4 @lv8_5)) (ai @lv8_6 (ai @und1 @sz1)))) (ai (ai (ai @ag1 (ai @inf1 @und3)) (ai @sz3 (ai @ag3 @lv3))) (ai (ai @inf3 (ai @und4 @sz4)) (ai (ai @ag4 @lv4) (ai @inf4 @und9))))) (ai (ai (ai (ai @sz9 (ai @ag9 @lv9)) (ai @inf9 (ai @und22 @sz22))) (ai (ai @ag22 (ai @pT22 @inf22)) (ai (ai @und24 @sz24) (ai @ag24 @fo24)))) (ai (ai (ai @bA24 (ai @pT24_0 @pT24_1)) (ai @pT24_2 (ai @lv24 @inf24))) (ai (ai @und25 (ai @sz25 @ag25)) (ai (ai @pT25 @inf25) (ai @und27 @sz27)))))) (ai (ai (ai (ai (ai @ag27 (ai @fo27 @bA27)) (ai @pT27_0 (ai @pT27_1 @pT27_2))) (ai (ai @pT27_3 (ai @inf27 @und30)) (ai (ai @sz30 @ag30) (ai @pT30 @inf30)))) (ai (ai (ai @und34 (ai @sz34 @ag34)) (ai @lv34 (ai @inf34 @und49))) (ai (ai @sz49 (ai @ag49 @fo49)) (ai (ai @bA49 @pT49_0) (ai @pT49_1 @pT49_2))))) (ai (ai (ai (ai @pT49_3 (ai @inf49 @und56)) (ai @sz56 (ai @ag56 @pT56))) (ai (ai @inf56 (ai @und65 @sz65)) (ai (ai @ag65 @fo65) (ai @bA65 @pT65_0)))) (ai (ai (ai @pT65_1 (ai @pT65_2 @inf65)) (ai @und99 (ai @sz99 @ag99))) (ai (ai @fo99 (ai @bA99 @pT99_0)) (ai (ai @pT99_1 @pT99_2) (ai @pT99_3 @inf99))))))) := (ai (ai (ai (ai (ai (ai @rs8 (ai @lv8_0 @lv8_1)) (ai @lv8_2 (ai @dr8_3 @lv8_3))) (ai (ai @dr8_4 (ai @lv8_4 @lv8_5)) (ai @lv8_6 (ai @und1 @sz1)))) (ai (ai (ai @ag1 (ai @inf1 @und3)) (ai @sz3 (ai @ag3 @lv3))) (ai (ai @inf3 (ai @und4 @sz4)) (ai (ai @ag4 @lv4) (ai @inf4 @und9))))) (ai (ai (ai (ai @sz9 (ai @ag9 @lv9)) (ai @inf9 (ai @und22 @sz22))) (ai (ai @ag22 (ai @pT22 @inf22)) (ai (ai @und24 @sz24) (ai @ag24 @fo24)))) (ai (ai (ai @bA24 (ai @pT24_0 @pT24_1)) (ai @pT24_2 (ai @lv24 @inf24))) (ai (ai @und25 (ai @sz25 @ag25)) (ai (ai @pT25 @inf25) (ai @und27 @sz27)))))) (ai (ai (ai (ai (ai @ag27 (ai @fo27 @bA27)) (ai @pT27_0 (ai @pT27_1 @pT27_2))) (ai (ai @pT27_3 (ai @inf27 @und30)) (ai (ai @sz30 @ag30) (ai @pT30 @inf30)))) (ai (ai (ai @und34 (ai @sz34 @ag34)) (ai @lv34 (ai @inf34 @und49))) (ai (ai @sz49 (ai @ag49 @fo49)) (ai (ai @bA49 @pT49_0) (ai @pT49_1 @pT49_2))))) (ai (ai (ai (ai @pT49_3 (ai @inf49 @und56)) (ai @sz56 (ai @ag56 @pT56))) (ai (ai @inf56 (ai @und65 @sz65)) (ai (ai @ag65 @fo65) (ai @bA65 @pT65_0)))) (ai (ai (ai @pT65_1 (ai @pT65_2 @inf65)) (ai @und99 (ai @sz99 @ag99))) (ai (ai @fo99 (ai @bA99 @pT99_0)) (ai (ai @pT99_1 @pT99_2) (ai @pT99_3 @inf99)))))))
set_option maxRecDepth 100000
set_option maxHeartbeats 40000000



theorem ca_OfX {x : Exp} {l : List Fact} (hx : x.nodes ≤ 60 ∧ x.deep ≤ 12) (hw : x.wf) (hl : l.length ≤ 1048576) (h : ∀ f ∈ l, VOK f.has) {d dst : Nat} {S : St} : callA tab (callR tab) d dst 31 [.d x.dv, .d (.sl 7 (l.map Fact.dv))] S = some (.tup [.d (.agg [.int .i64 (evE (fmap [] l) x).kind, .int .i64 (evE (fmap [] l) x).n, .str (evE (fmap [] l) x).s]), .d (.int .i64 0)], S) :=
  ca_ret_tup (ds := [x.dv, .sl 7 (l.map Fact.dv)]) (ys := [(evE (fmap [] l) x).dv, .int .i64 0]) (ret_Of x l (by unfold chkE; rw [if_neg (by omega), if_neg (by omega)]) (by omega) hw hl h) rfl (tab_opn (by kernel_rfl)) (tab_res (by kernel_rfl)) rfl
def SV (t : Int) (v : Val) : Prop := v.kind = t ∨ (v.kind = 5 ∧ (v.n = 7 ∨ v.n = 8 ∨ v.n = 1))
theorem sv_fault {t e : Int} (h : e = 7 ∨ e = 8 ∨ e = 1) : SV t (fault e) := .inr ⟨rfl, h⟩
theorem sv_num (op a b : Int) : SV 1 (if (numOp op a b).2 ≠ 0 then fault (numOp op a b).2 else ⟨1, (numOp op a b).1, []⟩) := by
  have h := numOp_or op a b
  split
  · rename_i hz
    rcases h with h | h | h
    · exact absurd h.1 hz
    · rw [h]; exact sv_fault (.inl rfl)
    · rw [h]; exact sv_fault (.inr (.inl rfl))
  · exact .inl rfl
theorem so_one (op : Int) (a : Val) : opV op [a] = if a.kind = 5 then a else if a.kind = 4 then a else apply1 op a := by
  by_cases h5 : a.kind = 5
  · simp [opV, allSV, h5]
  · by_cases h4 : a.kind = 4
    · simp [opV, allSV, h5, h4]
    · simp [opV, allSV, h5, h4, Val.zero, applyV]
theorem so_two (op : Int) (a b : Val) : opV op [a, b] = if a.kind = 5 then a else if b.kind = 5 then b else if b.kind = 4 then b else if a.kind = 4 then a else apply2 op a b := by
  by_cases h5 : a.kind = 5
  · simp [opV, allSV, h5]
  · by_cases g5 : b.kind = 5
    · simp [opV, allSV, h5, g5]
    · by_cases g4 : b.kind = 4
      · simp [opV, allSV, h5, g5, g4]
      · by_cases h4 : a.kind = 4
        · simp [opV, allSV, h5, g5, g4, h4]
        · simp [opV, allSV, h5, g5, g4, h4, Val.zero, applyV]
theorem sv_one {op t u : Int} {a : Val} (ht : 1 ≤ t ∧ t ≤ 3) (ha : SV t a) (h : a.kind = t → SV u (apply1 op a)) : SV u (opV op [a]) := by
  rw [so_one]
  rcases ha with ha | ⟨h5, hn⟩
  · rw [if_neg (by omega), if_neg (by omega)]; exact h ha
  · rw [if_pos h5]; exact .inr ⟨h5, hn⟩
theorem sv_two {op t u : Int} {a b : Val} (ht : 1 ≤ t ∧ t ≤ 3) (ha : SV t a) (hb : SV t b) (h : a.kind = t → b.kind = t → SV u (apply2 op a b)) : SV u (opV op [a, b]) := by
  rw [so_two]
  rcases ha with ha | ⟨h5, hn⟩
  · rw [if_neg (by omega)]
    rcases hb with hb | ⟨h5, hn⟩
    · rw [if_neg (by omega), if_neg (by omega), if_neg (by omega)]; exact h ha hb
    · rw [if_pos h5]; exact .inr ⟨h5, hn⟩
  · rw [if_pos h5]; exact .inr ⟨h5, hn⟩
theorem known_of {v : Val} (hv : VOK v) (hk : 1 ≤ v.kind ∧ v.kind ≤ 3) : valKnown v = true := by
  unfold valKnown
  rw [decide_eq_true (by omega : v.kind ≥ 1), decide_eq_true hk.2]
  simp only [Bool.true_and]
  exact beq_iff_eq.2 hv
theorem firstV_2 {a : Val} (h : a.kind = 2) : firstV a = (a, true) := by simp [firstV, h]
theorem firstV_5 {a : Val} (h : a.kind = 5) : firstV a = (a, false) := by simp [firstV, h]
theorem sv_and {op : Int} {a b : Val} (ha : SV 2 a) (hb : SV 2 b) : SV 2 (andV op a b) := by
  unfold andV
  rcases ha with ha | ⟨h5, hn⟩
  · rw [firstV_2 ha]
    simp only [Bool.true_eq_false, if_false]
    split
    · exact .inl ha
    · rcases hb with hb | ⟨h5, hn⟩
      · simp [boolV, hb, SV]
      · simp only [boolV, h5, SV]; exact .inr ⟨h5, hn⟩
  · rw [firstV_5 h5]
    simp only [if_true]
    exact .inr ⟨h5, hn⟩
theorem sv_if {t : Int} {a b c : Val} (ha : SV 2 a) (hb : SV t b) (hc : SV t c) : SV t (ifV a b c) := by
  unfold ifV
  rcases ha with ha | ⟨h5, hn⟩
  · rw [firstV_2 ha]
    simp only [Bool.true_eq_false, if_false]
    split
    · exact hb
    · exact hc
  · rw [firstV_5 h5]
    simp only [if_true]
    exact .inr ⟨h5, hn⟩
theorem sv_cmp {op : Int} {a b : Val} (ho : 11 ≤ op) (va : VOK a) (vb : VOK b) (hk : a.kind = b.kind) (h3 : 1 ≤ b.kind ∧ b.kind ≤ 3) : SV 2 (apply2 op a b) := by
  unfold apply2
  rw [if_pos ho]
  have hz : (cmpV a b).2 = 0 := by unfold cmpV; rw [if_pos (known_of va (by omega)), if_pos (known_of vb h3), if_pos hk]
  rw [if_neg (by omega)]
  exact .inl rfl
def SVL : List Int → List Val → Prop
  | [], [] => True
  | t :: r, v :: l => (SV t v ∧ VOK v) ∧ SVL r l
  | _, _ => False
theorem svl1 {t : Int} {vs : List Val} (h : SVL [t] vs) : ∃ a, vs = [a] ∧ SV t a ∧ VOK a := by
  match vs, h with
  | [a], h => exact ⟨a, rfl, h.1⟩
theorem svl2 {t u : Int} {vs : List Val} (h : SVL [t, u] vs) : ∃ a b, vs = [a, b] ∧ (SV t a ∧ VOK a) ∧ (SV u b ∧ VOK b) := by
  match vs, h with
  | [a, b], h => exact ⟨a, b, rfl, h.1, h.2.1⟩
theorem svl3 {t u w : Int} {vs : List Val} (h : SVL [t, u, w] vs) : ∃ a b c, vs = [a, b, c] ∧ SV t a ∧ SV u b ∧ SV w c := by
  match vs, h with
  | [a, b, c], h => exact ⟨a, b, c, rfl, h.1.1, h.2.1.1, h.2.2.1.1⟩
mutual
theorem so_ev {tm : List (List UInt8 × Int)} {M : VMap} (hM : MOK M) (hT : ∀ s, lookI tm s ≠ 0 → ∃ w, lookV M s = some w ∧ w.kind = lookI tm s) : ∀ x : Exp, x.wf → x.ty tm ≠ 0 → SV (x.ty tm) (evE M x)
  | .mk op v name args, hw, ht => by
    have ih := so_evL hM hT args hw.2
    rw [Exp.ty] at ht ⊢
    rw [evE]
    by_cases c1 : op = 1
    · rw [if_pos c1, if_pos c1]; exact .inl rfl
    rw [if_neg c1] at ht ⊢
    rw [if_neg c1]
    by_cases c2 : op = 2
    · rw [if_pos c2] at ht ⊢
      rw [if_pos c2]
      obtain ⟨w, h1, h2⟩ := hT name ht
      rw [h1]
      exact .inl h2
    rw [if_neg c2] at ht ⊢
    rw [if_neg c2]
    have ih := ih (ruleT_args ht)
    rcases rule_cases ht with ⟨rfl, e, hr⟩ | ⟨rfl, e, hr⟩ | ⟨rfl, e, hr⟩ | ⟨ho, e, hr⟩ | ⟨rfl, e, hr⟩ | ⟨ho, e, hr⟩ | ⟨rfl, t, e, h3, hr⟩ | ⟨ho, t, e, h3, hr⟩ <;> rw [hr] <;> rw [e] at ih
    · obtain ⟨a, hv, sa, va⟩ := svl1 ih
      rw [hv, if_neg (by decide), if_neg (by decide)]
      refine sv_one (by decide) sa (fun hk => ?_)
      unfold apply1
      rw [if_neg (by decide), if_neg (by decide), if_pos hk]
      exact sv_num _ _ _
    · obtain ⟨a, hv, sa, va⟩ := svl1 ih
      rw [hv, if_neg (by decide), if_neg (by decide)]
      refine sv_one (by decide) sa (fun hk => ?_)
      unfold apply1
      rw [if_pos rfl, if_pos hk]
      exact .inl rfl
    · obtain ⟨a, hv, sa, va⟩ := svl1 ih
      rw [hv, if_neg (by decide), if_neg (by decide)]
      refine sv_one (by decide) sa (fun hk => ?_)
      unfold apply1
      rw [if_neg (by decide), if_pos rfl, if_pos hk]
      exact .inl rfl
    · obtain ⟨a, b, hv, sa, sb⟩ := svl2 ih
      rw [hv, if_neg (by omega), if_neg (by omega)]
      refine sv_two (by decide) sa.1 sb.1 (fun ha hb => ?_)
      unfold apply2
      rw [if_neg (by omega), if_neg (by omega), if_pos ⟨ha, hb⟩]
      exact sv_num _ _ _
    · obtain ⟨a, b, hv, sa, sb⟩ := svl2 ih
      rw [hv, if_neg (by decide), if_neg (by decide)]
      refine sv_two (by decide) sa.1 sb.1 (fun ha hb => ?_)
      unfold apply2
      rw [if_neg (by decide), if_pos rfl, if_pos ⟨ha, hb⟩]
      split
      · exact sv_fault (.inr (.inr rfl))
      · exact .inl rfl
    · obtain ⟨a, b, hv, sa, sb⟩ := svl2 ih
      rw [hv, if_neg (by omega), if_pos ho]
      exact sv_and sa.1 sb.1
    · obtain ⟨a, b, c, hv, sa, sb, sc⟩ := svl3 ih
      rw [hv, if_pos rfl]
      exact sv_if sa sb sc
    · obtain ⟨a, b, hv, sa, sb⟩ := svl2 ih
      rw [hv, if_neg (by omega), if_neg (by omega)]
      exact sv_two h3 sa.1 sb.1 (fun ha hb => sv_cmp (by omega) sa.2 sb.2 (by omega) (by omega))
theorem so_evL {tm : List (List UInt8 × Int)} {M : VMap} (hM : MOK M) (hT : ∀ s, lookI tm s ≠ 0 → ∃ w, lookV M s = some w ∧ w.kind = lookI tm s) : ∀ l : List Exp, Exp.wfL l → (∀ t ∈ Exp.tyL tm l, t ≠ 0) → SVL (Exp.tyL tm l) (evL M l)
  | [], _, _ => by simp only [Exp.tyL, evL, SVL]
  | x :: r, hw, h => by
    simp only [Exp.tyL, List.mem_cons, forall_eq_or_imp] at h
    simp only [Exp.tyL, evL, SVL]
    exact ⟨⟨so_ev hM hT x hw.1 h.1, vok_ev hM x hw.1⟩, so_evL hM hT r hw.2 h.2⟩
end
theorem so_map (m : List Raw) : ∀ s, lookI (tmap someF) s ≠ 0 → ∃ w, lookV (fmap [] (factsL m)) s = some w ∧ w.kind = lookI (tmap someF) s := by
  intro s
  have h1 : tmap someF = [([115], 3), ([117], 2), ([116], 2), ([109], 1), ([110], 1)] := by kernel_rfl
  have h2 : ∃ a b c e f, fmap [] (factsL m) = [([110], mkVal 1 a), ([109], mkVal 1 b), ([116], mkVal 2 c), ([117], mkVal 2 e), ([115], mkVal 3 f)] := ⟨_, _, _, _, _, rfl⟩
  obtain ⟨a, b, c, e, f, h2⟩ := h2
  rw [h1, h2]
  simp only [lookI, lookV]
  have k1 := fun r => mkVal_kind 1 r (by decide)
  have k2 := fun r => mkVal_kind 2 r (by decide)
  have k3 := fun r => mkVal_kind 3 r (by decide)
  by_cases c1 : s = [115]
  · subst c1; intro _; exact ⟨_, by simp; rfl, by simp [k3]⟩
  by_cases c2 : s = [117]
  · subst c2; intro _; exact ⟨_, by simp; rfl, by simp [k2]⟩
  by_cases c3 : s = [116]
  · subst c3; intro _; exact ⟨_, by simp; rfl, by simp [k2]⟩
  by_cases c4 : s = [109]
  · subst c4; intro _; exact ⟨_, by simp; rfl, by simp [k1]⟩
  by_cases c5 : s = [110]
  · subst c5; intro _; exact ⟨_, by simp; rfl, by simp [k1]⟩
  · intro h; simp [c1, c2, c3, c4, c5] at h
theorem ret_TypingSound (l m : List Raw) (kind : Int) (hl : l.length ≤ 9223372036854775807) (hr : ∀ r ∈ l, r.ok) (hm : m.length ≤ 9223372036854775807) (hs : ∀ r ∈ m, r.ok) (hki : -9223372036854775808 ≤ kind ∧ kind ≤ 9223372036854775807) : Ret tab 8 [.d (.sl 4 (l.map Raw.dv)), .d (.sl 4 (m.map Raw.dv)), .d (.int .i64 kind)] (.d (.bool true)) := by
  obtain ⟨hty, w1⟩ := ty_pick hki
  have p1 : ∀ (S : St) (d dst : Nat), callA tab (callR tab) d dst 16 [.d (.int .i64 kind), .d (.int .i64 3)] S = some (.d (.int .i64 (pick kind 3)), S) := fun S d dst => ca_picked kind 3 (by decide)
  have fE := fun (S : St) (d dst : Nat) => ca_Expr (d := d) (dst := dst) (S := S) l (1 + pick kind 3) someF (by decide) hl hr
  have fF := fun (S : St) (d : Nat) => ca_factsL m hm hs (d := d) (dst := 20) (S := S) (by kernel_rfl)
  have wX := mkE_wf hr hty someF_ok
  have nX := mkE_nodes l (1 + pick kind 3) someF
  have dX := mkE_deep l (1 + pick kind 3) someF
  have tX := mkE_ty hr hty
  generalize mkE l (1 + pick kind 3) someF = X at *
  have hF := facts_ok hs someF 0 someF_ok
  have lF : (factsL m).length = 5 := factsF_len m someF 0
  change ∀ f ∈ factsL m, VOK f.has at hF
  have hT := so_map m
  have hM := mok_fmap (factsL m) [] mok_nil hF
  have f1 := fun (S : St) (d dst : Nat) (want : Int) => ca_FitsT (d := d) (dst := dst) (S := S) X someF want ⟨by omega, by omega⟩ wX (by rw [tX]; rcases hty with h | h | h <;> omega)
  have g1 := fun (S : St) (d dst : Nat) => ca_OfX (x := X) (l := factsL m) (by omega) wX (by omega) hF (d := d) (dst := dst) (S := S)
  have hv := so_ev hM hT X wX (by rw [tX]; rcases hty with h | h | h <;> omega)
  have vv := vok_ev hM X wX
  rw [tX] at f1 hv
  simp only [Exp.dv_eq X] at fE f1 g1
  generalize evE (fmap [] (factsL m)) X = v at *
  have hK := fun (S : St) (d dst : Nat) => ca_Known (d := d) (dst := dst) (S := S) v.kind v.n v.s
  have w2 : IntKind.i64.wrap ((1 + pick kind 3).tmod 3 + 1) = (1 + pick kind 3).tmod 3 + 1 := by rcases hty with h | h | h <;> rw [h] <;> decide
  have w3 : IntKind.i64.wrap ((1 + pick kind 3).tmod 3) = (1 + pick kind 3).tmod 3 := by rcases hty with h | h | h <;> rw [h] <;> decide
  have q1 : (1 + pick kind 3 = (1 + pick kind 3).tmod 3 + 1) = False := eq_false (by rcases hty with h | h | h <;> rw [h] <;> decide)
  clear hT hM hF wX nX dX tX lF
  rcases hv with hv | ⟨h5, hn⟩
  · have kv := known_of vv (by rw [hv]; rcases hty with h | h | h <;> omega)
    have b1 : (v.kind == 1 + pick kind 3) = true := beq_iff_eq.2 hv
    have kv' : valKnown ⟨v.kind, v.n, v.s⟩ = true := kv
    simp only [kv'] at hK
    refine ret_of 1 fn8 rfl rfl ?_
    simp only [amr, amc, amp, if_true, if_false, ne_eq, gt_iff_lt, Option.getD, argsT, Option.bind, Option.map, List.headD, List.tail, opnsL, List.replicate, lendsL, seval, ty_TySo_8, p1, w1, w2, w3, fE, fF, f1, g1, hK, q1, b1, ca_Some, bne_self_eq_false]
  · have b1 : (v.kind == 1 + pick kind 3) = false := beq_eq_false_iff_ne.2 (by rw [h5]; rcases hty with h | h | h <;> omega)
    have b2 : (v.kind == 5) = true := beq_iff_eq.2 h5
    refine ret_of 1 fn8 rfl rfl ?_
    cases b3 : (v.n == 7) <;> cases b4 : (v.n == 8) <;> cases b5 : (v.n == 1)
    · simp only [beq_eq_false_iff_ne] at b3 b4 b5; omega
    all_goals simp only [amr, amc, amp, if_true, if_false, ne_eq, gt_iff_lt, Option.getD, argsT, Option.bind, Option.map, List.headD, List.tail, opnsL, List.replicate, lendsL, seval, ty_TySo_8, p1, w1, w2, w3, fE, fF, f1, g1, q1, b1, b2, b3, b4, b5, ca_Some, bne_self_eq_false]
end Go.Proofs.Ytjjjkoknodcaaaa.Am
