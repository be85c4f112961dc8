/- NamesAll, walked. -/
import Derived.Test.YtjjjkoknodcaaaaOfB
import Derived.Test.YtjjjkoknodcaaaaOfC
set_option linter.unusedVariables false
set_option linter.unusedSimpArgs false
namespace Go.Proofs.Ytjjjkoknodcaaaa.Am
open Go Go.RowKit
theorem ty_OfD_5 : type_of% (ai (ai (ai (ai (ai (ai @rs5 (ai @lv5_0 @lv5_1)) (ai @lv5_2 (ai @lv5_3 @lv5_4))) (ai (ai @lv5_5 (ai @lv5_6 @lv5_7)) (ai @lv5_8 (ai @dr5_9 @lv5_9)))) (ai (ai (ai @lv5_10 (ai @lv5_11 @lv5_12)) (ai @kp5_7 (ai @und1 @sz1))) (ai (ai @ag1 (ai @inf1 @und3)) (ai (ai @sz3 @ag3) (ai @lv3 @inf3))))) (ai (ai (ai (ai @und4 (ai @sz4 @ag4)) (ai @lv4 (ai @inf4 @und9))) (ai (ai @sz9 (ai @ag9 @lv9)) (ai @inf9 (ai @und22 @sz22)))) (ai (ai (ai @ag22 (ai @pT22 @inf22)) (ai @und24 (ai @sz24 @ag24))) (ai (ai @fo24 (ai @bA24 @pT24_0)) (ai (ai @pT24_1 @pT24_2) (ai @lv24 @inf24)))))) (ai (ai (ai (ai (ai @und25 (ai @sz25 @ag25)) (ai @pT25 (ai @inf25 @und27))) (ai (ai @sz27 (ai @ag27 @fo27)) (ai @bA27 (ai @pT27_0 @pT27_1)))) (ai (ai (ai @pT27_2 (ai @pT27_3 @inf27)) (ai @und30 (ai @sz30 @ag30))) (ai (ai @pT30 (ai @inf30 @und34)) (ai (ai @sz34 @ag34) (ai @lv34 @inf34))))) (ai (ai (ai (ai @und42 (ai @sz42 @ag42)) (ai @pT42 (ai @inf42 @und49))) (ai (ai @sz49 (ai @ag49 @fo49)) (ai @bA49 (ai @pT49_0 @pT49_1)))) (ai (ai (ai @pT49_2 (ai @pT49_3 @inf49)) (ai @und99 (ai @sz99 @ag99))) (ai (ai @fo99 (ai @bA99 @pT99_0)) (ai (ai @pT99_1 @pT99_2) (ai @pT99_3 @inf99))))))) := (ai (ai (ai (ai (ai (ai @rs5 (ai @lv5_0 @lv5_1)) (ai @lv5_2 (ai @lv5_3 @lv5_4))) (ai (ai @lv5_5 (ai @lv5_6 @lv5_7)) (ai @lv5_8 (ai @dr5_9 @lv5_9)))) (ai (ai (ai @lv5_10 (ai @lv5_11 @lv5_12)) (ai @kp5_7 (ai @und1 @sz1))) (ai (ai @ag1 (ai @inf1 @und3)) (ai (ai @sz3 @ag3) (ai @lv3 @inf3))))) (ai (ai (ai (ai @und4 (ai @sz4 @ag4)) (ai @lv4 (ai @inf4 @und9))) (ai (ai @sz9 (ai @ag9 @lv9)) (ai @inf9 (ai @und22 @sz22)))) (ai (ai (ai @ag22 (ai @pT22 @inf22)) (ai @und24 (ai @sz24 @ag24))) (ai (ai @fo24 (ai @bA24 @pT24_0)) (ai (ai @pT24_1 @pT24_2) (ai @lv24 @inf24)))))) (ai (ai (ai (ai (ai @und25 (ai @sz25 @ag25)) (ai @pT25 (ai @inf25 @und27))) (ai (ai @sz27 (ai @ag27 @fo27)) (ai @bA27 (ai @pT27_0 @pT27_1)))) (ai (ai (ai @pT27_2 (ai @pT27_3 @inf27)) (ai @und30 (ai @sz30 @ag30))) (ai (ai @pT30 (ai @inf30 @und34)) (ai (ai @sz34 @ag34) (ai @lv34 @inf34))))) (ai (ai (ai (ai @und42 (ai @sz42 @ag42)) (ai @pT42 (ai @inf42 @und49))) (ai (ai @sz49 (ai @ag49 @fo49)) (ai @bA49 (ai @pT49_0 @pT49_1)))) (ai (ai (ai @pT49_2 (ai @pT49_3 @inf49)) (ai @und99 (ai @sz99 @ag99))) (ai (ai @fo99 (ai @bA99 @pT99_0)) (ai (ai @pT99_1 @pT99_2) (ai @pT99_3 @inf99)))))))
open Go.Maps
set_option maxRecDepth 100000
set_option maxHeartbeats 40000000



theorem const_refs (kind : Int) (r : Raw) : (constE kind r).refs = [] := by
  unfold constE
  repeat' split
  all_goals simp [Exp.refs, Exp.refsL]
theorem leaf_refs {kind : Int} {fs : List Field} {r : Raw} (hb : -9223372036854775808 ≤ r.b ∧ r.b ≤ 9223372036854775807) {t : List UInt8} (h : t ∈ (gleafE kind fs r).refs) (hlf : fs.length ≤ 1048576) : ∃ f ∈ fs, f.name = t := by
  unfold gleafE at h
  split at h
  · rw [const_refs] at h; cases h
  · rename_i h0
    split at h
    · rw [const_refs] at h; cases h
    · simp only [Exp.refs, Exp.refsL, if_true, List.append_nil, List.mem_singleton] at h
      have hl := fnames_le kind fs
      have hp := pick_range r.b (fnames kind fs).length hb.1 hb.2 (by omega)
      have hlt : (pick r.b (fnames kind fs).length).toNat < (fnames kind fs).length := by omega
      suffices hm : t ∈ fnames kind fs by
        obtain ⟨f, h1, h2, _⟩ := fnames_mem hm
        exact ⟨f, h1, h2⟩
      rw [h, List.getD_eq_getElem?_getD, List.getElem?_eq_getElem hlt]
      exact List.getElem_mem hlt
theorem gargs_refs {ge : Int → Nat → Exp × Nat} {P : List UInt8 → Prop} (h : ∀ k n t, t ∈ (ge k n).1.refs → P t) : ∀ (ks : List Int) (n : Nat) t, t ∈ Exp.refsL (gargs ge ks n).1 → P t
  | [], n, t, ht => by simp [gargs, Exp.refsL] at ht
  | k :: ks, n, t, ht => by
    simp only [gargs, Exp.refsL, List.mem_append] at ht
    rcases ht with ht | ht
    · exact h _ _ _ ht
    · exact gargs_refs h ks _ t ht
theorem gexpr_refs {fs : List Field} (hlf : fs.length ≤ 1048576) {l : List Raw} (hr : ∀ r ∈ l, r.ok) : ∀ (d : Nat) (kind : Int) (k : Nat) t, t ∈ (gexpr fs l d kind k).1.refs → ∃ f ∈ fs, f.name = t
  | 0, kind, k, t, h => leaf_refs (gnext_ok hr _).b h hlf
  | d + 1, kind, k, t, h => by
    unfold gexpr at h
    split at h
    · exact leaf_refs (gnext_ok hr _).b h hlf
    · rename_i hp
      simp only [Exp.refs, List.mem_append] at h
      rcases h with h | h
      · have hop : (gshape kind (gnext l k)).1 ≠ 2 := by
          have hk := gnext_ok hr k
          have p1 := pick_range (gnext l k).b 7 hk.b.1 hk.b.2 (by decide)
          unfold gshape
          repeat' split
          all_goals simp only; omega
        rw [if_neg hop] at h
        cases h
      · exact gargs_refs (fun k n t ht => gexpr_refs hlf hr d k n t ht) _ _ t h
theorem insert_perm (y : Lit × DataW Unit) : ∀ l : List (Lit × DataW Unit), (DataW.insert y l).Perm (y :: l)
  | [] => .refl _
  | z :: r => by
    unfold DataW.insert
    split
    · exact .refl _
    · exact ((insert_perm y r).cons z).trans (.swap y z r)
theorem setD_keys : ∀ l : List (List UInt8), ∃ es, setD l = .map es ∧ (∀ p ∈ es, ∃ x, p.1 = .string x) ∧ (es.map fun p => strOf p.1).Nodup ∧ ∀ s, s ∈ (es.map fun p => strOf p.1) ↔ s ∈ l
  | [] => ⟨[], rfl, by simp, by simp, by simp⟩
  | x :: r => by
    obtain ⟨es, h1, h2, h3, h4⟩ := setD_keys r
    refine ⟨DataW.insert (.string x, .lit (.bool true)) (es.filter fun p => !p.1.sameKey (.string x)), by rw [setD, h1]; rfl, ?_, ?_, ?_⟩
    · intro p hp
      rcases List.mem_cons.1 ((insert_perm _ _).mem_iff.1 hp) with rfl | hp
      · exact ⟨x, rfl⟩
      · exact h2 p (List.mem_filter.1 hp).1
    · refine ((insert_perm _ _).map _).nodup_iff.2 ?_
      rw [List.map_cons, List.nodup_cons]
      refine ⟨fun hm => ?_, List.Nodup.sublist (List.Sublist.map _ (List.filter_sublist ..)) h3⟩
      obtain ⟨p, hp, he⟩ := List.mem_map.1 hm
      obtain ⟨hp1, hp2⟩ := List.mem_filter.1 hp
      obtain ⟨a, ha⟩ := h2 p hp1
      rw [ha] at he hp2
      simp only [strOf] at he
      subst he
      simp [Lit.sameKey] at hp2
    · intro s
      rw [((insert_perm _ _).map _).mem_iff, List.map_cons, List.mem_cons, List.mem_cons]
      constructor
      · rintro (h | h)
        · exact .inl h
        · obtain ⟨p, hp, he⟩ := List.mem_map.1 h
          exact .inr ((h4 s).1 (List.mem_map.2 ⟨p, (List.mem_filter.1 hp).1, he⟩))
      · rintro (h | h)
        · exact .inl h
        · by_cases e : s = x
          · exact .inl e
          · obtain ⟨p, hp, he⟩ := List.mem_map.1 ((h4 s).2 h)
            obtain ⟨a, ha⟩ := h2 p hp
            refine .inr (List.mem_map.2 ⟨p, List.mem_filter.2 ⟨hp, ?_⟩, he⟩)
            rw [ha] at he ⊢
            simp only [strOf] at he
            subst he
            simpa [Lit.sameKey] using e
def l5 : List (List UInt8) := [[109], [110], [115], [116], [117]]
theorem namesR_eq (X : Ex) (L : List (List UInt8)) (hn : L.Nodup) (hs : L.Pairwise (fun a b => a ≤ b)) (h : ∀ s ∈ X.refs, s ∈ L) : namesR X = L.filter (fun s => decide (s ∈ X.refs)) := by
  obtain ⟨es, h1, h2, h3, h4⟩ := setD_keys X.refs.reverse
  have hk : strKeys (revD X.refs) = es.map fun p => strOf p.1 := by unfold revD; rw [h1]; rfl
  have tr : ∀ a b c : List UInt8, leB a b = true → leB b c = true → leB a c = true := fun a b c h1 h2 => by simp only [leB, decide_eq_true_eq] at *; exact List.le_trans h1 h2
  have to : ∀ a b : List UInt8, (leB a b || leB b a) = true := fun a b => by simp only [leB, Bool.or_eq_true, decide_eq_true_eq]; exact List.le_total a b
  have hp : (namesR X).Perm (strKeys (revD X.refs)) := List.mergeSort_perm _ _
  rw [hk] at hp
  refine List.Perm.eq_of_pairwise (le := fun a b => leB a b = true) (fun a b _ _ h1 h2 => ?_) (List.pairwise_mergeSort tr to _) ((hs.imp (fun h => by simpa [leB] using h)).filter _) ((List.perm_ext_iff_of_nodup (hp.nodup_iff.2 h3) (hn.sublist (List.filter_sublist ..))).2 fun s => ?_)
  · simp only [leB, decide_eq_true_eq] at h1 h2
    exact List.le_antisymm h1 h2
  · rw [hp.mem_iff, h4, List.mem_reverse, List.mem_filter]
    constructor
    · intro hm; exact ⟨h s hm, by simpa using hm⟩
    · rintro ⟨_, hm⟩; simpa using hm
mutual
theorem refs_len : ∀ x : Exp, x.refs.length ≤ x.nodes
  | .mk op v name args => by
    have ih := refs_lenL args
    simp only [Exp.refs, Exp.nodes, List.length_append]
    split
    · simp only [List.length_cons, List.length_nil]; omega
    · simp only [List.length_nil]; omega
theorem refs_lenL : ∀ l : List Exp, (Exp.refsL l).length ≤ Exp.nodesL l
  | [] => by simp [Exp.refsL]
  | x :: r => by
    have h1 := refs_len x
    have h2 := refs_lenL r
    simp only [Exp.refsL, Exp.nodesL, List.length_append]
    omega
end
theorem l5_mem {l : List Raw} (hr : ∀ r ∈ l, r.ok) {kind : Int} : ∀ s ∈ (mkE l kind someF).refs, s ∈ l5 := by
  intro s hs
  obtain ⟨f, hf, rfl⟩ := gexpr_refs (by decide) hr 3 kind 0 s hs
  simp only [someF, List.mem_cons, List.not_mem_nil, or_false] at hf
  rcases hf with rfl | rfl | rfl | rfl | rfl <;> decide
theorem ofOk (x : Exp) (h1 : ∀ s ∈ x.refs, s.length ≤ 1000) (hx : x.nodes ≤ 60 ∧ x.deep ≤ 12) (hw : x.wf) : OfOk x.ex := by
  refine ⟨by rw [ex_refs]; exact h1, by rw [ex_refs]; have := refs_len x; omega, ?_⟩
  have h := ret_CheckE x (by omega) hw
  have hc : chkE x = 0 := by unfold chkE; rw [if_neg (by omega), if_neg (by omega)]
  rw [hc] at h
  rw [ex_dv]
  exact h
def refA : Exp := .mk 2 Val.zero [97] []
theorem wf_refA : refA.wf := ⟨⟨by decide, by decide, rfl, by rw [if_neg (by decide), if_pos rfl]; exact ⟨by kernel_rfl, rfl⟩⟩, trivial⟩
theorem names_refA : namesR refA.ex = [[97]] := by
  rw [namesR_eq refA.ex [[97]] (by decide) (by simp) (by rw [ex_refs]; intro s hs; simpa [refA, Exp.refs, Exp.refsL] using hs)]
  simp [ex_refs, refA, Exp.refs, Exp.refsL]
theorem ca_OfA {d dst : Nat} {S : St} : callA tab callX d dst 23 [.agg [.d (.int .i64 2), .d (.int .i64 0), .d (.int .i64 0), .d (.str []), .d (.str [97]), .own 6 [] none]] S = some (.tup [.d (.sl 1 [.str [97]]), .d (.int .i64 0)], S) := by
  have h := ca_OfN (d := d) (dst := dst) (S := S) refA.ex (ofOk refA (by intro s hs; simp [refA, Exp.refs, Exp.refsL] at hs; subst hs; decide) (by decide) wf_refA)
  have hp : Plain 23 := tab_res (by kernel_rfl)
  rw [names_refA] at h
  rw [callA_deep (ds := [refA.ex.dv]) rfl (tab_opn (by kernel_rfl)) hp.2.2] at h
  rw [callA_deep (ds := [refA.ex.dv]) (by rw [ex_dv]; rfl) (tab_opn (by kernel_rfl)) hp.2.2]
  exact h
theorem ret_NamesAll (l : List Raw) (kind : Int) (hl : l.length ≤ 9223372036854775807) (hr : ∀ r ∈ l, r.ok) (hki : -9223372036854775808 ≤ kind ∧ kind ≤ 9223372036854775807) : ∃ H', stepA tab callX 8 0 5 ([.sl 4 (l.map Raw.dv), .int .i64 kind].map AV.d) [] [] = some (.d (.bool true), H') := by
  obtain ⟨hty, w1⟩ := ty_pick hki
  have p1 : ∀ (S : St) (d dst : Nat), callA tab callX d dst 16 [.d (.int .i64 kind), .d (.int .i64 3)] S = some (.d (.int .i64 (pick kind 3)), S) := fun S d dst => (ca_X (by decide)).trans (ca_picked kind 3 (by decide))
  have fE := fun (S : St) (d dst : Nat) => (ca_X (by decide)).trans (ca_Expr (d := d) (dst := dst) (S := S) l (1 + pick kind 3) someF (by decide) hl hr)
  have fS := fun (S : St) (d dst : Nat) => (ca_X (by decide)).trans (ca_Some (d := d) (dst := dst) (S := S))
  have wX := mkE_wf hr hty someF_ok
  have nX := mkE_nodes l (1 + pick kind 3) someF
  have dX := mkE_deep l (1 + pick kind 3) someF
  have mX := l5_mem hr (kind := 1 + pick kind 3)
  generalize mkE l (1 + pick kind 3) someF = X at *
  have hok := ofOk X (fun s hs => by have := mX s hs; simp only [l5, List.mem_cons, List.not_mem_nil, or_false] at this; rcases this with rfl | rfl | rfl | rfl | rfl <;> decide) ⟨by omega, by omega⟩ wX
  have fO := fun (S : St) (d dst : Nat) => ca_OfN (d := d) (dst := dst) (S := S) X.ex hok
  have hN := namesR_eq X.ex l5 (by decide) (by decide) (by rw [ex_refs]; exact mX)
  rw [hN, ex_dv, ex_refs] at fO
  have hmem : ∀ s ∈ l5, decide (s ∈ l5.filter (fun s => decide (s ∈ X.refs))) = decide (s ∈ X.refs) := fun s hs => decide_eq_decide.2 (by rw [List.mem_filter]; simp [hs])
  have hlen : (l5.filter (fun s => decide (s ∈ X.refs))).length ≤ 5 := List.length_filter_le ..
  have hnd : (l5.filter (fun s => decide (s ∈ X.refs))).Nodup := List.Nodup.sublist (List.filter_sublist ..) (by decide)
  have hpw : (l5.filter (fun s => decide (s ∈ X.refs))).Pairwise (fun a b => bytesLt b a = false) := List.Pairwise.filter _ (by decide)
  generalize l5.filter (fun s => decide (s ∈ X.refs)) = N at *
  have gS := fun (S : St) (d dst : Nat) => (ca_X (by decide)).trans (ca_SortedS (d := d) (dst := dst) (S := S) N hlen hpw)
  have gC := fun (S : St) (d dst : Nat) => (ca_X (by decide)).trans (ca_CompactS (d := d) (dst := dst) (S := S) N hlen hnd)
  have gL := fun (S : St) (d : Nat) => (ca_X (by decide)).trans (ca_cloneDS (d := d) (dst := 47) (S := S) (N.map DV.str) (fun y hy => by obtain ⟨s, _, rfl⟩ := List.mem_map.1 hy; exact ⟨rfl, rfl⟩) (by rw [List.length_map]; omega) (by kernel_rfl))
  have gK := fun (S : St) (d dst : Nat) (s : Str) (hs : s ∈ l5) => (ca_X (by decide)).trans ((ca_ContS (d := d) (dst := dst) (S := S) s N hlen).trans (by rw [hmem s hs]))
  have gH := fun (S : St) (d dst : Nat) (s : Str) => (ca_X (by decide)).trans (ca_Has (d := d) (dst := dst) (S := S) X s)
  have gE := fun (S : St) (d dst : Nat) => (ca_X (by decide)).trans (ca_EqA (d := d) (dst := dst) (S := S))
  have k1 := fun (S : St) (d dst : Nat) => gK S d dst [110] (by decide)
  have k2 := fun (S : St) (d dst : Nat) => gK S d dst [109] (by decide)
  have k3 := fun (S : St) (d dst : Nat) => gK S d dst [116] (by decide)
  have k4 := fun (S : St) (d dst : Nat) => gK S d dst [117] (by decide)
  have k5 := fun (S : St) (d dst : Nat) => gK S d dst [115] (by decide)
  clear hN gK hok mX hmem hpw hnd
  simp only [Exp.dv_eq X] at fE fO gH
  simp only [SL] at gS gC k1 k2 k3 k4 k5
  have e0 : (someF.map Field.dv)[0]? = some (.agg [.str [110], .int .i64 1, .int .i64 1, .int .i64 0, .int .i64 0, .int .i64 0, .str [], .str [], .sl 6 []]) := rfl
  have e1 : (someF.map Field.dv)[1]? = some (.agg [.str [109], .int .i64 1, .int .i64 1, .int .i64 0, .int .i64 0, .int .i64 0, .str [], .str [], .sl 6 []]) := rfl
  have e2 : (someF.map Field.dv)[2]? = some (.agg [.str [116], .int .i64 1, .int .i64 2, .int .i64 0, .int .i64 0, .int .i64 0, .str [], .str [], .sl 6 []]) := rfl
  have e3 : (someF.map Field.dv)[3]? = some (.agg [.str [117], .int .i64 1, .int .i64 2, .int .i64 0, .int .i64 0, .int .i64 0, .str [], .str [], .sl 6 []]) := rfl
  have e4 : (someF.map Field.dv)[4]? = some (.agg [.str [115], .int .i64 1, .int .i64 3, .int .i64 0, .int .i64 0, .int .i64 0, .str [], .str [], .sl 6 []]) := rfl
  have eL : (someF.map Field.dv).length = 5 := rfl
  generalize someF.map Field.dv = D at *
  refine good_X 8 fn5 rfl rfl ?_
  simp only [amr, amc, amp, if_true, if_false, ne_eq, gt_iff_lt, Option.getD, argsT, Option.bind, Option.map, List.headD, List.tail, opnsL, List.replicate, lendsL, seval, ty_OfD_5, p1, w1, fE, fS, fO, ca_OfA, gS, gC, gL, gH, gE, k1, k2, k3, k4, k5, cx_loop, clp_s, nameOf, (show IntKind.i64.wrap 0 = 0 from rfl), (show IntKind.i64.wrap 1 = 1 from rfl), (show IntKind.i64.wrap 2 = 2 from rfl), (show IntKind.i64.wrap 3 = 3 from rfl), (show IntKind.i64.wrap 4 = 4 from rfl), (show IntKind.i64.wrap 5 = 5 from rfl), (show IntKind.i64.wrap 6 = 6 from rfl), (show IntKind.i64.wrap 7 = 7 from rfl), (show IntKind.i64.wrap 8 = 8 from rfl), (show IntKind.i64.wrap 9 = 9 from rfl), (show IntKind.i64.wrap 10 = 10 from rfl), (show IntKind.i64.wrap 11 = 11 from rfl), (show IntKind.i64.wrap 12 = 12 from rfl), (show IntKind.i64.wrap 13 = 13 from rfl), (show IntKind.i64.wrap 14 = 14 from rfl), e0, e1, e2, e3, e4, eL, bne_self_eq_false, beq_self_eq_true, Bool.not_true]
end Go.Proofs.Ytjjjkoknodcaaaa.Am
