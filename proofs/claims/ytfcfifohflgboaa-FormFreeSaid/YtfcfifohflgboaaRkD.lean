/- Fields that can be ranked; those of forms of raw things can. -/
import Derived.Test.YtfcfifohflgboaaRkC
set_option linter.unusedVariables false
set_option linter.unusedSimpArgs false
namespace Go.Proofs.Ytfcfifohflgboaa.Am
open Go Go.RowKit
set_option maxRecDepth 100000
set_option maxHeartbeats 4000000
structure RkFs (fs : List Field) : Prop where
  ok : FOKs fs
  pos : 0 < fs.length
  rf : ∀ f ∈ fs, ∀ s ∈ f.source.refs, ∃ g ∈ fs, g.name = s
  nl : ∀ f ∈ fs, f.name.length ≤ 1000
  ht : ∃ h : Nat → Nat, (∀ i x, fs[i]? = some x → ∀ k g, fs[k]? = some g → g.name ∈ x.source.refs → h k < h i) ∧ ∀ i, i < fs.length → h i < fs.length
theorem RkFs.rl {fs : List Field} (h : RkFs fs) : ∀ f ∈ fs, f.kind ≠ 1 → ∀ s ∈ f.source.refs, s.length ≤ 1000 := fun f hf _ s hs => by
  obtain ⟨g, hg, rfl⟩ := h.rf f hf s hs
  exact h.nl g hg
theorem RkFs.find {fs : List Field} (h : RkFs fs) {x : Field} (hx : x ∈ fs) {s : List UInt8} (hs : s ∈ x.source.refs) : ∃ (k : Nat) (g : Field), fs[k]? = some g ∧ g.name = s ∧ ffind fs s = ((k : Int), 0) := by
  obtain ⟨g, hg, rfl⟩ := h.rf x hx s hs
  obtain ⟨k, hk⟩ := List.getElem?_of_mem hg
  exact ⟨k, g, hk, rfl, ffind_at h.ok.nd hk⟩
theorem mem_need {fs : List Field} (h : RkFs fs) {x : Field} (hx : x ∈ fs) {k : Nat} : k ∈ needR fs x ↔ x.kind ≠ 1 ∧ ∃ g, fs[k]? = some g ∧ g.name ∈ x.source.refs := by
  unfold needR
  by_cases c : x.kind = 1
  · rw [if_pos c]
    exact ⟨fun h => (by cases h), fun h => absurd c h.1⟩
  · rw [if_neg c, List.mem_map]
    have hp := (names_perm x.source.ex).2
    rw [ex_refs] at hp
    constructor
    · rintro ⟨s, hs, rfl⟩
      obtain ⟨k, g, h1, h2, h3⟩ := h.find hx ((hp s).1 hs)
      rw [h3]
      exact ⟨c, g, h1, by rw [h2]; exact (hp s).1 hs⟩
    · rintro ⟨_, g, h1, h2⟩
      exact ⟨g.name, (hp _).2 h2, by rw [ffind_at h.ok.nd h1]; rfl⟩
theorem need_at {fs : List Field} {i : Nat} {l : List Nat} (hi : (fs.map (needR fs))[i]? = some l) : ∃ x, fs[i]? = some x ∧ x ∈ fs ∧ l = needR fs x := by
  rw [List.getElem?_map, Option.map_eq_some_iff] at hi
  obtain ⟨x, hx, rfl⟩ := hi
  exact ⟨x, hx, List.mem_of_getElem? hx, rfl⟩
theorem need_lt {fs : List Field} (h : RkFs fs) : ∀ (i : Nat) (l : List Nat), (fs.map (needR fs))[i]? = some l → ∀ k ∈ l, k < (fs.map (needR fs)).length := fun i l hi k hk => by
  obtain ⟨x, h1, h2, rfl⟩ := need_at hi
  obtain ⟨_, g, hg, _⟩ := (mem_need h h2).1 hk
  rw [List.length_map]
  exact (List.getElem?_eq_some_iff.1 hg).1
theorem need_ht {fs : List Field} (h : RkFs fs) : ∃ ht : Nat → Nat, (∀ i l, (fs.map (needR fs))[i]? = some l → ∀ k ∈ l, k < (fs.map (needR fs)).length ∧ ht k < ht i) ∧ ∀ i, i < (fs.map (needR fs)).length → ht i < (fs.map (needR fs)).length := by
  obtain ⟨ht, h1, h2⟩ := h.ht
  refine ⟨ht, fun i l hi k hk => ⟨need_lt h i l hi k hk, ?_⟩, by rw [List.length_map]; exact h2⟩
  obtain ⟨x, e1, e2, rfl⟩ := need_at hi
  obtain ⟨_, g, hg, hr⟩ := (mem_need h e2).1 hk
  exact h1 i x e1 k g hg hr
theorem RkFs.rk {fs : List Field} (h : RkFs fs) : RkOk (fs.map (needR fs)) (ranksL (fs.map (needR fs))) := by
  obtain ⟨ht, h1, h2⟩ := need_ht h
  exact ranks_ok h1 h2
noncomputable def rkF (fs : List Field) : List Int := ranksL (fs.map (needR fs))
theorem rkF_len {fs : List Field} (h : RkFs fs) : (rkF fs).length = fs.length := by
  have := h.rk.len
  rwa [List.length_map] at this
theorem rkF_lt {fs : List Field} (h : RkFs fs) : ∀ i, i < fs.length → 0 ≤ (rkF fs).getD i 0 ∧ (rkF fs).getD i 0 < fs.length := fun i hi => by
  obtain ⟨ht, h1, h2⟩ := need_ht h
  have hi' : i < (fs.map (needR fs)).length := by rw [List.length_map]; exact hi
  have h3 := h.rk.le h1 (ht i) i hi' (Nat.le_refl _)
  have h4 := h2 i hi'
  rw [List.length_map] at h4
  exact ⟨h.rk.pos i hi', by unfold rkF; omega⟩
theorem gfields_pos (l : List Raw) : ∀ (m : Nat) (fs : List Field) (k : Nat), (gfields l m fs k).1.take fs.length = fs ∧ ∀ i f, fs.length ≤ i → (gfields l m fs k).1[i]? = some f → ∃ n, f = (gfield l ((gfields l m fs k).1.take i) i n).1
  | 0, fs, k => ⟨List.take_length, fun i f hi hf => by
      have : fs[i]? = some f := hf
      rw [List.getElem?_eq_none hi] at this
      cases this⟩
  | m + 1, fs, k => by
    unfold gfields
    obtain ⟨h1, h2⟩ := gfields_pos l m (fs ++ [(gfield l fs fs.length k).1]) (gfield l fs fs.length k).2
    generalize (gfields l m (fs ++ [(gfield l fs fs.length k).1]) (gfield l fs fs.length k).2).1 = R at *
    have h3 : R.take fs.length = fs := by
      have := congrArg (List.take fs.length) h1
      rw [List.take_take, List.length_append, Nat.min_eq_left (by simp), List.take_left'] at this
      · exact this
      · rfl
    refine ⟨h3, fun i f hi hf => ?_⟩
    by_cases c : i = fs.length
    · subst c
      rw [h3]
      refine ⟨k, ?_⟩
      have : (R.take (fs ++ [(gfield l fs fs.length k).1]).length)[fs.length]? = some f := by
        rw [List.getElem?_take_of_lt (by simp)]; exact hf
      rw [h1, List.getElem?_append_right (Nat.le_refl _), Nat.sub_self] at this
      simpa using this.symm
    · exact h2 i f (by simp; omega) hf
theorem ffields_at {l : List Raw} {i : Nat} {f : Field} (hf : (ffields l)[i]? = some f) : ∃ n, f = (gfield l ((ffields l).take i) i n).1 := (gfields_pos l (nfields l) [] (gat l 0)).2 i f (Nat.zero_le _) hf
theorem ffields_refs {l : List Raw} (hr : ∀ r ∈ l, r.ok) {i : Nat} {f : Field} (hf : (ffields l)[i]? = some f) : ∀ s ∈ f.source.refs, ∃ k g, k < i ∧ (ffields l)[k]? = some g ∧ g.name = s := fun s hs => by
  obtain ⟨n, he⟩ := ffields_at hf
  have hlen := nfields_le hr
  have hl : ((ffields l).take i).length ≤ 1048576 := by rw [List.length_take, ffields_len]; omega
  have hg : ∃ g ∈ (ffields l).take i, g.name = s := by
    have hss : f.source = (gsrc l ((ffields l).take i) (1 + pick (gnext l n).kind 3) (1 + pick (gnext l n).b 3) (gnext l n) (gat l n)).1 := by rw [he]; rfl
    rw [hss] at hs
    unfold gsrc at hs
    split at hs
    · exact gexpr_refs hl hr _ _ _ s hs
    · split at hs
      · exact gexpr_refs hl hr _ _ _ s hs
      · simp [Exp.zero, Exp.refs, Exp.refsL] at hs
  obtain ⟨g, hg, rfl⟩ := hg
  obtain ⟨k, hk, he2⟩ := List.getElem_of_mem hg
  rw [List.length_take] at hk
  rw [List.getElem_take] at he2
  exact ⟨k, g, by omega, by rw [List.getElem?_eq_getElem (by omega), he2], rfl⟩
theorem fnm_len : ∀ s ∈ fnm, s.length ≤ 1000 := by
  intro s hs
  simp only [fnm, List.mem_cons, List.not_mem_nil, or_false] at hs
  rcases hs with rfl | rfl | rfl | rfl | rfl | rfl | rfl | rfl | rfl | rfl <;> decide
theorem rkfs_form {l : List Raw} (hr : ∀ r ∈ l, r.ok) {fs : List Field} (hm : ∀ f, f ∈ fs ↔ f ∈ ffields l) (hn : (fs.map Field.name).Nodup) (h0 : 0 < fs.length) (hlen : fs.length ≤ 14) (hl : fs.length = (ffields l).length) : RkFs fs := by
  have hpl : ∀ {i : Nat} {x : Field}, fs[i]? = some x → ∃ j, j < (ffields l).length ∧ (ffields l)[j]? = some x ∧ (ffind (ffields l) x.name).1.toNat = j := fun {i x} hi => by
    obtain ⟨j, hj⟩ := List.getElem?_of_mem ((hm x).1 (List.mem_of_getElem? hi))
    exact ⟨j, (List.getElem?_eq_some_iff.1 hj).1, hj, by rw [ffind_at (ffields_nodup hr) hj]; rfl⟩
  refine ⟨foks_form hr hm hn hlen, h0, fun f hf s hs => ?_, fun f hf => fnm_len _ (ffields_name hr f ((hm f).1 hf)), ⟨fun i => (ffind (ffields l) ((fs.map Field.name).getD i [])).1.toNat, fun i x hi k g hg hk => ?_, fun i hi => ?_⟩⟩
  · obtain ⟨i, hi⟩ := List.getElem?_of_mem ((hm f).1 hf)
    obtain ⟨k, g, _, hg, he⟩ := ffields_refs hr hi s hs
    exact ⟨g, (hm g).2 (List.mem_of_getElem? hg), he⟩
  · have e1 : (fs.map Field.name).getD i [] = x.name := by simp [List.getD_eq_getElem?_getD, hi]
    have e2 : (fs.map Field.name).getD k [] = g.name := by simp [List.getD_eq_getElem?_getD, hg]
    simp only [e1, e2]
    obtain ⟨j, _, hj, hjf⟩ := hpl hi
    rw [hjf]
    obtain ⟨q, g2, hq, hg2, hne⟩ := ffields_refs hr hj _ hk
    rw [← hne, ffind_at (ffields_nodup hr) hg2]
    exact hq
  · have e1 : (fs.map Field.name).getD i [] = fs[i].name := by simp [List.getD_eq_getElem?_getD, hi]
    simp only [e1]
    obtain ⟨j, hj1, _, hjf⟩ := hpl (List.getElem?_eq_getElem hi)
    rw [hjf, hl]
    exact hj1
theorem rkfs {l : List Raw} (hr : ∀ r ∈ l, r.ok) : RkFs (mkForm l).fields := by
  have h := fields_len hr
  refine rkfs_form hr (fields_perm l) (fields_nodup hr) (by omega) (by omega) ?_
  unfold mkForm
  simp only
  split
  · exact List.length_reverse
  · rfl
end Go.Proofs.Ytfcfifohflgboaa.Am
