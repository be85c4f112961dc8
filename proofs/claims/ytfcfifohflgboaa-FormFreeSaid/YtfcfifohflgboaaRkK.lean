/- The pages of forms of raw things may be. -/
import Derived.Test.YtfcfifohflgboaaRkJ
set_option linter.unusedVariables false
set_option linter.unusedSimpArgs false
namespace Go.Proofs.Ytfcfifohflgboaa.Am
open Go Go.RowKit
set_option maxRecDepth 100000
set_option maxHeartbeats 4000000
theorem gpages_pos (l : List Raw) (fs : List Field) (n : Nat) : ∀ (m : Nat) (ps : List Page) (k : Nat), ∀ i p, ps.length ≤ i → (gpages l fs n m ps k).1[i]? = some p → ∃ j, p = (gpage l fs n i j).1
  | 0, ps, k, i, p, hi, hp => by
    have : ps[i]? = some p := hp
    rw [List.getElem?_eq_none hi] at this
    cases this
  | m + 1, ps, k, i, p, hi, hp => by
    unfold gpages at hp
    by_cases c : i = ps.length
    · subst c
      have hpre : ∀ (m : Nat) (qs : List Page) (k i : Nat), i < qs.length → (gpages l fs n m qs k).1[i]? = qs[i]? := by
        intro m
        induction m with
        | zero => intro qs k i _; rfl
        | succ m ih =>
          intro qs k i hi
          unfold gpages
          rw [ih _ _ _ (by simp; omega), List.getElem?_append_left hi]
      rw [hpre _ _ _ _ (by simp), List.getElem?_append_right (Nat.le_refl _), Nat.sub_self] at hp
      exact ⟨k, by simpa using hp.symm⟩
    · exact gpages_pos l fs n m _ _ i p (by simp; omega) hp
theorem fpages_len (l : List Raw) : (fpages l).length = npages l := by
  unfold fpages
  rw [gpages_len]
  simp
theorem fpages_at {l : List Raw} {i : Nat} {p : Page} (h : (fpages l)[i]? = some p) : ∃ j, p = (gpage l (ffields l) (npages l) i j).1 := gpages_pos l _ _ _ [] _ i p (Nat.zero_le _) h
theorem pnames_mem {n i : Nat} {s : Str} : ∀ (fs : List Field) (k : Nat), s ∈ pnames n i k fs → ∃ (j : Nat) (x : Field), fs[j]? = some x ∧ x.name = s ∧ (k + j) % (n + 1) = i
  | [], k, h => by simp [pnames] at h
  | f :: r, k, h => by
    have hr : s ∈ pnames n i (k + 1) r → ∃ (j : Nat) (x : Field), (f :: r)[j]? = some x ∧ x.name = s ∧ (k + j) % (n + 1) = i := fun h => by
      obtain ⟨j, x, h1, h2, h3⟩ := pnames_mem r (k + 1) h
      exact ⟨j + 1, x, by simpa using h1, h2, by rw [← h3]; congr 1; omega⟩
    unfold pnames at h
    split at h
    · rename_i c
      rcases List.mem_cons.1 h with rfl | h
      · exact ⟨0, f, rfl, rfl, c⟩
      · exact hr h
    · exact hr h
theorem pnames_sub (n i : Nat) : ∀ (fs : List Field) (k : Nat), (pnames n i k fs).Sublist (fs.map Field.name)
  | [], k => by simp [pnames]
  | f :: r, k => by
    unfold pnames
    split
    · exact (pnames_sub n i r (k + 1)).cons_cons _
    · exact (pnames_sub n i r (k + 1)).cons _
theorem pg_name : ∀ i : _root_.Fin 4, nameErr [112, UInt8.ofNat (49 + i.1)] = 0 := by decide +kernel
theorem pg_inj : ∀ i j : _root_.Fin 4, UInt8.ofNat (49 + i.1) = UInt8.ofNat (49 + j.1) → i = j := by decide +kernel
theorem pgfs {l : List Raw} (hr : ∀ r ∈ l, r.ok) : PgFs (mkForm l).fields (mkForm l).pages := by
  have hps : (mkForm l).pages = fpages l := rfl
  have hn := npages_le hr
  have hl := fpages_len l
  have hfk := foks hr
  rw [hps]
  have hall : ∀ p ∈ fpages l, ∃ i j, i < npages l ∧ (fpages l)[i]? = some p ∧ p = (gpage l (ffields l) (npages l) i j).1 := fun p hp => by
    obtain ⟨i, hi⟩ := List.getElem?_of_mem hp
    obtain ⟨j, hj⟩ := fpages_at hi
    exact ⟨i, j, by rw [← hl]; exact (List.getElem?_eq_some_iff.1 hi).1, hi, hj⟩
  have hat : ∀ i (h : i < (fpages l).length), ∃ j, (fpages l)[i] = (gpage l (ffields l) (npages l) i j).1 := fun i h => fpages_at (List.getElem?_eq_getElem h)
  have hnd := ffields_nodup hr
  have hpn : ∀ i s, s ∈ pnames (npages l) i 0 (ffields l) → ∃ (j : Nat) (x : Field), (ffields l)[j]? = some x ∧ x.name = s ∧ j % (npages l + 1) = i := fun i s hs => by
    obtain ⟨j, x, h1, h2, h3⟩ := pnames_mem _ _ hs
    rw [Nat.zero_add] at h3
    exact ⟨j, x, h1, h2, h3⟩
  have hfd : ∀ p ∈ fpages l, ∀ s ∈ p.fields, ∃ g ∈ ffields l, g.name = s := fun p hp s hs => by
    obtain ⟨i, j, _, _, rfl⟩ := hall p hp
    obtain ⟨q, x, h1, h2, _⟩ := hpn i s hs
    exact ⟨x, List.mem_of_getElem? h1, h2⟩
  have hfn : ((fpages l).flatMap Page.fields).Nodup := by
    refine List.pairwise_flatMap.2 ⟨fun p hp => ?_, List.pairwise_iff_getElem.2 fun i j hi hj hij x hx y hy e => ?_⟩
    · obtain ⟨i, j, _, _, rfl⟩ := hall p hp
      exact List.Nodup.sublist (pnames_sub _ _ _ _) hnd
    · subst e
      obtain ⟨a, ha⟩ := hat i hi
      obtain ⟨b, hb⟩ := hat j hj
      rw [ha] at hx
      rw [hb] at hy
      obtain ⟨p, u, p1, p2, p3⟩ := hpn i x hx
      obtain ⟨q, v, q1, q2, q3⟩ := hpn j x hy
      have e1 := ffind_at hnd p1
      have e2 := ffind_at hnd q1
      rw [p2] at e1
      rw [q2, e1] at e2
      have e3 : (p : Int) = q := congrArg Prod.fst e2
      have e4 : p = q := by omega
      rw [e4] at p3
      omega
  refine ⟨by omega, by omega, fun p hp => ?_, ?_, fun p hp s hs => ?_, hfn, ?_, fun p hp => ?_⟩
  · obtain ⟨i, j, hi, _, rfl⟩ := hall p hp
    exact pg_name ⟨i, by omega⟩
  · refine List.pairwise_iff_getElem.2 fun i j hi hj hij e => ?_
    simp only [List.length_map] at hi hj
    simp only [List.getElem_map] at e
    obtain ⟨a, ha⟩ := hat i hi
    obtain ⟨b, hb⟩ := hat j hj
    rw [ha, hb] at e
    have e2 : ([112, UInt8.ofNat (49 + i)] : List UInt8) = [112, UInt8.ofNat (49 + j)] := e
    have e3 := pg_inj ⟨i, by omega⟩ ⟨j, by omega⟩ (by injection e2 with _ e2; injection e2)
    have e4 : i = j := congrArg _root_.Fin.val e3
    omega
  · obtain ⟨g, hg, he⟩ := hfd p hp s hs
    exact ⟨g, (fields_perm l g).2 hg, he⟩
  · have h1 := nd_le _ ((ffields l).map Field.name) hfn (fun s hs => by
      obtain ⟨p, hp, hs⟩ := List.mem_flatMap.1 hs
      obtain ⟨g, hg, rfl⟩ := hfd p hp s hs
      exact List.mem_map_of_mem hg)
    have h2 := nfields_le hr
    rw [List.length_map, ffields_len] at h1
    omega
  · obtain ⟨i, j, hi, _, rfl⟩ := hall p hp
    have hlf : (ffields l).length ≤ 1048576 := by rw [ffields_len]; have := nfields_le hr; omega
    have hok : FsOK (ffields l) := fun g hg => by
      have h := hfk.one g ((fields_perm l g).2 hg)
      exact ⟨h.name, h.ty⟩
    have hT : ∀ f ∈ ffields l, lookI (tmap (mkForm l).fields) f.name = f.ty := fun f hf => look_tmap (fields_nodup hr) f ((fields_perm l f).2 hf)
    have hs : (gpage l (ffields l) (npages l) i j).1.skip = (gskip l (ffields l) (gnext l j) (gat l j)).1 := rfl
    rw [hs]
    unfold gskip
    split
    · have h3 := gexpr_nodes (ffields l) l 1 2 (gat l j)
      have h4 : nb 1 = 4 := rfl
      have h5 := gexpr_wf hok hr 1 2 (gat l j) (.inr (.inl rfl))
      refine .inr ⟨?_, h5, by omega, by omega, gexpr_ty hT hlf hr 1 2 _ (.inr (.inl rfl))⟩
      generalize (gexpr (ffields l) l 1 2 (gat l j)).1 = x at *
      obtain ⟨op, v, nm, xs⟩ := x
      have : 1 ≤ op := h5.1.1
      intro e
      have e : op = 0 := e
      omega
    · exact .inl rfl
theorem small_pg : PgFs smallF.fields smallF.pages := by
  have hm : ∀ p, p ∈ smallF.pages → p = ⟨[112, 49], [[97]], Exp.zero⟩ ∨ p = ⟨[112, 50], [[99]], Exp.zero⟩ := fun p hp => by
    have : smallF.pages = [⟨[112, 49], [[97]], Exp.zero⟩, ⟨[112, 50], [[99]], Exp.zero⟩] := rfl
    rw [this] at hp
    simpa using hp
  refine ⟨by decide, by decide, fun p hp => ?_, by decide, fun p hp s hs => ?_, by decide, by decide, fun p hp => ?_⟩
  · rcases hm p hp with rfl | rfl <;> kernel_rfl
  · rw [small_eq]
    rcases hm p hp with rfl | rfl
    · obtain rfl : s = [97] := by simpa using hs
      exact ⟨⟨[97], 1, 1, Exp.zero⟩, by simp, rfl⟩
    · obtain rfl : s = [99] := by simpa using hs
      exact ⟨⟨[99], 3, 3, srcC⟩, by simp, rfl⟩
  · rcases hm p hp with rfl | rfl <;> exact .inl rfl
end Go.Proofs.Ytfcfifohflgboaa.Am
