/- The names that a formula asks for: each once, rising. -/
import Derived.Test.YtfcfifohflgboaaOfZ
import Derived.Test.YtfcfifohflgboaaFmV
set_option linter.unusedVariables false
set_option linter.unusedSimpArgs false
namespace Go.Proofs.Ytfcfifohflgboaa.Am
open Go Go.RowKit
open Go.Maps
set_option maxRecDepth 100000
set_option maxHeartbeats 40000000



theorem const_refs (kind : Int) (r : Raw) : (constE kind r).refs = [] := by
  unfold constE
  repeat' split
  all_goals simp [Exp.refs, Exp.refsL]
theorem leaf_refs {kind : Int} {fs : List Field} {r : Raw} (hb : -9223372036854775808 ≤ r.b ∧ r.b ≤ 9223372036854775807) {t : List UInt8} (h : t ∈ (gleafE kind fs r).refs) (hlf : fs.length ≤ 1048576) : ∃ f ∈ fs, f.name = t := by
  unfold gleafE at h
  split at h
  · rw [const_refs] at h; cases h
  · rename_i h0
    split at h
    · rw [const_refs] at h; cases h
    · simp only [Exp.refs, Exp.refsL, if_true, List.append_nil, List.mem_singleton] at h
      have hl := fnames_le kind fs
      have hp := pick_range r.b (fnames kind fs).length hb.1 hb.2 (by omega)
      have hlt : (pick r.b (fnames kind fs).length).toNat < (fnames kind fs).length := by omega
      suffices hm : t ∈ fnames kind fs by
        obtain ⟨f, h1, h2, _⟩ := fnames_mem hm
        exact ⟨f, h1, h2⟩
      rw [h, List.getD_eq_getElem?_getD, List.getElem?_eq_getElem hlt]
      exact List.getElem_mem hlt
theorem gargs_refs {ge : Int → Nat → Exp × Nat} {P : List UInt8 → Prop} (h : ∀ k n t, t ∈ (ge k n).1.refs → P t) : ∀ (ks : List Int) (n : Nat) t, t ∈ Exp.refsL (gargs ge ks n).1 → P t
  | [], n, t, ht => by simp [gargs, Exp.refsL] at ht
  | k :: ks, n, t, ht => by
    simp only [gargs, Exp.refsL, List.mem_append] at ht
    rcases ht with ht | ht
    · exact h _ _ _ ht
    · exact gargs_refs h ks _ t ht
theorem gexpr_refs {fs : List Field} (hlf : fs.length ≤ 1048576) {l : List Raw} (hr : ∀ r ∈ l, r.ok) : ∀ (d : Nat) (kind : Int) (k : Nat) t, t ∈ (gexpr fs l d kind k).1.refs → ∃ f ∈ fs, f.name = t
  | 0, kind, k, t, h => leaf_refs (gnext_ok hr _).b h hlf
  | d + 1, kind, k, t, h => by
    unfold gexpr at h
    split at h
    · exact leaf_refs (gnext_ok hr _).b h hlf
    · rename_i hp
      simp only [Exp.refs, List.mem_append] at h
      rcases h with h | h
      · have hop : (gshape kind (gnext l k)).1 ≠ 2 := by
          have hk := gnext_ok hr k
          have p1 := pick_range (gnext l k).b 7 hk.b.1 hk.b.2 (by decide)
          unfold gshape
          repeat' split
          all_goals simp only; omega
        rw [if_neg hop] at h
        cases h
      · exact gargs_refs (fun k n t ht => gexpr_refs hlf hr d k n t ht) _ _ t h
theorem insert_perm (y : Lit × DataW Unit) : ∀ l : List (Lit × DataW Unit), (DataW.insert y l).Perm (y :: l)
  | [] => .refl _
  | z :: r => by
    unfold DataW.insert
    split
    · exact .refl _
    · exact ((insert_perm y r).cons z).trans (.swap y z r)
theorem setD_keys : ∀ l : List (List UInt8), ∃ es, setD l = .map es ∧ (∀ p ∈ es, ∃ x, p.1 = .string x) ∧ (es.map fun p => strOf p.1).Nodup ∧ ∀ s, s ∈ (es.map fun p => strOf p.1) ↔ s ∈ l
  | [] => ⟨[], rfl, by simp, by simp, by simp⟩
  | x :: r => by
    obtain ⟨es, h1, h2, h3, h4⟩ := setD_keys r
    refine ⟨DataW.insert (.string x, .lit (.bool true)) (es.filter fun p => !p.1.sameKey (.string x)), by rw [setD, h1]; rfl, ?_, ?_, ?_⟩
    · intro p hp
      rcases List.mem_cons.1 ((insert_perm _ _).mem_iff.1 hp) with rfl | hp
      · exact ⟨x, rfl⟩
      · exact h2 p (List.mem_filter.1 hp).1
    · refine ((insert_perm _ _).map _).nodup_iff.2 ?_
      rw [List.map_cons, List.nodup_cons]
      refine ⟨fun hm => ?_, List.Nodup.sublist (List.Sublist.map _ (List.filter_sublist ..)) h3⟩
      obtain ⟨p, hp, he⟩ := List.mem_map.1 hm
      obtain ⟨hp1, hp2⟩ := List.mem_filter.1 hp
      obtain ⟨a, ha⟩ := h2 p hp1
      rw [ha] at he hp2
      simp only [strOf] at he
      subst he
      simp [Lit.sameKey] at hp2
    · intro s
      rw [((insert_perm _ _).map _).mem_iff, List.map_cons, List.mem_cons, List.mem_cons]
      constructor
      · rintro (h | h)
        · exact .inl h
        · obtain ⟨p, hp, he⟩ := List.mem_map.1 h
          exact .inr ((h4 s).1 (List.mem_map.2 ⟨p, (List.mem_filter.1 hp).1, he⟩))
      · rintro (h | h)
        · exact .inl h
        · by_cases e : s = x
          · exact .inl e
          · obtain ⟨p, hp, he⟩ := List.mem_map.1 ((h4 s).2 h)
            obtain ⟨a, ha⟩ := h2 p hp
            refine .inr (List.mem_map.2 ⟨p, List.mem_filter.2 ⟨hp, ?_⟩, he⟩)
            rw [ha] at he ⊢
            simp only [strOf] at he
            subst he
            simpa [Lit.sameKey] using e
mutual
theorem refs_len : ∀ x : Exp, x.refs.length ≤ x.nodes
  | .mk op v name args => by
    have ih := refs_lenL args
    simp only [Exp.refs, Exp.nodes, List.length_append]
    split
    · simp only [List.length_cons, List.length_nil]; omega
    · simp only [List.length_nil]; omega
theorem refs_lenL : ∀ l : List Exp, (Exp.refsL l).length ≤ Exp.nodesL l
  | [] => by simp [Exp.refsL]
  | x :: r => by
    have h1 := refs_len x
    have h2 := refs_lenL r
    simp only [Exp.refsL, Exp.nodesL, List.length_append]
    omega
end
theorem ofOk (x : Exp) (h1 : ∀ s ∈ x.refs, s.length ≤ 1000) (hx : x.nodes ≤ 60 ∧ x.deep ≤ 12) (hw : x.wf) : OfOk x.ex := by
  refine ⟨by rw [ex_refs]; exact h1, by rw [ex_refs]; have := refs_len x; omega, ?_⟩
  have h := ret_CheckE x (by omega) hw
  have hc : chkE x = 0 := by unfold chkE; rw [if_neg (by omega), if_neg (by omega)]
  rw [hc] at h
  rw [ex_dv]
  exact h
theorem names_perm (X : Ex) : (namesR X).Nodup ∧ ∀ s, s ∈ namesR X ↔ s ∈ X.refs := by
  obtain ⟨es, h1, h2, h3, h4⟩ := setD_keys X.refs.reverse
  have hk : strKeys (revD X.refs) = es.map fun p => strOf p.1 := by unfold revD; rw [h1]; rfl
  have hp : (namesR X).Perm (strKeys (revD X.refs)) := List.mergeSort_perm _ _
  rw [hk] at hp
  exact ⟨hp.nodup_iff.2 h3, fun s => by rw [hp.mem_iff, h4, List.mem_reverse]⟩
end Go.Proofs.Ytfcfifohflgboaa.Am
