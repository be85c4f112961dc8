/- Forms of raw things: what they are. -/
import Derived.Test.YtnombkkfijlkfaaFmF
set_option linter.unusedVariables false
set_option linter.unusedSimpArgs false
namespace Go.Proofs.Ytnombkkfijlkfaa.Am
open Go Go.RowKit
set_option maxRecDepth 100000
set_option maxHeartbeats 4000000
theorem gfields_names (l : List Raw) : ∀ (m : Nat) (fs : List Field) (k : Nat), (gfields l m fs k).1.map Field.name = fs.map Field.name ++ (List.range' fs.length m).map (fun i => fnm.getD i [])
  | 0, fs, k => by simp [gfields]
  | m + 1, fs, k => by
    unfold gfields
    rw [gfields_names l m, List.length_append, List.map_append, List.append_assoc, List.length_singleton, List.range'_succ]
    rfl
theorem nfields_le {l : List Raw} (hr : ∀ r ∈ l, r.ok) : 1 ≤ nfields l ∧ nfields l ≤ 10 := by
  obtain ⟨a, ha, ha2⟩ := pick_nat hr 0 10 (by decide) (by decide) (fun r => r.a) (fun r h => h.a)
  have ha' : pick (gnext l 0).a 10 = a := ha
  unfold nfields
  rw [ha']
  omega
theorem npages_le {l : List Raw} (hr : ∀ r ∈ l, r.ok) : 1 ≤ npages l ∧ npages l ≤ 4 := by
  obtain ⟨a, ha, ha2⟩ := pick_nat hr 0 4 (by decide) (by decide) (fun r => r.b) (fun r h => h.b)
  have ha' : pick (gnext l 0).b 4 = a := ha
  unfold npages
  rw [ha']
  omega
theorem ffields_len (l : List Raw) : (ffields l).length = nfields l := by
  unfold ffields
  rw [gfields_len]
  simp
theorem ffields_names (l : List Raw) : (ffields l).map Field.name = (List.range (nfields l)).map (fun i => fnm.getD i []) := by
  unfold ffields
  rw [gfields_names, List.range_eq_range']
  rfl
theorem fields_len {l : List Raw} (hr : ∀ r ∈ l, r.ok) : 1 ≤ (mkForm l).fields.length ∧ (mkForm l).fields.length ≤ 10 := by
  have h := nfields_le hr
  have h2 := ffields_len l
  unfold mkForm
  simp only
  split
  · rw [List.length_reverse]; omega
  · omega
theorem fnm_injF : ∀ i j : _root_.Fin 10, fnm.getD i.1 [] = fnm.getD j.1 [] → i = j := by decide +kernel
theorem fnm_inj (i j : Nat) (hi : i < 10) (hj : j < 10) (h : fnm.getD i [] = fnm.getD j []) : i = j := by
  have := fnm_injF ⟨i, hi⟩ ⟨j, hj⟩ h
  injection this
theorem fnm_memF : ∀ i : _root_.Fin 10, fnm.getD i.1 [] ∈ fnm := by decide +kernel
theorem fnm_mem (i : Nat) (hi : i < 10) : fnm.getD i [] ∈ fnm := fnm_memF ⟨i, hi⟩
theorem map_nodup {α β : Type} {f : α → β} : ∀ {l : List α}, (∀ a ∈ l, ∀ b ∈ l, f a = f b → a = b) → l.Nodup → (l.map f).Nodup
  | [], _, _ => List.nodup_nil
  | x :: r, h, hn => by
    rw [List.nodup_cons] at hn
    rw [List.map_cons, List.nodup_cons]
    refine ⟨fun hm => ?_, map_nodup (fun a ha b hb => h a (by simp [ha]) b (by simp [hb])) hn.2⟩
    obtain ⟨y, hy, he⟩ := List.mem_map.1 hm
    have := h y (by simp [hy]) x (by simp) he
    exact hn.1 (this ▸ hy)
theorem ffields_nodup {l : List Raw} (hr : ∀ r ∈ l, r.ok) : ((ffields l).map Field.name).Nodup := by
  have hn := nfields_le hr
  rw [ffields_names]
  refine map_nodup (fun a ha b hb he => ?_) List.nodup_range
  rw [List.mem_range] at ha hb
  exact fnm_inj a b (by omega) (by omega) he
theorem fields_perm (l : List Raw) : ∀ f, f ∈ (mkForm l).fields ↔ f ∈ ffields l := by
  intro f
  unfold mkForm
  simp only
  split
  · exact List.mem_reverse
  · rfl
theorem fields_nodup {l : List Raw} (hr : ∀ r ∈ l, r.ok) : ((mkForm l).fields.map Field.name).Nodup := by
  have h := ffields_nodup hr
  unfold mkForm
  simp only
  split
  · rw [List.map_reverse, (List.reverse_perm _).nodup_iff]; exact h
  · exact h
theorem ffields_name {l : List Raw} (hr : ∀ r ∈ l, r.ok) : ∀ f ∈ ffields l, f.name ∈ fnm := by
  intro f hf
  have hn := nfields_le hr
  have h : f.name ∈ (ffields l).map Field.name := List.mem_map_of_mem hf
  rw [ffields_names] at h
  obtain ⟨i, hi, he⟩ := List.mem_map.1 h
  rw [List.mem_range] at hi
  exact he ▸ fnm_mem i (by omega)
theorem fields_name {l : List Raw} (hr : ∀ r ∈ l, r.ok) : ∀ f ∈ (mkForm l).fields, f.name ∈ fnm := fun f hf => ffields_name hr f ((fields_perm l f).1 hf)
/-- A field is found at its place, where names are apart. -/
theorem ffind_at {fs : List Field} (hn : (fs.map Field.name).Nodup) {k : Nat} {x : Field} (hx : fs[k]? = some x) : ffind fs x.name = ((k : Int), 0) := by
  have h : fidx (fun f => f.name == x.name) fs 0 = ((0 + k : Nat) : Int) := fidx_at _ fs 0 k x hx (by simp) (fun i y hi hy => by
    refine beq_eq_false_iff_ne.2 (fun he => ?_)
    obtain ⟨h1, h1'⟩ := List.getElem?_eq_some_iff.1 hx
    obtain ⟨h2, h2'⟩ := List.getElem?_eq_some_iff.1 hy
    have h3 : (fs.map Field.name)[i]'(by simpa using h2) = (fs.map Field.name)[k]'(by simpa using h1) := by simp [h1', h2', he]
    exact (List.pairwise_iff_getElem.1 hn) i k (by simpa using h2) (by simpa using h1) hi h3)
  unfold ffind
  rw [h, if_neg (by omega), Nat.zero_add]
theorem ffind_no {fs : List Field} {s : Str} (h : ∀ f ∈ fs, f.name ≠ s) : ffind fs s = (0, 5) := by
  unfold ffind
  rw [fidx_none _ fs 0 (fun f hf => beq_eq_false_iff_ne.2 (h f hf)), if_pos (by decide)]
end Go.Proofs.Ytnombkkfijlkfaa.Am
