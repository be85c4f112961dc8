/- Formulas of raw things: they may be. -/
import Derived.Test.YtjjjkoknodcaaaaGenD
import Derived.Test.YtjjjkoknodcaaaaExB
set_option linter.unusedVariables false
set_option linter.unusedSimpArgs false
namespace Go.Proofs.Ytjjjkoknodcaaaa.Am
open Go Go.RowKit
set_option maxRecDepth 100000
set_option maxHeartbeats 40000000



def nb : Nat → Nat
  | 0 => 1
  | d + 1 => 3 * nb d + 1
theorem nb_pos : ∀ d, 1 ≤ nb d
  | 0 => Nat.le_refl _
  | d + 1 => by unfold nb; omega
theorem gargs_len (ge : Int → Nat → Exp × Nat) : ∀ (ks : List Int) (n : Nat), (gargs ge ks n).1.length = ks.length
  | [], n => rfl
  | k :: ks, n => by simp [gargs, gargs_len ge ks]
theorem gargs_nodes {ge : Int → Nat → Exp × Nat} {c : Nat} (h : ∀ k n, (ge k n).1.nodes ≤ c) : ∀ (ks : List Int) (n : Nat), Exp.nodesL (gargs ge ks n).1 ≤ ks.length * c
  | [], n => by simp [gargs, Exp.nodesL]
  | k :: ks, n => by
    have h1 := h k n
    have h2 := gargs_nodes h ks (ge k n).2
    simp only [gargs, Exp.nodesL, List.length_cons, Nat.add_mul]
    omega
theorem gargs_deep {ge : Int → Nat → Exp × Nat} {c : Nat} (h : ∀ k n, (ge k n).1.deep ≤ c) : ∀ (ks : List Int) (n : Nat), Exp.deepL (gargs ge ks n).1 ≤ c
  | [], n => by simp [gargs, Exp.deepL]
  | k :: ks, n => by
    have h1 := h k n
    have h2 := gargs_deep h ks (ge k n).2
    simp only [gargs, Exp.deepL]
    omega
theorem gleaf_nodes (kind : Int) (fs : List Field) (r : Raw) : (gleafE kind fs r).nodes = 1 ∧ (gleafE kind fs r).deep = 1 := by
  unfold gleafE constE
  split
  · exact ⟨rfl, rfl⟩
  · split <;> exact ⟨rfl, rfl⟩
theorem gexpr_nodes (fs : List Field) (l : List Raw) : ∀ (d : Nat) (kind : Int) (k : Nat), (gexpr fs l d kind k).1.nodes ≤ nb d ∧ (gexpr fs l d kind k).1.deep ≤ d + 1
  | 0, kind, k => by
    have h := gleaf_nodes kind fs (gnext l (gat l k))
    simp only [gexpr, nb]
    omega
  | d + 1, kind, k => by
    have h := gleaf_nodes kind fs (gnext l (gat l k))
    have h1 := gargs_nodes (ge := gexpr fs l d) (fun k n => (gexpr_nodes fs l d k n).1) (gshape kind (gnext l k)).2 (gat l k)
    have h2 := gargs_deep (ge := gexpr fs l d) (fun k n => (gexpr_nodes fs l d k n).2) (gshape kind (gnext l k)).2 (gat l k)
    have h3 := Nat.mul_le_mul_right (nb d) (gshape_len kind (gnext l k))
    have h4 := nb_pos d
    unfold gexpr
    split
    · simp only [nb]; omega
    · simp only [nb, Exp.nodes, Exp.deep]; omega
/-- A type. -/
def Ty (k : Int) : Prop := k = 1 ∨ k = 2 ∨ k = 3
/-- Fields that formulas may ask for. -/
def FsOK (fs : List Field) : Prop := ∀ f ∈ fs, nameErr f.name = 0 ∧ Ty f.ty
theorem fnames_mem {kind : Int} : ∀ {fs : List Field} {s : List UInt8}, s ∈ fnames kind fs → ∃ f ∈ fs, f.name = s ∧ f.ty = kind
  | [], s, h => by simp [fnames] at h
  | f :: r, s, h => by
    unfold fnames at h
    split at h
    · rcases List.mem_cons.1 h with rfl | h
      · exact ⟨f, by simp, rfl, by assumption⟩
      · obtain ⟨g, h1, h2⟩ := fnames_mem h; exact ⟨g, by simp [h1], h2⟩
    · obtain ⟨g, h1, h2⟩ := fnames_mem h; exact ⟨g, by simp [h1], h2⟩
theorem constV_ok {kind : Int} {r : Raw} (hr : r.ok) (hk : Ty kind) : valKnown (constV kind r) = true ∧ (constV kind r).kind = kind ∧ ¬ ((constV kind r).kind = 1 ∧ (constV kind r).n < 0) := by
  have h1 := mkVal_known kind r hr hk
  have h2 := mkVal_kind kind r hk
  unfold constV
  by_cases c : kind = 1
  · rw [if_pos c]
    have h3 := known_num h1 (by rw [h2, c])
    have hs : (mkVal kind r).s = [] := by subst c; unfold mkVal; simp only [if_true]; split <;> rfl
    generalize mkVal kind r = v at *
    obtain ⟨vk, vn, vs⟩ := v
    simp only at h1 h2 h3 hs
    subst h2 hs c
    have w : IntKind.i64.wrap (0 - vn) = 0 - vn := wrap_in (by omega) (by omega)
    simp only
    generalize IntKind.i64.wrap (0 - vn) = m at *
    have hn : ∀ n : Int, -1099511627776 ≤ n → n ≤ 1099511627776 → valKnown ⟨1, n, []⟩ = true := fun n h4 h5 => by
      simp [valKnown, valChk, chk_in h4 h5, valTail]
    have hz : ∀ n : Int, -1099511627776 ≤ n → n ≤ 1099511627776 → 0 ≤ n → valKnown ⟨1, n, []⟩ = true ∧ True ∧ ¬ (True ∧ n < 0) := fun n h4 h5 h6 => ⟨hn n h4 h5, trivial, fun h => by have := h.2; omega⟩
    by_cases hgt : m > vn
    · rw [if_pos hgt]; exact hz m (by omega) (by omega) (by omega)
    · rw [if_neg hgt]; exact hz vn (by omega) (by omega) (by omega)
  · rw [if_neg c]
    exact ⟨h1, h2, fun h => c (by rw [← h2]; exact h.1)⟩
theorem vz_zero : vz Val.zero = true := rfl
theorem gleaf_wf {fs : List Field} (hf : FsOK fs) {kind : Int} (hk : Ty kind) {r : Raw} (hr : r.ok) : (gleafE kind fs r).wf := by
  have hc := constV_ok hr hk
  have h1 : (constE kind r).wf := by
    refine ⟨⟨by decide, by decide, by decide, ?_⟩, trivial⟩
    rw [if_pos rfl]
    exact ⟨rfl, hc.1, hc.2.2⟩
  unfold gleafE
  split
  · exact h1
  · split
    · exact h1
    · rename_i h2 h3
      refine ⟨⟨by decide, by decide, by decide, ?_⟩, trivial⟩
      rw [if_neg (by decide), if_pos rfl]
      refine ⟨?_, rfl⟩
      have hp := pick_range r.b ((fnames kind fs).length : Int) hr.b.1 hr.b.2 (by omega)
      have hm : (fnames kind fs).getD (pick r.b (fnames kind fs).length).toNat [] ∈ fnames kind fs := by
        rw [List.getD_eq_getElem?_getD, List.getElem?_eq_getElem (by omega)]
        exact List.getElem_mem _
      obtain ⟨f, hf1, hf2, _⟩ := fnames_mem hm
      rw [← hf2]
      exact (hf f hf1).1
theorem gshape_ok {kind : Int} {r : Raw} (hk : Ty kind) (hr : r.ok) : 1 ≤ (gshape kind r).1 ∧ (gshape kind r).1 ≤ 18 ∧ (((gshape kind r).2.length : Nat) : Int) = arity (gshape kind r).1 ∧ (gshape kind r).1 ≠ 1 ∧ (gshape kind r).1 ≠ 2 ∧ ∀ k ∈ (gshape kind r).2, Ty k := by
  have q3 := pick_range r.b 7 hr.b.1 hr.b.2 (by decide)
  have q4 := pick_range r.a 3 hr.a.1 hr.a.2 (by decide)
  unfold gshape
  generalize pick r.b 7 = q at *
  generalize pick r.a 3 = a at *
  split
  · refine ⟨by simp, by simp, rfl, by simp, by simp, fun k hm => ?_⟩
    simp only [List.mem_cons, List.not_mem_nil, or_false] at hm
    rcases hm with rfl | rfl | rfl
    · exact .inr (.inl rfl)
    · exact hk
    · exact hk
  · split
    · split
      · exact ⟨by decide, by decide, by decide, by decide, by decide, fun k hm => by simp at hm; exact .inl hm⟩
      · split
        · exact ⟨by decide, by decide, by decide, by decide, by decide, fun k hm => by simp at hm; exact .inr (.inr hm)⟩
        · refine ⟨by simp only; omega, by simp only; omega, ?_, by simp only; omega, by simp only; omega, fun k hm => by simp at hm; exact .inl hm⟩
          have : arity (5 + (q - 2)) = 2 := by unfold arity; rw [if_neg (by omega), if_neg (by omega), if_neg (by omega), if_neg (by omega), if_neg (by omega), if_neg (by omega)]
          simp [this]
    · split
      · split
        · exact ⟨by decide, by decide, by decide, by decide, by decide, fun k hm => by simp at hm; exact .inr (.inl hm)⟩
        · split
          · refine ⟨by simp only; omega, by simp only; omega, ?_, by simp only; omega, by simp only; omega, fun k hm => by simp at hm; exact .inr (.inl hm)⟩
            have : arity (15 + q - 1) = 2 := by unfold arity; rw [if_neg (by omega), if_neg (by omega), if_neg (by omega), if_neg (by omega), if_neg (by omega), if_neg (by omega)]
            simp [this]
          · refine ⟨by simp only; omega, by simp only; omega, ?_, by simp only; omega, by simp only; omega, fun k hm => by simp at hm; subst hm; unfold Ty; omega⟩
            have : arity (11 + q - 3) = 2 := by unfold arity; rw [if_neg (by omega), if_neg (by omega), if_neg (by omega), if_neg (by omega), if_neg (by omega), if_neg (by omega)]
            simp [this]
      · exact ⟨by decide, by decide, by decide, by decide, by decide, fun k hm => by simp at hm; exact .inr (.inr hm)⟩
theorem gargs_wf {ge : Int → Nat → Exp × Nat} (h : ∀ k n, Ty k → (ge k n).1.wf) : ∀ (ks : List Int) (n : Nat), (∀ k ∈ ks, Ty k) → Exp.wfL (gargs ge ks n).1
  | [], n, _ => trivial
  | k :: ks, n, hk => ⟨h k n (hk k (by simp)), gargs_wf h ks _ fun j hj => hk j (by simp [hj])⟩
theorem gexpr_wf {fs : List Field} (hf : FsOK fs) {l : List Raw} (hr : ∀ r ∈ l, r.ok) : ∀ (d : Nat) (kind : Int) (k : Nat), Ty kind → (gexpr fs l d kind k).1.wf
  | 0, kind, k, hk => gleaf_wf hf hk (gnext_ok hr _)
  | d + 1, kind, k, hk => by
    unfold gexpr
    split
    · exact gleaf_wf hf hk (gnext_ok hr _)
    · obtain ⟨h1, h2, h3, h4, h5, h6⟩ := gshape_ok hk (gnext_ok hr k)
      refine ⟨⟨h1, h2, ?_, ?_⟩, gargs_wf (fun k n => gexpr_wf hf hr d k n) _ _ h6⟩
      · rw [gargs_len]; exact h3
      · rw [if_neg h4, if_neg h5]; exact ⟨rfl, rfl⟩
end Go.Proofs.Ytjjjkoknodcaaaa.Am
