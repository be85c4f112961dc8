/- Which names a formula asks for; are two formulas the same. -/
import Derived.Test.YtjjjkoknodcaaaaNmB
set_option linter.unusedVariables false
set_option linter.unusedSimpArgs false
namespace Go.Proofs.Ytjjjkoknodcaaaa.Am
open Go Go.RowKit
set_option maxRecDepth 100000
set_option maxHeartbeats 40000000



mutual
def Exp.ex : Exp → Ex
  | .mk op v name args => .mk op v.kind v.n v.s name (Exp.exL args)
def Exp.exL : List Exp → List Ex
  | [] => []
  | x :: r => x.ex :: Exp.exL r
end
mutual
theorem ex_dv : ∀ x : Exp, x.ex.dv = x.dv
  | .mk op v name args => by rw [Exp.ex, Ex.dv, ex_dvs args, Exp.dv]
theorem ex_dvs : ∀ l : List Exp, Ex.dvs (Exp.exL l) = Exp.dvs l
  | [] => by rw [Exp.exL, Ex.dvs, Exp.dvs]
  | x :: r => by rw [Exp.exL, Ex.dvs, ex_dv x, ex_dvs r, Exp.dvs]
end
mutual
/-- The names that a formula asks for. -/
def Exp.refs : Exp → List (List UInt8)
  | .mk op v name args => (if op = 2 then [name] else []) ++ Exp.refsL args
def Exp.refsL : List Exp → List (List UInt8)
  | [] => []
  | x :: r => x.refs ++ Exp.refsL r
end
mutual
theorem ex_refs : ∀ x : Exp, x.ex.refs = x.refs
  | .mk op v name args => by rw [Exp.ex, Ex.refs, ex_refsL args, Exp.refs]
theorem ex_refsL : ∀ l : List Exp, Ex.refsL (Exp.exL l) = Exp.refsL l
  | [] => by rw [Exp.exL, Ex.refsL, Exp.refsL]
  | x :: r => by rw [Exp.exL, Ex.refsL, ex_refs x, ex_refsL r, Exp.refsL]
end
/-- A call of a primitive. -/
theorem call_prim {f d dst : Nat} {S : St} {args : List AV} {ds : List DV} {p : List DV → Option (AV × Heap)} {y : DV} (hp : tab.prim f = some p) (ha : toDs args = some ds) (ho : tab.opn f = false) (hl : tab.lend f = false) (ht : tab.thaw f dst = none) (hr : tab.res f = none) (h : p ds = some (.d y, [])) :
    callA tab (callR tab) d dst f args S = some (.d y, S) := by
  unfold callA
  rw [lent_off hl]
  simp only
  unfold callO
  rw [ho]
  simp only [Bool.false_eq_true, if_false, ha, hp, h, adopt, ht]
  exact adoptO_plain hr rfl rfl
theorem ca_Has {d dst : Nat} {S : St} (x : Exp) (s : List UInt8) : callA tab (callR tab) d dst 22 [.d x.dv, .d (.str s)] S = some (.d (.bool (decide (s ∈ x.refs))), S) := by
  refine call_prim prim22 (ds := [x.dv, .str s]) rfl (tab_opn (by kernel_rfl)) (tab_lend (by kernel_rfl)) (by simp only [tab]; exact look2_none _ _ _ (by kernel_rfl)) (by kernel_rfl) ?_
  rw [← ex_dv x, hasP_eq, ex_refs]
theorem refs_one {x : Exp} : True := trivial
mutual
/-- What is put in its place is asked for. -/
theorem mem_put {s : List UInt8} {y : Exp} (t : List UInt8) : ∀ x : Exp, x.wf → (t ∈ (putE s y x).refs ↔ (t ∈ x.refs ∧ t ≠ s) ∨ (s ∈ x.refs ∧ t ∈ y.refs))
  | .mk op v name args, hx => by
    have ih := mem_putL (s := s) (y := y) t args hx.2
    unfold putE
    split
    · rename_i h
      obtain ⟨rfl, rfl⟩ := h
      have ha : args = [] := by
        have := hx.1.2.2.1
        cases args with
        | nil => rfl
        | cons a r => simp [arity] at this; omega
      subst ha
      simp [Exp.refs, Exp.refsL]
    · rename_i h
      simp only [Exp.refs, List.mem_append, ih]
      by_cases h2 : op = 2
      · have hn : ¬ name = s := fun e => h ⟨h2, e⟩
        simp only [h2, if_true, List.mem_singleton]
        constructor
        · rintro (rfl | ⟨h1, h3⟩ | ⟨h1, h3⟩)
          · exact .inl ⟨.inl rfl, hn⟩
          · exact .inl ⟨.inr h1, h3⟩
          · exact .inr ⟨.inr h1, h3⟩
        · rintro (⟨rfl | h1, h3⟩ | ⟨rfl | h1, h3⟩)
          · exact .inl rfl
          · exact .inr (.inl ⟨h1, h3⟩)
          · exact absurd rfl hn
          · exact .inr (.inr ⟨h1, h3⟩)
      · simp only [h2, if_false, List.not_mem_nil, false_or]
theorem mem_putL {s : List UInt8} {y : Exp} (t : List UInt8) : ∀ l : List Exp, Exp.wfL l → (t ∈ Exp.refsL (putEL s y l) ↔ (t ∈ Exp.refsL l ∧ t ≠ s) ∨ (s ∈ Exp.refsL l ∧ t ∈ y.refs))
  | [], _ => by simp [putEL, Exp.refsL]
  | x :: r, h => by
    have h1 := mem_put (s := s) (y := y) t x h.1
    have h2 := mem_putL (s := s) (y := y) t r h.2
    simp only [putEL, Exp.refsL, List.mem_append, h1, h2]
    constructor
    · rintro ((⟨a, b⟩ | ⟨a, b⟩) | ⟨a, b⟩ | ⟨a, b⟩)
      · exact .inl ⟨.inl a, b⟩
      · exact .inr ⟨.inl a, b⟩
      · exact .inl ⟨.inr a, b⟩
      · exact .inr ⟨.inr a, b⟩
    · rintro (⟨a | a, b⟩ | ⟨a | a, b⟩)
      · exact .inl (.inl ⟨a, b⟩)
      · exact .inr (.inl ⟨a, b⟩)
      · exact .inl (.inr ⟨a, b⟩)
      · exact .inr (.inr ⟨a, b⟩)
end
mutual
theorem puE_none {s : List UInt8} {y : Exp} : ∀ x : Exp, s ∉ x.refs → putE s y x = x
  | .mk op v name args, h => by
    simp only [Exp.refs, List.mem_append, not_or] at h
    unfold putE
    rw [if_neg, puE_noneL args h.2]
    rintro ⟨rfl, rfl⟩
    exact h.1 (by simp)
theorem puE_noneL {s : List UInt8} {y : Exp} : ∀ l : List Exp, s ∉ Exp.refsL l → putEL s y l = l
  | [], _ => by rw [putEL]
  | x :: r, h => by
    simp only [Exp.refsL, List.mem_append, not_or] at h
    rw [putEL, puE_none x h.1, puE_noneL r h.2]
end
def refX (s : List UInt8) : Exp := .mk 2 Val.zero s []
mutual
/-- A field put in its own place changes nothing. -/
theorem puE_self {s : List UInt8} : ∀ x : Exp, x.wf → putE s (refX s) x = x
  | .mk op v name args, hx => by
    unfold putE
    split
    · rename_i h
      obtain ⟨rfl, rfl⟩ := h
      have ha : args = [] := by
        have := hx.1.2.2.1
        cases args with
        | nil => rfl
        | cons a r => simp [arity] at this; omega
      have hv := hx.1.2.2.2
      rw [if_neg (by decide), if_pos rfl] at hv
      have hv := hv.2
      obtain ⟨vk, vn, vs⟩ := v
      simp [vz] at hv
      obtain ⟨rfl, rfl, rfl⟩ := hv
      subst ha
      rfl
    · rw [puE_selfL args hx.2]
theorem puE_selfL {s : List UInt8} : ∀ l : List Exp, Exp.wfL l → putEL s (refX s) l = l
  | [], _ => by rw [putEL]
  | x :: r, h => by rw [putEL, puE_self x h.1, puE_selfL r h.2]
end
theorem wf_refX {s : List UInt8} (hs : nameErr s = 0) : (refX s).wf := ⟨⟨by decide, by decide, rfl, by rw [if_neg (by decide), if_pos rfl]; exact ⟨hs, rfl⟩⟩, trivial⟩
theorem const_refs (kind : Int) (r : Raw) : (constE kind r).refs = [] := by
  unfold constE
  repeat' split
  all_goals simp [Exp.refs, Exp.refsL]
theorem leaf_refs {kind : Int} {fs : List Field} {r : Raw} (hb : -9223372036854775808 ≤ r.b ∧ r.b ≤ 9223372036854775807) {t : List UInt8} (h : t ∈ (gleafE kind fs r).refs) (hlf : fs.length ≤ 1048576) : ∃ f ∈ fs, f.name = t := by
  unfold gleafE at h
  split at h
  · rw [const_refs] at h; cases h
  · rename_i h0
    split at h
    · rw [const_refs] at h; cases h
    · simp only [Exp.refs, Exp.refsL, if_true, List.append_nil, List.mem_singleton] at h
      have hl := fnames_le kind fs
      have hp := pick_range r.b (fnames kind fs).length hb.1 hb.2 (by omega)
      have hlt : (pick r.b (fnames kind fs).length).toNat < (fnames kind fs).length := by omega
      suffices hm : t ∈ fnames kind fs by
        obtain ⟨f, h1, h2, _⟩ := fnames_mem hm
        exact ⟨f, h1, h2⟩
      rw [h, List.getD_eq_getElem?_getD, List.getElem?_eq_getElem hlt]
      exact List.getElem_mem hlt
theorem gargs_refs {ge : Int → Nat → Exp × Nat} {P : List UInt8 → Prop} (h : ∀ k n t, t ∈ (ge k n).1.refs → P t) : ∀ (ks : List Int) (n : Nat) t, t ∈ Exp.refsL (gargs ge ks n).1 → P t
  | [], n, t, ht => by simp [gargs, Exp.refsL] at ht
  | k :: ks, n, t, ht => by
    simp only [gargs, Exp.refsL, List.mem_append] at ht
    rcases ht with ht | ht
    · exact h _ _ _ ht
    · exact gargs_refs h ks _ t ht
theorem gexpr_refs {fs : List Field} (hlf : fs.length ≤ 1048576) {l : List Raw} (hr : ∀ r ∈ l, r.ok) : ∀ (d : Nat) (kind : Int) (k : Nat) t, t ∈ (gexpr fs l d kind k).1.refs → ∃ f ∈ fs, f.name = t
  | 0, kind, k, t, h => leaf_refs (gnext_ok hr _).b h hlf
  | d + 1, kind, k, t, h => by
    unfold gexpr at h
    split at h
    · exact leaf_refs (gnext_ok hr _).b h hlf
    · rename_i hp
      simp only [Exp.refs, List.mem_append] at h
      rcases h with h | h
      · have hop : (gshape kind (gnext l k)).1 ≠ 2 := by
          have hk := gnext_ok hr k
          have p1 := pick_range (gnext l k).b 7 hk.b.1 hk.b.2 (by decide)
          unfold gshape
          repeat' split
          all_goals simp only; omega
        rw [if_neg hop] at h
        cases h
      · exact gargs_refs (fun k n t ht => gexpr_refs hlf hr d k n t ht) _ _ t h
end Go.Proofs.Ytjjjkoknodcaaaa.Am
