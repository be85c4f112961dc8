/- A loop over the places of a list. -/
import Derived.Test.YtnombkkfijlkfaaAmSet
set_option linter.unusedVariables false
set_option linter.unusedSimpArgs false
namespace Go.Proofs.Ytnombkkfijlkfaa.Am
open Go Go.RowKit
/-- One round of a loop over a list: it ends, or goes on with the rest. -/
def StepR {α β ρ : Type} (mk : Nat → β → List Nat → St) (I : Nat → β → Prop) (sp : Nat → β → List α → ρ) (Q : ρ → Out → St → Prop) (d : Nat) (ts hs : List Nat) (k : Nat) (a : β) (x : α) (rest : List α) : Out → St → Prop := fun o S' =>
  (o ≠ .nrm ∧ Q (sp k a (x :: rest)) o S') ∨ (o = .nrm ∧ ∃ a' g', I (k + 1) a' ∧ sp k a (x :: rest) = sp (k + 1) a' rest ∧ Sub (mk (k + 1) a' g') (keepA d (some (ts, hs)) S'))
section
variable {α β ρ : Type} {mk : Nat → β → List Nat → St} {I : Nat → β → Prop} {sp : Nat → β → List α → ρ} {Q : ρ → Out → St → Prop} {d : Nat} {ts hs : List Nat} {k : Nat} {a : β} {x : α} {rest : List α} {S' : St}
theorem step_nrm (a' : β) (hI : I (k + 1) a') (he : sp k a (x :: rest) = sp (k + 1) a' rest) (h : ∃ g', Sub (mk (k + 1) a' g') (keepA d (some (ts, hs)) S')) : Gd (StepR mk I sp Q d ts hs k a x rest) (some (.nrm, S')) := .inr ⟨rfl, a', h.choose, hI, he, h.choose_spec⟩
theorem step_end {o : Out} (ho : o ≠ .nrm) {r : ρ} (he : sp k a (x :: rest) = r) (h : Q r o S') : Gd (StepR mk I sp Q d ts hs k a x rest) (some (o, S')) := .inl ⟨ho, by rw [he]; exact h⟩
/-- What a loop ends with, once its list is through. -/
def LastR (Q : ρ → Out → St → Prop) (r : ρ) : Out → St → Prop := fun o S' => o ≠ .nrm ∧ Q r o S'
theorem last_end {o : Out} {r : ρ} (ho : o ≠ .nrm) (h : Q r o S') : Gd (LastR Q r) (some (o, S')) := ⟨ho, h⟩
end
theorem good_range {α β ρ : Type} {T : Tab} {call : Call} {n f d : Nat} {K : List It} {S : St} {b : Code} {R : Out → St → Prop} (xs : List α) (mk : Nat → β → List Nat → St) (I : Nat → β → Prop) (sp : Nat → β → List α → ρ) (Q : ρ → Out → St → Prop) (a0 : β) {ts hs : List Nat}
    (hkeep : (nameOf b).bind (T.keep f) = some (ts, hs)) (hQ : ∀ r, Up (Q r)) (hI : I 0 a0) (hn : xs.length < n) (hl : xs.length ≤ 9223372036854775807)
    (hstep : ∀ (k : Nat) (a : β) (g : List Nat) (x : α) (rest : List α), k < xs.length → xs[k]? = some x → xs.drop (k + 1) = rest → I k a → decide ((k : Int) < (xs.length : Int)) = true → IntKind.i64.wrap ((k : Int) + 1) = ((k + 1 : Nat) : Int) → Gd (StepR mk I sp Q d ts hs k a x rest) (cx T call n f d [] b (mk k a g)))
    (hlast : ∀ (a : β) (g : List Nat), I xs.length a → decide ((xs.length : Int) < (xs.length : Int)) = false → Gd (LastR Q (sp xs.length a [])) (cx T call n f d [] b (mk xs.length a g)))
    (hs0 : ∃ g0, Sub (mk 0 a0 g0) (keepA d (some (ts, hs)) S)) (hk : ∀ o S', Q (sp 0 a0 xs) o S' → Gd R (cr T call n f d K (some (o, S')))) : Gd R (cx T call n f d K (.loop b) S) := by
  obtain ⟨g0, hs0⟩ := hs0
  refine good_loopR (α := Nat × β × List Nat) (fun x => x.1 ≤ xs.length ∧ I x.1 x.2.1 ∧ sp x.1 x.2.1 (xs.drop x.1) = sp 0 a0 xs) (fun x => mk x.1 x.2.1 x.2.2) (fun x => xs.length - x.1) (fun _ => Q (sp 0 a0 xs)) (0, a0, g0) hkeep (fun _ => hQ _) ⟨Nat.zero_le _, hI, rfl⟩ (by simpa using hn) ?_ hs0 hk
  rintro ⟨k, a, g⟩ ⟨h1, h2, h3⟩
  simp only at h1 h2 h3
  by_cases hlt : k < xs.length
  · have hd : xs.drop k = xs[k] :: xs.drop (k + 1) := List.drop_eq_getElem_cons hlt
    rw [hd] at h3
    refine good_mono ?_ (hstep k a g xs[k] (xs.drop (k + 1)) hlt (List.getElem?_eq_getElem hlt) rfl h2 (decide_eq_true (by omega)) (by rw [IntKind.wrap_i64]; omega))
    rintro o S' (⟨ho, hq⟩ | ⟨ho, a', g', hi, he, hs⟩)
    · exact .inl ⟨ho, h3 ▸ hq⟩
    · exact .inr ⟨ho, (k + 1, a', g'), ⟨hlt, hi, by rw [← h3, he]⟩, by simp only; omega, hs, fun _ _ h => h⟩
  · have hk' : k = xs.length := by omega
    subst hk'
    rw [List.drop_eq_nil_of_le (Nat.le_refl _)] at h3
    refine good_mono ?_ (hlast a g h2 (decide_eq_false (by omega)))
    rintro o S' ⟨ho, hq⟩
    exact .inl ⟨ho, h3 ▸ hq⟩
/-- How a loop ends: this way out, these temporaries, this heap. -/
def QX {ρ : Type} (k : Out) (mk : ρ → List Nat → St) : ρ → Out → St → Prop := fun r o S => o = k ∧ ∃ g, Sub (mk r g) S
theorem up_qx {ρ : Type} {k : Out} {mk : ρ → List Nat → St} (r : ρ) : Up (QX k mk r) := fun o S S' h ⟨h1, g, h2⟩ => ⟨h1, g, h2.trans h⟩
/-- Two ways out. -/
def QO {ρ σ : Type} (k : Out) (mk : ρ → List Nat → St) (k' : Out) (mk' : σ → List Nat → St) : Sum ρ σ → Out → St → Prop := fun r o S => match r with
  | .inl r => o = k ∧ ∃ g, Sub (mk r g) S
  | .inr r => o = k' ∧ ∃ g, Sub (mk' r g) S
theorem up_qo {ρ σ : Type} {k k' : Out} {mk : ρ → List Nat → St} {mk' : σ → List Nat → St} (r : Sum ρ σ) : Up (QO k mk k' mk' r) := fun o S S' h hq => match r, hq with
  | .inl _, ⟨h1, g, h2⟩ => ⟨h1, g, h2.trans h⟩
  | .inr _, ⟨h1, g, h2⟩ => ⟨h1, g, h2.trans h⟩
/-- A growing list: none: it has not begun; some g: its room has this path. -/
def tokD (d dst : Nat) : Option (List Nat) → Option Id
  | none => none
  | some g => some ⟨d, dst, 0 :: g⟩
def tokP (d dst n : Nat) : Option (List Nat) → Heap
  | none => []
  | some g => [(⟨d, dst, 0 :: g⟩, .grow n)]
theorem up_tok {k : Out} {α : Type} {mk : α → List Nat → St} : Up (fun q S => q = k ∧ ∃ t g, Sub (mk t g) S) := fun o S S' h ⟨h1, t, g, h2⟩ => ⟨h1, t, g, h2.trans h⟩
/-- Paths that are apart. -/
theorem sx1 {n x a b : Nat} {g : List Nat} : (List.drop n [x] = a :: b :: g) = False := by
  refine eq_false fun h => ?_
  have := congrArg List.length h
  simp only [List.length_drop, List.length_cons, List.length_nil] at this
  omega
theorem sx2 {n x a b : Nat} {g : List Nat} : (List.drop n (x :: g) = a :: b :: g) = False := by
  refine eq_false fun h => ?_
  have := congrArg List.length h
  simp only [List.length_drop, List.length_cons] at this
  omega
/-- An answer from within a loop (whatever variables there are), or the loop's own end. -/
def QO' {ρ : Type} (mk : ρ → Tm) (k' : Out) (Q' : Tm) : Sum ρ Unit → Out → St → Prop := fun r o S => match r with
  | .inl r => o = .ret ∧ ∃ H g, Sub ⟨mk r, H, g⟩ S
  | .inr _ => o = k' ∧ ∃ g, Sub ⟨Q', [], g⟩ S
theorem up_qo' {ρ : Type} {mk : ρ → Tm} {k' : Out} {Q' : Tm} (r : Sum ρ Unit) : Up (QO' mk k' Q' r) := fun o S S' h hq => match r, hq with
  | .inl _, ⟨h1, H, g, h2⟩ => ⟨h1, H, g, h2.trans h⟩
  | .inr _, ⟨h1, g, h2⟩ => ⟨h1, g, h2.trans h⟩
end Go.Proofs.Ytnombkkfijlkfaa.Am
