/- Open calls, as equations: what was reachable is what the callee left of it. -/
import Derived.Test.YthmggkidmcgfoaaAmSet
set_option linter.unusedVariables false
set_option linter.unusedSimpArgs false
namespace Go.Proofs.Ythmggkidmcgfoaa.Am
open Go Go.RowKit

/-- Variables as a callee left them. -/
def upd (W : Heap) : Heap → Heap
  | [] => []
  | (i, p) :: r => (i, (W.get i).getD p) :: upd W r
theorem upd_nil {W : Heap} : upd W [] = [] := rfl
theorem upd_cons {W : Heap} {i : Id} {p : Place} {r : Heap} : upd W ((i, p) :: r) = (i, (W.get i).getD p) :: upd W r := rfl
def keys (H : Heap) : List Id := H.map (·.1)
theorem get_keys : ∀ (W : Heap) i, (W.get i).isSome = (keys W).contains i
  | [], i => rfl
  | (j, p) :: r, i => by
    unfold Heap.get keys
    rw [List.map_cons, List.contains_cons]
    split
    · rename_i h; subst h; simp
    · rename_i h
      rw [get_keys r i]
      have : (i == j) = false := by simp; exact fun e => h e.symm
      rw [this]
      rfl
theorem mem_within {H : Heap} : ∀ (l : List Id) e, e ∈ within l H → e.1 ∈ l ∧ H.get e.1 = some e.2
  | [], e, h => by cases h
  | i :: r, e, h => by
    unfold within at h
    split at h
    · rename_i p hp
      rcases List.mem_cons.1 h with rfl | h
      · exact ⟨by simp, hp⟩
      · obtain ⟨h1, h2⟩ := mem_within r e h; exact ⟨by simp [h1], h2⟩
    · obtain ⟨h1, h2⟩ := mem_within r e h; exact ⟨by simp [h1], h2⟩
theorem within_get {H : Heap} (l : List Id) (i : Id) (h : i ∈ l) : (within l H).get i = H.get i := by rw [get_within, if_pos h]
theorem weave_upd {R : List Id} {W : Heap} : ∀ (H : Heap), (∀ i ∈ R, (W.get i).isSome = true) → (∀ i, i ∉ R → W.get i = none) → weave R W H = upd W H
  | [], _, _ => rfl
  | (i, p) :: r, h, h' => by
    unfold weave upd
    rw [weave_upd r h h']
    by_cases hc : R.contains i = true
    · rw [if_pos hc]
      have := h i (by simpa using hc)
      cases hw : W.get i with
      | none => rw [hw] at this; cases this
      | some q => rfl
    · rw [if_neg hc, h' i (by simpa using hc)]
      rfl
theorem fresh_nil {R : List Id} {H : Heap} : ∀ (H1 : Heap), (∀ e ∈ H1, (H.get e.1).isSome = true ∧ e.1 ∈ R) → fresh R H H1 = []
  | [], _ => rfl
  | (i, p) :: r, h => by
    unfold fresh
    obtain ⟨h1, h2⟩ := h (i, p) (by simp)
    have h3 : ((H.get i).isNone || !R.contains i) = false := by
      cases hg : H.get i with
      | none => rw [hg] at h1; cases h1
      | some q => simp [h2]
    rw [h3]
    simp only [Bool.false_eq_true, if_false]
    exact fresh_nil r fun e he => h e (by simp [he])
theorem upd_congr {W W' : Heap} : ∀ (H : Heap), (∀ i, W.get i = W'.get i) → upd W H = upd W' H
  | [], _ => rfl
  | (i, p) :: r, h => by unfold upd; rw [h i, upd_congr r h]
theorem weave_congr {R : List Id} {W W' : Heap} : ∀ (H : Heap), (∀ i ∈ R, W.get i = W'.get i) → weave R W H = weave R W' H
  | [], _ => rfl
  | (i, p) :: r, h => by
    unfold weave
    rw [weave_congr r h]
    split
    · rename_i hc
      rw [h i (by simpa using hc)]
    · rfl
theorem addIds_nil (l : List Id) : addIds l [] = l := rfl
/-- An open call that answers something deep and leaves W of what it saw. -/
theorem ca_open {d dst f : Nat} {args : List AV} {S : St} {W0 W : Heap} {r : AV}
    (hn : (if tab.opn f = true then none else toDs args) = none) (hlt : lentA tab S f args = none)
    (h1 : reach S.H 8 (addIds [] (idsL args)) = keys W0) (h2 : within (keys W0) S.H = W0) (h3 : (idsH W0).all (fun i => (keys W0).contains i) = true)
    (hc : ∃ x H', callR tab (d + 1) f args W0 (0 :: S.g) = some (x, H') ∧ soft tab f x = r ∧ ∀ i ∈ keys W0, H'.get i = W.get i)
    (h4 : addIds (keys W0) (idsA r) = keys W0) (h5 : keys W = keys W0) (h6 : (idsH (within (keys W0) W)).all (fun i => (keys W0).contains i) = true) :
    callA tab (callR tab) d dst f args S = some (r, ⟨S.T, upd W S.H, 1 :: S.g⟩) := by
  obtain ⟨x, H', hc, hs, hW⟩ := hc
  have hR : reach H' 8 (keys W0) = keys W0 := by
    show (if (idsH (within (keys W0) H')).all (fun i => (keys W0).contains i) = true then keys W0 else _) = _
    rw [within_congr (keys W0) hW, if_pos h6]
  unfold callA
  rw [hlt]
  simp only
  unfold callO
  rw [hn]
  simp only [h1, h2]
  rw [if_pos h3, hc]
  simp only [hs, h4, hR]
  have hf : (within (keys W0) H').filter (fun e => (keys W0).contains e.1 || sfx (0 :: S.g) e.1.g) = within (keys W0) H' := by
    rw [List.filter_eq_self]
    intro e he
    have := (mem_within _ e he).1
    simp [this]
  rw [hf]
  congr 2
  congr 1
  unfold weaveH
  rw [fresh_nil (H1 := within (keys W0) H') (fun e he => ⟨?_, (mem_within _ e he).1⟩), List.nil_append]
  · rw [weave_congr (W' := W) _ (fun i hi => by rw [within_get _ i hi, hW i hi])]
    refine weave_upd _ (fun i hi => ?_) (fun i hi => ?_)
    · rw [get_keys, h5]; simpa using hi
    · have := get_keys W i
      rw [h5] at this
      cases hg : W.get i with
      | none => rfl
      | some q => rw [hg] at this; simp at this; exact absurd this hi
  · have hi := (mem_within _ e he).1
    rw [← within_get (keys W0) e.1 hi, h2, get_keys]
    simpa using hi
/-- The same where one variable is seen, and nothing behind it. -/
theorem ca_open1 {d dst f : Nat} {args : List AV} {S : St} {id : Id} {cs cs' : List AV} {r : AV}
    (hn : (if tab.opn f = true then none else toDs args) = none) (hlt : lentA tab S f args = none) (ha : addIds [] (idsL args) = [id]) (hi : idsL cs = []) (hi' : idsL cs' = [])
    (hc : ∃ x H', callR tab (d + 1) f args [(id, .box cs)] (0 :: S.g) = some (x, H') ∧ soft tab f x = r ∧ H'.get id = some (.box cs'))
    (h4 : addIds [id] (idsA r) = [id]) (hS : S.H.get id = some (.box cs)) :
    callA tab (callR tab) d dst f args S = some (r, ⟨S.T, upd [(id, .box cs')] S.H, 1 :: S.g⟩) := by
  obtain ⟨x, H', hc, hs, hW⟩ := hc
  have hw : within [id] S.H = [(id, .box cs)] := by
    unfold within
    rw [hS]
    rfl
  refine ca_open (W0 := [(id, .box cs)]) hn hlt ?_ hw ?_ ⟨x, H', hc, hs, fun i hi => ?_⟩ h4 rfl ?_
  · rw [ha]
    show (if (idsH (within [id] S.H)).all (fun i => [id].contains i) = true then [id] else _) = _
    rw [hw]
    simp only [idsH, idsP, hi, List.nil_append, List.all_nil, if_true]
    rfl
  · simp only [idsH, idsP, hi, List.nil_append, List.all_nil]
  · have : i = id := by simpa [Am.keys] using hi
    subst this
    rw [hW]
    simp [Heap.get]
  · show (idsH (within [id] [(id, .box cs')])).all _ = true
    unfold within
    simp only [Heap.get, if_true, within, idsH, idsP, hi', List.nil_append, List.all_nil]
/-- An open call that sees nothing and answers a list of its own. -/
theorem ca_fresh {d dst f n sz : Nat} {args : List AV} {S : St} {id : Id} {cs : List AV}
    (hn : (if tab.opn f = true then none else toDs args) = none) (hlt : lentA tab S f args = none) (ha : idsL args = []) (hi : idsL cs = [])
    (hc : ∃ H', callR tab (d + 1) f args [] (0 :: S.g) = some (.arr id 0 n sz, H') ∧ H'.get id = some (.box cs)) (hs : sfx (0 :: S.g) id.g = true) :
    callA tab (callR tab) d dst f args S = some (.arr id 0 n sz, ⟨S.T, (id, .box cs) :: S.H, 1 :: S.g⟩) := by
  obtain ⟨H', hc, hg⟩ := hc
  have hsoft : soft tab f (.arr id 0 n sz) = .arr id 0 n sz := by unfold soft; split <;> rfl
  have hw : within [id] H' = [(id, .box cs)] := by
    unfold within
    rw [hg]
    rfl
  have hR : reach H' 8 [id] = [id] := by
    show (if (idsH (within [id] H')).all (fun i => [id].contains i) = true then [id] else _) = _
    rw [hw]
    simp only [idsH, idsP, hi, List.nil_append, List.all_nil, if_true]
  unfold callA
  rw [hlt]
  simp only
  unfold callO
  rw [hn]
  have h0 : reach S.H 8 (addIds [] (idsL args)) = [] := by
    rw [ha]
    rfl
  simp only [h0]
  have h1 : within [] S.H = [] := rfl
  rw [h1, hc]
  have h2 : addIds [] (idsA (.arr id 0 n sz)) = [id] := by show addIds [] [id] = [id]; simp [addIds]
  simp only [hsoft, h2, hR, hw, idsH, List.all_nil, if_true]
  congr 2
  have hf : List.filter (fun e => ([] : List Id).contains e.1 || sfx (0 :: S.g) e.1.g) [(id, Place.box cs)] = [(id, Place.box cs)] := by
    simp [hs]
  rw [hf]
  congr 1
  unfold weaveH
  have hwv : ∀ H : Heap, weave [] [(id, Place.box cs)] H = H := by
    intro H
    induction H with
    | nil => rfl
    | cons e r ih => obtain ⟨i, p⟩ := e; simp [weave, ih]
  rw [hwv]
  simp [fresh]
theorem ca_fresh0 {d dst f sz : Nat} {args : List AV} {S : St}
    (hn : (if tab.opn f = true then none else toDs args) = none) (hlt : lentA tab S f args = none) (ha : idsL args = []) (hr : tab.res f = some 0)
    (hc : ∃ H', callR tab (d + 1) f args [] (0 :: S.g) = some (.own sz [] none, H') ∧ True) :
    callA tab (callR tab) d dst f args S = some (.own sz [] none, ⟨S.T, S.H, 1 :: S.g⟩) := by
  obtain ⟨H', hc, _⟩ := hc
  have hsoft : soft tab f (.own sz [] none) = .own sz [] none := by unfold soft; rw [hr]; rfl
  unfold callA
  rw [hlt]
  simp only
  unfold callO
  rw [hn]
  have h0 : reach S.H 8 (addIds [] (idsL args)) = [] := by
    rw [ha]
    rfl
  simp only [h0]
  have h1 : within [] S.H = [] := rfl
  rw [h1, hc]
  have h2 : addIds [] (idsA (.own sz [] none)) = [] := rfl
  have h3 : reach H' 8 [] = [] := rfl
  have h4 : within [] H' = [] := rfl
  simp only [hsoft, h2, h3, h4, idsH, List.all_nil, if_true, List.filter_nil]
  congr 2
  congr 1
  unfold weaveH
  have hwv : ∀ H : Heap, weave [] [] H = H := by
    intro H
    induction H with
    | nil => rfl
    | cons e r ih => obtain ⟨i, p⟩ := e; simp [weave, ih]
  rw [hwv]
  simp [fresh]
end Go.Proofs.Ythmggkidmcgfoaa.Am
/- A loop over the places of a list. -/
set_option linter.unusedVariables false
set_option linter.unusedSimpArgs false
namespace Go.Proofs.Ythmggkidmcgfoaa.Am
open Go Go.RowKit
/-- One round of a loop over a list: it ends, or goes on with the rest. -/
def StepR {α β ρ : Type} (mk : Nat → β → List Nat → St) (I : Nat → β → Prop) (sp : Nat → β → List α → ρ) (Q : ρ → Out → St → Prop) (d : Nat) (ts hs : List Nat) (k : Nat) (a : β) (x : α) (rest : List α) : Out → St → Prop := fun o S' =>
  (o ≠ .nrm ∧ Q (sp k a (x :: rest)) o S') ∨ (o = .nrm ∧ ∃ a' g', I (k + 1) a' ∧ sp k a (x :: rest) = sp (k + 1) a' rest ∧ Sub (mk (k + 1) a' g') (keepA d (some (ts, hs)) S'))
section
variable {α β ρ : Type} {mk : Nat → β → List Nat → St} {I : Nat → β → Prop} {sp : Nat → β → List α → ρ} {Q : ρ → Out → St → Prop} {d : Nat} {ts hs : List Nat} {k : Nat} {a : β} {x : α} {rest : List α} {S' : St}
theorem step_nrm (a' : β) (hI : I (k + 1) a') (he : sp k a (x :: rest) = sp (k + 1) a' rest) (h : ∃ g', Sub (mk (k + 1) a' g') (keepA d (some (ts, hs)) S')) : Gd (StepR mk I sp Q d ts hs k a x rest) (some (.nrm, S')) := .inr ⟨rfl, a', h.choose, hI, he, h.choose_spec⟩
theorem step_end {o : Out} (ho : o ≠ .nrm) {r : ρ} (he : sp k a (x :: rest) = r) (h : Q r o S') : Gd (StepR mk I sp Q d ts hs k a x rest) (some (o, S')) := .inl ⟨ho, by rw [he]; exact h⟩
/-- What a loop ends with, once its list is through. -/
def LastR (Q : ρ → Out → St → Prop) (r : ρ) : Out → St → Prop := fun o S' => o ≠ .nrm ∧ Q r o S'
theorem last_end {o : Out} {r : ρ} (ho : o ≠ .nrm) (h : Q r o S') : Gd (LastR Q r) (some (o, S')) := ⟨ho, h⟩
end
theorem good_range {α β ρ : Type} {T : Tab} {call : Call} {n f d : Nat} {K : List It} {S : St} {b : Code} {R : Out → St → Prop} (xs : List α) (mk : Nat → β → List Nat → St) (I : Nat → β → Prop) (sp : Nat → β → List α → ρ) (Q : ρ → Out → St → Prop) (a0 : β) {ts hs : List Nat}
    (hkeep : (nameOf b).bind (T.keep f) = some (ts, hs)) (hQ : ∀ r, Up (Q r)) (hI : I 0 a0) (hn : xs.length < n) (hl : xs.length ≤ 9223372036854775807)
    (hstep : ∀ (k : Nat) (a : β) (g : List Nat) (x : α) (rest : List α), k < xs.length → xs[k]? = some x → xs.drop (k + 1) = rest → I k a → decide ((k : Int) < (xs.length : Int)) = true → IntKind.i64.wrap ((k : Int) + 1) = ((k + 1 : Nat) : Int) → Gd (StepR mk I sp Q d ts hs k a x rest) (cx T call n f d [] b (mk k a g)))
    (hlast : ∀ (a : β) (g : List Nat), I xs.length a → decide ((xs.length : Int) < (xs.length : Int)) = false → Gd (LastR Q (sp xs.length a [])) (cx T call n f d [] b (mk xs.length a g)))
    (hs0 : ∃ g0, Sub (mk 0 a0 g0) (keepA d (some (ts, hs)) S)) (hk : ∀ o S', Q (sp 0 a0 xs) o S' → Gd R (cr T call n f d K (some (o, S')))) : Gd R (cx T call n f d K (.loop b) S) := by
  obtain ⟨g0, hs0⟩ := hs0
  refine good_loopR (α := Nat × β × List Nat) (fun x => x.1 ≤ xs.length ∧ I x.1 x.2.1 ∧ sp x.1 x.2.1 (xs.drop x.1) = sp 0 a0 xs) (fun x => mk x.1 x.2.1 x.2.2) (fun x => xs.length - x.1) (fun _ => Q (sp 0 a0 xs)) (0, a0, g0) hkeep (fun _ => hQ _) ⟨Nat.zero_le _, hI, rfl⟩ (by simpa using hn) ?_ hs0 hk
  rintro ⟨k, a, g⟩ ⟨h1, h2, h3⟩
  simp only at h1 h2 h3
  by_cases hlt : k < xs.length
  · have hd : xs.drop k = xs[k] :: xs.drop (k + 1) := List.drop_eq_getElem_cons hlt
    rw [hd] at h3
    refine good_mono ?_ (hstep k a g xs[k] (xs.drop (k + 1)) hlt (List.getElem?_eq_getElem hlt) rfl h2 (decide_eq_true (by omega)) (by rw [IntKind.wrap_i64]; omega))
    rintro o S' (⟨ho, hq⟩ | ⟨ho, a', g', hi, he, hs⟩)
    · exact .inl ⟨ho, h3 ▸ hq⟩
    · exact .inr ⟨ho, (k + 1, a', g'), ⟨hlt, hi, by rw [← h3, he]⟩, by simp only; omega, hs, fun _ _ h => h⟩
  · have hk' : k = xs.length := by omega
    subst hk'
    rw [List.drop_eq_nil_of_le (Nat.le_refl _)] at h3
    refine good_mono ?_ (hlast a g h2 (decide_eq_false (by omega)))
    rintro o S' ⟨ho, hq⟩
    exact .inl ⟨ho, h3 ▸ hq⟩
/-- How a loop ends: this way out, these temporaries, this heap. -/
def QX {ρ : Type} (k : Out) (mk : ρ → List Nat → St) : ρ → Out → St → Prop := fun r o S => o = k ∧ ∃ g, Sub (mk r g) S
theorem up_qx {ρ : Type} {k : Out} {mk : ρ → List Nat → St} (r : ρ) : Up (QX k mk r) := fun o S S' h ⟨h1, g, h2⟩ => ⟨h1, g, h2.trans h⟩
/-- Two ways out. -/
def QO {ρ σ : Type} (k : Out) (mk : ρ → List Nat → St) (k' : Out) (mk' : σ → List Nat → St) : Sum ρ σ → Out → St → Prop := fun r o S => match r with
  | .inl r => o = k ∧ ∃ g, Sub (mk r g) S
  | .inr r => o = k' ∧ ∃ g, Sub (mk' r g) S
theorem up_qo {ρ σ : Type} {k k' : Out} {mk : ρ → List Nat → St} {mk' : σ → List Nat → St} (r : Sum ρ σ) : Up (QO k mk k' mk' r) := fun o S S' h hq => match r, hq with
  | .inl _, ⟨h1, g, h2⟩ => ⟨h1, g, h2.trans h⟩
  | .inr _, ⟨h1, g, h2⟩ => ⟨h1, g, h2.trans h⟩
/-- A growing list: none: it has not begun; some g: its room has this path. -/
def tokD (d dst : Nat) : Option (List Nat) → Option Id
  | none => none
  | some g => some ⟨d, dst, 0 :: g⟩
def tokP (d dst n : Nat) : Option (List Nat) → Heap
  | none => []
  | some g => [(⟨d, dst, 0 :: g⟩, .grow n)]
theorem up_tok {k : Out} {α : Type} {mk : α → List Nat → St} : Up (fun q S => q = k ∧ ∃ t g, Sub (mk t g) S) := fun o S S' h ⟨h1, t, g, h2⟩ => ⟨h1, t, g, h2.trans h⟩
/-- Paths that are apart. -/
theorem sx1 {n x a b : Nat} {g : List Nat} : (List.drop n [x] = a :: b :: g) = False := by
  refine eq_false fun h => ?_
  have := congrArg List.length h
  simp only [List.length_drop, List.length_cons, List.length_nil] at this
  omega
theorem sx2 {n x a b : Nat} {g : List Nat} : (List.drop n (x :: g) = a :: b :: g) = False := by
  refine eq_false fun h => ?_
  have := congrArg List.length h
  simp only [List.length_drop, List.length_cons] at this
  omega
/-- An answer from within a loop (whatever variables there are), or the loop's own end. -/
def QO' {ρ : Type} (mk : ρ → Tm) (k' : Out) (Q' : Tm) : Sum ρ Unit → Out → St → Prop := fun r o S => match r with
  | .inl r => o = .ret ∧ ∃ H g, Sub ⟨mk r, H, g⟩ S
  | .inr _ => o = k' ∧ ∃ g, Sub ⟨Q', [], g⟩ S
theorem up_qo' {ρ : Type} {mk : ρ → Tm} {k' : Out} {Q' : Tm} (r : Sum ρ Unit) : Up (QO' mk k' Q' r) := fun o S S' h hq => match r, hq with
  | .inl _, ⟨h1, H, g, h2⟩ => ⟨h1, H, g, h2.trans h⟩
  | .inr _, ⟨h1, g, h2⟩ => ⟨h1, g, h2.trans h⟩
end Go.Proofs.Ythmggkidmcgfoaa.Am
/- What the functions on numbers come to. -/
set_option linter.unusedVariables false
set_option linter.unusedSimpArgs false
namespace Go.Proofs.Ythmggkidmcgfoaa.Am
open Go Go.RowKit
theorem ty_Num_41 : type_of% (ai (ai (ai (ai @rs41 @lv41_0) (ai @lv41_1 (ai @lv41_2 @lv41_3))) (ai (ai @und3 @sz3) (ai @ag3 (ai @lv3 @inf3)))) (ai (ai (ai @und4 @sz4) (ai @ag4 (ai @lv4 @inf4))) (ai (ai @und32 @sz32) (ai @ag32 (ai @lv32 @inf32))))) := (ai (ai (ai (ai @rs41 @lv41_0) (ai @lv41_1 (ai @lv41_2 @lv41_3))) (ai (ai @und3 @sz3) (ai @ag3 (ai @lv3 @inf3)))) (ai (ai (ai @und4 @sz4) (ai @ag4 (ai @lv4 @inf4))) (ai (ai @und32 @sz32) (ai @ag32 (ai @lv32 @inf32)))))
theorem ty_Num_58 : type_of% (ai (ai (ai (ai @rs58 (ai @lv58_0 @lv58_1)) (ai (ai @lv58_2 @lv58_3) (ai @lv58_4 @lv58_5))) (ai (ai @lv58_6 (ai @lv58_7 @und3)) (ai (ai @sz3 @ag3) (ai @lv3 @inf3)))) (ai (ai (ai @und4 (ai @sz4 @ag4)) (ai (ai @lv4 @inf4) (ai @und29 @sz29))) (ai (ai @ag29 (ai @inf29 @und32)) (ai (ai @sz32 @ag32) (ai @lv32 @inf32))))) := (ai (ai (ai (ai @rs58 (ai @lv58_0 @lv58_1)) (ai (ai @lv58_2 @lv58_3) (ai @lv58_4 @lv58_5))) (ai (ai @lv58_6 (ai @lv58_7 @und3)) (ai (ai @sz3 @ag3) (ai @lv3 @inf3)))) (ai (ai (ai @und4 (ai @sz4 @ag4)) (ai (ai @lv4 @inf4) (ai @und29 @sz29))) (ai (ai @ag29 (ai @inf29 @und32)) (ai (ai @sz32 @ag32) (ai @lv32 @inf32)))))
theorem ty_Num_63 : type_of% (ai (ai (ai @rs63 @lv63_0) (ai @lv63_1 @und3)) (ai (ai @sz3 @ag3) (ai @lv3 @inf3))) := (ai (ai (ai @rs63 @lv63_0) (ai @lv63_1 @und3)) (ai (ai @sz3 @ag3) (ai @lv3 @inf3)))
theorem ty_Num_64 : type_of% (ai (ai (ai @rs64 @lv64_0) (ai @lv64_1 @und3)) (ai (ai @sz3 @ag3) (ai @lv3 @inf3))) := (ai (ai (ai @rs64 @lv64_0) (ai @lv64_1 @und3)) (ai (ai @sz3 @ag3) (ai @lv3 @inf3)))
theorem ty_Num_49 : type_of% (ai (ai (ai (ai @rs49 @lv49_0) (ai @lv49_1 (ai @und1 @sz1))) (ai (ai @ag1 @inf1) (ai @und3 (ai @sz3 @ag3)))) (ai (ai (ai @lv3 @inf3) (ai @und29 (ai @sz29 @ag29))) (ai (ai @inf29 (ai @und32 @sz32)) (ai @ag32 (ai @lv32 @inf32))))) := (ai (ai (ai (ai @rs49 @lv49_0) (ai @lv49_1 (ai @und1 @sz1))) (ai (ai @ag1 @inf1) (ai @und3 (ai @sz3 @ag3)))) (ai (ai (ai @lv3 @inf3) (ai @und29 (ai @sz29 @ag29))) (ai (ai @inf29 (ai @und32 @sz32)) (ai @ag32 (ai @lv32 @inf32)))))
theorem ty_Num_50 : type_of% (ai (ai (ai (ai @rs50 @lv50_0) (ai @lv50_1 (ai @und1 @sz1))) (ai (ai @ag1 @inf1) (ai @und3 (ai @sz3 @ag3)))) (ai (ai (ai @lv3 @inf3) (ai @und29 (ai @sz29 @ag29))) (ai (ai @inf29 (ai @und32 @sz32)) (ai @ag32 (ai @lv32 @inf32))))) := (ai (ai (ai (ai @rs50 @lv50_0) (ai @lv50_1 (ai @und1 @sz1))) (ai (ai @ag1 @inf1) (ai @und3 (ai @sz3 @ag3)))) (ai (ai (ai @lv3 @inf3) (ai @und29 (ai @sz29 @ag29))) (ai (ai @inf29 (ai @und32 @sz32)) (ai @ag32 (ai @lv32 @inf32)))))
theorem ty_Num_7 : type_of% (ai (ai (ai @rs7 (ai @lv7_0 @lv7_1)) (ai (ai @lv7_2 @lv7_3) (ai @und3 @sz3))) (ai (ai (ai @ag3 @lv3) (ai @inf3 @und4)) (ai (ai @sz4 @ag4) (ai @lv4 @inf4)))) := (ai (ai (ai @rs7 (ai @lv7_0 @lv7_1)) (ai (ai @lv7_2 @lv7_3) (ai @und3 @sz3))) (ai (ai (ai @ag3 @lv3) (ai @inf3 @und4)) (ai (ai @sz4 @ag4) (ai @lv4 @inf4))))
set_option maxRecDepth 100000
set_option maxHeartbeats 4000000
def chk (n : Int) : Int := if n < -1099511627776 ∨ n > 1099511627776 then 7 else 0
theorem ret_Check (n : Int) : Ret tab 41 [.d (.int .i64 (n))] (.d (.int .i64 (chk n))) := by
  refine ret_of (1) fn41 rfl rfl ?_
  simp only [amr, amc, amp, if_true, if_false, ne_eq, gt_iff_lt, Option.getD, argsT, Option.bind, Option.map, List.headD, List.tail, opnsL, List.replicate, lendsL, seval, ty_Num_41]
  repeat' ((first | refine good_ci (fun h => ?_) (fun h => ?_) | refine good_cgt (fun h => ?_) (fun h => ?_) | refine good_cgf (fun h => ?_) (fun h => ?_) | refine good_cqgt (fun h => ?_) (fun h => ?_) | refine good_cqgf (fun h => ?_) (fun h => ?_)) <;> simp only [amr, amc, amp, if_true, if_false, ne_eq, gt_iff_lt, Option.getD, argsT, Option.bind, Option.map, List.headD, List.tail, opnsL, List.replicate, lendsL, seval, ty_Num_41, h])
  all_goals (simp_all [chk])
theorem ca_Check {d dst : Nat} {S : St} (n : Int) : callA tab (callR tab) d dst 41 [.d (.int .i64 (n))] S = some (.d (.int .i64 (chk n)), S) :=
  ca_ret (ds := [.int .i64 (n)]) (ret_Check n) rfl (tab_opn (by kernel_rfl)) (tab_res (by kernel_rfl))
/-- The bounded result of an operation. -/
def numW (a b r : Int) : Int × Int := if (chk a != 0) = true ∨ (chk b != 0) = true then (0, 7) else if (chk r != 0) = true then (0, chk r) else (r, 0)
theorem ret_num2 (a b r : Int) (k : Nat) (hk : Ret tab k [.d (.int .i64 a), .d (.int .i64 b)] (.d (.int .i64 r))) (ho : tab.opn k = false) (hr : Plain k) : Ret tab 58 [.d (.int .i64 (a)), .d (.int .i64 (b)), .d (.fn k [])] (.tup [.d (.int .i64 ((numW a b r).1)), .d (.int .i64 ((numW a b r).2))]) := by
  have ck : ∀ {S : St} {d dst : Nat}, callA tab (callR tab) d dst k [.d (.int .i64 a), .d (.int .i64 b)] S = some (.d (.int .i64 r), S) := ca_ret (ds := [.int .i64 a, .int .i64 b]) hk rfl ho hr
  refine ret_of (1) fn58 rfl rfl ?_
  simp only [amr, amc, amp, if_true, if_false, ne_eq, gt_iff_lt, Option.getD, argsT, Option.bind, Option.map, List.headD, List.tail, opnsL, List.replicate, lendsL, seval, ty_Num_58, ca_Check, ck]
  repeat' ((first | refine good_ci (fun h => ?_) (fun h => ?_) | refine good_cgt (fun h => ?_) (fun h => ?_) | refine good_cgf (fun h => ?_) (fun h => ?_) | refine good_cqgt (fun h => ?_) (fun h => ?_) | refine good_cqgf (fun h => ?_) (fun h => ?_)) <;> simp only [amr, amc, amp, if_true, if_false, ne_eq, gt_iff_lt, Option.getD, argsT, Option.bind, Option.map, List.headD, List.tail, opnsL, List.replicate, lendsL, seval, ty_Num_58, ca_Check, ck, h])
  all_goals (simp [numW, *])
theorem ca_num2 {d dst : Nat} {S : St} (a b r : Int) (k : Nat) (hk : Ret tab k [.d (.int .i64 a), .d (.int .i64 b)] (.d (.int .i64 r))) (ho : tab.opn k = false) (hr : Plain k) : callA tab (callR tab) d dst 58 [.d (.int .i64 (a)), .d (.int .i64 (b)), .d (.fn k [])] S = some (.tup [.d (.int .i64 ((numW a b r).1)), .d (.int .i64 ((numW a b r).2))], S) :=
  ca_ret_tup (ds := [.int .i64 (a), .int .i64 (b), .fn k []]) (ys := [.int .i64 ((numW a b r).1), .int .i64 ((numW a b r).2)]) (ret_num2 a b r k hk ho hr) rfl (tab_opn (by kernel_rfl)) (tab_res (by kernel_rfl)) rfl
theorem ret_Add1 (a b : Int) : Ret tab 63 [.d (.int .i64 (a)), .d (.int .i64 (b))] (.d (.int .i64 (IntKind.i64.wrap (a + b)))) := by
  refine ret_of (1) fn63 rfl rfl ?_
  simp only [amr, amc, amp, if_true, if_false, ne_eq, gt_iff_lt, Option.getD, argsT, Option.bind, Option.map, List.headD, List.tail, opnsL, List.replicate, lendsL, seval, ty_Num_63]
  repeat' ((first | refine good_ci (fun h => ?_) (fun h => ?_) | refine good_cgt (fun h => ?_) (fun h => ?_) | refine good_cgf (fun h => ?_) (fun h => ?_) | refine good_cqgt (fun h => ?_) (fun h => ?_) | refine good_cqgf (fun h => ?_) (fun h => ?_)) <;> simp only [amr, amc, amp, if_true, if_false, ne_eq, gt_iff_lt, Option.getD, argsT, Option.bind, Option.map, List.headD, List.tail, opnsL, List.replicate, lendsL, seval, ty_Num_63, h])
  all_goals (simp)
theorem ca_Add1 {d dst : Nat} {S : St} (a b : Int) : callA tab (callR tab) d dst 63 [.d (.int .i64 (a)), .d (.int .i64 (b))] S = some (.d (.int .i64 (IntKind.i64.wrap (a + b))), S) :=
  ca_ret (ds := [.int .i64 (a), .int .i64 (b)]) (ret_Add1 a b) rfl (tab_opn (by kernel_rfl)) (tab_res (by kernel_rfl))
theorem ret_Sub1 (a b : Int) : Ret tab 64 [.d (.int .i64 (a)), .d (.int .i64 (b))] (.d (.int .i64 (IntKind.i64.wrap (a - b)))) := by
  refine ret_of (1) fn64 rfl rfl ?_
  simp only [amr, amc, amp, if_true, if_false, ne_eq, gt_iff_lt, Option.getD, argsT, Option.bind, Option.map, List.headD, List.tail, opnsL, List.replicate, lendsL, seval, ty_Num_64]
  repeat' ((first | refine good_ci (fun h => ?_) (fun h => ?_) | refine good_cgt (fun h => ?_) (fun h => ?_) | refine good_cgf (fun h => ?_) (fun h => ?_) | refine good_cqgt (fun h => ?_) (fun h => ?_) | refine good_cqgf (fun h => ?_) (fun h => ?_)) <;> simp only [amr, amc, amp, if_true, if_false, ne_eq, gt_iff_lt, Option.getD, argsT, Option.bind, Option.map, List.headD, List.tail, opnsL, List.replicate, lendsL, seval, ty_Num_64, h])
  all_goals (simp)
theorem ca_Sub1 {d dst : Nat} {S : St} (a b : Int) : callA tab (callR tab) d dst 64 [.d (.int .i64 (a)), .d (.int .i64 (b))] S = some (.d (.int .i64 (IntKind.i64.wrap (a - b))), S) :=
  ca_ret (ds := [.int .i64 (a), .int .i64 (b)]) (ret_Sub1 a b) rfl (tab_opn (by kernel_rfl)) (tab_res (by kernel_rfl))
theorem ret_Add (a b : Int) : Ret tab 49 [.d (.int .i64 (a)), .d (.int .i64 (b))] (.tup [.d (.int .i64 ((numW a b (IntKind.i64.wrap (a + b))).1)), .d (.int .i64 ((numW a b (IntKind.i64.wrap (a + b))).2))]) := by
  refine ret_of (1) fn49 rfl rfl ?_
  simp only [amr, amc, amp, if_true, if_false, ne_eq, gt_iff_lt, Option.getD, argsT, Option.bind, Option.map, List.headD, List.tail, opnsL, List.replicate, lendsL, seval, ty_Num_49, ca_num2 a b _ _ (ret_Add1 a b) (tab_opn (by kernel_rfl)) (tab_res (by kernel_rfl))]
  repeat' ((first | refine good_ci (fun h => ?_) (fun h => ?_) | refine good_cgt (fun h => ?_) (fun h => ?_) | refine good_cgf (fun h => ?_) (fun h => ?_) | refine good_cqgt (fun h => ?_) (fun h => ?_) | refine good_cqgf (fun h => ?_) (fun h => ?_)) <;> simp only [amr, amc, amp, if_true, if_false, ne_eq, gt_iff_lt, Option.getD, argsT, Option.bind, Option.map, List.headD, List.tail, opnsL, List.replicate, lendsL, seval, ty_Num_49, ca_num2 a b _ _ (ret_Add1 a b) (tab_opn (by kernel_rfl)) (tab_res (by kernel_rfl)), h])
  all_goals (simp)
theorem ca_Add {d dst : Nat} {S : St} (a b : Int) : callA tab (callR tab) d dst 49 [.d (.int .i64 (a)), .d (.int .i64 (b))] S = some (.tup [.d (.int .i64 ((numW a b (IntKind.i64.wrap (a + b))).1)), .d (.int .i64 ((numW a b (IntKind.i64.wrap (a + b))).2))], S) :=
  ca_ret_tup (ds := [.int .i64 (a), .int .i64 (b)]) (ys := [.int .i64 ((numW a b (IntKind.i64.wrap (a + b))).1), .int .i64 ((numW a b (IntKind.i64.wrap (a + b))).2)]) (ret_Add a b) rfl (tab_opn (by kernel_rfl)) (tab_res (by kernel_rfl)) rfl
theorem ret_Sub (a b : Int) : Ret tab 50 [.d (.int .i64 (a)), .d (.int .i64 (b))] (.tup [.d (.int .i64 ((numW a b (IntKind.i64.wrap (a - b))).1)), .d (.int .i64 ((numW a b (IntKind.i64.wrap (a - b))).2))]) := by
  refine ret_of (1) fn50 rfl rfl ?_
  simp only [amr, amc, amp, if_true, if_false, ne_eq, gt_iff_lt, Option.getD, argsT, Option.bind, Option.map, List.headD, List.tail, opnsL, List.replicate, lendsL, seval, ty_Num_50, ca_num2 a b _ _ (ret_Sub1 a b) (tab_opn (by kernel_rfl)) (tab_res (by kernel_rfl))]
  repeat' ((first | refine good_ci (fun h => ?_) (fun h => ?_) | refine good_cgt (fun h => ?_) (fun h => ?_) | refine good_cgf (fun h => ?_) (fun h => ?_) | refine good_cqgt (fun h => ?_) (fun h => ?_) | refine good_cqgf (fun h => ?_) (fun h => ?_)) <;> simp only [amr, amc, amp, if_true, if_false, ne_eq, gt_iff_lt, Option.getD, argsT, Option.bind, Option.map, List.headD, List.tail, opnsL, List.replicate, lendsL, seval, ty_Num_50, ca_num2 a b _ _ (ret_Sub1 a b) (tab_opn (by kernel_rfl)) (tab_res (by kernel_rfl)), h])
  all_goals (simp)
theorem ca_Sub {d dst : Nat} {S : St} (a b : Int) : callA tab (callR tab) d dst 50 [.d (.int .i64 (a)), .d (.int .i64 (b))] S = some (.tup [.d (.int .i64 ((numW a b (IntKind.i64.wrap (a - b))).1)), .d (.int .i64 ((numW a b (IntKind.i64.wrap (a - b))).2))], S) :=
  ca_ret_tup (ds := [.int .i64 (a), .int .i64 (b)]) (ys := [.int .i64 ((numW a b (IntKind.i64.wrap (a - b))).1), .int .i64 ((numW a b (IntKind.i64.wrap (a - b))).2)]) (ret_Sub a b) rfl (tab_opn (by kernel_rfl)) (tab_res (by kernel_rfl)) rfl
/-- A number taken into 0 .. many-1. -/
def pick (n many : Int) : Int := (if n < 0 then IntKind.i64.wrap (0 - IntKind.i64.wrap (n + 1)) else n).tmod many
theorem ret_picked (n many : Int) (h0 : many ≠ 0) : Ret tab 7 [.d (.int .i64 (n)), .d (.int .i64 (many))] (.d (.int .i64 (pick n many))) := by
  refine ret_of (1) fn7 rfl rfl ?_
  simp only [amr, amc, amp, if_true, if_false, ne_eq, gt_iff_lt, Option.getD, argsT, Option.bind, Option.map, List.headD, List.tail, opnsL, List.replicate, lendsL, seval, ty_Num_7, h0]
  repeat' ((first | refine good_ci (fun h => ?_) (fun h => ?_) | refine good_cgt (fun h => ?_) (fun h => ?_) | refine good_cgf (fun h => ?_) (fun h => ?_) | refine good_cqgt (fun h => ?_) (fun h => ?_) | refine good_cqgf (fun h => ?_) (fun h => ?_)) <;> simp only [amr, amc, amp, if_true, if_false, ne_eq, gt_iff_lt, Option.getD, argsT, Option.bind, Option.map, List.headD, List.tail, opnsL, List.replicate, lendsL, seval, ty_Num_7, h0, h])
  all_goals (first | (simp_all [pick]; done) | (unfold pick; rw [if_neg (by simp_all)]))
theorem ca_picked {d dst : Nat} {S : St} (n many : Int) (h0 : many ≠ 0) : callA tab (callR tab) d dst 7 [.d (.int .i64 (n)), .d (.int .i64 (many))] S = some (.d (.int .i64 (pick n many)), S) :=
  ca_ret (ds := [.int .i64 (n), .int .i64 (many)]) (ret_picked n many h0) rfl (tab_opn (by kernel_rfl)) (tab_res (by kernel_rfl))
def small (n : Int) : Int := IntKind.i64.wrap (pick n 2199023255553 - 1099511627776)
end Go.Proofs.Ythmggkidmcgfoaa.Am
/- Ranges of the numbers that the statements on numbers work with. -/
set_option linter.unusedVariables false
set_option linter.unusedSimpArgs false
namespace Go.Proofs.Ythmggkidmcgfoaa.Am
open Go Go.RowKit
set_option maxRecDepth 100000
theorem pick_range (n many : Int) (h0 : -9223372036854775808 ≤ n) (h1 : n ≤ 9223372036854775807) (hm : 0 < many) : 0 ≤ pick n many ∧ pick n many < many := by
  unfold pick
  split
  · have e1 : IntKind.i64.wrap (n + 1) = n + 1 := by rw [IntKind.wrap_i64]; omega
    have e2 : IntKind.i64.wrap (0 - (n + 1)) = 0 - (n + 1) := by rw [IntKind.wrap_i64]; omega
    rw [e1, e2, Int.tmod_eq_emod_of_nonneg (by omega)]
    exact ⟨Int.emod_nonneg _ (by omega), Int.emod_lt_of_pos _ hm⟩
  · rw [Int.tmod_eq_emod_of_nonneg (by omega)]
    exact ⟨Int.emod_nonneg _ (by omega), Int.emod_lt_of_pos _ hm⟩
theorem small_range (n : Int) (h0 : -9223372036854775808 ≤ n) (h1 : n ≤ 9223372036854775807) : -1099511627776 ≤ small n ∧ small n ≤ 1099511627776 := by
  have := pick_range n 2199023255553 h0 h1 (by decide)
  unfold small
  rw [IntKind.wrap_i64]
  omega
theorem chk_in {n : Int} (h0 : -1099511627776 ≤ n) (h1 : n ≤ 1099511627776) : chk n = 0 := by unfold chk; rw [if_neg (by omega)]
theorem numW_in {a b r : Int} (ha : chk a = 0) (hb : chk b = 0) : numW a b r = if -1099511627776 ≤ r ∧ r ≤ 1099511627776 then (r, 0) else (0, 7) := by
  unfold numW
  rw [ha, hb]
  simp only [bne_self_eq_false, Bool.false_eq_true, or_self, if_false]
  by_cases h : -1099511627776 ≤ r ∧ r ≤ 1099511627776
  · rw [chk_in h.1 h.2, if_pos h]; rfl
  · have : chk r = 7 := by unfold chk; rw [if_pos (by omega)]
    rw [this, if_neg h]; rfl
theorem wrap_in {n : Int} (h0 : -9223372036854775808 ≤ n) (h1 : n ≤ 9223372036854775807) : IntKind.i64.wrap n = n := by rw [IntKind.wrap_i64]; omega
def Num (n : Int) : Prop := -1099511627776 ≤ n ∧ n ≤ 1099511627776
theorem numW_ok {a b r : Int} (ha : Num a) (hb : Num b) (hr : Num r) : numW a b r = (r, 0) := by rw [numW_in (chk_in ha.1 ha.2) (chk_in hb.1 hb.2), if_pos (show _ ∧ _ from hr)]
theorem numW_over {a b r : Int} (ha : Num a) (hb : Num b) (hr : ¬ Num r) : numW a b r = (0, 7) := by rw [numW_in (chk_in ha.1 ha.2) (chk_in hb.1 hb.2), if_neg (show ¬ (_ ∧ _) from hr)]
theorem small_num {n : Int} (h : -9223372036854775808 ≤ n ∧ n ≤ 9223372036854775807) : Num (small n) := small_range n h.1 h.2
end Go.Proofs.Ythmggkidmcgfoaa.Am
/- The program's plain types. -/
set_option linter.unusedVariables false
set_option linter.unusedSimpArgs false
namespace Go.Proofs.Ythmggkidmcgfoaa.Am
open Go Go.RowKit
abbrev Str := List UInt8
structure Val where
  kind : Int
  n : Int
  s : List UInt8
def Val.dv (p : Val) : DV := .agg [.int .i64 p.kind, .int .i64 p.n, .str p.s]
theorem Val.eta {p : Val} : Val.mk p.kind p.n p.s = p := rfl

structure Token where
  kind : Int
  at_ : Int
  s : List UInt8
  v : Val
def Token.dv (p : Token) : DV := .agg [.int .i64 p.kind, .int .i64 p.at_, .str p.s, .int .i64 p.v.kind, .int .i64 p.v.n, .str p.v.s]
theorem Token.eta {p : Token} : Token.mk p.kind p.at_ p.s p.v = p := rfl

structure Timer where
  id : Int
  at_ : Int
def Timer.dv (p : Timer) : DV := .agg [.int .i64 p.id, .int .i64 p.at_]
theorem Timer.eta {p : Timer} : Timer.mk p.id p.at_ = p := rfl

structure Raw where
  kind : Int
  a : Int
  b : Int
  text : List UInt8
def Raw.dv (p : Raw) : DV := .agg [.int .i64 p.kind, .int .i64 p.a, .int .i64 p.b, .str p.text]
theorem Raw.eta {p : Raw} : Raw.mk p.kind p.a p.b p.text = p := rfl

structure Fact where
  name : List UInt8
  key : Val
  has : Val
def Fact.dv (p : Fact) : DV := .agg [.str p.name, .int .i64 p.key.kind, .int .i64 p.key.n, .str p.key.s, .int .i64 p.has.kind, .int .i64 p.has.n, .str p.has.s]
theorem Fact.eta {p : Fact} : Fact.mk p.name p.key p.has = p := rfl

structure Cal where
  state : Int
  id : Int
  tries : Int
  key : Val
  has : Val
  next : Int
def Cal.dv (p : Cal) : DV := .agg [.int .i64 p.state, .int .i64 p.id, .int .i64 p.tries, .int .i64 p.key.kind, .int .i64 p.key.n, .str p.key.s, .int .i64 p.has.kind, .int .i64 p.has.n, .str p.has.s, .int .i64 p.next]
theorem Cal.eta {p : Cal} : Cal.mk p.state p.id p.tries p.key p.has p.next = p := rfl

structure Letter where
  field : List UInt8
  id : Int
  key : Val
  answer : Val
def Letter.dv (p : Letter) : DV := .agg [.str p.field, .int .i64 p.id, .int .i64 p.key.kind, .int .i64 p.key.n, .str p.key.s, .int .i64 p.answer.kind, .int .i64 p.answer.n, .str p.answer.s]
theorem Letter.eta {p : Letter} : Letter.mk p.field p.id p.key p.answer = p := rfl

def Val.zero : Val := ⟨0, 0, []⟩
def Cal.zero : Cal := ⟨0, 0, 0, Val.zero, Val.zero, 0⟩
def Token.zero : Token := ⟨0, 0, [], Val.zero⟩
/-- A list that grows at one place, or has not begun to. -/
def tokI (dst : Nat) : Option (List Nat) → Option Id
  | none => none
  | some g => some ⟨0, dst, 0 :: g⟩
def tokH (dst : Nat) (n : Nat) : Option (List Nat) → Heap
  | none => []
  | some g => [(⟨0, dst, 0 :: g⟩, .grow n)]
end Go.Proofs.Ythmggkidmcgfoaa.Am
/- Lists of the library's, cloned and compared. -/
set_option linter.unusedVariables false
set_option linter.unusedSimpArgs false
namespace Go.Proofs.Ythmggkidmcgfoaa.Am
open Go Go.RowKit
set_option maxRecDepth 100000
set_option maxHeartbeats 4000000

def EXx {α : Type} (k : Out) (mk : α → St) (P : α → Prop) : Out → St → Prop := fun o S => o = k ∧ ∃ x, P x ∧ Sub (mk x) S
theorem up_exx {α : Type} {k : Out} {mk : α → St} {P : α → Prop} : Up (EXx k mk P) := fun o S S' h ⟨h1, x, h2, h3⟩ => ⟨h1, x, h2, h3.trans h⟩
theorem allD_map : ∀ l : List DV, allD (l.map .d) = some l
  | [] => rfl
  | x :: r => by simp [allD, toDc, allD_map r]
theorem chop_flat (sz : Nat) : ∀ (xs : List DV), (∀ x ∈ xs, x.cells.length = sz ∧ (if sz = 1 then x.leaf = true else ∃ cs, x = .agg cs)) → chop sz xs.length (xs.flatMap DV.cells) = xs
  | [], _ => rfl
  | x :: r, h => by
    obtain ⟨h1, h2⟩ := h x (by simp)
    have ih := chop_flat sz r (fun y hy => h y (by simp [hy]))
    have ht : (x.cells ++ r.flatMap DV.cells).take sz = x.cells := by rw [← h1]; simp
    have hd : (x.cells ++ r.flatMap DV.cells).drop sz = r.flatMap DV.cells := by rw [← h1]; simp
    simp only [List.length_cons, chop, List.flatMap_cons, ht, hd, ih]
    by_cases hs : sz = 1
    · rw [if_pos hs] at h2 ⊢
      rw [dcells_leaf h2]
      rfl
    · rw [if_neg hs] at h2 ⊢
      obtain ⟨cs, rfl⟩ := h2
      rfl
theorem flatD_append (xs ys : List DV) : flatD (xs ++ ys) = flatD xs ++ flatD ys := by simp [flatD]
/-- Elements of one size. -/
def Elt (sz : Nat) (x : DV) : Prop := x.cells.length = sz ∧ (if sz = 1 then x.leaf = true else ∃ cs, x = .agg cs)
theorem flatD_len {sz : Nat} : ∀ (xs : List DV), (∀ x ∈ xs, Elt sz x) → (flatD xs).length = xs.length * sz
  | [], _ => by simp [flatD]
  | x :: r, h => by
    have ih := flatD_len r fun y hy => h y (by simp [hy])
    have h1 := (h x (by simp)).1
    simp only [flatD, List.flatMap_cons, List.map_append, List.length_append, List.length_map] at ih ⊢
    rw [ih, h1, List.length_cons, Nat.add_mul]
    omega
/-- A list that can be written to, as it stands. -/
theorem frz_list {H : Heap} {id : Id} {sz n : Nat} {xs : List DV} {rest : List AV} (hg : H.get id = some (.box (flatD xs ++ rest))) (hn : n = xs.length) (hs : 0 < sz) (hx : ∀ x ∈ xs, Elt sz x) :
    frzB H (.arr id 0 n sz) = .d (.sl sz xs) := by
  subst hn
  have hl := flatD_len xs hx
  have hl2 : (xs.flatMap DV.cells).length = xs.length * sz := by simpa [flatD] using hl
  show frzV H (.arr id 0 xs.length sz) = _
  unfold frzV
  simp only [hg, List.drop_zero]
  rw [← hl, List.take_left, hl]
  unfold flatD
  simp only [allD_map, hl2, hs, and_self, if_true]
  rw [chop_flat sz xs hx]
theorem frz_list0 {H : Heap} {id : Id} {sz n : Nat} {xs : List DV} (hg : H.get id = some (.box (flatD xs))) (hn : n = xs.length) (hs : 0 < sz) (hx : ∀ x ∈ xs, Elt sz x) :
    frzB H (.arr id 0 n sz) = .d (.sl sz xs) := frz_list (rest := []) (by simpa using hg) hn hs hx
/-- A closed call of a list that answers a list of its own. -/
theorem ca_frz {d dst f : Nat} {S : St} {args : List AV} {ds : List DV} {y : DV} (h : RetD tab f (ds.map .d) y) (ha : toDs args = some ds) (ho : tab.opn f = false) (hr : tab.res f = none) (ht : tab.thaw f dst = none) (hpr : tab.prim f = none := by exact tab_nprim (by kernel_rfl)) : callA tab (callR tab) d dst f args S = some (.d y, S) := by
  obtain ⟨x, H, h, hq, hx⟩ := h
  exact call_closed h ha rfl ho hr ht hq hx hpr
theorem fin_cells {X R Z : List AV} {k s : Nat} (h1 : X.length = k) (h2 : R.length = s) : List.take k (X ++ R) ++ Z ++ List.drop (k + s) (X ++ R) = X ++ Z := by
  rw [← h1, List.take_left, List.drop_eq_nil_of_le (by rw [List.length_append]; omega), List.append_nil]
theorem ids_flat (xs : List DV) : idsL (flatD xs) = [] := by
  unfold flatD
  generalize xs.flatMap DV.cells = l
  induction l with
  | nil => rfl
  | cons x r ih => simp only [List.map_cons, idsL, List.flatMap_cons] at ih ⊢; rw [ih]; rfl
theorem ids_app (a b : List AV) : idsL (a ++ b) = idsL a ++ idsL b := by simp [idsL]
theorem soft_arr {f : Nat} {id : Id} {off n sz : Nat} : soft tab f (.arr id off n sz) = .arr id off n sz := by
  unfold soft
  split <;> rfl
structure KG where
  k : Nat
  g : List Nat
end Go.Proofs.Ythmggkidmcgfoaa.Am
/- Values: made of raw things, checked, compared. -/
set_option linter.unusedVariables false
set_option linter.unusedSimpArgs false
namespace Go.Proofs.Ythmggkidmcgfoaa.Am
open Go Go.RowKit
theorem ty_Val_29 : type_of% (ai (ai (ai (ai @rs29 (ai @lv29_0 @lv29_1)) (ai (ai @mu9_13 @lv29_2) (ai @lv29_3 @lv29_4))) (ai (ai (ai @lv29_5 @lv29_6) (ai @lv29_7 @kp29_3)) (ai (ai @und3 @sz3) (ai @ag3 @lv3)))) (ai (ai (ai (ai @inf3 @und5) (ai @sz5 @ag5)) (ai (ai @lv5 @inf5) (ai @und9 @sz9))) (ai (ai (ai @ag9 @lv9) (ai @inf9 @und88)) (ai (ai @sz88 @ag88) (ai @pT88 @inf88))))) := (ai (ai (ai (ai @rs29 (ai @lv29_0 @lv29_1)) (ai (ai @mu9_13 @lv29_2) (ai @lv29_3 @lv29_4))) (ai (ai (ai @lv29_5 @lv29_6) (ai @lv29_7 @kp29_3)) (ai (ai @und3 @sz3) (ai @ag3 @lv3)))) (ai (ai (ai (ai @inf3 @und5) (ai @sz5 @ag5)) (ai (ai @lv5 @inf5) (ai @und9 @sz9))) (ai (ai (ai @ag9 @lv9) (ai @inf9 @und88)) (ai (ai @sz88 @ag88) (ai @pT88 @inf88)))))
theorem ty_Val_18 : type_of% (ai (ai (ai (ai (ai @rs18 (ai @lv18_0 @ro58_3_raw_go_53)) (ai @lv18_1 (ai @lv18_2 @lv18_3))) (ai (ai @lv18_4 (ai @lv18_5 @lv18_6)) (ai @lv18_7 (ai @lv18_8 @und1)))) (ai (ai (ai @sz1 (ai @ag1 @inf1)) (ai @und3 (ai @sz3 @ag3))) (ai (ai @lv3 (ai @inf3 @und4)) (ai (ai @sz4 @ag4) (ai @lv4 @inf4))))) (ai (ai (ai (ai @und9 (ai @sz9 @ag9)) (ai @lv9 (ai @inf9 @und24))) (ai (ai @sz24 (ai @ag24 @fo24)) (ai @bA24 (ai @pT24_0 @pT24_1)))) (ai (ai (ai @pT24_2 (ai @lv24 @inf24)) (ai @und58 (ai @sz58 @ag58))) (ai (ai @fo58 (ai @bA58 @pT58_0)) (ai (ai @pT58_1 @pT58_2) (ai @pT58_3 @inf58)))))) := (ai (ai (ai (ai (ai @rs18 (ai @lv18_0 @ro58_3_raw_go_53)) (ai @lv18_1 (ai @lv18_2 @lv18_3))) (ai (ai @lv18_4 (ai @lv18_5 @lv18_6)) (ai @lv18_7 (ai @lv18_8 @und1)))) (ai (ai (ai @sz1 (ai @ag1 @inf1)) (ai @und3 (ai @sz3 @ag3))) (ai (ai @lv3 (ai @inf3 @und4)) (ai (ai @sz4 @ag4) (ai @lv4 @inf4))))) (ai (ai (ai (ai @und9 (ai @sz9 @ag9)) (ai @lv9 (ai @inf9 @und24))) (ai (ai @sz24 (ai @ag24 @fo24)) (ai @bA24 (ai @pT24_0 @pT24_1)))) (ai (ai (ai @pT24_2 (ai @lv24 @inf24)) (ai @und58 (ai @sz58 @ag58))) (ai (ai @fo58 (ai @bA58 @pT58_0)) (ai (ai @pT58_1 @pT58_2) (ai @pT58_3 @inf58))))))
theorem ty_Val_42 : type_of% (ai (ai (ai (ai (ai @rs42 @lv42_0) (ai @lv42_1 @lv42_2)) (ai (ai @lv42_3 @lv42_4) (ai @lv42_5 (ai @lv42_6 @lv42_7)))) (ai (ai (ai @lv42_8 @lv42_9) (ai @kp42_4 @und3)) (ai (ai @sz3 @ag3) (ai @lv3 (ai @inf3 @und4))))) (ai (ai (ai (ai @sz4 @ag4) (ai @lv4 @inf4)) (ai (ai @und5 @sz5) (ai @ag5 (ai @lv5 @inf5)))) (ai (ai (ai @und9 @sz9) (ai @ag9 (ai @lv9 @inf9))) (ai (ai @und32 @sz32) (ai @ag32 (ai @lv32 @inf32)))))) := (ai (ai (ai (ai (ai @rs42 @lv42_0) (ai @lv42_1 @lv42_2)) (ai (ai @lv42_3 @lv42_4) (ai @lv42_5 (ai @lv42_6 @lv42_7)))) (ai (ai (ai @lv42_8 @lv42_9) (ai @kp42_4 @und3)) (ai (ai @sz3 @ag3) (ai @lv3 (ai @inf3 @und4))))) (ai (ai (ai (ai @sz4 @ag4) (ai @lv4 @inf4)) (ai (ai @und5 @sz5) (ai @ag5 (ai @lv5 @inf5)))) (ai (ai (ai @und9 @sz9) (ai @ag9 (ai @lv9 @inf9))) (ai (ai @und32 @sz32) (ai @ag32 (ai @lv32 @inf32))))))
theorem ty_Val_30 : type_of% (ai (ai (ai (ai (ai (ai @rs30 @lv30_0) (ai @ro24_1_value_go_14 @lv30_1)) (ai (ai @lv30_3 @lv30_4) (ai @lv30_5 @lv30_6))) (ai (ai (ai @lv30_7 @lv30_8) (ai @lv30_9 @lv30_10)) (ai (ai @lv30_11 @lv30_12) (ai @lv30_13 @lv30_14)))) (ai (ai (ai (ai @lv30_15 @lv30_16) (ai @lv30_17 @lv30_18)) (ai (ai @lv30_19 @lv30_2) (ai @lv30_20 @lv30_21))) (ai (ai (ai @lv30_22 @und1) (ai @sz1 @ag1)) (ai (ai @inf1 @und2) (ai @sz2 @ag2))))) (ai (ai (ai (ai (ai @lv2 @inf2) (ai @und3 @sz3)) (ai (ai @ag3 @lv3) (ai @inf3 @und4))) (ai (ai (ai @sz4 @ag4) (ai @lv4 @inf4)) (ai (ai @und9 @sz9) (ai @ag9 @lv9)))) (ai (ai (ai (ai @inf9 @und24) (ai @sz24 @ag24)) (ai (ai @fo24 @bA24) (ai @pT24_0 @pT24_1))) (ai (ai (ai @pT24_2 @lv24) (ai @inf24 @und32)) (ai (ai @sz32 @ag32) (ai @lv32 @inf32)))))) := (ai (ai (ai (ai (ai (ai @rs30 @lv30_0) (ai @ro24_1_value_go_14 @lv30_1)) (ai (ai @lv30_3 @lv30_4) (ai @lv30_5 @lv30_6))) (ai (ai (ai @lv30_7 @lv30_8) (ai @lv30_9 @lv30_10)) (ai (ai @lv30_11 @lv30_12) (ai @lv30_13 @lv30_14)))) (ai (ai (ai (ai @lv30_15 @lv30_16) (ai @lv30_17 @lv30_18)) (ai (ai @lv30_19 @lv30_2) (ai @lv30_20 @lv30_21))) (ai (ai (ai @lv30_22 @und1) (ai @sz1 @ag1)) (ai (ai @inf1 @und2) (ai @sz2 @ag2))))) (ai (ai (ai (ai (ai @lv2 @inf2) (ai @und3 @sz3)) (ai (ai @ag3 @lv3) (ai @inf3 @und4))) (ai (ai (ai @sz4 @ag4) (ai @lv4 @inf4)) (ai (ai @und9 @sz9) (ai @ag9 @lv9)))) (ai (ai (ai (ai @inf9 @und24) (ai @sz24 @ag24)) (ai (ai @fo24 @bA24) (ai @pT24_0 @pT24_1))) (ai (ai (ai @pT24_2 @lv24) (ai @inf24 @und32)) (ai (ai @sz32 @ag32) (ai @lv32 @inf32))))))
theorem ty_Val_27 : type_of% (ai (ai (ai (ai (ai @rs27 @lv27_0) (ai @ro24_1_value_go_68 @lv27_1)) (ai (ai @und3 @sz3) (ai @ag3 @lv3))) (ai (ai (ai @inf3 @und4) (ai @sz4 @ag4)) (ai (ai @lv4 @inf4) (ai @und9 (ai @sz9 @ag9))))) (ai (ai (ai (ai @lv9 @inf9) (ai @und24 @sz24)) (ai (ai @ag24 @fo24) (ai @bA24 @pT24_0))) (ai (ai (ai @pT24_1 @pT24_2) (ai @lv24 @inf24)) (ai (ai @und32 @sz32) (ai @ag32 (ai @lv32 @inf32)))))) := (ai (ai (ai (ai (ai @rs27 @lv27_0) (ai @ro24_1_value_go_68 @lv27_1)) (ai (ai @und3 @sz3) (ai @ag3 @lv3))) (ai (ai (ai @inf3 @und4) (ai @sz4 @ag4)) (ai (ai @lv4 @inf4) (ai @und9 (ai @sz9 @ag9))))) (ai (ai (ai (ai @lv9 @inf9) (ai @und24 @sz24)) (ai (ai @ag24 @fo24) (ai @bA24 @pT24_0))) (ai (ai (ai @pT24_1 @pT24_2) (ai @lv24 @inf24)) (ai (ai @und32 @sz32) (ai @ag32 (ai @lv32 @inf32))))))
set_option maxRecDepth 100000
set_option maxHeartbeats 4000000

/-- A raw thing's numbers are numbers, its text is no longer than texts are. -/
structure Raw.ok (r : Raw) : Prop where
  kind : -9223372036854775808 ≤ r.kind ∧ r.kind ≤ 9223372036854775807
  a : -9223372036854775808 ≤ r.a ∧ r.a ≤ 9223372036854775807
  b : -9223372036854775808 ≤ r.b ∧ r.b ≤ 9223372036854775807
  text : r.text.length ≤ 9223372036854775807
/-- A sign that texts may have. -/
def cl (c : UInt8) : UInt8 := UInt8.ofNat (32 + c.toNat % 95)
theorem cl_val (c : UInt8) : ((cl c).toNat : Int) = 32 + (c.toNat : Int) % 95 := by
  unfold cl
  rw [UInt8.toNat_ofNat']
  omega
theorem cl_wrap (c : UInt8) : IntKind.u8.wrap (32 + (c.toNat : Int).tmod 95) = ((cl c).toNat : Int) := by
  rw [cl_val, Int.tmod_eq_emod_of_nonneg (by omega), IntKind.wrap_u8]
  omega
def cleanS (s : Str) (m : Nat) : Str := (s.take m).map cl
theorem bytes_head (u : Str) (i : Nat) (h : i < u.length) : (List.drop i (bytesAV u)).head? = some (.d (.int .u8 (u[i].toNat : Int))) := by
  rw [List.head?_drop]
  simp [bytesAV, h]
theorem bytes_set (u : Str) (i : Nat) (c : UInt8) (h : i < u.length) : List.take i (bytesAV u) ++ [.d (.int .u8 (c.toNat : Int))] ++ List.drop (i + 1) (bytesAV u) = bytesAV (u.set i c) := by
  unfold bytesAV
  rw [← List.map_take, ← List.map_drop, List.set_eq_take_append_cons_drop, if_pos h]
  simp
theorem ret_clean (s : Str) (m : Nat) (hs : s.length ≤ 9223372036854775807) (hm : m ≤ 1000) : Ret tab 29 [.d (.str (s)), .d (.int .i64 (m))] (.d (.str (cleanS s m))) := by
  refine ret_of (1002) fn29 rfl rfl ?_
  have hmin : (if (m : Int) < (s.length : Int) then (m : Int) else (s.length : Int)) = ((min m s.length : Nat) : Int) := by
    split <;> omega
  have hm1 : ((min m s.length : Nat) : Int) ≤ (s.length : Int) := by omega
  have htl : (s.take (min m s.length)).length = min m s.length := by rw [List.length_take]; omega
  have hcond : (s.take (min m s.length)).length ≤ 9223372036854775807 := by rw [htl]; omega
  have ht : s.take (min m s.length) = s.take m := by
    rcases Nat.le_total m s.length with h | h
    · rw [Nat.min_eq_left h]
    · rw [Nat.min_eq_right h, List.take_length, List.take_of_length_le h]
  simp only [amr, amc, amp, if_true, if_false, ne_eq, gt_iff_lt, Option.getD, argsT, Option.bind, Option.map, List.headD, List.tail, opnsL, List.replicate, lendsL, seval, ty_Val_29, hmin, hm1, hcond]
  unfold cleanS
  rw [← ht]
  rw [htl]
  have hlen1000 : min m s.length ≤ 1000 := by omega
  generalize hq : s.take (min m s.length) = t at *
  clear ht hq
  generalize min m s.length = q at *
  subst htl
  refine good_loopR (α := Nat) (fun i => i ≤ t.length) (fun i => ⟨[(5, .arr ⟨0, 14, [0]⟩ 0 t.length 1), (15, .arr ⟨0, 14, [0]⟩ 0 t.length 1), (16, .d (.int .i64 t.length)), (17, .d (.int .i64 i))], [(⟨0, 14, [0]⟩, .box (bytesAV ((t.take i).map cl ++ t.drop i)))], [1]⟩) (fun i => t.length - i)
    (fun _ => EX (.exit 0) ⟨[(5, .arr ⟨0, 14, [0]⟩ 0 t.length 1)], [(⟨0, 14, [0]⟩, .box (bytesAV (t.map cl)))], [1]⟩) 0 kp29_3 (fun _ => up_ex) (Nat.zero_le _) (by omega) ?_ ?_ ?_
  · intro i hi
    have hi' : i ≤ t.length := hi
    by_cases h1 : i < t.length
    · have hb : decide ((i : Int) < (t.length : Int)) = true := decide_eq_true (by omega)
      have hlt : (i : Int) < (t.length : Int) := by omega
      have w1 : IntKind.i64.wrap ((i : Int) + 1) = (i : Int) + 1 := wrap_in (by omega) (by omega)
      have hul : ((t.take i).map cl ++ t.drop i).length = t.length := by simp; omega
      have hu : i < ((t.take i).map cl ++ t.drop i).length := by omega
      have hui : ((t.take i).map cl ++ t.drop i)[i] = t[i] := by
        rw [List.getElem_append_right (by simp; omega)]
        simp
        congr 1
        omega
      have hset : ((t.take i).map cl ++ t.drop i).set i (cl t[i]) = (t.take (i + 1)).map cl ++ t.drop (i + 1) := by
        rw [List.set_append_right _ _ (by simp; omega)]
        have e1 : i - (List.map cl (List.take i t)).length = 0 := by simp; omega
        rw [e1, List.drop_eq_getElem_cons h1, List.set_cons_zero, List.take_succ_eq_append_getElem h1, List.map_append]
        simp
      have f1 := bytes_head _ i hu
      rw [hui] at f1
      have f2 := bytes_set ((t.take i).map cl ++ t.drop i) i (cl t[i]) hu
      rw [hset] at f2
      have f3 : i + 1 ≤ (bytesAV ((t.take i).map cl ++ t.drop i)).length := by simp only [bytesAV, List.length_map]; omega
      generalize bytesAV ((t.take i).map cl ++ t.drop i) = U at *
      simp only [amr, amc, amp, if_true, if_false, ne_eq, gt_iff_lt, Option.getD, argsT, Option.bind, Option.map, List.headD, List.tail, opnsL, List.replicate, lendsL, seval, ty_Val_29, hb, hlt, w1, Nat.mul_one, f1, f2, f3, cl_wrap]
      refine loop_nrm (i + 1) (show i + 1 ≤ t.length by omega) (show t.length - (i + 1) < t.length - i by omega) (fun _ _ h => h) ?_
      (first | exact sub_mk subT_nil | skip) <;> (try simp only [amr, amc, amp, if_true, if_false, ne_eq, gt_iff_lt, Option.getD, argsT, Option.bind, Option.map, List.headD, List.tail, opnsL, List.replicate, lendsL, seval]) <;> exact sub_mk (by repeat first | exact subT_nil | refine subT_cons (by first | rfl | simp [Tm.get, *]) ?_)
    · have hb : decide ((i : Int) < (t.length : Int)) = false := decide_eq_false (by omega)
      have hit : i = t.length := by omega
      simp only [amr, amc, amp, if_true, if_false, ne_eq, gt_iff_lt, Option.getD, argsT, Option.bind, Option.map, List.headD, List.tail, opnsL, List.replicate, lendsL, seval, ty_Val_29, hb]
      refine loop_end (by simp) ⟨rfl, ?_⟩
      rw [hit, List.take_length, List.drop_length, List.append_nil]
      (first | exact sub_mk subT_nil | skip) <;> (try simp only [amr, amc, amp, if_true, if_false, ne_eq, gt_iff_lt, Option.getD, argsT, Option.bind, Option.map, List.headD, List.tail, opnsL, List.replicate, lendsL, seval]) <;> exact sub_mk (by repeat first | exact subT_nil | refine subT_cons (by first | rfl | simp [Tm.get, *]) ?_)
  · simp only [List.take_zero, List.map_nil, List.nil_append, List.drop_zero]
    (first | exact sub_mk subT_nil | skip) <;> (try simp only [amr, amc, amp, if_true, if_false, ne_eq, gt_iff_lt, Option.getD, argsT, Option.bind, Option.map, List.headD, List.tail, opnsL, List.replicate, lendsL, seval]) <;> exact sub_mk (by repeat first | exact subT_nil | refine subT_cons (by first | rfl | simp [Tm.get, *]) ?_)
  · rintro o S' ⟨rfl, hs'⟩
    refine good_sub_cr up_fin hs' ?_
    have g1 : 0 + t.length ≤ (bytesAV (t.map cl)).length := by simp [bytesAV]
    have g2 : plainD ((bytesAV (t.map cl)).take t.length) = some ((t.map cl).map fun b => DV.int .u8 (b.toNat : Int)) := by
      rw [List.take_of_length_le (by simp [bytesAV]), bytesAV_eq, plainD_map]
    have g3 := strD_bytes (t.map cl)
    simp only [Nat.zero_add] at g1
    generalize t.map cl = V at *
    simp only [amr, amc, amp, if_true, if_false, ne_eq, gt_iff_lt, Option.getD, argsT, Option.bind, Option.map, List.headD, List.tail, opnsL, List.replicate, lendsL, seval, ty_Val_29, g1, g2, g3]
    repeat' ((first | refine good_ci (fun h => ?_) (fun h => ?_) | refine good_cgt (fun h => ?_) (fun h => ?_) | refine good_cgf (fun h => ?_) (fun h => ?_) | refine good_cqgt (fun h => ?_) (fun h => ?_) | refine good_cqgf (fun h => ?_) (fun h => ?_)) <;> simp only [amr, amc, amp, if_true, if_false, ne_eq, gt_iff_lt, Option.getD, argsT, Option.bind, Option.map, List.headD, List.tail, opnsL, List.replicate, lendsL, seval, ty_Val_29, g1, g2, g3, h])
theorem ca_clean {d dst : Nat} {S : St} (s : Str) (m : Nat) (hs : s.length ≤ 9223372036854775807) (hm : m ≤ 1000) : callA tab (callR tab) d dst 29 [.d (.str (s)), .d (.int .i64 (m))] S = some (.d (.str (cleanS s m)), S) :=
  ca_ret (ds := [.str (s), .int .i64 (m)]) (ret_clean s m hs hm) rfl (tab_opn (by kernel_rfl)) (tab_res (by kernel_rfl))
/-- A value of a kind, made of a raw thing. -/
def mkVal (k : Int) (r : Raw) : Val := if k = 1 then (if pick r.kind 7 = 0 then ⟨1, IntKind.i64.wrap (pick r.a 2199023255553 - 1099511627776), []⟩ else ⟨1, IntKind.i64.wrap (pick r.a 40 - 12), []⟩)
  else if k = 2 then ⟨2, pick r.a 2, []⟩ else ⟨3, 0, cleanS r.text 8⟩
theorem ret_Value (k : Int) (r : Raw) (hr : r.text.length ≤ 9223372036854775807) : Ret tab 18 [.d (.int .i64 (k)), .d (r.dv)] (.d ((mkVal k r).dv)) := by
  have hcl : ∀ {S : St} {d dst : Nat}, callA tab (callR tab) d dst 29 [.d (.str r.text), .d (.int .i64 8)] S = some (.d (.str (cleanS r.text 8)), S) := fun {S d dst} => ca_clean r.text 8 hr (by decide)
  refine ret_of (1) fn18 rfl rfl ?_
  simp only [amr, amc, amp, if_true, if_false, ne_eq, gt_iff_lt, Option.getD, argsT, Option.bind, Option.map, List.headD, List.tail, opnsL, List.replicate, lendsL, seval, ty_Val_18, Raw.dv, Val.dv, hcl, ca_picked r.kind 7 (by decide), ca_picked r.a 2199023255553 (by decide), ca_picked r.a 40 (by decide), ca_picked r.a 2 (by decide)]
  repeat' ((first | refine good_ci (fun h => ?_) (fun h => ?_) | refine good_cgt (fun h => ?_) (fun h => ?_) | refine good_cgf (fun h => ?_) (fun h => ?_) | refine good_cqgt (fun h => ?_) (fun h => ?_) | refine good_cqgf (fun h => ?_) (fun h => ?_)) <;> simp only [amr, amc, amp, if_true, if_false, ne_eq, gt_iff_lt, Option.getD, argsT, Option.bind, Option.map, List.headD, List.tail, opnsL, List.replicate, lendsL, seval, ty_Val_18, Raw.dv, Val.dv, hcl, ca_picked r.kind 7 (by decide), ca_picked r.a 2199023255553 (by decide), ca_picked r.a 40 (by decide), ca_picked r.a 2 (by decide), h])
  all_goals (simp_all [mkVal])
theorem cf_Value {d dst : Nat} {S : St} (k : Int) (r : Raw) (hr : r.text.length ≤ 9223372036854775807) : callA tab (callR tab) d dst 18 [.d (.int .i64 (k)), .d (r.dv)] S = some (.d ((mkVal k r).dv), S) :=
  ca_ret (ds := [.int .i64 (k), r.dv]) (ret_Value k r hr) rfl (tab_opn (by kernel_rfl)) (tab_res (by kernel_rfl))
theorem ca_Value {d dst : Nat} {S : St} (k : Int) (r_kind : Int) (r_a : Int) (r_b : Int) (r_text : List UInt8) (hr : (Raw.mk r_kind r_a r_b r_text).text.length ≤ 9223372036854775807) : callA tab (callR tab) d dst 18 [.d (.int .i64 (k)), .d (.agg [.int .i64 r_kind, .int .i64 r_a, .int .i64 r_b, .str r_text])] S = some (.d ((mkVal k (Raw.mk r_kind r_a r_b r_text)).dv), S) :=
  ca_ret (ds := [.int .i64 (k), .agg [.int .i64 r_kind, .int .i64 r_a, .int .i64 r_b, .str r_text]]) (ret_Value k (Raw.mk r_kind r_a r_b r_text) hr) rfl (tab_opn (by kernel_rfl)) (tab_res (by kernel_rfl))
def txtChk (s : Str) : Int := if (s.length : Int) > 40 then 1 else if s.all (fun c => !(decide ((c.toNat : Int) < 32) || decide ((c.toNat : Int) > 126))) = true then 0 else 3
theorem ret_checkText (s : Str) : Ret tab 42 [.d (.str (s))] (.d (.int .i64 (txtChk s))) := by
  refine ret_of (42) fn42 rfl rfl ?_
  by_cases h40 : (s.length : Int) > 40
  · have b1 : decide ((40 : Int) < (s.length : Int)) = true := decide_eq_true h40
    simp only [amr, amc, amp, if_true, if_false, ne_eq, gt_iff_lt, Option.getD, argsT, Option.bind, Option.map, List.headD, List.tail, opnsL, List.replicate, lendsL, seval, ty_Val_42, b1]
    repeat' ((first | refine good_ci (fun h => ?_) (fun h => ?_) | refine good_cgt (fun h => ?_) (fun h => ?_) | refine good_cgf (fun h => ?_) (fun h => ?_) | refine good_cqgt (fun h => ?_) (fun h => ?_) | refine good_cqgf (fun h => ?_) (fun h => ?_)) <;> simp only [amr, amc, amp, if_true, if_false, ne_eq, gt_iff_lt, Option.getD, argsT, Option.bind, Option.map, List.headD, List.tail, opnsL, List.replicate, lendsL, seval, ty_Val_42, b1, h])
    all_goals simp_all [txtChk]
  · have b1 : decide ((40 : Int) < (s.length : Int)) = false := decide_eq_false h40
    simp only [amr, amc, amp, if_true, if_false, ne_eq, gt_iff_lt, Option.getD, argsT, Option.bind, Option.map, List.headD, List.tail, opnsL, List.replicate, lendsL, seval, ty_Val_42, b1]
    have hc : txtChk s = if s.all (fun c => !(decide ((c.toNat : Int) < 32) || decide ((c.toNat : Int) > 126))) = true then 0 else 3 := by unfold txtChk; rw [if_neg h40]
    refine good_loopR (α := Nat) (fun i => i ≤ s.length ∧ s.all (fun c => !(decide ((c.toNat : Int) < 32) || decide ((c.toNat : Int) > 126))) = (s.drop i).all (fun c => !(decide ((c.toNat : Int) < 32) || decide ((c.toNat : Int) > 126))))
      (fun i => ⟨[(0, .d (.str s)), (8, .d (.int .i64 s.length)), (9, .d (.int .i64 i))], [], []⟩) (fun i => s.length - i)
      (fun _ o S => (txtChk s = 3 ∧ EX .ret ⟨[(2, .d (.int .i64 3))], [], []⟩ o S) ∨ (txtChk s = 0 ∧ EX (.exit 0) ⟨[], [], []⟩ o S)) 0 kp42_4 (fun _ => up_or (up_and up_ex) (up_and up_ex)) ⟨Nat.zero_le _, rfl⟩ (show s.length - 0 < 42 by omega) ?_ ?_ ?_
    · rintro i ⟨hi, heq⟩
      by_cases h1 : i < s.length
      · have hb : decide ((i : Int) < (s.length : Int)) = true := decide_eq_true (by omega)
        have hget : s[i]? = some s[i] := List.getElem?_eq_getElem h1
        have hd : s.drop i = s[i] :: s.drop (i + 1) := List.drop_eq_getElem_cons h1
        have w1 : IntKind.i64.wrap ((i : Int) + 1) = (i : Int) + 1 := wrap_in (by omega) (by omega)
        rw [hd, List.all_cons] at heq
        cases c1 : decide ((s[i].toNat : Int) < 32) with
        | true =>
          rw [c1] at heq
          simp only [amr, amc, amp, if_true, if_false, ne_eq, gt_iff_lt, Option.getD, argsT, Option.bind, Option.map, List.headD, List.tail, opnsL, List.replicate, lendsL, seval, ty_Val_42, hb, hget, c1]
          refine loop_end (by simp) (.inl ⟨by rw [hc, heq]; rfl, rfl, ?_⟩)
          (first | exact sub_mk subT_nil | skip) <;> (try simp only [amr, amc, amp, if_true, if_false, ne_eq, gt_iff_lt, Option.getD, argsT, Option.bind, Option.map, List.headD, List.tail, opnsL, List.replicate, lendsL, seval]) <;> exact sub_mk (by repeat first | exact subT_nil | refine subT_cons (by first | rfl | simp [Tm.get, *]) ?_)
        | false =>
          cases c2 : decide ((126 : Int) < (s[i].toNat : Int)) with
          | true =>
            have c2' : decide ((s[i].toNat : Int) > 126) = true := c2
            rw [c1, c2'] at heq
            simp only [amr, amc, amp, if_true, if_false, ne_eq, gt_iff_lt, Option.getD, argsT, Option.bind, Option.map, List.headD, List.tail, opnsL, List.replicate, lendsL, seval, ty_Val_42, hb, hget, c1, c2]
            refine loop_end (by simp) (.inl ⟨by rw [hc, heq]; rfl, rfl, ?_⟩)
            (first | exact sub_mk subT_nil | skip) <;> (try simp only [amr, amc, amp, if_true, if_false, ne_eq, gt_iff_lt, Option.getD, argsT, Option.bind, Option.map, List.headD, List.tail, opnsL, List.replicate, lendsL, seval]) <;> exact sub_mk (by repeat first | exact subT_nil | refine subT_cons (by first | rfl | simp [Tm.get, *]) ?_)
          | false =>
            have c2' : decide ((s[i].toNat : Int) > 126) = false := c2
            rw [c1, c2'] at heq
            simp only [Bool.or_self, Bool.not_false, Bool.true_and] at heq
            simp only [amr, amc, amp, if_true, if_false, ne_eq, gt_iff_lt, Option.getD, argsT, Option.bind, Option.map, List.headD, List.tail, opnsL, List.replicate, lendsL, seval, ty_Val_42, hb, hget, c1, c2, w1]
            refine loop_nrm (i + 1) ⟨by omega, heq⟩ (show s.length - (i + 1) < s.length - i by omega) (fun _ _ h => h) ?_
            (first | exact sub_mk subT_nil | skip) <;> (try simp only [amr, amc, amp, if_true, if_false, ne_eq, gt_iff_lt, Option.getD, argsT, Option.bind, Option.map, List.headD, List.tail, opnsL, List.replicate, lendsL, seval]) <;> exact sub_mk (by repeat first | exact subT_nil | refine subT_cons (by first | rfl | simp [Tm.get, *]) ?_)
      · have hb : decide ((i : Int) < (s.length : Int)) = false := decide_eq_false (by omega)
        have hdn : s.drop i = [] := List.drop_eq_nil_of_le (by omega)
        rw [hdn, List.all_nil] at heq
        simp only [amr, amc, amp, if_true, if_false, ne_eq, gt_iff_lt, Option.getD, argsT, Option.bind, Option.map, List.headD, List.tail, opnsL, List.replicate, lendsL, seval, ty_Val_42, hb]
        refine loop_end (by simp) (.inr ⟨by rw [hc, heq]; rfl, rfl, ?_⟩)
        (first | exact sub_mk subT_nil | skip) <;> (try simp only [amr, amc, amp, if_true, if_false, ne_eq, gt_iff_lt, Option.getD, argsT, Option.bind, Option.map, List.headD, List.tail, opnsL, List.replicate, lendsL, seval]) <;> exact sub_mk (by repeat first | exact subT_nil | refine subT_cons (by first | rfl | simp [Tm.get, *]) ?_)
    · (first | exact sub_mk subT_nil | skip) <;> (try simp only [amr, amc, amp, if_true, if_false, ne_eq, gt_iff_lt, Option.getD, argsT, Option.bind, Option.map, List.headD, List.tail, opnsL, List.replicate, lendsL, seval]) <;> exact sub_mk (by repeat first | exact subT_nil | refine subT_cons (by first | rfl | simp [Tm.get, *]) ?_)
    · rintro o S' (⟨hv, rfl, hs⟩ | ⟨hv, rfl, hs⟩)
      · refine good_sub_cr up_fin hs ?_
        rw [hv]
        simp only [amr, amc, amp, if_true, if_false, ne_eq, gt_iff_lt, Option.getD, argsT, Option.bind, Option.map, List.headD, List.tail, opnsL, List.replicate, lendsL, seval, ty_Val_42]
        repeat' ((first | refine good_ci (fun h => ?_) (fun h => ?_) | refine good_cgt (fun h => ?_) (fun h => ?_) | refine good_cgf (fun h => ?_) (fun h => ?_) | refine good_cqgt (fun h => ?_) (fun h => ?_) | refine good_cqgf (fun h => ?_) (fun h => ?_)) <;> simp only [amr, amc, amp, if_true, if_false, ne_eq, gt_iff_lt, Option.getD, argsT, Option.bind, Option.map, List.headD, List.tail, opnsL, List.replicate, lendsL, seval, ty_Val_42, h])
      · refine good_sub_cr up_fin hs ?_
        rw [hv]
        simp only [amr, amc, amp, if_true, if_false, ne_eq, gt_iff_lt, Option.getD, argsT, Option.bind, Option.map, List.headD, List.tail, opnsL, List.replicate, lendsL, seval, ty_Val_42]
        repeat' ((first | refine good_ci (fun h => ?_) (fun h => ?_) | refine good_cgt (fun h => ?_) (fun h => ?_) | refine good_cgf (fun h => ?_) (fun h => ?_) | refine good_cqgt (fun h => ?_) (fun h => ?_) | refine good_cqgf (fun h => ?_) (fun h => ?_)) <;> simp only [amr, amc, amp, if_true, if_false, ne_eq, gt_iff_lt, Option.getD, argsT, Option.bind, Option.map, List.headD, List.tail, opnsL, List.replicate, lendsL, seval, ty_Val_42, h])
theorem ca_checkText {d dst : Nat} {S : St} (s : Str) : callA tab (callR tab) d dst 42 [.d (.str (s))] S = some (.d (.int .i64 (txtChk s)), S) :=
  ca_ret (ds := [.str (s)]) (ret_checkText s) rfl (tab_opn (by kernel_rfl)) (tab_res (by kernel_rfl))
def valTail (v : Val) : Int := if (v.s == []) = true then 0 else 3
def valChk (v : Val) : Int := if v.kind = 1 then (if chk v.n = 0 then valTail v else chk v.n) else if v.kind = 2 then (if v.n = 0 ∨ v.n = 1 then valTail v else 4) else if v.kind = 3 then (if v.n = 0 then txtChk v.s else 4)
  else if v.kind = 4 then (if v.n = 0 then valTail v else 4) else if v.kind = 5 then (if v.n < 1 ∨ v.n > 15 then 4 else valTail v) else 2
theorem ret_VCheck (v : Val) : Ret tab 30 [.d (v.dv)] (.d (.int .i64 (valChk v))) := by
  refine ret_of (1) fn30 rfl rfl ?_
  simp only [amr, amc, amp, if_true, if_false, ne_eq, gt_iff_lt, Option.getD, argsT, Option.bind, Option.map, List.headD, List.tail, opnsL, List.replicate, lendsL, seval, ty_Val_30, Val.dv, ca_Check, ca_checkText]
  repeat' ((first | refine good_ci (fun h => ?_) (fun h => ?_) | refine good_cgt (fun h => ?_) (fun h => ?_) | refine good_cgf (fun h => ?_) (fun h => ?_) | refine good_cqgt (fun h => ?_) (fun h => ?_) | refine good_cqgf (fun h => ?_) (fun h => ?_)) <;> simp only [amr, amc, amp, if_true, if_false, ne_eq, gt_iff_lt, Option.getD, argsT, Option.bind, Option.map, List.headD, List.tail, opnsL, List.replicate, lendsL, seval, ty_Val_30, Val.dv, ca_Check, ca_checkText, h])
  all_goals (simp_all [valChk, valTail])
theorem cf_VCheck {d dst : Nat} {S : St} (v : Val) : callA tab (callR tab) d dst 30 [.d (v.dv)] S = some (.d (.int .i64 (valChk v)), S) :=
  ca_ret (ds := [v.dv]) (ret_VCheck v) rfl (tab_opn (by kernel_rfl)) (tab_res (by kernel_rfl))
theorem ca_VCheck {d dst : Nat} {S : St} (v_kind : Int) (v_n : Int) (v_s : List UInt8) : callA tab (callR tab) d dst 30 [.d (.agg [.int .i64 v_kind, .int .i64 v_n, .str v_s])] S = some (.d (.int .i64 (valChk (Val.mk v_kind v_n v_s))), S) :=
  ca_ret (ds := [.agg [.int .i64 v_kind, .int .i64 v_n, .str v_s]]) (ret_VCheck (Val.mk v_kind v_n v_s)) rfl (tab_opn (by kernel_rfl)) (tab_res (by kernel_rfl))
def valKnown (v : Val) : Bool := decide (v.kind ≥ 1) && decide (v.kind ≤ 3) && (valChk v == 0)
theorem ret_Known (v : Val) : Ret tab 27 [.d (v.dv)] (.d (.bool (valKnown v))) := by
  refine ret_of (1) fn27 rfl rfl ?_
  simp only [amr, amc, amp, if_true, if_false, ne_eq, gt_iff_lt, Option.getD, argsT, Option.bind, Option.map, List.headD, List.tail, opnsL, List.replicate, lendsL, seval, ty_Val_27, Val.dv, ca_VCheck v.kind v.n v.s]
  repeat' ((first | refine good_ci (fun h => ?_) (fun h => ?_) | refine good_cgt (fun h => ?_) (fun h => ?_) | refine good_cgf (fun h => ?_) (fun h => ?_) | refine good_cqgt (fun h => ?_) (fun h => ?_) | refine good_cqgf (fun h => ?_) (fun h => ?_)) <;> simp only [amr, amc, amp, if_true, if_false, ne_eq, gt_iff_lt, Option.getD, argsT, Option.bind, Option.map, List.headD, List.tail, opnsL, List.replicate, lendsL, seval, ty_Val_27, Val.dv, ca_VCheck v.kind v.n v.s, h])
  all_goals (first | (simp_all [valKnown]; done) | (simp_all [valKnown]; omega))
theorem cf_Known {d dst : Nat} {S : St} (v : Val) : callA tab (callR tab) d dst 27 [.d (v.dv)] S = some (.d (.bool (valKnown v)), S) :=
  ca_ret (ds := [v.dv]) (ret_Known v) rfl (tab_opn (by kernel_rfl)) (tab_res (by kernel_rfl))
theorem ca_Known {d dst : Nat} {S : St} (v_kind : Int) (v_n : Int) (v_s : List UInt8) : callA tab (callR tab) d dst 27 [.d (.agg [.int .i64 v_kind, .int .i64 v_n, .str v_s])] S = some (.d (.bool (valKnown (Val.mk v_kind v_n v_s))), S) :=
  ca_ret (ds := [.agg [.int .i64 v_kind, .int .i64 v_n, .str v_s]]) (ret_Known (Val.mk v_kind v_n v_s)) rfl (tab_opn (by kernel_rfl)) (tab_res (by kernel_rfl))
end Go.Proofs.Ythmggkidmcgfoaa.Am
/- Facts of values made of raw things. -/
set_option linter.unusedVariables false
set_option linter.unusedSimpArgs false
namespace Go.Proofs.Ythmggkidmcgfoaa.Am
open Go Go.RowKit
set_option maxRecDepth 100000
set_option maxHeartbeats 4000000

theorem clean_all (s : Str) (m : Nat) : (cleanS s m).all (fun c => !(decide ((c.toNat : Int) < 32) || decide ((c.toNat : Int) > 126))) = true := by
  rw [List.all_eq_true]
  intro c hc
  simp only [cleanS, List.mem_map] at hc
  obtain ⟨x, _, rfl⟩ := hc
  have := cl_val x
  simp only [Bool.not_eq_true', Bool.or_eq_false_iff, decide_eq_false_iff_not]
  omega
theorem clean_len (s : Str) (m : Nat) : (cleanS s m).length ≤ m := by simp [cleanS]; omega
theorem mkVal_kind (k : Int) (r : Raw) (hk : k = 1 ∨ k = 2 ∨ k = 3) : (mkVal k r).kind = k := by
  unfold mkVal
  rcases hk with rfl | rfl | rfl <;> simp
  split <;> rfl
theorem mkVal_known (k : Int) (r : Raw) (hr : r.ok) (hk : k = 1 ∨ k = 2 ∨ k = 3) : valKnown (mkVal k r) = true := by
  have h1 := pick_range r.a 2199023255553 hr.a.1 hr.a.2 (by decide)
  have h2 := pick_range r.a 40 hr.a.1 hr.a.2 (by decide)
  have h3 := pick_range r.a 2 hr.a.1 hr.a.2 (by decide)
  have w1 : IntKind.i64.wrap (pick r.a 2199023255553 - 1099511627776) = pick r.a 2199023255553 - 1099511627776 := wrap_in (by omega) (by omega)
  have w2 : IntKind.i64.wrap (pick r.a 40 - 12) = pick r.a 40 - 12 := wrap_in (by omega) (by omega)
  rcases hk with rfl | rfl | rfl
  · unfold mkVal
    rw [if_pos rfl, w1, w2]
    split
    · have : chk (pick r.a 2199023255553 - 1099511627776) = 0 := chk_in (by omega) (by omega)
      simp [valKnown, valChk, this, valTail]
    · have : chk (pick r.a 40 - 12) = 0 := chk_in (by omega) (by omega)
      simp [valKnown, valChk, this, valTail]
  · unfold mkVal
    have : pick r.a 2 = 0 ∨ pick r.a 2 = 1 := by omega
    simp [valKnown, valChk, valTail, this]
  · unfold mkVal
    have ht : txtChk (cleanS r.text 8) = 0 := by
      unfold txtChk
      rw [if_neg (by have := clean_len r.text 8; omega), if_pos (clean_all _ _)]
    simp [valKnown, valChk, ht]
theorem known_num {v : Val} (h : valKnown v = true) (hk : v.kind = 1) : -1099511627776 ≤ v.n ∧ v.n ≤ 1099511627776 := by
  simp only [valKnown, Bool.and_eq_true, decide_eq_true_eq, beq_iff_eq] at h
  have h2 := h.2
  unfold valChk at h2
  rw [if_pos hk] at h2
  split at h2
  · rename_i h0
    unfold chk at h0
    split at h0
    · simp at h0
    · omega
  · rename_i h0; exact absurd h2 h0
end Go.Proofs.Ythmggkidmcgfoaa.Am
/- Raw things one by one: gen.next, walked; formulas as data. -/
set_option linter.unusedVariables false
set_option linter.unusedSimpArgs false
namespace Go.Proofs.Ythmggkidmcgfoaa.Am
open Go Go.RowKit
theorem ty_GenA_19 : type_of% (ai (ai (ai (ai (ai @rs19 (ai @lv19_0 @lv19_1)) (ai (ai @lv19_2 @dr19_3) (ai @lv19_3 @dr19_4))) (ai (ai @lv19_4 (ai @lv19_5 @lv19_6)) (ai (ai @und1 @sz1) (ai @ag1 @inf1)))) (ai (ai (ai @und3 (ai @sz3 @ag3)) (ai (ai @lv3 @inf3) (ai @und4 @sz4))) (ai (ai @ag4 (ai @lv4 @inf4)) (ai (ai @und9 @sz9) (ai @ag9 @lv9))))) (ai (ai (ai (ai @inf9 (ai @und22 @sz22)) (ai (ai @ag22 @pT22) (ai @inf22 @und51))) (ai (ai @sz51 (ai @ag51 @inf51)) (ai (ai @und53 @sz53) (ai @ag53 @fo53)))) (ai (ai (ai @bA53 (ai @pT53_0 @pT53_1)) (ai (ai @inf53 @und58) (ai @sz58 @ag58))) (ai (ai @fo58 (ai @bA58 @pT58_0)) (ai (ai @pT58_1 @pT58_2) (ai @pT58_3 @inf58)))))) := (ai (ai (ai (ai (ai @rs19 (ai @lv19_0 @lv19_1)) (ai (ai @lv19_2 @dr19_3) (ai @lv19_3 @dr19_4))) (ai (ai @lv19_4 (ai @lv19_5 @lv19_6)) (ai (ai @und1 @sz1) (ai @ag1 @inf1)))) (ai (ai (ai @und3 (ai @sz3 @ag3)) (ai (ai @lv3 @inf3) (ai @und4 @sz4))) (ai (ai @ag4 (ai @lv4 @inf4)) (ai (ai @und9 @sz9) (ai @ag9 @lv9))))) (ai (ai (ai (ai @inf9 (ai @und22 @sz22)) (ai (ai @ag22 @pT22) (ai @inf22 @und51))) (ai (ai @sz51 (ai @ag51 @inf51)) (ai (ai @und53 @sz53) (ai @ag53 @fo53)))) (ai (ai (ai @bA53 (ai @pT53_0 @pT53_1)) (ai (ai @inf53 @und58) (ai @sz58 @ag58))) (ai (ai @fo58 (ai @bA58 @pT58_0)) (ai (ai @pT58_1 @pT58_2) (ai @pT58_3 @inf58))))))
set_option maxRecDepth 100000
set_option maxHeartbeats 40000000


/-- A formula. -/
inductive Exp where
  | mk (op : Int) (v : Val) (name : List UInt8) (args : List Exp)
def Exp.op : Exp → Int | .mk o _ _ _ => o
def Exp.v : Exp → Val | .mk _ v _ _ => v
def Exp.name : Exp → List UInt8 | .mk _ _ n _ => n
def Exp.args : Exp → List Exp | .mk _ _ _ a => a
mutual
def Exp.dv : Exp → DV
  | .mk op v name args => .agg [.int .i64 op, .int .i64 v.kind, .int .i64 v.n, .str v.s, .str name, .sl 6 (Exp.dvs args)]
def Exp.dvs : List Exp → List DV
  | [] => []
  | x :: r => x.dv :: Exp.dvs r
end
theorem Exp.dvs_map : ∀ (l : List Exp), Exp.dvs l = l.map Exp.dv
  | [] => by simp [Exp.dvs]
  | x :: r => by simp [Exp.dvs, Exp.dvs_map r]
theorem Exp.dv_mk {op : Int} {v : Val} {name : List UInt8} {args : List Exp} : (Exp.mk op v name args).dv = .agg [.int .i64 op, .int .i64 v.kind, .int .i64 v.n, .str v.s, .str name, .sl 6 (args.map Exp.dv)] := by rw [Exp.dv, Exp.dvs_map]
theorem Exp.dv_eq (x : Exp) : x.dv = .agg [.int .i64 x.op, .int .i64 x.v.kind, .int .i64 x.v.n, .str x.v.s, .str x.name, .sl 6 (x.args.map Exp.dv)] := by cases x; exact Exp.dv_mk
theorem sfx_f1 {n x a b : Nat} {g : List Nat} : (List.drop n [x] = a :: b :: g) = False := by
  refine eq_false fun h => ?_
  have := congrArg List.length h
  simp only [List.length_drop, List.length_cons, List.length_nil] at this
  omega
theorem sfx_f2 {n x a b : Nat} {g : List Nat} : (List.drop n (x :: g) = a :: b :: g) = False := by
  refine eq_false fun h => ?_
  have := congrArg List.length h
  simp only [List.length_drop, List.length_cons] at this
  omega
theorem drop_suf {g q : List Nat} {n : Nat} (h : List.drop n g = q) : q <:+ g := h ▸ List.drop_suffix n g
theorem apart_cons {a : Nat} {p g : List Nat} (h : ¬ p <:+ g) : ¬ (a :: p) <:+ g := fun k => h ((List.suffix_cons a p).trans k)
theorem sfx_f4 {p g : List Nat} (h : ¬ p <:+ g) {n a b : Nat} : (List.drop n g = a :: b :: p) = False := eq_false fun k => apart_cons (apart_cons h) (drop_suf k)
theorem sfx_f5 {p g : List Nat} (h : ¬ p <:+ g) {n a b c : Nat} : (List.drop n g = a :: b :: c :: p) = False := eq_false fun k => apart_cons (apart_cons (apart_cons h)) (drop_suf k)
theorem sfx_f6 {p g : List Nat} (h : ¬ p <:+ g) {n a b c e : Nat} : (List.drop n g = a :: b :: c :: e :: p) = False := eq_false fun k => apart_cons (apart_cons (apart_cons (apart_cons h))) (drop_suf k)
/-- The raw thing that comes next, and the place behind it. -/
def gnext (l : List Raw) (k : Nat) : Raw := match l[k % l.length]? with
  | some r => { r with a := IntKind.i64.wrap (r.a + (k / l.length : Nat)) }
  | none => ⟨0, 0, 0, []⟩
def gat (l : List Raw) (k : Nat) : Nat := if l.length = 0 then k else k + 1
def gbox (l : List Raw) (k : Nat) : Place := .box [.d (.sl 4 (l.map Raw.dv)), .d (.int .i64 k)]
theorem ret_next {d : Nat} {p : List Nat} (d0 t0 : Nat) (g0 : List Nat) (h : d0 < d) (hg0 : ¬ p <:+ g0) (l : List Raw) (k : Nat) (hk : k ≤ 4611686018427387904) (hl : l.length ≤ 9223372036854775807) :
    ∃ H', callR tab d 19 [.ptr ⟨d0, t0, g0⟩ 0] [(⟨d0, t0, g0⟩, gbox l k)] p = some (.d (gnext l k).dv, H') ∧ H'.get ⟨d0, t0, g0⟩ = some (gbox l (gat l k)) := by
  have e1 : (d0 = d) = False := eq_false (by omega)
  have e2 : (d = d0) = False := eq_false (by omega)
  refine ret_good rfl 1 fn19 rfl rfl ?_
  by_cases h0 : l.length = 0
  · have b0 : ((l.length : Int) == 0) = true := by rw [h0]; rfl
    have hn : gnext l k = ⟨0, 0, 0, []⟩ := by
      have : l = [] := List.eq_nil_of_length_eq_zero h0
      subst this
      rfl
    have hg : gat l k = k := by unfold gat; rw [if_pos h0]
    rw [hn, hg]
    simp only [amr, amc, amp, if_true, if_false, ne_eq, gt_iff_lt, Option.getD, argsT, Option.bind, Option.map, List.headD, List.tail, opnsL, List.replicate, lendsL, seval, ty_GenA_19, gbox, Raw.dv, b0, e1, e2]
  · have b0 : ((l.length : Int) == 0) = false := beq_eq_false_iff_ne.2 (by omega)
    have hlt : k % l.length < l.length := Nat.mod_lt _ (by omega)
    have hget : (l.map Raw.dv)[k % l.length]? = some (Raw.dv l[k % l.length]) := by rw [List.getElem?_map, List.getElem?_eq_getElem hlt]; rfl
    have hn : gnext l k = { l[k % l.length] with a := IntKind.i64.wrap (l[k % l.length].a + (k / l.length : Nat)) } := by
      unfold gnext
      rw [List.getElem?_eq_getElem hlt]
    have hg : gat l k = k + 1 := by unfold gat; rw [if_neg h0]
    rw [hn, hg]
    generalize l[k % l.length] = r at *
    have hl0 : ((l.length : Int) = 0) = False := eq_false (by omega)
    have ht : (k : Int).tmod (l.length : Int) = ((k % l.length : Nat) : Int) := rfl
    have hd : (k : Int).tdiv (l.length : Int) = ((k / l.length : Nat) : Int) := rfl
    have hdk : k / l.length ≤ k := Nat.div_le_self _ _
    have w1 : IntKind.i64.wrap ((k / l.length : Nat) : Int) = ((k / l.length : Nat) : Int) := by generalize k / l.length = q at *; exact wrap_in (by omega) (by omega)
    have w2 : IntKind.i64.wrap ((k : Int) + 1) = ((k + 1 : Nat) : Int) := by rw [wrap_in (by omega) (by omega)]; rfl
    simp only [amr, amc, amp, if_true, if_false, ne_eq, gt_iff_lt, Option.getD, argsT, Option.bind, Option.map, List.headD, List.tail, opnsL, List.replicate, lendsL, seval, ty_GenA_19, gbox, Raw.dv, b0, e1, e2, sfx_f1, sfx_f2, hl0, ht, hd, w1, w2, hget, sfx_f4 hg0]
theorem suf_cons {a : Nat} {q g : List Nat} (h : (q <:+ g) = False) : ((a :: q) <:+ g) = False := eq_false (apart_cons (of_eq_false h))
theorem suf1 {p g : List Nat} (h : ¬ p <:+ g) (a : Nat) : ((a :: p) <:+ g) = False := eq_false (apart_cons h)
theorem suf2 {p g : List Nat} (h : ¬ p <:+ g) (a b : Nat) : ((a :: b :: p) <:+ g) = False := eq_false (apart_cons (apart_cons h))
theorem suf3 {p g : List Nat} (h : ¬ p <:+ g) (a b c : Nat) : ((a :: b :: c :: p) <:+ g) = False := eq_false (apart_cons (apart_cons (apart_cons h)))
theorem suf4 {p g : List Nat} (h : ¬ p <:+ g) (a b c e : Nat) : ((a :: b :: c :: e :: p) <:+ g) = False := eq_false (apart_cons (apart_cons (apart_cons (apart_cons h))))
theorem suf5 {p g : List Nat} (h : ¬ p <:+ g) (a b c e f : Nat) : ((a :: b :: c :: e :: f :: p) <:+ g) = False := eq_false (apart_cons (apart_cons (apart_cons (apart_cons (apart_cons h)))))
theorem suf6 {p g : List Nat} (h : ¬ p <:+ g) (a b c e f i : Nat) : ((a :: b :: c :: e :: f :: i :: p) <:+ g) = False := eq_false (apart_cons (apart_cons (apart_cons (apart_cons (apart_cons (apart_cons h))))))
theorem soft_d {T : Tab} {f : Nat} {y : DV} : soft T f (.d y) = .d y := by
  unfold soft
  split <;> rfl
theorem soft_agg {f : Nat} {cs : List AV} {y : DV} (h : tab.res f = none) (h2 : toD (.agg cs) = some y) : soft tab f (.agg cs) = .d y := by
  unfold soft
  rw [h]
  show softV (.agg cs) = _
  unfold softV
  rw [h2]
theorem ftC_1 {S : St} {args : List AV} {id : Id} {cs : List AV} (ha : addIds [] (idsL args) = [id]) (hS : S.H.get id = some (.box cs)) (hi : idsL cs = []) : ftC S args none = ⟨[], [id], true⟩ := by
  unfold ftC
  rw [ha]
  have hw : within [id] S.H = [(id, .box cs)] := by
    unfold within
    rw [hS]
    rfl
  have : reach S.H 8 [id] = [id] := by
    show (if (idsH (within [id] S.H)).all (fun i => [id].contains i) = true then [id] else _) = _
    rw [hw]
    simp only [idsH, idsP, hi, List.nil_append, List.all_nil, if_true]
  rw [this]
theorem ca_next {d dst : Nat} {S : St} (d0 t0 : Nat) (g0 : List Nat) (l : List Raw) (k : Nat) (hk : k ≤ 4611686018427387904) (hl : l.length ≤ 9223372036854775807) (h : d0 ≤ d) (hg0 : ((0 :: S.g) <:+ g0) = False) (hS : S.H.get ⟨d0, t0, g0⟩ = some (gbox l k)) :
    callA tab (callR tab) d dst 19 [.ptr ⟨d0, t0, g0⟩ 0] S = some (.d (gnext l k).dv, ⟨S.T, upd [(⟨d0, t0, g0⟩, gbox l (gat l k))] S.H, 1 :: S.g⟩) := by
  obtain ⟨H', h1, h2⟩ := ret_next (p := 0 :: S.g) d0 t0 g0 (Nat.lt_succ_of_le h) (of_eq_false hg0) l k hk hl
  refine ca_open1 (cs := [.d (.sl 4 (l.map Raw.dv)), .d (.int .i64 k)]) (cs' := [.d (.sl 4 (l.map Raw.dv)), .d (.int .i64 (gat l k))]) (by split <;> rfl) (lent_off (tab_lend (by kernel_rfl))) rfl rfl rfl ⟨_, H', h1, soft_d, h2⟩ rfl hS
structure Field where
  name : List UInt8
  kind : Int
  ty : Int
  source : Exp
def Field.dv (p : Field) : DV := .agg [.str p.name, .int .i64 p.kind, .int .i64 p.ty, .int .i64 p.source.op, .int .i64 p.source.v.kind, .int .i64 p.source.v.n, .str p.source.v.s, .str p.source.name, .sl 6 (p.source.args.map Exp.dv)]
theorem Field.eta {p : Field} : Field.mk p.name p.kind p.ty p.source = p := rfl

theorem gnext_ok {l : List Raw} (h : ∀ r ∈ l, r.ok) (k : Nat) : (gnext l k).ok := by
  unfold gnext
  cases hx : l[k % l.length]? with
  | none =>
    show (⟨0, 0, 0, []⟩ : Raw).ok
    exact ⟨by decide, by decide, by decide, by decide⟩
  | some r =>
    have hr := h r (List.mem_of_getElem? hx)
    refine ⟨hr.kind, ?_, hr.b, hr.text⟩
    simp only
    rw [IntKind.wrap_i64]
    omega
theorem gat_le (l : List Raw) (k : Nat) : k ≤ gat l k ∧ gat l k ≤ k + 1 := by unfold gat; split <;> omega
end Go.Proofs.Ythmggkidmcgfoaa.Am
/- Leaves of formulas: constants, and names of fields; walked. -/
set_option linter.unusedVariables false
set_option linter.unusedSimpArgs false
namespace Go.Proofs.Ythmggkidmcgfoaa.Am
open Go Go.RowKit
theorem ty_GenB_40 : type_of% (ai (ai (ai (ai (ai @rs40 (ai @lv40_0 @ro58_3_raw_go_67)) (ai (ai @lv40_1 @lv40_2) (ai @lv40_3 @lv40_4))) (ai (ai (ai @und1 @sz1) (ai @ag1 @inf1)) (ai (ai @und3 @sz3) (ai @ag3 @lv3)))) (ai (ai (ai @inf3 (ai @und4 @sz4)) (ai (ai @ag4 @lv4) (ai @inf4 @und9))) (ai (ai (ai @sz9 @ag9) (ai @lv9 @inf9)) (ai (ai @und24 @sz24) (ai @ag24 @fo24))))) (ai (ai (ai (ai @bA24 (ai @pT24_0 @pT24_1)) (ai (ai @pT24_2 @lv24) (ai @inf24 @und25))) (ai (ai (ai @sz25 @ag25) (ai @pT25 @inf25)) (ai (ai @und27 @sz27) (ai @ag27 @fo27)))) (ai (ai (ai (ai @bA27 @pT27_0) (ai @pT27_1 @pT27_2)) (ai (ai @pT27_3 @inf27) (ai @und58 @sz58))) (ai (ai (ai @ag58 @fo58) (ai @bA58 @pT58_0)) (ai (ai @pT58_1 @pT58_2) (ai @pT58_3 @inf58)))))) := (ai (ai (ai (ai (ai @rs40 (ai @lv40_0 @ro58_3_raw_go_67)) (ai (ai @lv40_1 @lv40_2) (ai @lv40_3 @lv40_4))) (ai (ai (ai @und1 @sz1) (ai @ag1 @inf1)) (ai (ai @und3 @sz3) (ai @ag3 @lv3)))) (ai (ai (ai @inf3 (ai @und4 @sz4)) (ai (ai @ag4 @lv4) (ai @inf4 @und9))) (ai (ai (ai @sz9 @ag9) (ai @lv9 @inf9)) (ai (ai @und24 @sz24) (ai @ag24 @fo24))))) (ai (ai (ai (ai @bA24 (ai @pT24_0 @pT24_1)) (ai (ai @pT24_2 @lv24) (ai @inf24 @und25))) (ai (ai (ai @sz25 @ag25) (ai @pT25 @inf25)) (ai (ai @und27 @sz27) (ai @ag27 @fo27)))) (ai (ai (ai (ai @bA27 @pT27_0) (ai @pT27_1 @pT27_2)) (ai (ai @pT27_3 @inf27) (ai @und58 @sz58))) (ai (ai (ai @ag58 @fo58) (ai @bA58 @pT58_0)) (ai (ai @pT58_1 @pT58_2) (ai @pT58_3 @inf58))))))
theorem ty_GenB_25 : type_of% (ai (ai (ai (ai (ai (ai @rs25 (ai @lv25_0 @lv25_1)) (ai @lv25_2 (ai @lv25_3 @lv25_4))) (ai (ai @lv25_5 (ai @lv25_6 @lv25_7)) (ai @mu83_27 (ai @lv25_8 @lv25_9)))) (ai (ai (ai @lv25_10 (ai @lv25_11 @kp25_4)) (ai @und1 (ai @sz1 @ag1))) (ai (ai @inf1 (ai @und2 @sz2)) (ai @ag2 (ai @lv2 @inf2))))) (ai (ai (ai (ai @und3 (ai @sz3 @ag3)) (ai @lv3 (ai @inf3 @und4))) (ai (ai @sz4 (ai @ag4 @lv4)) (ai @inf4 (ai @und9 @sz9)))) (ai (ai (ai @ag9 (ai @lv9 @inf9)) (ai @und24 (ai @sz24 @ag24))) (ai (ai @fo24 (ai @bA24 @pT24_0)) (ai (ai @pT24_1 @pT24_2) (ai @lv24 @inf24)))))) (ai (ai (ai (ai (ai @und25 (ai @sz25 @ag25)) (ai @pT25 (ai @inf25 @und27))) (ai (ai @sz27 (ai @ag27 @fo27)) (ai @bA27 (ai @pT27_0 @pT27_1)))) (ai (ai (ai @pT27_2 (ai @pT27_3 @inf27)) (ai @und30 (ai @sz30 @ag30))) (ai (ai @pT30 (ai @inf30 @und49)) (ai @sz49 (ai @ag49 @fo49))))) (ai (ai (ai (ai @bA49 (ai @pT49_0 @pT49_1)) (ai @pT49_2 (ai @pT49_3 @inf49))) (ai (ai @und51 (ai @sz51 @ag51)) (ai @inf51 (ai @und58 @sz58)))) (ai (ai (ai @ag58 (ai @fo58 @bA58)) (ai @pT58_0 (ai @pT58_1 @pT58_2))) (ai (ai @pT58_3 (ai @inf58 @und83)) (ai (ai @sz83 @ag83) (ai @pT83 @inf83))))))) := (ai (ai (ai (ai (ai (ai @rs25 (ai @lv25_0 @lv25_1)) (ai @lv25_2 (ai @lv25_3 @lv25_4))) (ai (ai @lv25_5 (ai @lv25_6 @lv25_7)) (ai @mu83_27 (ai @lv25_8 @lv25_9)))) (ai (ai (ai @lv25_10 (ai @lv25_11 @kp25_4)) (ai @und1 (ai @sz1 @ag1))) (ai (ai @inf1 (ai @und2 @sz2)) (ai @ag2 (ai @lv2 @inf2))))) (ai (ai (ai (ai @und3 (ai @sz3 @ag3)) (ai @lv3 (ai @inf3 @und4))) (ai (ai @sz4 (ai @ag4 @lv4)) (ai @inf4 (ai @und9 @sz9)))) (ai (ai (ai @ag9 (ai @lv9 @inf9)) (ai @und24 (ai @sz24 @ag24))) (ai (ai @fo24 (ai @bA24 @pT24_0)) (ai (ai @pT24_1 @pT24_2) (ai @lv24 @inf24)))))) (ai (ai (ai (ai (ai @und25 (ai @sz25 @ag25)) (ai @pT25 (ai @inf25 @und27))) (ai (ai @sz27 (ai @ag27 @fo27)) (ai @bA27 (ai @pT27_0 @pT27_1)))) (ai (ai (ai @pT27_2 (ai @pT27_3 @inf27)) (ai @und30 (ai @sz30 @ag30))) (ai (ai @pT30 (ai @inf30 @und49)) (ai @sz49 (ai @ag49 @fo49))))) (ai (ai (ai (ai @bA49 (ai @pT49_0 @pT49_1)) (ai @pT49_2 (ai @pT49_3 @inf49))) (ai (ai @und51 (ai @sz51 @ag51)) (ai @inf51 (ai @und58 @sz58)))) (ai (ai (ai @ag58 (ai @fo58 @bA58)) (ai @pT58_0 (ai @pT58_1 @pT58_2))) (ai (ai @pT58_3 (ai @inf58 @und83)) (ai (ai @sz83 @ag83) (ai @pT83 @inf83)))))))
set_option maxRecDepth 100000
set_option maxHeartbeats 40000000



def constV (kind : Int) (r : Raw) : Val := if kind = 1 then { mkVal kind r with n := if IntKind.i64.wrap (0 - (mkVal kind r).n) > (mkVal kind r).n then IntKind.i64.wrap (0 - (mkVal kind r).n) else (mkVal kind r).n } else mkVal kind r
def constE (kind : Int) (r : Raw) : Exp := .mk 1 (constV kind r) [] []
theorem ret_constant (kind : Int) (r : Raw) (hr : r.text.length ≤ 9223372036854775807) : RetD tab 40 [.d (.int .i64 (kind)), .d (r.dv)] ((constE kind r).dv) := by
  have f2 := fun (S : St) (d dst : Nat) => cf_Value (d := d) (dst := dst) (S := S) kind r hr
  refine retq_good (1) fn40 rfl rfl ?_
  unfold constE constV
  rw [Exp.dv_mk]
  simp only [Raw.dv, Val.dv] at f2
  by_cases hk : kind = 1
  · have b0 : (kind == 1) = true := by rw [hk]; rfl
    rw [if_pos hk]
    generalize mkVal kind r = v at *
    by_cases hv : IntKind.i64.wrap (0 - v.n) > v.n
    · rw [if_pos hv]
      simp only [amr, amc, amp, if_true, if_false, ne_eq, gt_iff_lt, Option.getD, argsT, Option.bind, Option.map, List.headD, List.tail, opnsL, List.replicate, lendsL, seval, ty_GenB_40, Raw.dv, Val.dv, f2, b0, gt_iff_lt, eq_true (gt_iff_lt.1 hv)]
      repeat' ((first | refine good_ci (fun h => ?_) (fun h => ?_) | refine good_cgt (fun h => ?_) (fun h => ?_) | refine good_cgf (fun h => ?_) (fun h => ?_) | refine good_cqgt (fun h => ?_) (fun h => ?_) | refine good_cqgf (fun h => ?_) (fun h => ?_)) <;> simp only [amr, amc, amp, if_true, if_false, ne_eq, gt_iff_lt, Option.getD, argsT, Option.bind, Option.map, List.headD, List.tail, opnsL, List.replicate, lendsL, seval, ty_GenB_40, Raw.dv, Val.dv, f2, b0, gt_iff_lt, eq_true (gt_iff_lt.1 hv), h])
    · rw [if_neg hv]
      simp only [amr, amc, amp, if_true, if_false, ne_eq, gt_iff_lt, Option.getD, argsT, Option.bind, Option.map, List.headD, List.tail, opnsL, List.replicate, lendsL, seval, ty_GenB_40, Raw.dv, Val.dv, f2, b0, gt_iff_lt, eq_false (fun h => hv (gt_iff_lt.2 h))]
      repeat' ((first | refine good_ci (fun h => ?_) (fun h => ?_) | refine good_cgt (fun h => ?_) (fun h => ?_) | refine good_cgf (fun h => ?_) (fun h => ?_) | refine good_cqgt (fun h => ?_) (fun h => ?_) | refine good_cqgf (fun h => ?_) (fun h => ?_)) <;> simp only [amr, amc, amp, if_true, if_false, ne_eq, gt_iff_lt, Option.getD, argsT, Option.bind, Option.map, List.headD, List.tail, opnsL, List.replicate, lendsL, seval, ty_GenB_40, Raw.dv, Val.dv, f2, b0, gt_iff_lt, eq_false (fun h => hv (gt_iff_lt.2 h)), h])
  · have b0 : (kind == 1) = false := beq_eq_false_iff_ne.2 hk
    rw [if_neg hk]
    generalize mkVal kind r = v at *
    simp only [amr, amc, amp, if_true, if_false, ne_eq, gt_iff_lt, Option.getD, argsT, Option.bind, Option.map, List.headD, List.tail, opnsL, List.replicate, lendsL, seval, ty_GenB_40, Raw.dv, Val.dv, f2, b0]
    repeat' ((first | refine good_ci (fun h => ?_) (fun h => ?_) | refine good_cgt (fun h => ?_) (fun h => ?_) | refine good_cgf (fun h => ?_) (fun h => ?_) | refine good_cqgt (fun h => ?_) (fun h => ?_) | refine good_cqgf (fun h => ?_) (fun h => ?_)) <;> simp only [amr, amc, amp, if_true, if_false, ne_eq, gt_iff_lt, Option.getD, argsT, Option.bind, Option.map, List.headD, List.tail, opnsL, List.replicate, lendsL, seval, ty_GenB_40, Raw.dv, Val.dv, f2, b0, h])
theorem cf_constant {d dst : Nat} {S : St} (kind : Int) (r : Raw) (hr : r.text.length ≤ 9223372036854775807) : callA tab (callR tab) d dst 40 [.d (.int .i64 (kind)), .d (r.dv)] S = some (.d ((constE kind r).dv), S) :=
  ca_retD (ds := [.int .i64 (kind), r.dv]) (ret_constant kind r hr) rfl (tab_opn (by kernel_rfl)) (tab_res (by kernel_rfl))
theorem ca_constant {d dst : Nat} {S : St} (kind : Int) (r_kind : Int) (r_a : Int) (r_b : Int) (r_text : List UInt8) (hr : (Raw.mk r_kind r_a r_b r_text).text.length ≤ 9223372036854775807) : callA tab (callR tab) d dst 40 [.d (.int .i64 (kind)), .d (.agg [.int .i64 r_kind, .int .i64 r_a, .int .i64 r_b, .str r_text])] S = some (.d ((constE kind (Raw.mk r_kind r_a r_b r_text)).dv), S) :=
  ca_retD (ds := [.int .i64 (kind), .agg [.int .i64 r_kind, .int .i64 r_a, .int .i64 r_b, .str r_text]]) (ret_constant kind (Raw.mk r_kind r_a r_b r_text) hr) rfl (tab_opn (by kernel_rfl)) (tab_res (by kernel_rfl))
def fnames (kind : Int) : List Field → List (List UInt8)
  | [] => []
  | f :: r => if f.ty = kind then f.name :: fnames kind r else fnames kind r
theorem fnames_le (kind : Int) : ∀ fs : List Field, (fnames kind fs).length ≤ fs.length
  | [] => Nat.le_refl _
  | f :: r => by
    have := fnames_le kind r
    unfold fnames
    split <;> simp only [List.length_cons] <;> omega
def gleafE (kind : Int) (fs : List Field) (r : Raw) : Exp :=
  if (fnames kind fs).length = 0 then constE kind r else if pick r.kind 4 = 0 then constE kind r else .mk 2 Val.zero ((fnames kind fs).getD (pick r.b (fnames kind fs).length).toNat []) []
theorem run_leaf {d : Nat} {p : List Nat} (d0 t0 : Nat) (g0 : List Nat) (h : d0 < d) (hg0 : ¬ p <:+ g0) (kind : Int) (fs : List Field) (hfs : fs.length ≤ 1048576) (l : List Raw) (k : Nat) (hk : k ≤ 4611686018427387904) (hl : l.length ≤ 9223372036854775807) (hr : ∀ r ∈ l, r.ok) :
    ∃ x H', callR tab d 25 [.ptr ⟨d0, t0, g0⟩ 0, .d (.int .i64 kind), .d (.sl 9 (fs.map Field.dv))] [(⟨d0, t0, g0⟩, gbox l k)] p = some (x, H') ∧ (soft tab 25 x = .d (gleafE kind fs (gnext l k)).dv ∧ H'.get ⟨d0, t0, g0⟩ = some (gbox l (gat l k))) := by
  have e1 : (d0 = d) = False := eq_false (by omega)
  have e2 : (d = d0) = False := eq_false (by omega)
  have hd1 : decide (d0 < d) = true := decide_eq_true h
  have hs0 : (p <:+ g0) = False := eq_false hg0
  refine retq_good (fs.length + 1) fn25 rfl rfl ?_
  have fn := fun (T : Tm) (g : List Nat) (H : Heap) (dst : Nat) (hx : ((0 :: g) <:+ g0) = False) (hS : Heap.get H ⟨d0, t0, g0⟩ = some (gbox l k)) => ca_next (d := d) (dst := dst) (S := ⟨T, H, g⟩) d0 t0 g0 l k hk hl (by omega) hx hS
  have hrk := gnext_ok hr k
  generalize gnext l k = r at *
  generalize gat l k = k2 at *
  simp only [amr, amc, amp, if_true, if_false, ne_eq, gt_iff_lt, Option.getD, argsT, Option.bind, Option.map, List.headD, List.tail, opnsL, List.replicate, lendsL, seval, ty_GenB_25, fn, suf1 hg0, suf2 hg0, suf3 hg0, suf4 hg0, hs0, Raw.dv, e1, e2, upd, Option.getD_none, Option.getD_some]
  refine good_range fs (fun k (a : List (List UInt8) × Option (List Nat)) g => ⟨[(1, .d (.int .i64 kind)), (6, .ptr ⟨d, 6, 0 :: p⟩ 0), (7, .ptr ⟨d, 7, 0 :: 1 :: 1 :: p⟩ 0), (8, .own 1 (a.1.map DV.str) (tokD d 27 a.2)), (13, .d (.sl 9 (fs.map Field.dv))), (14, .d (.int .i64 fs.length)), (15, .d (.int .i64 (k : Nat)))],
      tokP d 27 (a.1.length * 1) a.2 ++ [(⟨d, 7, 0 :: 1 :: 1 :: p⟩, .box [.d (.int .i64 r.kind), .d (.int .i64 r.a), .d (.int .i64 r.b), .d (.str r.text)]), (⟨d, 6, 0 :: p⟩, .box [.d (.int .i64 0), .d (.int .i64 0), .d (.int .i64 0), .d (.str []), .d (.str []), .own 6 [] none]), (⟨d0, t0, g0⟩, gbox l k2)], g⟩) (fun k a => a.1.length ≤ k) (fun k a r => a.1 ++ fnames kind r)
    (fun (o : List (List UInt8)) (q : Out) (S : St) => q = .exit 0 ∧ ∃ t g, Sub ⟨[(1, .d (.int .i64 kind)), (6, .ptr ⟨d, 6, 0 :: p⟩ 0), (7, .ptr ⟨d, 7, 0 :: 1 :: 1 :: p⟩ 0), (8, .own 1 (o.map DV.str) (tokD d 27 t))],
      tokP d 27 (o.length * 1) t ++ [(⟨d, 7, 0 :: 1 :: 1 :: p⟩, .box [.d (.int .i64 r.kind), .d (.int .i64 r.a), .d (.int .i64 r.b), .d (.str r.text)]), (⟨d, 6, 0 :: p⟩, .box [.d (.int .i64 0), .d (.int .i64 0), .d (.int .i64 0), .d (.str []), .d (.str []), .own 6 [] none]), (⟨d0, t0, g0⟩, gbox l k2)], g⟩ S) ([], none) kp25_4 (fun r => up_tok) (Nat.le_refl _) (by omega) (by omega) ?_ ?_ ?_ ?_
  · rintro k ⟨acc, t⟩ g x rest hk hget hd _ hb w1
    have hget' : (fs.map Field.dv)[k]? = some x.dv := by rw [List.getElem?_map, hget]; rfl
    rename_i hI
    simp only at hI
    have hA : ((acc.length + 1) * 16 ≤ 140737488355328) = True := eq_true (by omega)
    by_cases hq : x.ty = kind
    · have bq : (x.ty == kind) = true := beq_iff_eq.2 hq
      rcases t with _ | t
      · simp only [amr, amc, amp, if_true, if_false, ne_eq, gt_iff_lt, Option.getD, argsT, Option.bind, Option.map, List.headD, List.tail, opnsL, List.replicate, lendsL, seval, ty_GenB_25, Field.dv, hb, w1, hget', bq, tokD, tokP, hA, e1, e2, hd1, sx1, sx2]
        refine step_nrm (acc ++ [x.name], some (1 :: g)) ?_ ?_ ?_
        · simp only [List.length_append, List.length_cons, List.length_nil]; omega
        · simp [fnames, hq]
        · (apply Exists.intro; (try simp only [amr, amc, amp, if_true, if_false, ne_eq, gt_iff_lt, Option.getD, argsT, Option.bind, Option.map, List.headD, List.tail, opnsL, List.replicate, lendsL, seval, tokD, tokP, e1, e2, hd1]); exact sub_mk (by repeat first | exact subT_nil | refine subT_cons (by first | rfl | simp [Tm.get, *]) ?_))
      · simp only [amr, amc, amp, if_true, if_false, ne_eq, gt_iff_lt, Option.getD, argsT, Option.bind, Option.map, List.headD, List.tail, opnsL, List.replicate, lendsL, seval, ty_GenB_25, Field.dv, hb, w1, hget', bq, tokD, tokP, hA, e1, e2, hd1, sx1, sx2]
        refine step_nrm (acc ++ [x.name], some t) ?_ ?_ ?_
        · simp only [List.length_append, List.length_cons, List.length_nil]; omega
        · simp [fnames, hq]
        · (apply Exists.intro; (try simp only [amr, amc, amp, if_true, if_false, ne_eq, gt_iff_lt, Option.getD, argsT, Option.bind, Option.map, List.headD, List.tail, opnsL, List.replicate, lendsL, seval, tokD, tokP, e1, e2, hd1]); exact sub_mk (by repeat first | exact subT_nil | refine subT_cons (by first | rfl | simp [Tm.get, *]) ?_))
    · have bq : (x.ty == kind) = false := beq_eq_false_iff_ne.2 hq
      rcases t with _ | t
      · simp only [amr, amc, amp, if_true, if_false, ne_eq, gt_iff_lt, Option.getD, argsT, Option.bind, Option.map, List.headD, List.tail, opnsL, List.replicate, lendsL, seval, ty_GenB_25, Field.dv, hb, w1, hget', bq, tokD, tokP, e1, e2, hd1, sx1, sx2]
        refine step_nrm (acc, none) ?_ ?_ ?_
        · simp only; omega
        · simp [fnames, hq]
        · (apply Exists.intro; (try simp only [amr, amc, amp, if_true, if_false, ne_eq, gt_iff_lt, Option.getD, argsT, Option.bind, Option.map, List.headD, List.tail, opnsL, List.replicate, lendsL, seval, tokD, tokP, e1, e2, hd1]); exact sub_mk (by repeat first | exact subT_nil | refine subT_cons (by first | rfl | simp [Tm.get, *]) ?_))
      · simp only [amr, amc, amp, if_true, if_false, ne_eq, gt_iff_lt, Option.getD, argsT, Option.bind, Option.map, List.headD, List.tail, opnsL, List.replicate, lendsL, seval, ty_GenB_25, Field.dv, hb, w1, hget', bq, tokD, tokP, e1, e2, hd1, sx1, sx2]
        refine step_nrm (acc, some t) ?_ ?_ ?_
        · simp only; omega
        · simp [fnames, hq]
        · (apply Exists.intro; (try simp only [amr, amc, amp, if_true, if_false, ne_eq, gt_iff_lt, Option.getD, argsT, Option.bind, Option.map, List.headD, List.tail, opnsL, List.replicate, lendsL, seval, tokD, tokP, e1, e2, hd1]); exact sub_mk (by repeat first | exact subT_nil | refine subT_cons (by first | rfl | simp [Tm.get, *]) ?_))
  · rintro ⟨acc, t⟩ g _ hb
    simp only [amr, amc, amp, if_true, if_false, ne_eq, gt_iff_lt, Option.getD, argsT, Option.bind, Option.map, List.headD, List.tail, opnsL, List.replicate, lendsL, seval, ty_GenB_25, hb]
    refine last_end (by simp) ⟨rfl, t, ?_⟩
    simp only [fnames, List.append_nil]
    rcases t with _ | t
    · (apply Exists.intro; (try simp only [amr, amc, amp, if_true, if_false, ne_eq, gt_iff_lt, Option.getD, argsT, Option.bind, Option.map, List.headD, List.tail, opnsL, List.replicate, lendsL, seval, tokD, tokP, e1, e2, hd1]); exact sub_mk (by repeat first | exact subT_nil | refine subT_cons (by first | rfl | simp [Tm.get, *]) ?_))
    · (apply Exists.intro; (try simp only [amr, amc, amp, if_true, if_false, ne_eq, gt_iff_lt, Option.getD, argsT, Option.bind, Option.map, List.headD, List.tail, opnsL, List.replicate, lendsL, seval, tokD, tokP, e1, e2, hd1]); exact sub_mk (by repeat first | exact subT_nil | refine subT_cons (by first | rfl | simp [Tm.get, *]) ?_))
  · (apply Exists.intro; (try simp only [amr, amc, amp, if_true, if_false, ne_eq, gt_iff_lt, Option.getD, argsT, Option.bind, Option.map, List.headD, List.tail, opnsL, List.replicate, lendsL, seval, tokD, tokP, e1, e2, hd1]); exact sub_mk (by repeat first | exact subT_nil | refine subT_cons (by first | rfl | simp [Tm.get, *]) ?_))
  · rintro o S' ⟨rfl, t, g, hs⟩
    refine good_sub_cr up_finq hs ?_
    unfold gleafE
    simp only [List.nil_append]
    have hol := fnames_le kind fs
    generalize fnames kind fs = o at *
    have fc : ∀ (S : St) (d dst : Nat), callA tab (callR tab) d dst 40 [.d (.int .i64 kind), .d (.agg [.int .i64 r.kind, .int .i64 r.a, .int .i64 r.b, .str r.text])] S = some (.d (.agg [.int .i64 1, .int .i64 (constV kind r).kind, .int .i64 (constV kind r).n, .str (constV kind r).s, .str [], .sl 6 []]), S) := fun S d dst => by
      have h := cf_constant (d := d) (dst := dst) (S := S) kind r hrk.text
      unfold constE at h
      rw [Exp.dv_mk] at h
      exact h
    have hdc : (constE kind r).dv = .agg [.int .i64 1, .int .i64 (constV kind r).kind, .int .i64 (constV kind r).n, .str (constV kind r).s, .str [], .sl 6 []] := by unfold constE; rw [Exp.dv_mk]; rfl
    have p1 := fun (S : St) (d dst : Nat) => ca_picked (d := d) (dst := dst) (S := S) r.kind 4 (by decide)
    by_cases c0 : o.length = 0
    · rw [if_pos c0, hdc]
      obtain rfl := List.eq_nil_of_length_eq_zero c0
      rcases t with _ | t
      · simp only [amr, amc, amp, if_true, if_false, ne_eq, gt_iff_lt, Option.getD, argsT, Option.bind, Option.map, List.headD, List.tail, opnsL, List.replicate, lendsL, seval, ty_GenB_25, tokD, tokP, e1, e2, hd1, fc, beq_self_eq_true, soft_d]
      · simp only [amr, amc, amp, if_true, if_false, ne_eq, gt_iff_lt, Option.getD, argsT, Option.bind, Option.map, List.headD, List.tail, opnsL, List.replicate, lendsL, seval, ty_GenB_25, tokD, tokP, e1, e2, hd1, fc, beq_self_eq_true, soft_d]
    · rw [if_neg c0]
      have b0 : ((o.length : Int) == 0) = false := beq_eq_false_iff_ne.2 (by omega)
      by_cases c4 : pick r.kind 4 = 0
      · rw [if_pos c4, hdc]
        rw [c4] at p1
        rcases t with _ | t
        · simp only [amr, amc, amp, if_true, if_false, ne_eq, gt_iff_lt, Option.getD, argsT, Option.bind, Option.map, List.headD, List.tail, opnsL, List.replicate, lendsL, seval, ty_GenB_25, tokD, tokP, e1, e2, hd1, fc, p1, b0, beq_self_eq_true, soft_d]
        · simp only [amr, amc, amp, if_true, if_false, ne_eq, gt_iff_lt, Option.getD, argsT, Option.bind, Option.map, List.headD, List.tail, opnsL, List.replicate, lendsL, seval, ty_GenB_25, tokD, tokP, e1, e2, hd1, fc, p1, b0, beq_self_eq_true, soft_d]
      · rw [if_neg c4, Exp.dv_mk]
        have b4 : (pick r.kind 4 == 0) = false := beq_eq_false_iff_ne.2 c4
        have hpn := pick_range r.b (o.length : Int) hrk.b.1 hrk.b.2 (by omega)
        have p2 := fun (S : St) (d dst : Nat) => ca_picked (d := d) (dst := dst) (S := S) r.b (o.length : Int) (by omega)
        generalize pick r.b (o.length : Int) = q at *
        obtain ⟨j, rfl⟩ : ∃ j : Nat, q = j := ⟨q.toNat, by omega⟩
        have hj : j < o.length := by omega
        have hjl : ((j : Int) < (o.length : Int)) = True := eq_true (by omega)
        have hoj : (o.map DV.str)[j]? = some (.str (o.getD j [])) := by rw [List.getElem?_map, List.getD_eq_getElem?_getD, List.getElem?_eq_getElem hj]; rfl
        rw [Int.toNat_natCast]
        rcases t with _ | t
        · simp only [amr, amc, amp, if_true, if_false, ne_eq, gt_iff_lt, Option.getD, argsT, Option.bind, Option.map, List.headD, List.tail, opnsL, List.replicate, lendsL, seval, ty_GenB_25, tokD, tokP, e1, e2, hd1, fc, p1, p2, b0, b4, hoj, hjl, beq_self_eq_true]
          exact soft_agg (by kernel_rfl) rfl
        · simp only [amr, amc, amp, if_true, if_false, ne_eq, gt_iff_lt, Option.getD, argsT, Option.bind, Option.map, List.headD, List.tail, opnsL, List.replicate, lendsL, seval, ty_GenB_25, tokD, tokP, e1, e2, hd1, fc, p1, p2, b0, b4, hoj, hjl, beq_self_eq_true]
          exact soft_agg (by kernel_rfl) rfl
theorem ca_leaf {d dst : Nat} {S : St} (d0 t0 : Nat) (g0 : List Nat) (h : d0 ≤ d) (kind : Int) (fs : List Field) (hfs : fs.length ≤ 1048576) (l : List Raw) (k : Nat) (hk : k ≤ 4611686018427387904) (hl : l.length ≤ 9223372036854775807) (hr : ∀ r ∈ l, r.ok) (hg0 : ((0 :: S.g) <:+ g0) = False) (hS : S.H.get ⟨d0, t0, g0⟩ = some (gbox l k)) :
    callA tab (callR tab) d dst 25 [.ptr ⟨d0, t0, g0⟩ 0, .d (.int .i64 kind), .d (.sl 9 (fs.map Field.dv))] S = some (.d (gleafE kind fs (gnext l k)).dv, ⟨S.T, upd [(⟨d0, t0, g0⟩, gbox l (gat l k))] S.H, 1 :: S.g⟩) := by
  obtain ⟨x, H', h1, h2, h3⟩ := run_leaf (p := 0 :: S.g) d0 t0 g0 (Nat.lt_succ_of_le h) (of_eq_false hg0) kind fs hfs l k hk hl hr
  exact ca_open1 (cs := [.d (.sl 4 (l.map Raw.dv)), .d (.int .i64 k)]) (cs' := [.d (.sl 4 (l.map Raw.dv)), .d (.int .i64 (gat l k))]) (by split <;> rfl) (lent_off (tab_lend (by kernel_rfl))) rfl rfl rfl ⟨x, H', h1, h2, h3⟩ rfl hS
end Go.Proofs.Ythmggkidmcgfoaa.Am
/- Formulas of raw things, walked. -/
set_option linter.unusedVariables false
set_option linter.unusedSimpArgs false
namespace Go.Proofs.Ythmggkidmcgfoaa.Am
open Go Go.RowKit
theorem ty_GenC_26 : type_of% (ai (ai (ai (ai (ai (ai @rs26 @lv26_0) (ai @lv26_1 @lv26_2)) (ai (ai @lv26_3 @lv26_4) (ai @dr26_5 (ai @lv26_5 @mu25_28)))) (ai (ai (ai @lv26_6 @lv26_7) (ai @kp26_3 @und1)) (ai (ai @sz1 @ag1) (ai @inf1 (ai @und3 @sz3))))) (ai (ai (ai (ai @ag3 @lv3) (ai @inf3 @und9)) (ai (ai @sz9 @ag9) (ai @lv9 (ai @inf9 @und24)))) (ai (ai (ai @sz24 @ag24) (ai @fo24 (ai @bA24 @pT24_0))) (ai (ai @pT24_1 @pT24_2) (ai @lv24 (ai @inf24 @und25)))))) (ai (ai (ai (ai (ai @sz25 @ag25) (ai @pT25 @inf25)) (ai (ai @und27 @sz27) (ai @ag27 (ai @fo27 @bA27)))) (ai (ai (ai @pT27_0 @pT27_1) (ai @pT27_2 (ai @pT27_3 @inf27))) (ai (ai @und30 @sz30) (ai @ag30 (ai @pT30 @inf30))))) (ai (ai (ai (ai @und49 @sz49) (ai @ag49 @fo49)) (ai (ai @bA49 @pT49_0) (ai @pT49_1 (ai @pT49_2 @pT49_3)))) (ai (ai (ai @inf49 @und51) (ai @sz51 (ai @ag51 @inf51))) (ai (ai @und70 @sz70) (ai @ag70 (ai @pT70 @inf70))))))) := (ai (ai (ai (ai (ai (ai @rs26 @lv26_0) (ai @lv26_1 @lv26_2)) (ai (ai @lv26_3 @lv26_4) (ai @dr26_5 (ai @lv26_5 @mu25_28)))) (ai (ai (ai @lv26_6 @lv26_7) (ai @kp26_3 @und1)) (ai (ai @sz1 @ag1) (ai @inf1 (ai @und3 @sz3))))) (ai (ai (ai (ai @ag3 @lv3) (ai @inf3 @und9)) (ai (ai @sz9 @ag9) (ai @lv9 (ai @inf9 @und24)))) (ai (ai (ai @sz24 @ag24) (ai @fo24 (ai @bA24 @pT24_0))) (ai (ai @pT24_1 @pT24_2) (ai @lv24 (ai @inf24 @und25)))))) (ai (ai (ai (ai (ai @sz25 @ag25) (ai @pT25 @inf25)) (ai (ai @und27 @sz27) (ai @ag27 (ai @fo27 @bA27)))) (ai (ai (ai @pT27_0 @pT27_1) (ai @pT27_2 (ai @pT27_3 @inf27))) (ai (ai @und30 @sz30) (ai @ag30 (ai @pT30 @inf30))))) (ai (ai (ai (ai @und49 @sz49) (ai @ag49 @fo49)) (ai (ai @bA49 @pT49_0) (ai @pT49_1 (ai @pT49_2 @pT49_3)))) (ai (ai (ai @inf49 @und51) (ai @sz51 (ai @ag51 @inf51))) (ai (ai @und70 @sz70) (ai @ag70 (ai @pT70 @inf70)))))))
set_option maxRecDepth 100000
set_option maxHeartbeats 40000000



/-- One formula behind the other. -/
def gargs (ge : Int → Nat → Exp × Nat) : List Int → Nat → List Exp × Nat
  | [], n => ([], n)
  | k :: ks, n => ((ge k n).1 :: (gargs ge ks (ge k n).2).1, (gargs ge ks (ge k n).2).2)
/-- An op, and of which kinds its arguments are. -/
def gshape (kind : Int) (r : Raw) : Int × List Int :=
  if pick r.a 6 = 0 then (17, [2, kind, kind])
  else if kind = 1 then (if pick r.b 7 = 0 then (3, [1]) else if pick r.b 7 = 1 then (18, [3]) else (5 + (pick r.b 7 - 2), [1, 1]))
  else if kind = 2 then (if pick r.b 7 = 0 then (4, [2]) else if pick r.b 7 < 3 then (15 + pick r.b 7 - 1, [2, 2]) else (11 + pick r.b 7 - 3, [1 + pick r.a 3, 1 + pick r.a 3]))
  else (10, [3, 3])
def gexpr (fs : List Field) (l : List Raw) : Nat → Int → Nat → Exp × Nat
  | 0, kind, k => (gleafE kind fs (gnext l (gat l k)), gat l (gat l k))
  | d + 1, kind, k => if pick (gnext l k).kind 3 = 0 then (gleafE kind fs (gnext l (gat l k)), gat l (gat l k)) else
    (.mk (gshape kind (gnext l k)).1 Val.zero [] (gargs (gexpr fs l d) (gshape kind (gnext l k)).2 (gat l k)).1, (gargs (gexpr fs l d) (gshape kind (gnext l k)).2 (gat l k)).2)
theorem gargs_at {ge : Int → Nat → Exp × Nat} {c : Nat} (h : ∀ k n, n ≤ (ge k n).2 ∧ (ge k n).2 ≤ n + c) : ∀ (ks : List Int) (n : Nat), n ≤ (gargs ge ks n).2 ∧ (gargs ge ks n).2 ≤ n + ks.length * c
  | [], n => by simp [gargs]
  | k :: ks, n => by
    have h1 := h k n
    have h2 := gargs_at h ks (ge k n).2
    simp only [gargs, List.length_cons, Nat.add_mul]
    omega
theorem gshape_len (kind : Int) (r : Raw) : (gshape kind r).2.length ≤ 3 := by
  unfold gshape
  split
  · simp
  · split
    · split
      · simp
      · split <;> simp
    · split
      · split
        · simp
        · split <;> simp
      · simp
theorem gexpr_at (fs : List Field) (l : List Raw) : ∀ (d : Nat) (kind : Int) (k : Nat), k ≤ (gexpr fs l d kind k).2 ∧ (gexpr fs l d kind k).2 ≤ k + 4 ^ (d + 2)
  | 0, kind, k => by
    have h1 := gat_le l k
    have h2 := gat_le l (gat l k)
    simp only [gexpr]
    omega
  | d + 1, kind, k => by
    have h1 := gat_le l k
    have h2 := gat_le l (gat l k)
    have h3 := gargs_at (ge := gexpr fs l d) (gexpr_at fs l d) (gshape kind (gnext l k)).2 (gat l k)
    have h4 := gshape_len kind (gnext l k)
    have h5 : (gshape kind (gnext l k)).2.length * 4 ^ (d + 2) ≤ 3 * 4 ^ (d + 2) := Nat.mul_le_mul_right _ h4
    have h6 : 0 < 4 ^ (d + 2) := Nat.pow_pos (by decide)
    have h7 : 4 ^ (d + 1 + 2) = 4 * 4 ^ (d + 2) := by rw [show d + 1 + 2 = (d + 2) + 1 by omega, Nat.pow_succ, Nat.mul_comm]
    have h8 : 16 ≤ 4 ^ (d + 2) := by
      have := Nat.pow_le_pow_right (n := 4) (by decide) (show 2 ≤ d + 2 by omega)
      simpa using this
    unfold gexpr
    split
    · simp only; omega
    · simp only; omega
def ExprOK (deep : Nat) : Prop := ∀ {d : Nat} {p : List Nat} (d0 t0 : Nat) (g0 : List Nat), d0 < d → ¬ p <:+ g0 → ∀ (kind : Int) (fs : List Field), fs.length ≤ 1048576 → ∀ (l : List Raw) (k : Nat), k + 4 ^ (deep + 2) ≤ 4611686018427387904 → l.length ≤ 9223372036854775807 → (∀ r ∈ l, r.ok) →
    ∃ x H', callR tab d 16 [.ptr ⟨d0, t0, g0⟩ 0, .d (.int .i64 kind), .d (.sl 9 (fs.map Field.dv)), .d (.int .i64 deep)] [(⟨d0, t0, g0⟩, gbox l k)] p = some (x, H') ∧ (soft tab 16 x = .d (gexpr fs l deep kind k).1.dv ∧ H'.get ⟨d0, t0, g0⟩ = some (gbox l (gexpr fs l deep kind k).2))
theorem ca_exprH {deep : Nat} (hge : ExprOK deep) {d dst : Nat} {S : St} (d0 t0 : Nat) (g0 : List Nat) (h : d0 ≤ d) (kind : Int) (fs : List Field) (hfs : fs.length ≤ 1048576) (l : List Raw) (k : Nat) (hk : k + 4 ^ (deep + 2) ≤ 4611686018427387904) (hl : l.length ≤ 9223372036854775807) (hr : ∀ r ∈ l, r.ok) (hg0 : ((0 :: S.g) <:+ g0) = False) (hS : S.H.get ⟨d0, t0, g0⟩ = some (gbox l k)) :
    callA tab (callR tab) d dst 16 [.ptr ⟨d0, t0, g0⟩ 0, .d (.int .i64 kind), .d (.sl 9 (fs.map Field.dv)), .d (.int .i64 deep)] S = some (.d (gexpr fs l deep kind k).1.dv, ⟨S.T, upd [(⟨d0, t0, g0⟩, gbox l (gexpr fs l deep kind k).2)] S.H, 1 :: S.g⟩) := by
  obtain ⟨x, H', h1, h2, h3⟩ := hge (p := 0 :: S.g) d0 t0 g0 (Nat.lt_succ_of_le h) (of_eq_false hg0) kind fs hfs l k hk hl hr
  exact ca_open1 (cs := [.d (.sl 4 (l.map Raw.dv)), .d (.int .i64 k)]) (cs' := [.d (.sl 4 (l.map Raw.dv)), .d (.int .i64 (gexpr fs l deep kind k).2)]) (by split <;> rfl) (lent_off (tab_lend (by kernel_rfl))) rfl rfl rfl ⟨x, H', h1, h2, h3⟩ rfl hS
/-- What a formula's arguments are made with. -/
structure GW where
  acc : List Exp
  t : Option (List Nat)
  n : Nat
  g : List Nat
theorem run_with {deep : Nat} (hge : ExprOK deep) {d : Nat} {p : List Nat} (d0 t0 : Nat) (g0 : List Nat) (d4 t4 : Nat) (g4 : List Nat) (h : d0 < d) (h4 : d4 < d) (h04 : d0 < d4) (hg0 : ¬ p <:+ g0) (op : Int) (ks : List Int) (hks : ks.length ≤ 3) (fs : List Field) (hfs : fs.length ≤ 1048576) (l : List Raw) (k : Nat) (hk : k + ks.length * 4 ^ (deep + 2) ≤ 4611686018427387904) (hl : l.length ≤ 9223372036854775807) (hr : ∀ r ∈ l, r.ok) (hd2 : deep ≤ 1000) :
    ∃ x H', callR tab d 26 [.d (.int .i64 op), .own 1 (ks.map (fun k => DV.int .i64 k)) none, .ptr ⟨d4, t4, g4⟩ 0, .d (.rp [.sl 9 (fs.map Field.dv)]), .d (.rp [.int .i64 ((deep : Int) + 1)])] [(⟨d4, t4, g4⟩, .box [.ptr ⟨d0, t0, g0⟩ 0]), (⟨d0, t0, g0⟩, gbox l k)] p = some (x, H') ∧
      (soft tab 26 x = .d (Exp.mk op Val.zero [] (gargs (gexpr fs l deep) ks k).1).dv ∧ H'.get ⟨d4, t4, g4⟩ = some (.box [.ptr ⟨d0, t0, g0⟩ 0]) ∧ H'.get ⟨d0, t0, g0⟩ = some (gbox l (gargs (gexpr fs l deep) ks k).2)) := by
  have e1 : (d0 = d) = False := eq_false (by omega)
  have e2 : (d = d0) = False := eq_false (by omega)
  have e3 : (d4 = d) = False := eq_false (by omega)
  have e4 : (d = d4) = False := eq_false (by omega)
  have e5 : (d0 = d4) = False := eq_false (by omega)
  have e6 : (d4 = d0) = False := eq_false (by omega)
  have hd1 : decide (d0 < d) = true := decide_eq_true h
  have hd4 : decide (d4 < d) = true := decide_eq_true h4
  have hs0 : (p <:+ g0) = False := eq_false hg0
  refine retq_good (ks.length + 1) fn26 rfl rfl ?_
  simp only [amr, amc, amp, if_true, if_false, ne_eq, gt_iff_lt, Option.getD, argsT, Option.bind, Option.map, List.headD, List.tail, opnsL, List.replicate, lendsL, seval, ty_GenC_26]
  refine good_range ks (fun k' (a : GW) _ => ⟨[(2, .ptr ⟨d4, t4, g4⟩ 0), (3, .d (.rp [.sl 9 (fs.map Field.dv)])), (4, .d (.rp [.int .i64 ((deep : Int) + 1)])), (7, .ptr ⟨d, 7, 0 :: p⟩ 0), (8, .ptr ⟨d, 8, 0 :: 1 :: p⟩ 0), (13, .own 1 (ks.map (fun k => DV.int .i64 k)) none), (14, .d (.int .i64 ks.length)), (15, .d (.int .i64 (k' : Nat)))],
      tokP d 28 (a.acc.length * 6) a.t ++ [(⟨d, 8, 0 :: 1 :: p⟩, .box [.d (.int .i64 op), .d (.int .i64 0), .d (.int .i64 0), .d (.str []), .d (.str []), .own 6 (a.acc.map Exp.dv) (tokD d 28 a.t)]), (⟨d, 7, 0 :: p⟩, .box [.d (.int .i64 0), .d (.int .i64 0), .d (.int .i64 0), .d (.str []), .d (.str []), .own 6 [] none]), (⟨d4, t4, g4⟩, .box [.ptr ⟨d0, t0, g0⟩ 0]), (⟨d0, t0, g0⟩, gbox l a.n)], a.g⟩)
    (fun k' a => a.acc.length ≤ k' ∧ k ≤ a.n ∧ a.n ≤ k + k' * 4 ^ (deep + 2) ∧ ¬ a.g <:+ g0 ∧ p.length + 2 ≤ a.g.length) (fun k' a r => (a.acc ++ (gargs (gexpr fs l deep) r a.n).1, (gargs (gexpr fs l deep) r a.n).2))
    (fun (o : List Exp × Nat) (q : Out) (S : St) => q = .exit 0 ∧ ∃ t g, Sub ⟨[(7, .ptr ⟨d, 7, 0 :: p⟩ 0), (8, .ptr ⟨d, 8, 0 :: 1 :: p⟩ 0)],
      tokP d 28 (o.1.length * 6) t ++ [(⟨d, 8, 0 :: 1 :: p⟩, .box [.d (.int .i64 op), .d (.int .i64 0), .d (.int .i64 0), .d (.str []), .d (.str []), .own 6 (o.1.map Exp.dv) (tokD d 28 t)]), (⟨d, 7, 0 :: p⟩, .box [.d (.int .i64 0), .d (.int .i64 0), .d (.int .i64 0), .d (.str []), .d (.str []), .own 6 [] none]), (⟨d4, t4, g4⟩, .box [.ptr ⟨d0, t0, g0⟩ 0]), (⟨d0, t0, g0⟩, gbox l o.2)], g⟩ S) ⟨[], none, k, 1 :: 1 :: p⟩ kp26_3 (fun r => up_tok) ⟨Nat.le_refl _, Nat.le_refl _, by simp, apart_cons (apart_cons hg0), by simp⟩ (by omega) (by omega) ?_ ?_ ?_ ?_
  · rintro k' ⟨acc, t, n, g⟩ _ x rest hk' hget hdr hI hb w1
    have hget' : (ks.map (fun k => DV.int .i64 k))[k']? = some (.int .i64 x) := by rw [List.getElem?_map, hget]; rfl
    simp only at hI
    obtain ⟨hI1, hI2, hI3, hI4, hI5⟩ := hI
    have hsx : ∀ (m b : Nat), (List.drop m (0 :: 1 :: p) = b :: g) = False := fun m b => eq_false (fun h => by have := congrArg List.length h; simp only [List.length_drop, List.length_cons] at this; omega)
    have fR : ∀ (Q : Tm) (H : Heap) (q : List Nat) (a b c : DV), Heap.get H ⟨d0, t0, g0⟩ = some (gbox l n) → ftC ⟨Q, H, q⟩ [.ptr ⟨d0, t0, g0⟩ 0, .d a, .d b, .d c] none = ⟨[], [⟨d0, t0, g0⟩], true⟩ := fun Q H q a b c hS => ftC_1 rfl hS rfl
    have hA : ((acc.length + 1) * 80 ≤ 140737488355328) = True := eq_true (by omega)
    have hkl : ((k' : Int) < (ks.length : Int)) = True := eq_true (by omega)
    have hb1 : k' * 4 ^ (deep + 2) + 4 ^ (deep + 2) ≤ ks.length * 4 ^ (deep + 2) := by
      rw [← Nat.succ_mul]
      exact Nat.mul_le_mul_right _ hk'
    have w2 : IntKind.i64.wrap ((deep : Int) + 1 - 1) = (deep : Int) := by rw [wrap_in (by omega) (by omega)]; omega
    have fE := fun (T : Tm) (g : List Nat) (H : Heap) (dst : Nat) (hx : ((0 :: g) <:+ g0) = False) (hS : Heap.get H ⟨d0, t0, g0⟩ = some (gbox l n)) => ca_exprH hge (d := d) (dst := dst) (S := ⟨T, H, g⟩) d0 t0 g0 (by omega) x fs hfs l n (by omega) hl hr hx hS
    have ha := gexpr_at fs l deep x n
    have hsp : gargs (gexpr fs l deep) (x :: rest) n = ((gexpr fs l deep x n).1 :: (gargs (gexpr fs l deep) rest (gexpr fs l deep x n).2).1, (gargs (gexpr fs l deep) rest (gexpr fs l deep x n).2).2) := rfl
    simp only [Exp.dv_eq (gexpr fs l deep x n).1] at fE
    generalize gexpr fs l deep x n = y at *
    rcases t with _ | t
    · simp only [amr, amc, amp, if_true, if_false, ne_eq, gt_iff_lt, Option.getD, argsT, Option.bind, Option.map, List.headD, List.tail, opnsL, List.replicate, lendsL, seval, ty_GenC_26, hb, w1, w2, hget', hkl, tokD, tokP, hA, e1, e2, e3, e4, e5, e6, hd1, hd4, sx1, sx2, fE, fR, hsx, suf1 hI4, suf2 hI4, suf3 hI4, suf4 hI4, upd, Option.getD_some, Option.getD_none]
      refine step_nrm (GW.mk (acc ++ [y.1]) (some (11 :: g)) y.2 (1 :: g)) ?_ ?_ ?_
      · refine ⟨?_, ?_, ?_, ?_, ?_⟩
        · simp only [List.length_append, List.length_cons, List.length_nil]; omega
        · simp only; omega
        · simp only [Nat.succ_mul]; omega
        · exact apart_cons hI4
        · simp only [List.length_cons]; omega
      · rw [hsp]; simp
      · (refine ⟨[], ?_⟩; (try simp only [amr, amc, amp, if_true, if_false, ne_eq, gt_iff_lt, Option.getD, argsT, Option.bind, Option.map, List.headD, List.tail, opnsL, List.replicate, lendsL, seval, tokD, tokP, e1, e2, e3, e4, e5, e6, hd1, hd4, Exp.dv_eq y.1]); exact sub_mk (by repeat first | exact subT_nil | refine subT_cons (by first | rfl | simp [Tm.get, *]) ?_))
    · simp only [amr, amc, amp, if_true, if_false, ne_eq, gt_iff_lt, Option.getD, argsT, Option.bind, Option.map, List.headD, List.tail, opnsL, List.replicate, lendsL, seval, ty_GenC_26, hb, w1, w2, hget', hkl, tokD, tokP, hA, e1, e2, e3, e4, e5, e6, hd1, hd4, sx1, sx2, fE, fR, hsx, suf1 hI4, suf2 hI4, suf3 hI4, suf4 hI4, upd, Option.getD_some, Option.getD_none]
      refine step_nrm (GW.mk (acc ++ [y.1]) (some t) y.2 (1 :: g)) ?_ ?_ ?_
      · refine ⟨?_, ?_, ?_, ?_, ?_⟩
        · simp only [List.length_append, List.length_cons, List.length_nil]; omega
        · simp only; omega
        · simp only [Nat.succ_mul]; omega
        · exact apart_cons hI4
        · simp only [List.length_cons]; omega
      · rw [hsp]; simp
      · (refine ⟨[], ?_⟩; (try simp only [amr, amc, amp, if_true, if_false, ne_eq, gt_iff_lt, Option.getD, argsT, Option.bind, Option.map, List.headD, List.tail, opnsL, List.replicate, lendsL, seval, tokD, tokP, e1, e2, e3, e4, e5, e6, hd1, hd4, Exp.dv_eq y.1]); exact sub_mk (by repeat first | exact subT_nil | refine subT_cons (by first | rfl | simp [Tm.get, *]) ?_))
  · rintro ⟨acc, t, n, g⟩ _ _ hb
    simp only [amr, amc, amp, if_true, if_false, ne_eq, gt_iff_lt, Option.getD, argsT, Option.bind, Option.map, List.headD, List.tail, opnsL, List.replicate, lendsL, seval, ty_GenC_26, hb]
    refine last_end (by simp) ⟨rfl, t, ?_⟩
    simp only [gargs, List.append_nil]
    rcases t with _ | t
    · (apply Exists.intro; (try simp only [amr, amc, amp, if_true, if_false, ne_eq, gt_iff_lt, Option.getD, argsT, Option.bind, Option.map, List.headD, List.tail, opnsL, List.replicate, lendsL, seval, tokD, tokP, e1, e2, e3, e4, e5, e6, hd1, hd4]); exact sub_mk (by repeat first | exact subT_nil | refine subT_cons (by first | rfl | simp [Tm.get, *]) ?_))
    · (apply Exists.intro; (try simp only [amr, amc, amp, if_true, if_false, ne_eq, gt_iff_lt, Option.getD, argsT, Option.bind, Option.map, List.headD, List.tail, opnsL, List.replicate, lendsL, seval, tokD, tokP, e1, e2, e3, e4, e5, e6, hd1, hd4]); exact sub_mk (by repeat first | exact subT_nil | refine subT_cons (by first | rfl | simp [Tm.get, *]) ?_))
  · (refine ⟨[], ?_⟩; (try simp only [amr, amc, amp, if_true, if_false, ne_eq, gt_iff_lt, Option.getD, argsT, Option.bind, Option.map, List.headD, List.tail, opnsL, List.replicate, lendsL, seval, tokD, tokP, e1, e2, e3, e4, e5, e6, hd1, hd4]); exact sub_mk (by repeat first | exact subT_nil | refine subT_cons (by first | rfl | simp [Tm.get, *]) ?_))
  · rintro o S' ⟨rfl, t, g, hs⟩
    refine good_sub_cr up_finq hs ?_
    simp only [List.nil_append]
    generalize gargs (gexpr fs l deep) ks k = o at *
    rw [Exp.dv_mk]
    rcases t with _ | t
    · simp only [amr, amc, amp, if_true, if_false, ne_eq, gt_iff_lt, Option.getD, argsT, Option.bind, Option.map, List.headD, List.tail, opnsL, List.replicate, lendsL, seval, ty_GenC_26, tokD, tokP, e1, e2, e3, e4, e5, e6, hd1, hd4]
      exact soft_agg (by kernel_rfl) rfl
    · simp only [amr, amc, amp, if_true, if_false, ne_eq, gt_iff_lt, Option.getD, argsT, Option.bind, Option.map, List.headD, List.tail, opnsL, List.replicate, lendsL, seval, ty_GenC_26, tokD, tokP, e1, e2, e3, e4, e5, e6, hd1, hd4]
      exact soft_agg (by kernel_rfl) rfl
end Go.Proofs.Ythmggkidmcgfoaa.Am
/- Formulas of raw things: of every depth. -/
set_option linter.unusedVariables false
set_option linter.unusedSimpArgs false
namespace Go.Proofs.Ythmggkidmcgfoaa.Am
open Go Go.RowKit
theorem ty_GenD_16 : type_of% (ai (ai (ai (ai (ai (ai @rs16 (ai @lv16_0 @ro51_4_raw_go_91)) (ai (ai @ro30_6_raw_go_91 @ro3_7_raw_go_91) (ai @lv16_1 @lv16_2))) (ai (ai (ai @lv16_3 @lv16_4) (ai @lv16_5 @lv16_6)) (ai (ai @lv16_7 @lv16_8) (ai @lv16_9 @lv16_10)))) (ai (ai (ai @lv16_12 (ai @lv16_13 @lv16_14)) (ai (ai @lv16_15 @lv16_11) (ai @lv16_16 @lv16_17))) (ai (ai (ai @lv16_20 @lv16_21) (ai @lv16_22 @lv16_23)) (ai (ai @lv16_18 @lv16_19) (ai @lv16_24 @und1))))) (ai (ai (ai (ai @sz1 (ai @ag1 @inf1)) (ai (ai @und2 @sz2) (ai @ag2 @lv2))) (ai (ai (ai @inf2 @und3) (ai @sz3 @ag3)) (ai (ai @lv3 @inf3) (ai @und4 @sz4)))) (ai (ai (ai @ag4 (ai @lv4 @inf4)) (ai (ai @und5 @sz5) (ai @ag5 @lv5))) (ai (ai (ai @inf5 @und9) (ai @sz9 @ag9)) (ai (ai @lv9 @inf9) (ai @und24 @sz24)))))) (ai (ai (ai (ai (ai @ag24 (ai @fo24 @bA24)) (ai (ai @pT24_0 @pT24_1) (ai @pT24_2 @lv24))) (ai (ai (ai @inf24 @und25) (ai @sz25 @ag25)) (ai (ai @pT25 @inf25) (ai @und27 @sz27)))) (ai (ai (ai @ag27 (ai @fo27 @bA27)) (ai (ai @pT27_0 @pT27_1) (ai @pT27_2 @pT27_3))) (ai (ai (ai @inf27 @und30) (ai @sz30 @ag30)) (ai (ai @pT30 @inf30) (ai @und49 @sz49))))) (ai (ai (ai (ai @ag49 (ai @fo49 @bA49)) (ai (ai @pT49_0 @pT49_1) (ai @pT49_2 @pT49_3))) (ai (ai (ai @inf49 @und51) (ai @sz51 @ag51)) (ai (ai @inf51 @und58) (ai @sz58 @ag58)))) (ai (ai (ai (ai @fo58 @bA58) (ai @pT58_0 @pT58_1)) (ai (ai @pT58_2 @pT58_3) (ai @inf58 @und70))) (ai (ai (ai @sz70 @ag70) (ai @pT70 @inf70)) (ai (ai @und71 @sz71) (ai @ag71 @inf71))))))) := (ai (ai (ai (ai (ai (ai @rs16 (ai @lv16_0 @ro51_4_raw_go_91)) (ai (ai @ro30_6_raw_go_91 @ro3_7_raw_go_91) (ai @lv16_1 @lv16_2))) (ai (ai (ai @lv16_3 @lv16_4) (ai @lv16_5 @lv16_6)) (ai (ai @lv16_7 @lv16_8) (ai @lv16_9 @lv16_10)))) (ai (ai (ai @lv16_12 (ai @lv16_13 @lv16_14)) (ai (ai @lv16_15 @lv16_11) (ai @lv16_16 @lv16_17))) (ai (ai (ai @lv16_20 @lv16_21) (ai @lv16_22 @lv16_23)) (ai (ai @lv16_18 @lv16_19) (ai @lv16_24 @und1))))) (ai (ai (ai (ai @sz1 (ai @ag1 @inf1)) (ai (ai @und2 @sz2) (ai @ag2 @lv2))) (ai (ai (ai @inf2 @und3) (ai @sz3 @ag3)) (ai (ai @lv3 @inf3) (ai @und4 @sz4)))) (ai (ai (ai @ag4 (ai @lv4 @inf4)) (ai (ai @und5 @sz5) (ai @ag5 @lv5))) (ai (ai (ai @inf5 @und9) (ai @sz9 @ag9)) (ai (ai @lv9 @inf9) (ai @und24 @sz24)))))) (ai (ai (ai (ai (ai @ag24 (ai @fo24 @bA24)) (ai (ai @pT24_0 @pT24_1) (ai @pT24_2 @lv24))) (ai (ai (ai @inf24 @und25) (ai @sz25 @ag25)) (ai (ai @pT25 @inf25) (ai @und27 @sz27)))) (ai (ai (ai @ag27 (ai @fo27 @bA27)) (ai (ai @pT27_0 @pT27_1) (ai @pT27_2 @pT27_3))) (ai (ai (ai @inf27 @und30) (ai @sz30 @ag30)) (ai (ai @pT30 @inf30) (ai @und49 @sz49))))) (ai (ai (ai (ai @ag49 (ai @fo49 @bA49)) (ai (ai @pT49_0 @pT49_1) (ai @pT49_2 @pT49_3))) (ai (ai (ai @inf49 @und51) (ai @sz51 @ag51)) (ai (ai @inf51 @und58) (ai @sz58 @ag58)))) (ai (ai (ai (ai @fo58 @bA58) (ai @pT58_0 @pT58_1)) (ai (ai @pT58_2 @pT58_3) (ai @inf58 @und70))) (ai (ai (ai @sz70 @ag70) (ai @pT70 @inf70)) (ai (ai @und71 @sz71) (ai @ag71 @inf71)))))))
set_option maxRecDepth 100000
set_option maxHeartbeats 40000000



theorem ca_with {deep : Nat} (hge : ExprOK deep) {d dst : Nat} {S : St} (d0 t0 : Nat) (g0 : List Nat) (d4 t4 : Nat) (g4 : List Nat) (h : d0 ≤ d) (h4 : d4 ≤ d) (h04 : d0 < d4) (op : Int) (ks : List Int) (hks : ks.length ≤ 3) (fs : List Field) (hfs : fs.length ≤ 1048576) (l : List Raw) (k : Nat) (hk : k + ks.length * 4 ^ (deep + 2) ≤ 4611686018427387904) (hl : l.length ≤ 9223372036854775807) (hr : ∀ r ∈ l, r.ok) (hd2 : deep ≤ 1000)
    (hg0 : ((0 :: S.g) <:+ g0) = False) (hS4 : S.H.get ⟨d4, t4, g4⟩ = some (.box [.ptr ⟨d0, t0, g0⟩ 0])) (hS : S.H.get ⟨d0, t0, g0⟩ = some (gbox l k)) :
    callA tab (callR tab) d dst 26 [.d (.int .i64 op), .own 1 (ks.map (fun k => DV.int .i64 k)) none, .ptr ⟨d4, t4, g4⟩ 0, .d (.rp [.sl 9 (fs.map Field.dv)]), .d (.rp [.int .i64 ((deep : Int) + 1)])] S =
      some (.d (Exp.mk op Val.zero [] (gargs (gexpr fs l deep) ks k).1).dv, ⟨S.T, upd [(⟨d4, t4, g4⟩, .box [.ptr ⟨d0, t0, g0⟩ 0]), (⟨d0, t0, g0⟩, gbox l (gargs (gexpr fs l deep) ks k).2)] S.H, 1 :: S.g⟩) := by
  obtain ⟨x, H', h1, h2, h3, h5⟩ := run_with hge (p := 0 :: S.g) d0 t0 g0 d4 t4 g4 (Nat.lt_succ_of_le h) (Nat.lt_succ_of_le h4) h04 (of_eq_false hg0) op ks hks fs hfs l k hk hl hr hd2
  have hne : (⟨d0, t0, g0⟩ : Id) ≠ ⟨d4, t4, g4⟩ := fun e => by injection e with e1 _ _; omega
  have hne2 : (⟨d4, t4, g4⟩ : Id) ≠ ⟨d0, t0, g0⟩ := fun e => hne e.symm
  have w4 : within [⟨d4, t4, g4⟩] S.H = [(⟨d4, t4, g4⟩, .box [.ptr ⟨d0, t0, g0⟩ 0])] := by unfold within; rw [hS4]; rfl
  have w2 : within [⟨d4, t4, g4⟩, ⟨d0, t0, g0⟩] S.H = [(⟨d4, t4, g4⟩, .box [.ptr ⟨d0, t0, g0⟩ 0]), (⟨d0, t0, g0⟩, gbox l k)] := by unfold within; rw [hS4]; simp only; unfold within; rw [hS]; rfl
  have hids : ∀ n, idsH [(⟨d4, t4, g4⟩, .box [.ptr ⟨d0, t0, g0⟩ 0]), (⟨d0, t0, g0⟩, gbox l n)] = [⟨d0, t0, g0⟩] := fun n => rfl
  refine ca_open (W0 := [(⟨d4, t4, g4⟩, .box [.ptr ⟨d0, t0, g0⟩ 0]), (⟨d0, t0, g0⟩, gbox l k)]) (W := [(⟨d4, t4, g4⟩, .box [.ptr ⟨d0, t0, g0⟩ 0]), (⟨d0, t0, g0⟩, gbox l (gargs (gexpr fs l deep) ks k).2)]) (by split <;> rfl) (lent_off (tab_lend (by kernel_rfl))) ?_ w2 (by rw [hids]; simp [Am.keys]) ⟨x, H', h1, h2, fun i hi => ?_⟩ rfl rfl ?_
  · show reach S.H 8 [⟨d4, t4, g4⟩] = _
    unfold reach
    rw [w4]
    have : (idsH [(⟨d4, t4, g4⟩, Place.box [AV.ptr ⟨d0, t0, g0⟩ 0])]).all (fun i => [(⟨d4, t4, g4⟩ : Id)].contains i) = false := by
      show ([(⟨d0, t0, g0⟩ : Id)]).all _ = false
      simp [hne]
    rw [this]
    simp only [Bool.false_eq_true, if_false]
    have ha : addIds [(⟨d4, t4, g4⟩ : Id)] (idsH [(⟨d4, t4, g4⟩, Place.box [AV.ptr ⟨d0, t0, g0⟩ 0])]) = [⟨d4, t4, g4⟩, ⟨d0, t0, g0⟩] := by
      show addIds [(⟨d4, t4, g4⟩ : Id)] [⟨d0, t0, g0⟩] = _
      simp [addIds, hne]
    rw [ha]
    unfold reach
    rw [w2, hids, if_pos (by simp)]
    rfl
  · have : i = ⟨d4, t4, g4⟩ ∨ i = ⟨d0, t0, g0⟩ := by simpa [Am.keys] using hi
    rcases this with rfl | rfl
    · rw [h3]; simp [Heap.get]
    · rw [h5]; simp [Heap.get, hne2]
  · show (idsH (within [⟨d4, t4, g4⟩, ⟨d0, t0, g0⟩] [(⟨d4, t4, g4⟩, .box [.ptr ⟨d0, t0, g0⟩ 0]), (⟨d0, t0, g0⟩, gbox l (gargs (gexpr fs l deep) ks k).2)])).all (fun i => [(⟨d4, t4, g4⟩ : Id), ⟨d0, t0, g0⟩].contains i) = true
    have : within [⟨d4, t4, g4⟩, ⟨d0, t0, g0⟩] [(⟨d4, t4, g4⟩, .box [.ptr ⟨d0, t0, g0⟩ 0]), (⟨d0, t0, g0⟩, gbox l (gargs (gexpr fs l deep) ks k).2)] = [(⟨d4, t4, g4⟩, .box [.ptr ⟨d0, t0, g0⟩ 0]), (⟨d0, t0, g0⟩, gbox l (gargs (gexpr fs l deep) ks k).2)] := by
      simp [within, Heap.get, hne2]
    rw [this, hids]
    simp
theorem expr_ok0 : ExprOK 0 := by
  intro d p d0 t0 g0 h hg0 kind fs hfs l k hk hl hr
  have e1 : (d0 = d) = False := eq_false (by omega)
  have e2 : (d = d0) = False := eq_false (by omega)
  have hd1 : decide (d0 < d) = true := decide_eq_true h
  have hs0 : (p <:+ g0) = False := eq_false hg0
  have hk1 := gat_le l k
  refine retq_good 1 fn16 rfl rfl ?_
  have fn := fun (T : Tm) (g : List Nat) (H : Heap) (dst : Nat) (hx : ((0 :: g) <:+ g0) = False) (hS : Heap.get H ⟨d0, t0, g0⟩ = some (gbox l k)) => ca_next (d := d) (dst := dst) (S := ⟨T, H, g⟩) d0 t0 g0 l k (by omega) hl (by omega) hx hS
  have fl := fun (T : Tm) (g : List Nat) (H : Heap) (dst : Nat) (hx : ((0 :: g) <:+ g0) = False) (hS : Heap.get H ⟨d0, t0, g0⟩ = some (gbox l (gat l k))) => ca_leaf (d := d) (dst := dst) (S := ⟨T, H, g⟩) d0 t0 g0 (by omega) kind fs hfs l (gat l k) (by omega) hl hr hx hS
  have hge : gexpr fs l 0 kind k = (gleafE kind fs (gnext l (gat l k)), gat l (gat l k)) := rfl
  rw [hge]
  simp only [Exp.dv_eq (gleafE kind fs (gnext l (gat l k)))] at fl ⊢
  generalize gleafE kind fs (gnext l (gat l k)) = E at *
  generalize gnext l k = r at *
  generalize gat l (gat l k) = k3 at *
  generalize gat l k = k2 at *
  simp only [amr, amc, amp, if_true, if_false, ne_eq, gt_iff_lt, Option.getD, argsT, Option.bind, Option.map, List.headD, List.tail, opnsL, List.replicate, lendsL, seval, ty_GenD_16, fn, fl, suf1 hg0, suf2 hg0, suf3 hg0, suf4 hg0, suf5 hg0, suf6 hg0, hs0, Raw.dv, e1, e2, hd1, upd, Option.getD_none, Option.getD_some, soft_d, Int.le_refl, Int.natCast_zero, Int.cast_ofNat_Int]
theorem expr_okS {n : Nat} (hge : ExprOK n) (hn : n ≤ 1000) : ExprOK (n + 1) := by
  intro d p d0 t0 g0 h hg0 kind fs hfs l k hk hl hr
  have e1 : (d0 = d) = False := eq_false (by omega)
  have e2 : (d = d0) = False := eq_false (by omega)
  have hd1 : decide (d0 < d) = true := decide_eq_true h
  have hs0 : (p <:+ g0) = False := eq_false hg0
  have hk1 := gat_le l k
  have h7 : 4 ^ (n + 1 + 2) = 4 * 4 ^ (n + 2) := by rw [show n + 1 + 2 = (n + 2) + 1 by omega, Nat.pow_succ, Nat.mul_comm]
  have h8 : 16 ≤ 4 ^ (n + 2) := by
    have := Nat.pow_le_pow_right (n := 4) (by decide) (show 2 ≤ n + 2 by omega)
    simpa using this
  have hbnd : ∀ m : Nat, m ≤ 3 → gat l k + m * 4 ^ (n + 2) ≤ 4611686018427387904 := fun m hm => by
    have := Nat.mul_le_mul_right (4 ^ (n + 2)) hm
    omega
  refine retq_good 1 fn16 rfl rfl ?_
  have fn := fun (T : Tm) (g : List Nat) (H : Heap) (dst : Nat) (hx : ((0 :: g) <:+ g0) = False) (hS : Heap.get H ⟨d0, t0, g0⟩ = some (gbox l k)) => ca_next (d := d) (dst := dst) (S := ⟨T, H, g⟩) d0 t0 g0 l k (by omega) hl (by omega) hx hS
  have hc : (((n + 1 : Nat)) : Int) = (n : Int) + 1 := by omega
  rw [hc]
  have b0 : decide ((n : Int) + 1 ≤ 0) = false := decide_eq_false (by omega)
  have hrk := gnext_ok hr k
  have hG : gexpr fs l (n + 1) kind k = if pick (gnext l k).kind 3 = 0 then (gleafE kind fs (gnext l (gat l k)), gat l (gat l k)) else
    (.mk (gshape kind (gnext l k)).1 Val.zero [] (gargs (gexpr fs l n) (gshape kind (gnext l k)).2 (gat l k)).1, (gargs (gexpr fs l n) (gshape kind (gnext l k)).2 (gat l k)).2) := rfl
  rw [hG]
  have p1 := fun (S : St) (d dst : Nat) => ca_picked (d := d) (dst := dst) (S := S) (gnext l k).kind 3 (by decide)
  have p2 := fun (S : St) (d dst : Nat) => ca_picked (d := d) (dst := dst) (S := S) (gnext l k).a 6 (by decide)
  have p3 := fun (S : St) (d dst : Nat) => ca_picked (d := d) (dst := dst) (S := S) (gnext l k).b 7 (by decide)
  have p4 := fun (S : St) (d dst : Nat) => ca_picked (d := d) (dst := dst) (S := S) (gnext l k).a 3 (by decide)
  have q3 := pick_range (gnext l k).b 7 hrk.b.1 hrk.b.2 (by decide)
  have q4 := pick_range (gnext l k).a 3 hrk.a.1 hrk.a.2 (by decide)
  have fl := fun (T : Tm) (g : List Nat) (H : Heap) (dst : Nat) (hx : ((0 :: g) <:+ g0) = False) (hS : Heap.get H ⟨d0, t0, g0⟩ = some (gbox l (gat l k))) => ca_leaf (d := d) (dst := dst) (S := ⟨T, H, g⟩) d0 t0 g0 (by omega) kind fs hfs l (gat l k) (by omega) hl hr hx hS
  simp only [Exp.dv_eq (gleafE kind fs (gnext l (gat l k)))] at fl
  by_cases c1 : pick (gnext l k).kind 3 = 0
  · rw [if_pos c1]
    rw [c1] at p1
    simp only [Exp.dv_eq (gleafE kind fs (gnext l (gat l k)))]
    generalize gleafE kind fs (gnext l (gat l k)) = E at *
    generalize gnext l k = r at *
    generalize gat l (gat l k) = k3 at *
    generalize gat l k = k2 at *
    simp only [amr, amc, amp, if_true, if_false, ne_eq, gt_iff_lt, Option.getD, argsT, Option.bind, Option.map, List.headD, List.tail, opnsL, List.replicate, lendsL, seval, ty_GenD_16, fn, fl, suf1 hg0, suf2 hg0, suf3 hg0, suf4 hg0, suf5 hg0, suf6 hg0, hs0, Raw.dv, e1, e2, hd1, upd, Option.getD_none, Option.getD_some, soft_d, b0, p1, beq_self_eq_true]
  · rw [if_neg c1]
    have b1 : (pick (gnext l k).kind 3 == 0) = false := beq_eq_false_iff_ne.2 c1
    clear fl hG hk1
    generalize gnext l k = r at *
    generalize gat l k = k2 at *
    by_cases c2 : pick r.a 6 = 0
    · have b2 : (pick r.a 6 == 0) = true := beq_iff_eq.2 c2
      have hsh : gshape kind r = (17, [2, kind, kind]) := by unfold gshape; simp [c2]
      rw [hsh]
      have fw := fun (T : Tm) (g : List Nat) (H : Heap) (dst : Nat) (hx : ((0 :: g) <:+ g0) = False) (hS4 : Heap.get H ⟨d, 4, 0 :: p⟩ = some (.box [.ptr ⟨d0, t0, g0⟩ 0])) (hS : Heap.get H ⟨d0, t0, g0⟩ = some (gbox l k2)) => ca_with hge (d := d) (dst := dst) (S := ⟨T, H, g⟩) d0 t0 g0 d 4 (0 :: p) (by omega) (Nat.le_refl _) h (17) [2, kind, kind] (by simp) fs hfs l k2 (hbnd _ (by simp)) hl hr hn hx hS4 hS
      simp only [List.map_cons, List.map_nil, Exp.dv_mk, Val.zero] at fw
      generalize gargs (gexpr fs l n) [2, kind, kind] k2 = y at *
      rw [Exp.dv_mk]
      simp only [Val.zero]
      simp only [amr, amc, amp, if_true, if_false, ne_eq, gt_iff_lt, Option.getD, argsT, Option.bind, Option.map, List.headD, List.tail, opnsL, List.replicate, lendsL, seval, ty_GenD_16, fn, fw, suf1 hg0, suf2 hg0, suf3 hg0, suf4 hg0, suf5 hg0, suf6 hg0, hs0, Raw.dv, e1, e2, hd1, upd, Option.getD_none, Option.getD_some, soft_d, b0, p1, p2, p3, p4, b1, b2]
    · have b2 : (pick r.a 6 == 0) = false := beq_eq_false_iff_ne.2 c2
      by_cases c3 : kind = 1
      · have b3 : (kind == 1) = true := beq_iff_eq.2 c3
        by_cases c4 : pick r.b 7 = 0
        · have b4 : (pick r.b 7 == 0) = true := beq_iff_eq.2 c4
          have hsh : gshape kind r = (3, [1]) := by unfold gshape; simp [c2, c3, c4]
          rw [hsh]
          have fw := fun (T : Tm) (g : List Nat) (H : Heap) (dst : Nat) (hx : ((0 :: g) <:+ g0) = False) (hS4 : Heap.get H ⟨d, 4, 0 :: p⟩ = some (.box [.ptr ⟨d0, t0, g0⟩ 0])) (hS : Heap.get H ⟨d0, t0, g0⟩ = some (gbox l k2)) => ca_with hge (d := d) (dst := dst) (S := ⟨T, H, g⟩) d0 t0 g0 d 4 (0 :: p) (by omega) (Nat.le_refl _) h (3) [1] (by simp) fs hfs l k2 (hbnd _ (by simp)) hl hr hn hx hS4 hS
          simp only [List.map_cons, List.map_nil, Exp.dv_mk, Val.zero] at fw
          generalize gargs (gexpr fs l n) [1] k2 = y at *
          rw [Exp.dv_mk]
          simp only [Val.zero]
          simp only [amr, amc, amp, if_true, if_false, ne_eq, gt_iff_lt, Option.getD, argsT, Option.bind, Option.map, List.headD, List.tail, opnsL, List.replicate, lendsL, seval, ty_GenD_16, fn, fw, suf1 hg0, suf2 hg0, suf3 hg0, suf4 hg0, suf5 hg0, suf6 hg0, hs0, Raw.dv, e1, e2, hd1, upd, Option.getD_none, Option.getD_some, soft_d, b0, p1, p2, p3, p4, b1, b2, b3, b4]
        · have b4 : (pick r.b 7 == 0) = false := beq_eq_false_iff_ne.2 c4
          by_cases c5 : pick r.b 7 = 1
          · have b5 : (pick r.b 7 == 1) = true := beq_iff_eq.2 c5
            have hsh : gshape kind r = (18, [3]) := by unfold gshape; simp [c2, c3, c4, c5]
            rw [hsh]
            have fw := fun (T : Tm) (g : List Nat) (H : Heap) (dst : Nat) (hx : ((0 :: g) <:+ g0) = False) (hS4 : Heap.get H ⟨d, 4, 0 :: p⟩ = some (.box [.ptr ⟨d0, t0, g0⟩ 0])) (hS : Heap.get H ⟨d0, t0, g0⟩ = some (gbox l k2)) => ca_with hge (d := d) (dst := dst) (S := ⟨T, H, g⟩) d0 t0 g0 d 4 (0 :: p) (by omega) (Nat.le_refl _) h (18) [3] (by simp) fs hfs l k2 (hbnd _ (by simp)) hl hr hn hx hS4 hS
            simp only [List.map_cons, List.map_nil, Exp.dv_mk, Val.zero] at fw
            generalize gargs (gexpr fs l n) [3] k2 = y at *
            rw [Exp.dv_mk]
            simp only [Val.zero]
            simp only [amr, amc, amp, if_true, if_false, ne_eq, gt_iff_lt, Option.getD, argsT, Option.bind, Option.map, List.headD, List.tail, opnsL, List.replicate, lendsL, seval, ty_GenD_16, fn, fw, suf1 hg0, suf2 hg0, suf3 hg0, suf4 hg0, suf5 hg0, suf6 hg0, hs0, Raw.dv, e1, e2, hd1, upd, Option.getD_none, Option.getD_some, soft_d, b0, p1, p2, p3, p4, b1, b2, b3, b4, b5]
          · have b5 : (pick r.b 7 == 1) = false := beq_eq_false_iff_ne.2 c5
            have hsh : gshape kind r = (5 + (pick r.b 7 - 2), [1, 1]) := by unfold gshape; simp [c2, c3, c4, c5]
            have w1 : IntKind.i64.wrap (pick r.b 7 - 2) = pick r.b 7 - 2 := wrap_in (by omega) (by omega)
            have j1 : (0 ≤ pick r.b 7 - 2) = True := eq_true (by omega)
            have j2 : (pick r.b 7 - 2 < 5) = True := eq_true (by omega)
            have hq : ([DV.int .i64 5, DV.int .i64 6, DV.int .i64 7, DV.int .i64 8, DV.int .i64 9])[(pick r.b 7 - 2).toNat]? = some (.int .i64 (5 + (pick r.b 7 - 2))) := by
              have : pick r.b 7 = 2 ∨ pick r.b 7 = 3 ∨ pick r.b 7 = 4 ∨ pick r.b 7 = 5 ∨ pick r.b 7 = 6 := by omega
              rcases this with e | e | e | e | e <;> rw [e] <;> rfl
            rw [hsh]
            have fw := fun (T : Tm) (g : List Nat) (H : Heap) (dst : Nat) (hx : ((0 :: g) <:+ g0) = False) (hS4 : Heap.get H ⟨d, 4, 0 :: p⟩ = some (.box [.ptr ⟨d0, t0, g0⟩ 0])) (hS : Heap.get H ⟨d0, t0, g0⟩ = some (gbox l k2)) => ca_with hge (d := d) (dst := dst) (S := ⟨T, H, g⟩) d0 t0 g0 d 4 (0 :: p) (by omega) (Nat.le_refl _) h (5 + (pick r.b 7 - 2)) [1, 1] (by simp) fs hfs l k2 (hbnd _ (by simp)) hl hr hn hx hS4 hS
            simp only [List.map_cons, List.map_nil, Exp.dv_mk, Val.zero] at fw
            generalize gargs (gexpr fs l n) [1, 1] k2 = y at *
            rw [Exp.dv_mk]
            simp only [Val.zero]
            simp only [amr, amc, amp, if_true, if_false, ne_eq, gt_iff_lt, Option.getD, argsT, Option.bind, Option.map, List.headD, List.tail, opnsL, List.replicate, lendsL, seval, ty_GenD_16, fn, fw, suf1 hg0, suf2 hg0, suf3 hg0, suf4 hg0, suf5 hg0, suf6 hg0, hs0, Raw.dv, e1, e2, hd1, upd, Option.getD_none, Option.getD_some, soft_d, b0, p1, p2, p3, p4, b1, b2, b3, b4, b5, w1, j1, j2, hq]
      · have b3 : (kind == 1) = false := beq_eq_false_iff_ne.2 c3
        by_cases c4 : kind = 2
        · have b4 : (kind == 2) = true := beq_iff_eq.2 c4
          by_cases c5 : pick r.b 7 = 0
          · have b5 : (pick r.b 7 == 0) = true := beq_iff_eq.2 c5
            have hsh : gshape kind r = (4, [2]) := by unfold gshape; simp [c2, c3, c4, c5]
            rw [hsh]
            have fw := fun (T : Tm) (g : List Nat) (H : Heap) (dst : Nat) (hx : ((0 :: g) <:+ g0) = False) (hS4 : Heap.get H ⟨d, 4, 0 :: p⟩ = some (.box [.ptr ⟨d0, t0, g0⟩ 0])) (hS : Heap.get H ⟨d0, t0, g0⟩ = some (gbox l k2)) => ca_with hge (d := d) (dst := dst) (S := ⟨T, H, g⟩) d0 t0 g0 d 4 (0 :: p) (by omega) (Nat.le_refl _) h (4) [2] (by simp) fs hfs l k2 (hbnd _ (by simp)) hl hr hn hx hS4 hS
            simp only [List.map_cons, List.map_nil, Exp.dv_mk, Val.zero] at fw
            generalize gargs (gexpr fs l n) [2] k2 = y at *
            rw [Exp.dv_mk]
            simp only [Val.zero]
            simp only [amr, amc, amp, if_true, if_false, ne_eq, gt_iff_lt, Option.getD, argsT, Option.bind, Option.map, List.headD, List.tail, opnsL, List.replicate, lendsL, seval, ty_GenD_16, fn, fw, suf1 hg0, suf2 hg0, suf3 hg0, suf4 hg0, suf5 hg0, suf6 hg0, hs0, Raw.dv, e1, e2, hd1, upd, Option.getD_none, Option.getD_some, soft_d, b0, p1, p2, p3, p4, b1, b2, b3, b4, b5]
          · have b5 : (pick r.b 7 == 0) = false := beq_eq_false_iff_ne.2 c5
            by_cases c6 : pick r.b 7 < 3
            · have b6 : decide (pick r.b 7 < 3) = true := decide_eq_true c6
              have hsh : gshape kind r = (15 + pick r.b 7 - 1, [2, 2]) := by unfold gshape; simp [c2, c3, c4, c5, c6]
              have w1 : IntKind.i64.wrap (15 + pick r.b 7) = 15 + pick r.b 7 := wrap_in (by omega) (by omega)
              have w2 : IntKind.i64.wrap (15 + pick r.b 7 - 1) = 15 + pick r.b 7 - 1 := wrap_in (by omega) (by omega)
              rw [hsh]
              have fw := fun (T : Tm) (g : List Nat) (H : Heap) (dst : Nat) (hx : ((0 :: g) <:+ g0) = False) (hS4 : Heap.get H ⟨d, 4, 0 :: p⟩ = some (.box [.ptr ⟨d0, t0, g0⟩ 0])) (hS : Heap.get H ⟨d0, t0, g0⟩ = some (gbox l k2)) => ca_with hge (d := d) (dst := dst) (S := ⟨T, H, g⟩) d0 t0 g0 d 4 (0 :: p) (by omega) (Nat.le_refl _) h (15 + pick r.b 7 - 1) [2, 2] (by simp) fs hfs l k2 (hbnd _ (by simp)) hl hr hn hx hS4 hS
              simp only [List.map_cons, List.map_nil, Exp.dv_mk, Val.zero] at fw
              generalize gargs (gexpr fs l n) [2, 2] k2 = y at *
              rw [Exp.dv_mk]
              simp only [Val.zero]
              simp only [amr, amc, amp, if_true, if_false, ne_eq, gt_iff_lt, Option.getD, argsT, Option.bind, Option.map, List.headD, List.tail, opnsL, List.replicate, lendsL, seval, ty_GenD_16, fn, fw, suf1 hg0, suf2 hg0, suf3 hg0, suf4 hg0, suf5 hg0, suf6 hg0, hs0, Raw.dv, e1, e2, hd1, upd, Option.getD_none, Option.getD_some, soft_d, b0, p1, p2, p3, p4, b1, b2, b3, b4, b5, b6, w1, w2]
            · have b6 : decide (pick r.b 7 < 3) = false := decide_eq_false c6
              have hsh : gshape kind r = (11 + pick r.b 7 - 3, [1 + pick r.a 3, 1 + pick r.a 3]) := by unfold gshape; simp [c2, c3, c4, c5, c6]
              have w1 : IntKind.i64.wrap (11 + pick r.b 7) = 11 + pick r.b 7 := wrap_in (by omega) (by omega)
              have w2 : IntKind.i64.wrap (11 + pick r.b 7 - 3) = 11 + pick r.b 7 - 3 := wrap_in (by omega) (by omega)
              have w3 : IntKind.i64.wrap (1 + pick r.a 3) = 1 + pick r.a 3 := wrap_in (by omega) (by omega)
              rw [hsh]
              have fw := fun (T : Tm) (g : List Nat) (H : Heap) (dst : Nat) (hx : ((0 :: g) <:+ g0) = False) (hS4 : Heap.get H ⟨d, 4, 0 :: p⟩ = some (.box [.ptr ⟨d0, t0, g0⟩ 0])) (hS : Heap.get H ⟨d0, t0, g0⟩ = some (gbox l k2)) => ca_with hge (d := d) (dst := dst) (S := ⟨T, H, g⟩) d0 t0 g0 d 4 (0 :: p) (by omega) (Nat.le_refl _) h (11 + pick r.b 7 - 3) [1 + pick r.a 3, 1 + pick r.a 3] (by simp) fs hfs l k2 (hbnd _ (by simp)) hl hr hn hx hS4 hS
              simp only [List.map_cons, List.map_nil, Exp.dv_mk, Val.zero] at fw
              generalize gargs (gexpr fs l n) [1 + pick r.a 3, 1 + pick r.a 3] k2 = y at *
              rw [Exp.dv_mk]
              simp only [Val.zero]
              simp only [amr, amc, amp, if_true, if_false, ne_eq, gt_iff_lt, Option.getD, argsT, Option.bind, Option.map, List.headD, List.tail, opnsL, List.replicate, lendsL, seval, ty_GenD_16, fn, fw, suf1 hg0, suf2 hg0, suf3 hg0, suf4 hg0, suf5 hg0, suf6 hg0, hs0, Raw.dv, e1, e2, hd1, upd, Option.getD_none, Option.getD_some, soft_d, b0, p1, p2, p3, p4, b1, b2, b3, b4, b5, b6, w1, w2, w3]
        · have b4 : (kind == 2) = false := beq_eq_false_iff_ne.2 c4
          have hsh : gshape kind r = (10, [3, 3]) := by unfold gshape; simp [c2, c3, c4]
          rw [hsh]
          have fw := fun (T : Tm) (g : List Nat) (H : Heap) (dst : Nat) (hx : ((0 :: g) <:+ g0) = False) (hS4 : Heap.get H ⟨d, 4, 0 :: p⟩ = some (.box [.ptr ⟨d0, t0, g0⟩ 0])) (hS : Heap.get H ⟨d0, t0, g0⟩ = some (gbox l k2)) => ca_with hge (d := d) (dst := dst) (S := ⟨T, H, g⟩) d0 t0 g0 d 4 (0 :: p) (by omega) (Nat.le_refl _) h (10) [3, 3] (by simp) fs hfs l k2 (hbnd _ (by simp)) hl hr hn hx hS4 hS
          simp only [List.map_cons, List.map_nil, Exp.dv_mk, Val.zero] at fw
          generalize gargs (gexpr fs l n) [3, 3] k2 = y at *
          rw [Exp.dv_mk]
          simp only [Val.zero]
          simp only [amr, amc, amp, if_true, if_false, ne_eq, gt_iff_lt, Option.getD, argsT, Option.bind, Option.map, List.headD, List.tail, opnsL, List.replicate, lendsL, seval, ty_GenD_16, fn, fw, suf1 hg0, suf2 hg0, suf3 hg0, suf4 hg0, suf5 hg0, suf6 hg0, hs0, Raw.dv, e1, e2, hd1, upd, Option.getD_none, Option.getD_some, soft_d, b0, p1, p2, p3, p4, b1, b2, b3, b4]
theorem expr_ok : ∀ n : Nat, n ≤ 1000 → ExprOK n
  | 0, _ => expr_ok0
  | n + 1, h => expr_okS (expr_ok n (by omega)) (by omega)
end Go.Proofs.Ythmggkidmcgfoaa.Am
/- Letters, digits, and how many signs are such. -/
set_option linter.unusedVariables false
set_option linter.unusedSimpArgs false
namespace Go.Proofs.Ythmggkidmcgfoaa.Am
open Go Go.RowKit
theorem ty_LexA_68 : type_of% (ai (ai (ai @rs68 (ai @lv68_0 @lv68_1)) (ai @und4 (ai @sz4 @ag4))) (ai (ai @lv4 (ai @inf4 @und5)) (ai (ai @sz5 @ag5) (ai @lv5 @inf5)))) := (ai (ai (ai @rs68 (ai @lv68_0 @lv68_1)) (ai @und4 (ai @sz4 @ag4))) (ai (ai @lv4 (ai @inf4 @und5)) (ai (ai @sz5 @ag5) (ai @lv5 @inf5))))
theorem ty_LexA_71 : type_of% (ai (ai (ai @rs71 (ai @lv71_0 @lv71_1)) (ai @und4 (ai @sz4 @ag4))) (ai (ai @lv4 (ai @inf4 @und5)) (ai (ai @sz5 @ag5) (ai @lv5 @inf5)))) := (ai (ai (ai @rs71 (ai @lv71_0 @lv71_1)) (ai @und4 (ai @sz4 @ag4))) (ai (ai @lv4 (ai @inf4 @und5)) (ai (ai @sz5 @ag5) (ai @lv5 @inf5))))
theorem ty_LexA_70 : type_of% (ai (ai (ai @rs70 (ai @lv70_0 @lv70_1)) (ai @und4 (ai @sz4 @ag4))) (ai (ai @lv4 (ai @inf4 @und5)) (ai (ai @sz5 @ag5) (ai @lv5 @inf5)))) := (ai (ai (ai @rs70 (ai @lv70_0 @lv70_1)) (ai @und4 (ai @sz4 @ag4))) (ai (ai @lv4 (ai @inf4 @und5)) (ai (ai @sz5 @ag5) (ai @lv5 @inf5))))
theorem ty_LexA_69 : type_of% (ai (ai (ai (ai @rs69 (ai @lv69_0 @lv69_1)) (ai (ai @lv69_2 @lv69_3) (ai @lv69_4 @kp69_2))) (ai (ai (ai @und3 @sz3) (ai @ag3 @lv3)) (ai (ai @inf3 @und4) (ai @sz4 @ag4)))) (ai (ai (ai (ai @lv4 @inf4) (ai @und5 @sz5)) (ai (ai @ag5 @lv5) (ai @inf5 @und9))) (ai (ai (ai @sz9 @ag9) (ai @lv9 @inf9)) (ai (ai @und109 @sz109) (ai @ag109 @inf109))))) := (ai (ai (ai (ai @rs69 (ai @lv69_0 @lv69_1)) (ai (ai @lv69_2 @lv69_3) (ai @lv69_4 @kp69_2))) (ai (ai (ai @und3 @sz3) (ai @ag3 @lv3)) (ai (ai @inf3 @und4) (ai @sz4 @ag4)))) (ai (ai (ai (ai @lv4 @inf4) (ai @und5 @sz5)) (ai (ai @ag5 @lv5) (ai @inf5 @und9))) (ai (ai (ai @sz9 @ag9) (ai @lv9 @inf9)) (ai (ai @und109 @sz109) (ai @ag109 @inf109)))))
set_option maxRecDepth 100000
set_option maxHeartbeats 4000000

def isLetter (c : UInt8) : Bool := decide ((c.toNat : Int) ≥ 97) && decide ((c.toNat : Int) ≤ 122)
def isDigit (c : UInt8) : Bool := decide ((c.toNat : Int) ≥ 48) && decide ((c.toNat : Int) ≤ 57)
theorem ret_letter (c : UInt8) : Ret tab 68 [.d (.int .u8 (c.toNat))] (.d (.bool (isLetter c))) := by
  refine ret_of (1) fn68 rfl rfl ?_
  simp only [amr, amc, amp, if_true, if_false, ne_eq, gt_iff_lt, Option.getD, argsT, Option.bind, Option.map, List.headD, List.tail, opnsL, List.replicate, lendsL, seval, ty_LexA_68]
  repeat' ((first | refine good_ci (fun h => ?_) (fun h => ?_) | refine good_cgt (fun h => ?_) (fun h => ?_) | refine good_cgf (fun h => ?_) (fun h => ?_) | refine good_cqgt (fun h => ?_) (fun h => ?_) | refine good_cqgf (fun h => ?_) (fun h => ?_)) <;> simp only [amr, amc, amp, if_true, if_false, ne_eq, gt_iff_lt, Option.getD, argsT, Option.bind, Option.map, List.headD, List.tail, opnsL, List.replicate, lendsL, seval, ty_LexA_68, h])
  all_goals (first | (simp_all [isLetter]; done) | (simp_all [isLetter]; omega))
theorem ca_letter {d dst : Nat} {S : St} (c : UInt8) : callA tab (callR tab) d dst 68 [.d (.int .u8 (c.toNat))] S = some (.d (.bool (isLetter c)), S) :=
  ca_ret (ds := [.int .u8 (c.toNat)]) (ret_letter c) rfl (tab_opn (by kernel_rfl)) (tab_res (by kernel_rfl))
theorem ret_digit (c : UInt8) : Ret tab 71 [.d (.int .u8 (c.toNat))] (.d (.bool (isDigit c))) := by
  refine ret_of (1) fn71 rfl rfl ?_
  simp only [amr, amc, amp, if_true, if_false, ne_eq, gt_iff_lt, Option.getD, argsT, Option.bind, Option.map, List.headD, List.tail, opnsL, List.replicate, lendsL, seval, ty_LexA_71]
  repeat' ((first | refine good_ci (fun h => ?_) (fun h => ?_) | refine good_cgt (fun h => ?_) (fun h => ?_) | refine good_cgf (fun h => ?_) (fun h => ?_) | refine good_cqgt (fun h => ?_) (fun h => ?_) | refine good_cqgf (fun h => ?_) (fun h => ?_)) <;> simp only [amr, amc, amp, if_true, if_false, ne_eq, gt_iff_lt, Option.getD, argsT, Option.bind, Option.map, List.headD, List.tail, opnsL, List.replicate, lendsL, seval, ty_LexA_71, h])
  all_goals (first | (simp_all [isDigit]; done) | (simp_all [isDigit]; omega))
theorem ca_digit {d dst : Nat} {S : St} (c : UInt8) : callA tab (callR tab) d dst 71 [.d (.int .u8 (c.toNat))] S = some (.d (.bool (isDigit c)), S) :=
  ca_ret (ds := [.int .u8 (c.toNat)]) (ret_digit c) rfl (tab_opn (by kernel_rfl)) (tab_res (by kernel_rfl))
theorem ret_Name1 (c : UInt8) : Ret tab 70 [.d (.int .u8 (c.toNat))] (.d (.bool (isLetter c || isDigit c))) := by
  refine ret_of (1) fn70 rfl rfl ?_
  simp only [amr, amc, amp, if_true, if_false, ne_eq, gt_iff_lt, Option.getD, argsT, Option.bind, Option.map, List.headD, List.tail, opnsL, List.replicate, lendsL, seval, ty_LexA_70, ca_letter, ca_digit]
  repeat' ((first | refine good_ci (fun h => ?_) (fun h => ?_) | refine good_cgt (fun h => ?_) (fun h => ?_) | refine good_cgf (fun h => ?_) (fun h => ?_) | refine good_cqgt (fun h => ?_) (fun h => ?_) | refine good_cqgf (fun h => ?_) (fun h => ?_)) <;> simp only [amr, amc, amp, if_true, if_false, ne_eq, gt_iff_lt, Option.getD, argsT, Option.bind, Option.map, List.headD, List.tail, opnsL, List.replicate, lendsL, seval, ty_LexA_70, ca_letter, ca_digit, h])
  all_goals (simp_all)
theorem ca_Name1 {d dst : Nat} {S : St} (c : UInt8) : callA tab (callR tab) d dst 70 [.d (.int .u8 (c.toNat))] S = some (.d (.bool (isLetter c || isDigit c)), S) :=
  ca_ret (ds := [.int .u8 (c.toNat)]) (ret_Name1 c) rfl (tab_opn (by kernel_rfl)) (tab_res (by kernel_rfl))
/-- How many signs at the beginning are such. -/
def spanL (p : UInt8 → Bool) : Str → Nat
  | [] => 0
  | c :: r => if p c = true then spanL p r + 1 else 0
theorem spanL_le (p : UInt8 → Bool) : ∀ s : Str, spanL p s ≤ s.length
  | [] => Nat.le_refl _
  | c :: r => by
    have := spanL_le p r
    simp only [spanL, List.length_cons]
    split <;> omega
theorem ret_span (s : Str) (k : Nat) (p : UInt8 → Bool) (hk : ∀ c : UInt8, Ret tab k [.d (.int .u8 (c.toNat : Int))] (.d (.bool (p c)))) (ho : tab.opn k = false) (hr : Plain k) (hs : s.length < 9223372036854775807) : Ret tab 69 [.d (.str (s)), .d (.fn k [])] (.d (.int .i64 (spanL p s))) := by
  refine ret_of (s.length + 1) fn69 rfl rfl ?_
  have ck : ∀ {S : St} {d dst : Nat} (c : UInt8), callA tab (callR tab) d dst k [.d (.int .u8 (c.toNat : Int))] S = some (.d (.bool (p c)), S) := fun c => ca_ret (ds := [.int .u8 (c.toNat : Int)]) (hk c) rfl ho hr
  simp only [amr, amc, amp, if_true, if_false, ne_eq, gt_iff_lt, Option.getD, argsT, Option.bind, Option.map, List.headD, List.tail, opnsL, List.replicate, lendsL, seval, ty_LexA_69]
  refine good_loopR (α := Nat) (fun n => n ≤ s.length) (fun n => ⟨[(0, .d (.str s)), (1, .d (.fn k [])), (5, .d (.int .i64 n))], [], []⟩) (fun n => s.length - n) (fun n => EX (.exit 0) ⟨[(5, .d (.int .i64 ((n + spanL p (s.drop n) : Nat) : Int)))], [], []⟩) 0 kp69_2 (fun _ => up_ex) (Nat.zero_le _) (by omega) ?_ ?_ ?_
  · intro n hn
    have hn' : n ≤ s.length := hn
    by_cases h1 : n < s.length
    · have hget : s[n]? = some s[n] := List.getElem?_eq_getElem h1
      have hb : decide ((n : Int) < (s.length : Int)) = true := decide_eq_true (by omega)
      have hd : s.drop n = s[n] :: s.drop (n + 1) := List.drop_eq_getElem_cons h1
      have w1 : IntKind.i64.wrap ((n : Int) + 1) = (n : Int) + 1 := wrap_in (by omega) (by omega)
      cases hp : p s[n] with
      | false =>
        simp only [amr, amc, amp, if_true, if_false, ne_eq, gt_iff_lt, Option.getD, argsT, Option.bind, Option.map, List.headD, List.tail, opnsL, List.replicate, lendsL, seval, ty_LexA_69, hb, hget, ck, hp]
        refine loop_end (by simp) ⟨rfl, ?_⟩
        rw [hd]
        simp only [spanL, hp]
        (first | exact sub_mk subT_nil | skip) <;> (try simp only [amr, amc, amp, if_true, if_false, ne_eq, gt_iff_lt, Option.getD, argsT, Option.bind, Option.map, List.headD, List.tail, opnsL, List.replicate, lendsL, seval]) <;> exact sub_mk (by repeat first | exact subT_nil | refine subT_cons (by first | rfl | simp [Tm.get, *]) ?_)
      | true =>
        simp only [amr, amc, amp, if_true, if_false, ne_eq, gt_iff_lt, Option.getD, argsT, Option.bind, Option.map, List.headD, List.tail, opnsL, List.replicate, lendsL, seval, ty_LexA_69, hb, hget, ck, hp, w1]
        refine loop_nrm (n + 1) (show n + 1 ≤ s.length by omega) (show s.length - (n + 1) < s.length - n by omega) (fun o S h => ?_) ?_
        · rw [hd]
          simp only [spanL, hp, if_true]
          rw [show n + (spanL p (s.drop (n + 1)) + 1) = n + 1 + spanL p (s.drop (n + 1)) by omega]
          exact h
        · (first | exact sub_mk subT_nil | skip) <;> (try simp only [amr, amc, amp, if_true, if_false, ne_eq, gt_iff_lt, Option.getD, argsT, Option.bind, Option.map, List.headD, List.tail, opnsL, List.replicate, lendsL, seval]) <;> exact sub_mk (by repeat first | exact subT_nil | refine subT_cons (by first | rfl | simp [Tm.get, *]) ?_)
    · have hb : decide ((n : Int) < (s.length : Int)) = false := decide_eq_false (by omega)
      simp only [amr, amc, amp, if_true, if_false, ne_eq, gt_iff_lt, Option.getD, argsT, Option.bind, Option.map, List.headD, List.tail, opnsL, List.replicate, lendsL, seval, ty_LexA_69, hb]
      refine loop_end (by simp) ⟨rfl, ?_⟩
      rw [List.drop_eq_nil_of_le (by omega)]
      simp only [spanL]
      (first | exact sub_mk subT_nil | skip) <;> (try simp only [amr, amc, amp, if_true, if_false, ne_eq, gt_iff_lt, Option.getD, argsT, Option.bind, Option.map, List.headD, List.tail, opnsL, List.replicate, lendsL, seval]) <;> exact sub_mk (by repeat first | exact subT_nil | refine subT_cons (by first | rfl | simp [Tm.get, *]) ?_)
  · (first | exact sub_mk subT_nil | skip) <;> (try simp only [amr, amc, amp, if_true, if_false, ne_eq, gt_iff_lt, Option.getD, argsT, Option.bind, Option.map, List.headD, List.tail, opnsL, List.replicate, lendsL, seval]) <;> exact sub_mk (by repeat first | exact subT_nil | refine subT_cons (by first | rfl | simp [Tm.get, *]) ?_)
  · rintro o S' ⟨rfl, hs⟩
    refine good_sub_cr up_fin hs ?_
    simp only [amr, amc, amp, if_true, if_false, ne_eq, gt_iff_lt, Option.getD, argsT, Option.bind, Option.map, List.headD, List.tail, opnsL, List.replicate, lendsL, seval, ty_LexA_69]
    repeat' ((first | refine good_ci (fun h => ?_) (fun h => ?_) | refine good_cgt (fun h => ?_) (fun h => ?_) | refine good_cgf (fun h => ?_) (fun h => ?_) | refine good_cqgt (fun h => ?_) (fun h => ?_) | refine good_cqgf (fun h => ?_) (fun h => ?_)) <;> simp only [amr, amc, amp, if_true, if_false, ne_eq, gt_iff_lt, Option.getD, argsT, Option.bind, Option.map, List.headD, List.tail, opnsL, List.replicate, lendsL, seval, ty_LexA_69, h])
theorem ca_span {d dst : Nat} {S : St} (s : Str) (k : Nat) (p : UInt8 → Bool) (hk : ∀ c : UInt8, Ret tab k [.d (.int .u8 (c.toNat : Int))] (.d (.bool (p c)))) (ho : tab.opn k = false) (hr : Plain k) (hs : s.length < 9223372036854775807) : callA tab (callR tab) d dst 69 [.d (.str (s)), .d (.fn k [])] S = some (.d (.int .i64 (spanL p s)), S) :=
  ca_ret (ds := [.str (s), .fn k []]) (ret_span s k p hk ho hr hs) rfl (tab_opn (by kernel_rfl)) (tab_res (by kernel_rfl))
end Go.Proofs.Ythmggkidmcgfoaa.Am
/- Names, and words that formulas have for themselves. -/
set_option linter.unusedVariables false
set_option linter.unusedSimpArgs false
namespace Go.Proofs.Ythmggkidmcgfoaa.Am
open Go Go.RowKit
theorem ty_LexN_72 : type_of% (ai (ai (ai (ai @rs72 @lv72_0) (ai @lv72_1 (ai @lv72_2 @lv72_3))) (ai (ai @lv72_4 (ai @lv72_5 @lv72_6)) (ai @lv72_7 (ai @lv72_8 @lv72_9)))) (ai (ai (ai @lv72_10 @und4) (ai @sz4 (ai @ag4 @lv4))) (ai (ai @inf4 (ai @und9 @sz9)) (ai @ag9 (ai @lv9 @inf9))))) := (ai (ai (ai (ai @rs72 @lv72_0) (ai @lv72_1 (ai @lv72_2 @lv72_3))) (ai (ai @lv72_4 (ai @lv72_5 @lv72_6)) (ai @lv72_7 (ai @lv72_8 @lv72_9)))) (ai (ai (ai @lv72_10 @und4) (ai @sz4 (ai @ag4 @lv4))) (ai (ai @inf4 (ai @und9 @sz9)) (ai @ag9 (ai @lv9 @inf9)))))
theorem ty_LexN_54 : type_of% (ai (ai (ai (ai (ai @rs54 @lv54_0) (ai @lv54_1 @lv54_2)) (ai (ai @lv54_3 @lv54_4) (ai @lv54_5 (ai @und3 @sz3)))) (ai (ai (ai @ag3 @lv3) (ai @inf3 @und4)) (ai (ai @sz4 @ag4) (ai @lv4 (ai @inf4 @und5))))) (ai (ai (ai (ai @sz5 @ag5) (ai @lv5 @inf5)) (ai (ai @und9 @sz9) (ai @ag9 (ai @lv9 @inf9)))) (ai (ai (ai @und32 @sz32) (ai @ag32 @lv32)) (ai (ai @inf32 @und109) (ai @sz109 (ai @ag109 @inf109)))))) := (ai (ai (ai (ai (ai @rs54 @lv54_0) (ai @lv54_1 @lv54_2)) (ai (ai @lv54_3 @lv54_4) (ai @lv54_5 (ai @und3 @sz3)))) (ai (ai (ai @ag3 @lv3) (ai @inf3 @und4)) (ai (ai @sz4 @ag4) (ai @lv4 (ai @inf4 @und5))))) (ai (ai (ai (ai @sz5 @ag5) (ai @lv5 @inf5)) (ai (ai @und9 @sz9) (ai @ag9 (ai @lv9 @inf9)))) (ai (ai (ai @und32 @sz32) (ai @ag32 @lv32)) (ai (ai @inf32 @und109) (ai @sz109 (ai @ag109 @inf109))))))
set_option maxRecDepth 100000
set_option maxHeartbeats 4000000

theorem ca_span_nm {d dst : Nat} {S : St} (s : Str) (hs : s.length < 9223372036854775807) : callA tab (callR tab) d dst 69 [.d (.str s), .d (.fn 70 [])] S = some (.d (.int .i64 (spanL (fun c => isLetter c || isDigit c) s)), S) :=
  ca_span s 70 _ ret_Name1 (tab_opn (by kernel_rfl)) (tab_res (by kernel_rfl)) hs
/-- Words that formulas have for themselves. -/
def kwords : List Str := [[97, 110, 100], [111, 114], [110, 111, 116], [116, 114, 117, 101], [102, 97, 108, 115, 101], [105, 102], [108, 101, 110]]
theorem ret_Key (s : Str) : Ret tab 72 [.d (.str (s))] (.d (.bool (kwords.any (fun k => s == k)))) := by
  refine ret_of (1) fn72 rfl rfl ?_
  simp only [amr, amc, amp, if_true, if_false, ne_eq, gt_iff_lt, Option.getD, argsT, Option.bind, Option.map, List.headD, List.tail, opnsL, List.replicate, lendsL, seval, ty_LexN_72]
  repeat' ((first | refine good_ci (fun h => ?_) (fun h => ?_) | refine good_cgt (fun h => ?_) (fun h => ?_) | refine good_cgf (fun h => ?_) (fun h => ?_) | refine good_cqgt (fun h => ?_) (fun h => ?_) | refine good_cqgf (fun h => ?_) (fun h => ?_)) <;> simp only [amr, amc, amp, if_true, if_false, ne_eq, gt_iff_lt, Option.getD, argsT, Option.bind, Option.map, List.headD, List.tail, opnsL, List.replicate, lendsL, seval, ty_LexN_72, h])
  all_goals (simp_all [kwords])
theorem ca_Key {d dst : Nat} {S : St} (s : Str) : callA tab (callR tab) d dst 72 [.d (.str (s))] S = some (.d (.bool (kwords.any (fun k => s == k))), S) :=
  ca_ret (ds := [.str (s)]) (ret_Key s) rfl (tab_opn (by kernel_rfl)) (tab_res (by kernel_rfl))
def nameErr (s : Str) : Int := if (s.length : Int) < 1 ∨ (s.length : Int) > 10 then 1 else match s with
  | [] => 1
  | c :: _ => if isLetter c = false ∨ ((spanL (fun c => isLetter c || isDigit c) s : Nat) : Int) < (s.length : Int) ∨ kwords.any (fun k => s == k) = true then 3 else 0
theorem ret_Name (s : Str) : Ret tab 54 [.d (.str (s))] (.d (.int .i64 (nameErr s))) := by
  refine ret_of (1) fn54 rfl rfl ?_
  by_cases h10 : (s.length : Int) > 10
  · have b1 : decide ((10 : Int) < (s.length : Int)) = true := decide_eq_true h10
    have b2 : decide ((s.length : Int) < 1) = false := decide_eq_false (by omega)
    have hn : nameErr s = 1 := by unfold nameErr; rw [if_pos (.inr h10)]
    rw [hn]
    simp only [amr, amc, amp, if_true, if_false, ne_eq, gt_iff_lt, Option.getD, argsT, Option.bind, Option.map, List.headD, List.tail, opnsL, List.replicate, lendsL, seval, ty_LexN_54, b1, b2]
    repeat' ((first | refine good_ci (fun h => ?_) (fun h => ?_) | refine good_cgt (fun h => ?_) (fun h => ?_) | refine good_cgf (fun h => ?_) (fun h => ?_) | refine good_cqgt (fun h => ?_) (fun h => ?_) | refine good_cqgf (fun h => ?_) (fun h => ?_)) <;> simp only [amr, amc, amp, if_true, if_false, ne_eq, gt_iff_lt, Option.getD, argsT, Option.bind, Option.map, List.headD, List.tail, opnsL, List.replicate, lendsL, seval, ty_LexN_54, b1, b2, h])
  have hs : s.length < 9223372036854775807 := by omega
  cases s with
  | nil =>
    simp only [amr, amc, amp, if_true, if_false, ne_eq, gt_iff_lt, Option.getD, argsT, Option.bind, Option.map, List.headD, List.tail, opnsL, List.replicate, lendsL, seval, ty_LexN_54]
    repeat' ((first | refine good_ci (fun h => ?_) (fun h => ?_) | refine good_cgt (fun h => ?_) (fun h => ?_) | refine good_cgf (fun h => ?_) (fun h => ?_) | refine good_cqgt (fun h => ?_) (fun h => ?_) | refine good_cqgf (fun h => ?_) (fun h => ?_)) <;> simp only [amr, amc, amp, if_true, if_false, ne_eq, gt_iff_lt, Option.getD, argsT, Option.bind, Option.map, List.headD, List.tail, opnsL, List.replicate, lendsL, seval, ty_LexN_54, h])
    all_goals simp_all [nameErr]
  | cons c r =>
    have hget : (c :: r)[0]? = some c := rfl
    have hn : nameErr (c :: r) = if ((c :: r).length : Int) < 1 ∨ ((c :: r).length : Int) > 10 then 1 else if isLetter c = false ∨ ((spanL (fun c => isLetter c || isDigit c) (c :: r) : Nat) : Int) < ((c :: r).length : Int) ∨ kwords.any (fun k => (c :: r) == k) = true then 3 else 0 := rfl
    rw [hn]
    generalize c :: r = s at *
    simp only [amr, amc, amp, if_true, if_false, ne_eq, gt_iff_lt, Option.getD, argsT, Option.bind, Option.map, List.headD, List.tail, opnsL, List.replicate, lendsL, seval, ty_LexN_54, hget, ca_letter, ca_span_nm s hs, ca_Key]
    repeat' ((first | refine good_ci (fun h => ?_) (fun h => ?_) | refine good_cgt (fun h => ?_) (fun h => ?_) | refine good_cgf (fun h => ?_) (fun h => ?_) | refine good_cqgt (fun h => ?_) (fun h => ?_) | refine good_cqgf (fun h => ?_) (fun h => ?_)) <;> simp only [amr, amc, amp, if_true, if_false, ne_eq, gt_iff_lt, Option.getD, argsT, Option.bind, Option.map, List.headD, List.tail, opnsL, List.replicate, lendsL, seval, ty_LexN_54, hget, ca_letter, ca_span_nm s hs, ca_Key, h])
    all_goals first | (simp_all; done) | (simp_all; rw [if_neg (by omega), if_neg (by omega)])
theorem ca_Name {d dst : Nat} {S : St} (s : Str) : callA tab (callR tab) d dst 54 [.d (.str (s))] S = some (.d (.int .i64 (nameErr s)), S) :=
  ca_ret (ds := [.str (s)]) (ret_Name s) rfl (tab_opn (by kernel_rfl)) (tab_res (by kernel_rfl))
end Go.Proofs.Ythmggkidmcgfoaa.Am
/- Formulas: how great they are. -/
set_option linter.unusedVariables false
set_option linter.unusedSimpArgs false
namespace Go.Proofs.Ythmggkidmcgfoaa.Am
open Go Go.RowKit
theorem ty_ExA_13 : type_of% (ai (ai (ai (ai (ai @rs13 (ai @lv13_0 @ro27_1_expr_go_40)) (ai @lv13_1 (ai @lv13_2 @lv13_3))) (ai (ai @lv13_4 (ai @lv13_5 @lv13_6)) (ai @lv13_7 (ai @lv13_8 @kp13_3)))) (ai (ai (ai @und1 (ai @sz1 @ag1)) (ai @inf1 (ai @und3 @sz3))) (ai (ai @ag3 (ai @lv3 @inf3)) (ai (ai @und9 @sz9) (ai @ag9 @lv9))))) (ai (ai (ai (ai @inf9 (ai @und24 @sz24)) (ai @ag24 (ai @fo24 @bA24))) (ai (ai @pT24_0 (ai @pT24_1 @pT24_2)) (ai (ai @lv24 @inf24) (ai @und25 @sz25)))) (ai (ai (ai @ag25 (ai @pT25 @inf25)) (ai @und27 (ai @sz27 @ag27))) (ai (ai @fo27 (ai @bA27 @pT27_0)) (ai (ai @pT27_1 @pT27_2) (ai @pT27_3 @inf27)))))) := (ai (ai (ai (ai (ai @rs13 (ai @lv13_0 @ro27_1_expr_go_40)) (ai @lv13_1 (ai @lv13_2 @lv13_3))) (ai (ai @lv13_4 (ai @lv13_5 @lv13_6)) (ai @lv13_7 (ai @lv13_8 @kp13_3)))) (ai (ai (ai @und1 (ai @sz1 @ag1)) (ai @inf1 (ai @und3 @sz3))) (ai (ai @ag3 (ai @lv3 @inf3)) (ai (ai @und9 @sz9) (ai @ag9 @lv9))))) (ai (ai (ai (ai @inf9 (ai @und24 @sz24)) (ai @ag24 (ai @fo24 @bA24))) (ai (ai @pT24_0 (ai @pT24_1 @pT24_2)) (ai (ai @lv24 @inf24) (ai @und25 @sz25)))) (ai (ai (ai @ag25 (ai @pT25 @inf25)) (ai @und27 (ai @sz27 @ag27))) (ai (ai @fo27 (ai @bA27 @pT27_0)) (ai (ai @pT27_1 @pT27_2) (ai @pT27_3 @inf27))))))
set_option maxRecDepth 100000
set_option maxHeartbeats 40000000



mutual
def Exp.nodes : Exp → Nat
  | .mk _ _ _ a => Exp.nodesL a + 1
def Exp.nodesL : List Exp → Nat
  | [] => 0
  | x :: r => x.nodes + Exp.nodesL r
end
mutual
def Exp.deep : Exp → Nat
  | .mk _ _ _ a => Exp.deepL a + 1
def Exp.deepL : List Exp → Nat
  | [] => 0
  | x :: r => max x.deep (Exp.deepL r)
end
theorem Exp.nodes_mem : ∀ {l : List Exp} {x : Exp}, x ∈ l → x.nodes ≤ Exp.nodesL l
  | y :: r, x, h => by
    rcases List.mem_cons.1 h with rfl | h
    · simp only [Exp.nodesL]; omega
    · have := Exp.nodes_mem h
      simp only [Exp.nodesL]; omega
theorem Exp.nodes_len : ∀ (l : List Exp), l.length ≤ Exp.nodesL l
  | [] => Nat.le_refl _
  | x :: r => by
    have := Exp.nodes_len r
    have h : 1 ≤ x.nodes := by cases x; simp [Exp.nodes]
    simp only [Exp.nodesL, List.length_cons]
    omega
mutual
theorem Exp.deep_le : ∀ (x : Exp), x.deep ≤ x.nodes
  | .mk _ _ _ a => by
    have := Exp.deepL_le a
    simp only [Exp.deep, Exp.nodes]; omega
theorem Exp.deepL_le : ∀ (l : List Exp), Exp.deepL l ≤ Exp.nodesL l
  | [] => Nat.le_refl _
  | x :: r => by
    have h1 := Exp.deep_le x
    have h2 := Exp.deepL_le r
    simp only [Exp.deepL, Exp.nodesL]
    omega
end
theorem ret_SizeN : ∀ (m : Nat) (x : Exp), x.nodes ≤ m → x.nodes ≤ 4611686018427387904 → Ret tab 13 [.d x.dv] (.tup [.d (.int .i64 x.nodes), .d (.int .i64 x.deep)])
  | 0, x, h, _ => by cases x; simp [Exp.nodes] at h
  | m + 1, .mk op v name args, h, hB => by
    have hlen := Exp.nodes_len args
    simp only [Exp.nodes] at h hB
    have ih : ∀ a ∈ args, Ret tab 13 [.d a.dv] (.tup [.d (.int .i64 a.nodes), .d (.int .i64 a.deep)]) := fun a ha => ret_SizeN m a (by have := Exp.nodes_mem ha; omega) (by have := Exp.nodes_mem ha; omega)
    rw [Exp.dv_mk]
    refine ret_of (args.length + 1) fn13 rfl rfl ?_
    simp only [amr, amc, amp, if_true, if_false, ne_eq, gt_iff_lt, Option.getD, argsT, Option.bind, Option.map, List.headD, List.tail, opnsL, List.replicate, lendsL, seval, ty_ExA_13]
    refine good_range args (fun k (a : Nat × Nat) g => ⟨[(4, .d (.int .i64 a.1)), (5, .d (.int .i64 a.2)), (11, .d (.sl 6 (args.map Exp.dv))), (12, .d (.int .i64 args.length)), (13, .d (.int .i64 (k : Nat)))], [], g⟩)
      (fun k a => a.1 + Exp.nodesL (args.drop k) ≤ 4611686018427387904 ∧ a.2 ≤ a.1) (fun k a r => (a.1 + Exp.nodesL r, max a.2 (Exp.deepL r)))
      (QX (.exit 0) (fun o g => ⟨[(4, .d (.int .i64 o.1)), (5, .d (.int .i64 o.2))], [], g⟩)) (1, 0) kp13_3 up_qx ⟨by simp only [List.drop_zero]; omega, by decide⟩ (by omega) (by omega) ?_ ?_ ?_ ?_
    · rintro k ⟨n, dp⟩ g x rest hk hget hd ⟨hI1, hI2⟩ hb w1
      have hget' : (args.map Exp.dv)[k]? = some x.dv := by rw [List.getElem?_map, hget]; rfl
      have hdk : args.drop k = x :: rest := by rw [← hd]; obtain ⟨h1, h2⟩ := List.getElem?_eq_some_iff.1 hget; rw [← h2]; exact List.drop_eq_getElem_cons h1
      simp only [hdk, Exp.nodesL] at hI1 hI2
      have hx := Exp.deep_le x
      have f1 := fun (S : St) (d dst : Nat) => ca_ret_tup (d := d) (dst := dst) (S := S) (args := [.d x.dv]) (ds := [x.dv]) (ys := [.int .i64 x.nodes, .int .i64 x.deep]) (ih x (List.mem_of_getElem? hget)) rfl (tab_opn (by kernel_rfl)) (tab_res (by kernel_rfl)) rfl
      rw [Exp.dv_eq x] at hget' f1
      have w2 : IntKind.i64.wrap ((n : Int) + (x.nodes : Int)) = ((n + x.nodes : Nat) : Int) := by rw [wrap_in (by omega) (by omega)]; omega
      have w3 : (if (dp : Int) < (x.deep : Int) then (x.deep : Int) else (dp : Int)) = ((max dp x.deep : Nat) : Int) := by split <;> omega
      simp only [amr, amc, amp, if_true, if_false, ne_eq, gt_iff_lt, Option.getD, argsT, Option.bind, Option.map, List.headD, List.tail, opnsL, List.replicate, lendsL, seval, ty_ExA_13, hb, hget', w1, w2, w3, f1]
      refine step_nrm (n + x.nodes, max dp x.deep) ⟨?_, ?_⟩ ?_ ?_
      · simp only [hd]; omega
      · simp only; omega
      · simp only [Exp.nodesL, Exp.deepL, Prod.mk.injEq]; omega
      · (apply Exists.intro; (try simp only [amr, amc, amp, if_true, if_false, ne_eq, gt_iff_lt, Option.getD, argsT, Option.bind, Option.map, List.headD, List.tail, opnsL, List.replicate, lendsL, seval]); exact sub_mk (by repeat first | exact subT_nil | refine subT_cons (by first | rfl | simp [Tm.get, *]) ?_))
    · rintro ⟨n, dp⟩ g _ hb
      simp only [amr, amc, amp, if_true, if_false, ne_eq, gt_iff_lt, Option.getD, argsT, Option.bind, Option.map, List.headD, List.tail, opnsL, List.replicate, lendsL, seval, ty_ExA_13, hb]
      refine last_end (by simp) ⟨rfl, ?_⟩
      simp only [Exp.nodesL, Exp.deepL, Nat.max_zero]
      (apply Exists.intro; (try simp only [amr, amc, amp, if_true, if_false, ne_eq, gt_iff_lt, Option.getD, argsT, Option.bind, Option.map, List.headD, List.tail, opnsL, List.replicate, lendsL, seval]); exact sub_mk (by repeat first | exact subT_nil | refine subT_cons (by first | rfl | simp [Tm.get, *]) ?_))
    · (apply Exists.intro; (try simp only [amr, amc, amp, if_true, if_false, ne_eq, gt_iff_lt, Option.getD, argsT, Option.bind, Option.map, List.headD, List.tail, opnsL, List.replicate, lendsL, seval]); exact sub_mk (by repeat first | exact subT_nil | refine subT_cons (by first | rfl | simp [Tm.get, *]) ?_))
    · rintro o S' ⟨rfl, g, hs⟩
      refine good_sub_cr up_fin hs ?_
      have hdl := Exp.deepL_le args
      have w4 : IntKind.i64.wrap ((Exp.deepL args : Int) + 1) = ((Exp.deepL args + 1 : Nat) : Int) := by rw [wrap_in (by omega) (by omega)]; omega
      simp only [Nat.zero_max, Exp.nodes, Exp.deep]
      rw [show 1 + Exp.nodesL args = Exp.nodesL args + 1 by omega]
      simp only [amr, amc, amp, if_true, if_false, ne_eq, gt_iff_lt, Option.getD, argsT, Option.bind, Option.map, List.headD, List.tail, opnsL, List.replicate, lendsL, seval, ty_ExA_13, w4]
theorem ca_Size {d dst : Nat} {S : St} (x : Exp) (hx : x.nodes ≤ 4611686018427387904) : callA tab (callR tab) d dst 13 [.d x.dv] S = some (.tup [.d (.int .i64 x.nodes), .d (.int .i64 x.deep)], S) :=
  ca_ret_tup (ds := [x.dv]) (ys := [.int .i64 x.nodes, .int .i64 x.deep]) (ret_SizeN x.nodes x (Nat.le_refl _) hx) rfl (tab_opn (by kernel_rfl)) (tab_res (by kernel_rfl)) rfl
end Go.Proofs.Ythmggkidmcgfoaa.Am
/- Formulas that may be. -/
set_option linter.unusedVariables false
set_option linter.unusedSimpArgs false
namespace Go.Proofs.Ythmggkidmcgfoaa.Am
open Go Go.RowKit
theorem ty_ExB_53 : type_of% (ai (ai (ai (ai @rs53 (ai @lv53_0 @lv53_1)) (ai (ai @und3 @sz3) (ai @ag3 @lv3))) (ai (ai @inf3 (ai @und9 @sz9)) (ai (ai @ag9 @lv9) (ai @inf9 @und101)))) (ai (ai (ai @sz101 (ai @ag101 @fo101)) (ai (ai @bA101 @pT101_0) (ai @pT101_1 @pT101_2))) (ai (ai @inf101 (ai @und102 @sz102)) (ai (ai @ag102 @bA102) (ai @pT102 @inf102))))) := (ai (ai (ai (ai @rs53 (ai @lv53_0 @lv53_1)) (ai (ai @und3 @sz3) (ai @ag3 @lv3))) (ai (ai @inf3 (ai @und9 @sz9)) (ai (ai @ag9 @lv9) (ai @inf9 @und101)))) (ai (ai (ai @sz101 (ai @ag101 @fo101)) (ai (ai @bA101 @pT101_0) (ai @pT101_1 @pT101_2))) (ai (ai @inf101 (ai @und102 @sz102)) (ai (ai @ag102 @bA102) (ai @pT102 @inf102)))))
theorem ty_ExB_37 : type_of% (ai (ai (ai (ai (ai (ai @rs37 @lv37_0) (ai @ro27_1_expr_go_50 (ai @lv37_1 @lv37_2))) (ai (ai @dr37_3 @lv37_3) (ai @lv37_4 (ai @lv37_5 @lv37_8)))) (ai (ai (ai @lv37_9 @lv37_10) (ai @lv37_11 (ai @lv37_12 @lv37_13))) (ai (ai @lv37_6 (ai @lv37_7 @lv37_14)) (ai @und1 (ai @sz1 @ag1))))) (ai (ai (ai (ai @inf1 @und2) (ai @sz2 (ai @ag2 @lv2))) (ai (ai @inf2 (ai @und3 @sz3)) (ai @ag3 (ai @lv3 @inf3)))) (ai (ai (ai @und4 @sz4) (ai @ag4 (ai @lv4 @inf4))) (ai (ai @und9 (ai @sz9 @ag9)) (ai @lv9 (ai @inf9 @und24)))))) (ai (ai (ai (ai (ai @sz24 @ag24) (ai @fo24 (ai @bA24 @pT24_0))) (ai (ai @pT24_1 (ai @pT24_2 @lv24)) (ai @inf24 (ai @und25 @sz25)))) (ai (ai (ai @ag25 @pT25) (ai @inf25 (ai @und27 @sz27))) (ai (ai @ag27 (ai @fo27 @bA27)) (ai @pT27_0 (ai @pT27_1 @pT27_2))))) (ai (ai (ai (ai @pT27_3 @inf27) (ai @und32 (ai @sz32 @ag32))) (ai (ai @lv32 (ai @inf32 @und101)) (ai @sz101 (ai @ag101 @fo101)))) (ai (ai (ai @bA101 @pT101_0) (ai @pT101_1 (ai @pT101_2 @inf101))) (ai (ai @und102 (ai @sz102 @ag102)) (ai @bA102 (ai @pT102 @inf102))))))) := (ai (ai (ai (ai (ai (ai @rs37 @lv37_0) (ai @ro27_1_expr_go_50 (ai @lv37_1 @lv37_2))) (ai (ai @dr37_3 @lv37_3) (ai @lv37_4 (ai @lv37_5 @lv37_8)))) (ai (ai (ai @lv37_9 @lv37_10) (ai @lv37_11 (ai @lv37_12 @lv37_13))) (ai (ai @lv37_6 (ai @lv37_7 @lv37_14)) (ai @und1 (ai @sz1 @ag1))))) (ai (ai (ai (ai @inf1 @und2) (ai @sz2 (ai @ag2 @lv2))) (ai (ai @inf2 (ai @und3 @sz3)) (ai @ag3 (ai @lv3 @inf3)))) (ai (ai (ai @und4 @sz4) (ai @ag4 (ai @lv4 @inf4))) (ai (ai @und9 (ai @sz9 @ag9)) (ai @lv9 (ai @inf9 @und24)))))) (ai (ai (ai (ai (ai @sz24 @ag24) (ai @fo24 (ai @bA24 @pT24_0))) (ai (ai @pT24_1 (ai @pT24_2 @lv24)) (ai @inf24 (ai @und25 @sz25)))) (ai (ai (ai @ag25 @pT25) (ai @inf25 (ai @und27 @sz27))) (ai (ai @ag27 (ai @fo27 @bA27)) (ai @pT27_0 (ai @pT27_1 @pT27_2))))) (ai (ai (ai (ai @pT27_3 @inf27) (ai @und32 (ai @sz32 @ag32))) (ai (ai @lv32 (ai @inf32 @und101)) (ai @sz101 (ai @ag101 @fo101)))) (ai (ai (ai @bA101 @pT101_0) (ai @pT101_1 (ai @pT101_2 @inf101))) (ai (ai @und102 (ai @sz102 @ag102)) (ai @bA102 (ai @pT102 @inf102)))))))
theorem ty_ExB_23 : type_of% (ai (ai (ai (ai (ai @rs23 (ai @lv23_0 @ro27_1_expr_go_75)) (ai (ai @lv23_1 @lv23_2) (ai @lv23_3 @lv23_4))) (ai (ai (ai @lv23_5 @lv23_6) (ai @lv23_7 @lv23_8)) (ai (ai @lv23_9 @lv23_10) (ai @lv23_11 @kp23_5)))) (ai (ai (ai @und3 (ai @sz3 @ag3)) (ai (ai @lv3 @inf3) (ai @und4 @sz4))) (ai (ai (ai @ag4 @lv4) (ai @inf4 @und9)) (ai (ai @sz9 @ag9) (ai @lv9 @inf9))))) (ai (ai (ai (ai @und24 (ai @sz24 @ag24)) (ai (ai @fo24 @bA24) (ai @pT24_0 @pT24_1))) (ai (ai (ai @pT24_2 @lv24) (ai @inf24 @und25)) (ai (ai @sz25 @ag25) (ai @pT25 @inf25)))) (ai (ai (ai @und27 (ai @sz27 @ag27)) (ai (ai @fo27 @bA27) (ai @pT27_0 @pT27_1))) (ai (ai (ai @pT27_2 @pT27_3) (ai @inf27 @und32)) (ai (ai @sz32 @ag32) (ai @lv32 @inf32)))))) := (ai (ai (ai (ai (ai @rs23 (ai @lv23_0 @ro27_1_expr_go_75)) (ai (ai @lv23_1 @lv23_2) (ai @lv23_3 @lv23_4))) (ai (ai (ai @lv23_5 @lv23_6) (ai @lv23_7 @lv23_8)) (ai (ai @lv23_9 @lv23_10) (ai @lv23_11 @kp23_5)))) (ai (ai (ai @und3 (ai @sz3 @ag3)) (ai (ai @lv3 @inf3) (ai @und4 @sz4))) (ai (ai (ai @ag4 @lv4) (ai @inf4 @und9)) (ai (ai @sz9 @ag9) (ai @lv9 @inf9))))) (ai (ai (ai (ai @und24 (ai @sz24 @ag24)) (ai (ai @fo24 @bA24) (ai @pT24_0 @pT24_1))) (ai (ai (ai @pT24_2 @lv24) (ai @inf24 @und25)) (ai (ai @sz25 @ag25) (ai @pT25 @inf25)))) (ai (ai (ai @und27 (ai @sz27 @ag27)) (ai (ai @fo27 @bA27) (ai @pT27_0 @pT27_1))) (ai (ai (ai @pT27_2 @pT27_3) (ai @inf27 @und32)) (ai (ai @sz32 @ag32) (ai @lv32 @inf32))))))
theorem ty_ExB_14 : type_of% (ai (ai (ai (ai (ai @rs14 (ai @lv14_0 @ro27_1_expr_go_88)) (ai (ai @lv14_1 @lv14_2) (ai @lv14_3 @lv14_4))) (ai (ai @lv14_5 (ai @lv14_6 @und1)) (ai (ai @sz1 @ag1) (ai @inf1 @und3)))) (ai (ai (ai @sz3 (ai @ag3 @lv3)) (ai (ai @inf3 @und4) (ai @sz4 @ag4))) (ai (ai (ai @lv4 @inf4) (ai @und9 @sz9)) (ai (ai @ag9 @lv9) (ai @inf9 @und24))))) (ai (ai (ai (ai @sz24 (ai @ag24 @fo24)) (ai (ai @bA24 @pT24_0) (ai @pT24_1 @pT24_2))) (ai (ai @lv24 (ai @inf24 @und25)) (ai (ai @sz25 @ag25) (ai @pT25 @inf25)))) (ai (ai (ai @und27 (ai @sz27 @ag27)) (ai (ai @fo27 @bA27) (ai @pT27_0 @pT27_1))) (ai (ai (ai @pT27_2 @pT27_3) (ai @inf27 @und32)) (ai (ai @sz32 @ag32) (ai @lv32 @inf32)))))) := (ai (ai (ai (ai (ai @rs14 (ai @lv14_0 @ro27_1_expr_go_88)) (ai (ai @lv14_1 @lv14_2) (ai @lv14_3 @lv14_4))) (ai (ai @lv14_5 (ai @lv14_6 @und1)) (ai (ai @sz1 @ag1) (ai @inf1 @und3)))) (ai (ai (ai @sz3 (ai @ag3 @lv3)) (ai (ai @inf3 @und4) (ai @sz4 @ag4))) (ai (ai (ai @lv4 @inf4) (ai @und9 @sz9)) (ai (ai @ag9 @lv9) (ai @inf9 @und24))))) (ai (ai (ai (ai @sz24 (ai @ag24 @fo24)) (ai (ai @bA24 @pT24_0) (ai @pT24_1 @pT24_2))) (ai (ai @lv24 (ai @inf24 @und25)) (ai (ai @sz25 @ag25) (ai @pT25 @inf25)))) (ai (ai (ai @und27 (ai @sz27 @ag27)) (ai (ai @fo27 @bA27) (ai @pT27_0 @pT27_1))) (ai (ai (ai @pT27_2 @pT27_3) (ai @inf27 @und32)) (ai (ai @sz32 @ag32) (ai @lv32 @inf32))))))
set_option maxRecDepth 100000
set_option maxHeartbeats 40000000



def shp : List DV := [.str [], .int .i64 0, .int .i64 0, .str [], .int .i64 7, .int .i64 0, .str [], .int .i64 7, .int .i64 0, .str [45], .int .i64 6, .int .i64 1, .str [110, 111, 116], .int .i64 6, .int .i64 1, .str [42], .int .i64 5, .int .i64 2, .str [47], .int .i64 5, .int .i64 2, .str [37], .int .i64 5, .int .i64 2, .str [43], .int .i64 4, .int .i64 2, .str [45], .int .i64 4, .int .i64 2, .str [38], .int .i64 4, .int .i64 2, .str [60], .int .i64 3, .int .i64 2, .str [60, 61], .int .i64 3, .int .i64 2, .str [61], .int .i64 3, .int .i64 2, .str [33, 61], .int .i64 3, .int .i64 2, .str [97, 110, 100], .int .i64 2, .int .i64 2, .str [111, 114], .int .i64 1, .int .i64 2, .str [105, 102], .int .i64 7, .int .i64 3, .str [108, 101, 110], .int .i64 7, .int .i64 1]
theorem ca_shapes {d dst : Nat} {S : St} : callA tab (callR tab) d dst 53 [] S = some (.d (.agg shp), S) := by
  refine ca_ret (ds := []) (?_ : Ret tab 53 [] (.d (.agg shp))) rfl (tab_opn (by kernel_rfl)) (tab_res (by kernel_rfl))
  refine ret_of 1 fn53 rfl rfl ?_
  simp only [amr, amc, amp, if_true, if_false, ne_eq, gt_iff_lt, Option.getD, argsT, Option.bind, Option.map, List.headD, List.tail, opnsL, List.replicate, lendsL, seval, ty_ExB_53]
  rfl
/-- How many arguments an op has. -/
def arity (op : Int) : Int := if op = 1 then 0 else if op = 2 then 0 else if op = 3 then 1 else if op = 4 then 1 else if op = 17 then 3 else if op = 18 then 1 else 2
theorem shp_at {op : Int} (h0 : 1 ≤ op) (h1 : op ≤ 18) : ∃ sg lv rest, List.drop (op.toNat * 3) (shp.map AV.d) = .d (.str sg) :: .d (.int .i64 lv) :: .d (.int .i64 (arity op)) :: rest := by
  have h : op = 1 ∨ op = 2 ∨ op = 3 ∨ op = 4 ∨ op = 5 ∨ op = 6 ∨ op = 7 ∨ op = 8 ∨ op = 9 ∨ op = 10 ∨ op = 11 ∨ op = 12 ∨ op = 13 ∨ op = 14 ∨ op = 15 ∨ op = 16 ∨ op = 17 ∨ op = 18 := by omega
  rcases h with rfl | rfl | rfl | rfl | rfl | rfl | rfl | rfl | rfl | rfl | rfl | rfl | rfl | rfl | rfl | rfl | rfl | rfl <;> exact ⟨_, _, _, rfl⟩
def vz (v : Val) : Bool := v.kind == 0 && (v.n == 0 && v.s == [])
/-- May a formula be, by itself? -/
def PartOK (op : Int) (v : Val) (name : Str) (n : Nat) : Prop := 1 ≤ op ∧ op ≤ 18 ∧ (n : Int) = arity op ∧ (if op = 1 then name = [] ∧ valKnown v = true ∧ ¬ (v.kind = 1 ∧ v.n < 0) else if op = 2 then nameErr name = 0 ∧ vz v = true else name = [] ∧ vz v = true)
mutual
def Exp.wf : Exp → Prop
  | .mk op v name args => PartOK op v name args.length ∧ Exp.wfL args
def Exp.wfL : List Exp → Prop
  | [] => True
  | x :: r => x.wf ∧ Exp.wfL r
end
theorem ret_part (x : Exp) (h : PartOK x.op x.v x.name x.args.length) : Ret tab 37 [.d x.dv] (.d (.int .i64 0)) := by
  obtain ⟨h1, h2, h3, h4⟩ := h
  obtain ⟨sg, lv, rest, hs⟩ := shp_at h1 h2
  rw [Exp.dv_eq x]
  generalize x.op = op at *
  generalize x.name = name at *
  generalize x.args = args at *
  generalize x.v = v at *
  refine ret_of 1 fn37 rfl rfl ?_
  have b1 : decide (op < 1) = false := decide_eq_false (by omega)
  have b2 : decide (18 < op) = false := decide_eq_false (by omega)
  have b3 : (((args.length : Nat) : Int) != arity op) = false := by rw [h3]; simp
  have k1 : (0 ≤ op) = True := eq_true (by omega)
  have k2 : (op < 19) = True := eq_true (by omega)
  have k3 : ∀ m : Nat, (3 ≤ m + 1 + 1 + 1) = True := fun m => eq_true (by omega)
  have fk : ∀ (S : St) (d dst : Nat), callA tab (callR tab) d dst 27 [.d (.agg [.int .i64 v.kind, .int .i64 v.n, .str v.s])] S = some (.d (.bool (valKnown v)), S) := fun S d dst => ca_Known v.kind v.n v.s
  have fz : (v.kind == 0 && (v.n == 0 && v.s == [])) = vz v := rfl
  by_cases c1 : op = 1
  · rw [if_pos c1] at h4
    obtain ⟨rfl, hv, hn⟩ := h4
    have b4 : (op == 1) = true := beq_iff_eq.2 c1
    rw [hv] at fk
    cases c2 : (v.kind == 1) with
    | true =>
      have b5 : decide (v.n < 0) = false := decide_eq_false (fun h => hn ⟨beq_iff_eq.1 c2, h⟩)
      simp only [amr, amc, amp, if_true, if_false, ne_eq, gt_iff_lt, Option.getD, argsT, Option.bind, Option.map, List.headD, List.tail, opnsL, List.replicate, lendsL, seval, ty_ExB_37, b1, b2, b3, b4, b5, c2, k1, k2, k3, hs, ca_shapes, fk, bne_self_eq_false, beq_self_eq_true]
    | false =>
      simp only [amr, amc, amp, if_true, if_false, ne_eq, gt_iff_lt, Option.getD, argsT, Option.bind, Option.map, List.headD, List.tail, opnsL, List.replicate, lendsL, seval, ty_ExB_37, b1, b2, b3, b4, c2, k1, k2, k3, hs, ca_shapes, fk, bne_self_eq_false, beq_self_eq_true]
  · rw [if_neg c1] at h4
    have b4 : (op == 1) = false := beq_eq_false_iff_ne.2 c1
    by_cases c2 : op = 2
    · rw [if_pos c2] at h4
      have b5 : (op == 2) = true := beq_iff_eq.2 c2
      have fn := fun (S : St) (d dst : Nat) => ca_Name (d := d) (dst := dst) (S := S) name
      rw [h4.1] at fn
      have hz := h4.2
      rw [hz] at fz
      simp only [amr, amc, amp, if_true, if_false, ne_eq, gt_iff_lt, Option.getD, argsT, Option.bind, Option.map, List.headD, List.tail, opnsL, List.replicate, lendsL, seval, ty_ExB_37, b1, b2, b3, b4, b5, k1, k2, k3, hs, ca_shapes, fn, fz, bne_self_eq_false, beq_self_eq_true]
    · rw [if_neg c2] at h4
      obtain ⟨rfl, hz⟩ := h4
      rw [hz] at fz
      have b5 : (op == 2) = false := beq_eq_false_iff_ne.2 c2
      simp only [amr, amc, amp, if_true, if_false, ne_eq, gt_iff_lt, Option.getD, argsT, Option.bind, Option.map, List.headD, List.tail, opnsL, List.replicate, lendsL, seval, ty_ExB_37, b1, b2, b3, b4, b5, k1, k2, k3, hs, ca_shapes, fz, bne_self_eq_false, beq_self_eq_true]
theorem ca_partO {d dst : Nat} {S : St} (x : Exp) (h : PartOK x.op x.v x.name x.args.length) : callA tab (callR tab) d dst 37 [.d (.agg [.int .i64 x.op, .int .i64 x.v.kind, .int .i64 x.v.n, .str x.v.s, .str x.name, .sl 6 (x.args.map Exp.dv)])] S = some (.d (.int .i64 0), S) := by
  rw [← Exp.dv_eq]
  exact ca_ret (ds := [x.dv]) (ret_part x h) rfl (tab_opn (by kernel_rfl)) (tab_res (by kernel_rfl))
theorem Exp.wf_mem : ∀ {l : List Exp} {x : Exp}, Exp.wfL l → x ∈ l → x.wf
  | y :: r, x, h, hx => by
    simp only [Exp.wfL] at h
    rcases List.mem_cons.1 hx with rfl | hx
    · exact h.1
    · exact Exp.wf_mem h.2 hx
theorem ret_partsN : ∀ (m : Nat) (x : Exp), x.nodes ≤ m → x.nodes ≤ 4611686018427387904 → x.wf → Ret tab 23 [.d x.dv] (.d (.int .i64 0))
  | 0, x, h, _, _ => by cases x; simp [Exp.nodes] at h
  | m + 1, .mk op v name args, h, hB, hw => by
    have hlen := Exp.nodes_len args
    simp only [Exp.nodes] at h hB
    simp only [Exp.wf] at hw
    obtain ⟨hp, hw⟩ := hw
    have ih : ∀ a ∈ args, Ret tab 23 [.d a.dv] (.d (.int .i64 0)) := fun a ha => ret_partsN m a (by have := Exp.nodes_mem ha; omega) (by have := Exp.nodes_mem ha; omega) (Exp.wf_mem hw ha)
    have f0 : ∀ (S : St) (d dst : Nat), callA tab (callR tab) d dst 37 [.d (.agg [.int .i64 op, .int .i64 v.kind, .int .i64 v.n, .str v.s, .str name, .sl 6 (args.map Exp.dv)])] S = some (.d (.int .i64 0), S) := fun S d dst => ca_partO (.mk op v name args) hp
    rw [Exp.dv_mk]
    refine ret_of (args.length + 1) fn23 rfl rfl ?_
    simp only [amr, amc, amp, if_true, if_false, ne_eq, gt_iff_lt, Option.getD, argsT, Option.bind, Option.map, List.headD, List.tail, opnsL, List.replicate, lendsL, seval, ty_ExB_23, f0, bne_self_eq_false]
    refine good_range args (fun k (_ : Unit) g => ⟨[(13, .d (.sl 6 (args.map Exp.dv))), (14, .d (.int .i64 args.length)), (15, .d (.int .i64 (k : Nat)))], [], g⟩) (fun _ _ => True) (fun _ _ _ => ()) (QX (.exit 0) (fun _ g => ⟨[], [], g⟩)) () kp23_5 up_qx trivial (by omega) (by omega) ?_ ?_ ?_ ?_
    · rintro k a g x rest hk hget hd _ hb w1
      have hget' : (args.map Exp.dv)[k]? = some x.dv := by rw [List.getElem?_map, hget]; rfl
      have f1 := fun (S : St) (d dst : Nat) => ca_ret (d := d) (dst := dst) (S := S) (args := [.d x.dv]) (ds := [x.dv]) (ih x (List.mem_of_getElem? hget)) rfl (tab_opn (by kernel_rfl)) (tab_res (by kernel_rfl))
      rw [Exp.dv_eq x] at hget' f1
      simp only [amr, amc, amp, if_true, if_false, ne_eq, gt_iff_lt, Option.getD, argsT, Option.bind, Option.map, List.headD, List.tail, opnsL, List.replicate, lendsL, seval, ty_ExB_23, hb, hget', w1, f1, bne_self_eq_false]
      refine step_nrm () trivial rfl ?_
      (apply Exists.intro; (try simp only [amr, amc, amp, if_true, if_false, ne_eq, gt_iff_lt, Option.getD, argsT, Option.bind, Option.map, List.headD, List.tail, opnsL, List.replicate, lendsL, seval]); exact sub_mk (by repeat first | exact subT_nil | refine subT_cons (by first | rfl | simp [Tm.get, *]) ?_))
    · rintro a g _ hb
      simp only [amr, amc, amp, if_true, if_false, ne_eq, gt_iff_lt, Option.getD, argsT, Option.bind, Option.map, List.headD, List.tail, opnsL, List.replicate, lendsL, seval, ty_ExB_23, hb]
      refine last_end (by simp) ⟨rfl, ?_⟩
      (apply Exists.intro; (try simp only [amr, amc, amp, if_true, if_false, ne_eq, gt_iff_lt, Option.getD, argsT, Option.bind, Option.map, List.headD, List.tail, opnsL, List.replicate, lendsL, seval]); exact sub_mk (by repeat first | exact subT_nil | refine subT_cons (by first | rfl | simp [Tm.get, *]) ?_))
    · (apply Exists.intro; (try simp only [amr, amc, amp, if_true, if_false, ne_eq, gt_iff_lt, Option.getD, argsT, Option.bind, Option.map, List.headD, List.tail, opnsL, List.replicate, lendsL, seval]); exact sub_mk (by repeat first | exact subT_nil | refine subT_cons (by first | rfl | simp [Tm.get, *]) ?_))
    · rintro o S' ⟨rfl, g, hs⟩
      refine good_sub_cr up_fin hs ?_
      simp only [amr, amc, amp, if_true, if_false, ne_eq, gt_iff_lt, Option.getD, argsT, Option.bind, Option.map, List.headD, List.tail, opnsL, List.replicate, lendsL, seval, ty_ExB_23]
/-- What is wrong with a formula whose parts may be. -/
def chkE (x : Exp) : Int := if 60 < x.nodes then 1 else if 12 < x.deep then 4 else 0
theorem ret_CheckE (x : Exp) (hB : x.nodes ≤ 4611686018427387904) (hw : x.wf) : Ret tab 14 [.d x.dv] (.d (.int .i64 (chkE x))) := by
  have f0 := fun (S : St) (d dst : Nat) => ca_Size (d := d) (dst := dst) (S := S) x hB
  have f1 := fun (S : St) (d dst : Nat) => ca_ret (d := d) (dst := dst) (S := S) (args := [.d x.dv]) (ds := [x.dv]) (ret_partsN x.nodes x (Nat.le_refl _) hB hw) rfl (tab_opn (by kernel_rfl)) (tab_res (by kernel_rfl))
  unfold chkE
  rw [Exp.dv_eq x] at f0 f1 ⊢
  refine ret_of 1 fn14 rfl rfl ?_
  by_cases c1 : 60 < x.nodes
  · have b1 : decide (60 < (x.nodes : Int)) = true := decide_eq_true (by omega)
    rw [if_pos c1]
    simp only [amr, amc, amp, if_true, if_false, ne_eq, gt_iff_lt, Option.getD, argsT, Option.bind, Option.map, List.headD, List.tail, opnsL, List.replicate, lendsL, seval, ty_ExB_14, f0, b1]
  · have b1 : decide (60 < (x.nodes : Int)) = false := decide_eq_false (by omega)
    rw [if_neg c1]
    by_cases c2 : 12 < x.deep
    · have b2 : decide (12 < (x.deep : Int)) = true := decide_eq_true (by omega)
      rw [if_pos c2]
      simp only [amr, amc, amp, if_true, if_false, ne_eq, gt_iff_lt, Option.getD, argsT, Option.bind, Option.map, List.headD, List.tail, opnsL, List.replicate, lendsL, seval, ty_ExB_14, f0, b1, b2]
    · have b2 : decide (12 < (x.deep : Int)) = false := decide_eq_false (by omega)
      rw [if_neg c2]
      simp only [amr, amc, amp, if_true, if_false, ne_eq, gt_iff_lt, Option.getD, argsT, Option.bind, Option.map, List.headD, List.tail, opnsL, List.replicate, lendsL, seval, ty_ExB_14, f0, f1, b1, b2]
theorem ca_CheckE {d dst : Nat} {S : St} (x : Exp) (hB : x.nodes ≤ 4611686018427387904) (hw : x.wf) : callA tab (callR tab) d dst 14 [.d x.dv] S = some (.d (.int .i64 (chkE x)), S) :=
  ca_ret (ds := [x.dv]) (ret_CheckE x hB hw) rfl (tab_opn (by kernel_rfl)) (tab_res (by kernel_rfl))
end Go.Proofs.Ythmggkidmcgfoaa.Am
/- Formulas of raw things: they may be. -/
set_option linter.unusedVariables false
set_option linter.unusedSimpArgs false
namespace Go.Proofs.Ythmggkidmcgfoaa.Am
open Go Go.RowKit
set_option maxRecDepth 100000
set_option maxHeartbeats 40000000



def nb : Nat → Nat
  | 0 => 1
  | d + 1 => 3 * nb d + 1
theorem nb_pos : ∀ d, 1 ≤ nb d
  | 0 => Nat.le_refl _
  | d + 1 => by unfold nb; omega
theorem gargs_len (ge : Int → Nat → Exp × Nat) : ∀ (ks : List Int) (n : Nat), (gargs ge ks n).1.length = ks.length
  | [], n => rfl
  | k :: ks, n => by simp [gargs, gargs_len ge ks]
theorem gargs_nodes {ge : Int → Nat → Exp × Nat} {c : Nat} (h : ∀ k n, (ge k n).1.nodes ≤ c) : ∀ (ks : List Int) (n : Nat), Exp.nodesL (gargs ge ks n).1 ≤ ks.length * c
  | [], n => by simp [gargs, Exp.nodesL]
  | k :: ks, n => by
    have h1 := h k n
    have h2 := gargs_nodes h ks (ge k n).2
    simp only [gargs, Exp.nodesL, List.length_cons, Nat.add_mul]
    omega
theorem gargs_deep {ge : Int → Nat → Exp × Nat} {c : Nat} (h : ∀ k n, (ge k n).1.deep ≤ c) : ∀ (ks : List Int) (n : Nat), Exp.deepL (gargs ge ks n).1 ≤ c
  | [], n => by simp [gargs, Exp.deepL]
  | k :: ks, n => by
    have h1 := h k n
    have h2 := gargs_deep h ks (ge k n).2
    simp only [gargs, Exp.deepL]
    omega
theorem gleaf_nodes (kind : Int) (fs : List Field) (r : Raw) : (gleafE kind fs r).nodes = 1 ∧ (gleafE kind fs r).deep = 1 := by
  unfold gleafE constE
  split
  · exact ⟨rfl, rfl⟩
  · split <;> exact ⟨rfl, rfl⟩
theorem gexpr_nodes (fs : List Field) (l : List Raw) : ∀ (d : Nat) (kind : Int) (k : Nat), (gexpr fs l d kind k).1.nodes ≤ nb d ∧ (gexpr fs l d kind k).1.deep ≤ d + 1
  | 0, kind, k => by
    have h := gleaf_nodes kind fs (gnext l (gat l k))
    simp only [gexpr, nb]
    omega
  | d + 1, kind, k => by
    have h := gleaf_nodes kind fs (gnext l (gat l k))
    have h1 := gargs_nodes (ge := gexpr fs l d) (fun k n => (gexpr_nodes fs l d k n).1) (gshape kind (gnext l k)).2 (gat l k)
    have h2 := gargs_deep (ge := gexpr fs l d) (fun k n => (gexpr_nodes fs l d k n).2) (gshape kind (gnext l k)).2 (gat l k)
    have h3 := Nat.mul_le_mul_right (nb d) (gshape_len kind (gnext l k))
    have h4 := nb_pos d
    unfold gexpr
    split
    · simp only [nb]; omega
    · simp only [nb, Exp.nodes, Exp.deep]; omega
/-- A type. -/
def Ty (k : Int) : Prop := k = 1 ∨ k = 2 ∨ k = 3
/-- Fields that formulas may ask for. -/
def FsOK (fs : List Field) : Prop := ∀ f ∈ fs, nameErr f.name = 0 ∧ Ty f.ty
theorem fnames_mem {kind : Int} : ∀ {fs : List Field} {s : List UInt8}, s ∈ fnames kind fs → ∃ f ∈ fs, f.name = s ∧ f.ty = kind
  | [], s, h => by simp [fnames] at h
  | f :: r, s, h => by
    unfold fnames at h
    split at h
    · rcases List.mem_cons.1 h with rfl | h
      · exact ⟨f, by simp, rfl, by assumption⟩
      · obtain ⟨g, h1, h2⟩ := fnames_mem h; exact ⟨g, by simp [h1], h2⟩
    · obtain ⟨g, h1, h2⟩ := fnames_mem h; exact ⟨g, by simp [h1], h2⟩
theorem constV_ok {kind : Int} {r : Raw} (hr : r.ok) (hk : Ty kind) : valKnown (constV kind r) = true ∧ (constV kind r).kind = kind ∧ ¬ ((constV kind r).kind = 1 ∧ (constV kind r).n < 0) := by
  have h1 := mkVal_known kind r hr hk
  have h2 := mkVal_kind kind r hk
  unfold constV
  by_cases c : kind = 1
  · rw [if_pos c]
    have h3 := known_num h1 (by rw [h2, c])
    have hs : (mkVal kind r).s = [] := by subst c; unfold mkVal; simp only [if_true]; split <;> rfl
    generalize mkVal kind r = v at *
    obtain ⟨vk, vn, vs⟩ := v
    simp only at h1 h2 h3 hs
    subst h2 hs c
    have w : IntKind.i64.wrap (0 - vn) = 0 - vn := wrap_in (by omega) (by omega)
    simp only
    generalize IntKind.i64.wrap (0 - vn) = m at *
    have hn : ∀ n : Int, -1099511627776 ≤ n → n ≤ 1099511627776 → valKnown ⟨1, n, []⟩ = true := fun n h4 h5 => by
      simp [valKnown, valChk, chk_in h4 h5, valTail]
    have hz : ∀ n : Int, -1099511627776 ≤ n → n ≤ 1099511627776 → 0 ≤ n → valKnown ⟨1, n, []⟩ = true ∧ True ∧ ¬ (True ∧ n < 0) := fun n h4 h5 h6 => ⟨hn n h4 h5, trivial, fun h => by have := h.2; omega⟩
    by_cases hgt : m > vn
    · rw [if_pos hgt]; exact hz m (by omega) (by omega) (by omega)
    · rw [if_neg hgt]; exact hz vn (by omega) (by omega) (by omega)
  · rw [if_neg c]
    exact ⟨h1, h2, fun h => c (by rw [← h2]; exact h.1)⟩
theorem vz_zero : vz Val.zero = true := rfl
theorem gleaf_wf {fs : List Field} (hf : FsOK fs) {kind : Int} (hk : Ty kind) {r : Raw} (hr : r.ok) : (gleafE kind fs r).wf := by
  have hc := constV_ok hr hk
  have h1 : (constE kind r).wf := by
    refine ⟨⟨by decide, by decide, by decide, ?_⟩, trivial⟩
    rw [if_pos rfl]
    exact ⟨rfl, hc.1, hc.2.2⟩
  unfold gleafE
  split
  · exact h1
  · split
    · exact h1
    · rename_i h2 h3
      refine ⟨⟨by decide, by decide, by decide, ?_⟩, trivial⟩
      rw [if_neg (by decide), if_pos rfl]
      refine ⟨?_, rfl⟩
      have hp := pick_range r.b ((fnames kind fs).length : Int) hr.b.1 hr.b.2 (by omega)
      have hm : (fnames kind fs).getD (pick r.b (fnames kind fs).length).toNat [] ∈ fnames kind fs := by
        rw [List.getD_eq_getElem?_getD, List.getElem?_eq_getElem (by omega)]
        exact List.getElem_mem _
      obtain ⟨f, hf1, hf2, _⟩ := fnames_mem hm
      rw [← hf2]
      exact (hf f hf1).1
theorem gshape_ok {kind : Int} {r : Raw} (hk : Ty kind) (hr : r.ok) : 1 ≤ (gshape kind r).1 ∧ (gshape kind r).1 ≤ 18 ∧ (((gshape kind r).2.length : Nat) : Int) = arity (gshape kind r).1 ∧ (gshape kind r).1 ≠ 1 ∧ (gshape kind r).1 ≠ 2 ∧ ∀ k ∈ (gshape kind r).2, Ty k := by
  have q3 := pick_range r.b 7 hr.b.1 hr.b.2 (by decide)
  have q4 := pick_range r.a 3 hr.a.1 hr.a.2 (by decide)
  unfold gshape
  generalize pick r.b 7 = q at *
  generalize pick r.a 3 = a at *
  split
  · refine ⟨by simp, by simp, rfl, by simp, by simp, fun k hm => ?_⟩
    simp only [List.mem_cons, List.not_mem_nil, or_false] at hm
    rcases hm with rfl | rfl | rfl
    · exact .inr (.inl rfl)
    · exact hk
    · exact hk
  · split
    · split
      · exact ⟨by decide, by decide, by decide, by decide, by decide, fun k hm => by simp at hm; exact .inl hm⟩
      · split
        · exact ⟨by decide, by decide, by decide, by decide, by decide, fun k hm => by simp at hm; exact .inr (.inr hm)⟩
        · refine ⟨by simp only; omega, by simp only; omega, ?_, by simp only; omega, by simp only; omega, fun k hm => by simp at hm; exact .inl hm⟩
          have : arity (5 + (q - 2)) = 2 := by unfold arity; rw [if_neg (by omega), if_neg (by omega), if_neg (by omega), if_neg (by omega), if_neg (by omega), if_neg (by omega)]
          simp [this]
    · split
      · split
        · exact ⟨by decide, by decide, by decide, by decide, by decide, fun k hm => by simp at hm; exact .inr (.inl hm)⟩
        · split
          · refine ⟨by simp only; omega, by simp only; omega, ?_, by simp only; omega, by simp only; omega, fun k hm => by simp at hm; exact .inr (.inl hm)⟩
            have : arity (15 + q - 1) = 2 := by unfold arity; rw [if_neg (by omega), if_neg (by omega), if_neg (by omega), if_neg (by omega), if_neg (by omega), if_neg (by omega)]
            simp [this]
          · refine ⟨by simp only; omega, by simp only; omega, ?_, by simp only; omega, by simp only; omega, fun k hm => by simp at hm; subst hm; unfold Ty; omega⟩
            have : arity (11 + q - 3) = 2 := by unfold arity; rw [if_neg (by omega), if_neg (by omega), if_neg (by omega), if_neg (by omega), if_neg (by omega), if_neg (by omega)]
            simp [this]
      · exact ⟨by decide, by decide, by decide, by decide, by decide, fun k hm => by simp at hm; exact .inr (.inr hm)⟩
theorem gargs_wf {ge : Int → Nat → Exp × Nat} (h : ∀ k n, Ty k → (ge k n).1.wf) : ∀ (ks : List Int) (n : Nat), (∀ k ∈ ks, Ty k) → Exp.wfL (gargs ge ks n).1
  | [], n, _ => trivial
  | k :: ks, n, hk => ⟨h k n (hk k (by simp)), gargs_wf h ks _ fun j hj => hk j (by simp [hj])⟩
theorem gexpr_wf {fs : List Field} (hf : FsOK fs) {l : List Raw} (hr : ∀ r ∈ l, r.ok) : ∀ (d : Nat) (kind : Int) (k : Nat), Ty kind → (gexpr fs l d kind k).1.wf
  | 0, kind, k, hk => gleaf_wf hf hk (gnext_ok hr _)
  | d + 1, kind, k, hk => by
    unfold gexpr
    split
    · exact gleaf_wf hf hk (gnext_ok hr _)
    · obtain ⟨h1, h2, h3, h4, h5, h6⟩ := gshape_ok hk (gnext_ok hr k)
      refine ⟨⟨h1, h2, ?_, ?_⟩, gargs_wf (fun k n => gexpr_wf hf hr d k n) _ _ h6⟩
      · rw [gargs_len]; exact h3
      · rw [if_neg h4, if_neg h5]; exact ⟨rfl, rfl⟩
end Go.Proofs.Ythmggkidmcgfoaa.Am
/- Formulas of raw things, as the statements have them. -/
set_option linter.unusedVariables false
set_option linter.unusedSimpArgs false
namespace Go.Proofs.Ythmggkidmcgfoaa.Am
open Go Go.RowKit
theorem ty_GenF_8 : type_of% (ai (ai (ai (ai (ai @rs8 (ai @lv8_0 @lv8_1)) (ai (ai @und3 @sz3) (ai @ag3 @lv3))) (ai (ai @inf3 (ai @und5 @sz5)) (ai (ai @ag5 @lv5) (ai @inf5 @und9)))) (ai (ai (ai @sz9 (ai @ag9 @lv9)) (ai (ai @inf9 @und24) (ai @sz24 @ag24))) (ai (ai (ai @fo24 @bA24) (ai @pT24_0 @pT24_1)) (ai (ai @pT24_2 @lv24) (ai @inf24 @und25))))) (ai (ai (ai (ai @sz25 (ai @ag25 @pT25)) (ai (ai @inf25 @und27) (ai @sz27 @ag27))) (ai (ai @fo27 (ai @bA27 @pT27_0)) (ai (ai @pT27_1 @pT27_2) (ai @pT27_3 @inf27)))) (ai (ai (ai @und30 (ai @sz30 @ag30)) (ai (ai @pT30 @inf30) (ai @und49 @sz49))) (ai (ai (ai @ag49 @fo49) (ai @bA49 @pT49_0)) (ai (ai @pT49_1 @pT49_2) (ai @pT49_3 @inf49)))))) := (ai (ai (ai (ai (ai @rs8 (ai @lv8_0 @lv8_1)) (ai (ai @und3 @sz3) (ai @ag3 @lv3))) (ai (ai @inf3 (ai @und5 @sz5)) (ai (ai @ag5 @lv5) (ai @inf5 @und9)))) (ai (ai (ai @sz9 (ai @ag9 @lv9)) (ai (ai @inf9 @und24) (ai @sz24 @ag24))) (ai (ai (ai @fo24 @bA24) (ai @pT24_0 @pT24_1)) (ai (ai @pT24_2 @lv24) (ai @inf24 @und25))))) (ai (ai (ai (ai @sz25 (ai @ag25 @pT25)) (ai (ai @inf25 @und27) (ai @sz27 @ag27))) (ai (ai @fo27 (ai @bA27 @pT27_0)) (ai (ai @pT27_1 @pT27_2) (ai @pT27_3 @inf27)))) (ai (ai (ai @und30 (ai @sz30 @ag30)) (ai (ai @pT30 @inf30) (ai @und49 @sz49))) (ai (ai (ai @ag49 @fo49) (ai @bA49 @pT49_0)) (ai (ai @pT49_1 @pT49_2) (ai @pT49_3 @inf49))))))
theorem ty_GenF_6 : type_of% (ai (ai (ai (ai (ai (ai @rs6 @lv6_0) (ai @lv6_1 (ai @ro53_10_raw_go_132 @lv6_2))) (ai (ai @und3 @sz3) (ai @ag3 (ai @lv3 @inf3)))) (ai (ai (ai @und9 @sz9) (ai @ag9 (ai @lv9 @inf9))) (ai (ai @und22 @sz22) (ai @ag22 (ai @pT22 @inf22))))) (ai (ai (ai (ai @und24 @sz24) (ai @ag24 (ai @fo24 @bA24))) (ai (ai @pT24_0 @pT24_1) (ai @pT24_2 (ai @lv24 @inf24)))) (ai (ai (ai @und25 @sz25) (ai @ag25 (ai @pT25 @inf25))) (ai (ai @und27 (ai @sz27 @ag27)) (ai @fo27 (ai @bA27 @pT27_0)))))) (ai (ai (ai (ai (ai @pT27_1 @pT27_2) (ai @pT27_3 (ai @inf27 @und30))) (ai (ai @sz30 @ag30) (ai @pT30 (ai @inf30 @und49)))) (ai (ai (ai @sz49 @ag49) (ai @fo49 (ai @bA49 @pT49_0))) (ai (ai @pT49_1 @pT49_2) (ai @pT49_3 (ai @inf49 @und51))))) (ai (ai (ai (ai @sz51 @ag51) (ai @inf51 (ai @und53 @sz53))) (ai (ai @ag53 @fo53) (ai @bA53 (ai @pT53_0 @pT53_1)))) (ai (ai (ai @inf53 @und58) (ai @sz58 (ai @ag58 @fo58))) (ai (ai @bA58 (ai @pT58_0 @pT58_1)) (ai @pT58_2 (ai @pT58_3 @inf58))))))) := (ai (ai (ai (ai (ai (ai @rs6 @lv6_0) (ai @lv6_1 (ai @ro53_10_raw_go_132 @lv6_2))) (ai (ai @und3 @sz3) (ai @ag3 (ai @lv3 @inf3)))) (ai (ai (ai @und9 @sz9) (ai @ag9 (ai @lv9 @inf9))) (ai (ai @und22 @sz22) (ai @ag22 (ai @pT22 @inf22))))) (ai (ai (ai (ai @und24 @sz24) (ai @ag24 (ai @fo24 @bA24))) (ai (ai @pT24_0 @pT24_1) (ai @pT24_2 (ai @lv24 @inf24)))) (ai (ai (ai @und25 @sz25) (ai @ag25 (ai @pT25 @inf25))) (ai (ai @und27 (ai @sz27 @ag27)) (ai @fo27 (ai @bA27 @pT27_0)))))) (ai (ai (ai (ai (ai @pT27_1 @pT27_2) (ai @pT27_3 (ai @inf27 @und30))) (ai (ai @sz30 @ag30) (ai @pT30 (ai @inf30 @und49)))) (ai (ai (ai @sz49 @ag49) (ai @fo49 (ai @bA49 @pT49_0))) (ai (ai @pT49_1 @pT49_2) (ai @pT49_3 (ai @inf49 @und51))))) (ai (ai (ai (ai @sz51 @ag51) (ai @inf51 (ai @und53 @sz53))) (ai (ai @ag53 @fo53) (ai @bA53 (ai @pT53_0 @pT53_1)))) (ai (ai (ai @inf53 @und58) (ai @sz58 (ai @ag58 @fo58))) (ai (ai @bA58 (ai @pT58_0 @pT58_1)) (ai @pT58_2 (ai @pT58_3 @inf58)))))))
set_option maxRecDepth 100000
set_option maxHeartbeats 40000000



def ez : Exp := .mk 0 Val.zero [] []
def someF : List Field := [⟨[110], 1, 1, ez⟩, ⟨[109], 1, 1, ez⟩, ⟨[116], 1, 2, ez⟩, ⟨[117], 1, 2, ez⟩, ⟨[115], 1, 3, ez⟩]
theorem someF_ok : FsOK someF := by
  intro f hf
  simp only [someF, List.mem_cons, List.not_mem_nil, or_false] at hf
  rcases hf with rfl | rfl | rfl | rfl | rfl <;> exact ⟨by decide, by unfold Ty; decide⟩
theorem el_agg {cs : List AV} {s : List DV} : el1 (some (.agg cs)) (some s) = (toD (.agg cs)).map fun z => z :: s := rfl
theorem ca_Some {d dst : Nat} {S : St} : callA tab (callR tab) d dst 8 [] S = some (.d (.sl 9 (someF.map Field.dv)), S) := by
  refine ca_ret_av (ds := []) (x := .own 9 (someF.map Field.dv) none) (?_ : Ret tab 8 [] _) rfl (tab_opn (by kernel_rfl)) (tab_res (by kernel_rfl)) rfl rfl (fun _ => rfl)
  refine ret_of 1 fn8 rfl rfl ?_
  simp only [amr, amc, amp, if_true, if_false, ne_eq, gt_iff_lt, Option.getD, argsT, Option.bind, Option.map, List.headD, List.tail, opnsL, List.replicate, lendsL, seval, ty_GenF_8, el_agg]
  rfl
/-- A formula of a type, of raw things. -/
def mkE (l : List Raw) (kind : Int) (fs : List Field) : Exp := (gexpr fs l 3 kind 0).1
theorem mkE_nodes (l : List Raw) (kind : Int) (fs : List Field) : (mkE l kind fs).nodes ≤ 40 := (gexpr_nodes fs l 3 kind 0).1
theorem mkE_deep (l : List Raw) (kind : Int) (fs : List Field) : (mkE l kind fs).deep ≤ 4 := (gexpr_nodes fs l 3 kind 0).2
theorem mkE_wf {l : List Raw} (hr : ∀ r ∈ l, r.ok) {kind : Int} (hk : Ty kind) {fs : List Field} (hf : FsOK fs) : (mkE l kind fs).wf := gexpr_wf hf hr 3 kind 0 hk
theorem ret_Expr (l : List Raw) (kind : Int) (fs : List Field) (hfs : fs.length ≤ 1048576) (hl : l.length ≤ 9223372036854775807) (hr : ∀ r ∈ l, r.ok) : RetD tab 6 [.d (.sl 4 (l.map Raw.dv)), .d (.int .i64 kind), .d (.sl 9 (fs.map Field.dv))] (mkE l kind fs).dv := by
  refine retq_good 1 fn6 rfl rfl ?_
  unfold mkE
  have hgb : gbox l 0 = .box [.d (.sl 4 (l.map Raw.dv)), .d (.int .i64 0)] := rfl
  have fE := fun (T : Tm) (g : List Nat) (H : Heap) (dst : Nat) (q : List Nat) (hx : ((0 :: g) <:+ q) = False) (hS : Heap.get H ⟨0, 10, q⟩ = some (gbox l 0)) => ca_exprH (expr_ok 3 (by decide)) (d := 0) (dst := dst) (S := ⟨T, H, g⟩) 0 10 q (Nat.le_refl _) kind fs hfs l 0 (by decide) hl hr hx hS
  simp only [hgb] at fE
  simp only [Exp.dv_eq (gexpr fs l 3 kind 0).1] at fE ⊢
  generalize gexpr fs l 3 kind 0 = y at *
  have hc : ((3 : Nat) : Int) = 3 := rfl
  rw [hc] at fE
  have hsx : ([0, 1, 1] <:+ [0, 1]) = False := eq_false (by decide)
  simp only [amr, amc, amp, if_true, if_false, ne_eq, gt_iff_lt, Option.getD, argsT, Option.bind, Option.map, List.headD, List.tail, opnsL, List.replicate, lendsL, seval, ty_GenF_6, fE, hsx, upd, Option.getD_some, Option.getD_none]
theorem ca_Expr {d dst : Nat} {S : St} (l : List Raw) (kind : Int) (fs : List Field) (hfs : fs.length ≤ 1048576) (hl : l.length ≤ 9223372036854775807) (hr : ∀ r ∈ l, r.ok) : callA tab (callR tab) d dst 6 [.d (.sl 4 (l.map Raw.dv)), .d (.int .i64 kind), .d (.sl 9 (fs.map Field.dv))] S = some (.d (mkE l kind fs).dv, S) :=
  ca_retD (ds := [.sl 4 (l.map Raw.dv), .int .i64 kind, .sl 9 (fs.map Field.dv)]) (ret_Expr l kind fs hfs hl hr) rfl (tab_opn (by kernel_rfl)) (tab_res (by kernel_rfl))
theorem ty_pick {k : Int} (h : -9223372036854775808 ≤ k ∧ k ≤ 9223372036854775807) : Ty (1 + pick k 3) ∧ IntKind.i64.wrap (1 + pick k 3) = 1 + pick k 3 := by
  have hp := pick_range k 3 h.1 h.2 (by decide)
  exact ⟨by unfold Ty; omega, wrap_in (by omega) (by omega)⟩
end Go.Proofs.Ythmggkidmcgfoaa.Am
/- What the product of two numbers comes to. -/
set_option linter.unusedVariables false
set_option linter.unusedSimpArgs false
namespace Go.Proofs.Ythmggkidmcgfoaa.Am
open Go Go.RowKit
theorem ty_NumMul_59 : type_of% (ai (ai (ai @rs59 (ai @lv59_0 @lv59_1)) (ai (ai @lv59_2 @lv59_3) (ai @und3 @sz3))) (ai (ai (ai @ag3 @lv3) (ai @inf3 @und4)) (ai (ai @sz4 @ag4) (ai @lv4 @inf4)))) := (ai (ai (ai @rs59 (ai @lv59_0 @lv59_1)) (ai (ai @lv59_2 @lv59_3) (ai @und3 @sz3))) (ai (ai (ai @ag3 @lv3) (ai @inf3 @und4)) (ai (ai @sz4 @ag4) (ai @lv4 @inf4))))
theorem ty_NumMul_46 : type_of% (ai (ai (ai (ai @rs46 @lv46_0) (ai @lv46_1 (ai @und1 @sz1))) (ai (ai @ag1 @inf1) (ai @und3 (ai @sz3 @ag3)))) (ai (ai (ai @lv3 @inf3) (ai @und29 (ai @sz29 @ag29))) (ai (ai @inf29 (ai @und32 @sz32)) (ai @ag32 (ai @lv32 @inf32))))) := (ai (ai (ai (ai @rs46 @lv46_0) (ai @lv46_1 (ai @und1 @sz1))) (ai (ai @ag1 @inf1) (ai @und3 (ai @sz3 @ag3)))) (ai (ai (ai @lv3 @inf3) (ai @und29 (ai @sz29 @ag29))) (ai (ai @inf29 (ai @und32 @sz32)) (ai @ag32 (ai @lv32 @inf32)))))
set_option maxRecDepth 100000
set_option maxHeartbeats 4000000
def mulI (a b : Int) : Int := if a > 0 ∧ (b > IntKind.i64.wrap (Int.tdiv 1099511627776 a) ∨ b < IntKind.i64.wrap (Int.tdiv (-1099511627776) a)) ∨ a < 0 ∧ (b > IntKind.i64.wrap (Int.tdiv (-1099511627776) a) ∨ b < IntKind.i64.wrap (Int.tdiv 1099511627776 a)) then 1099511627777 else IntKind.i64.wrap (a * b)
theorem ret_Mul1 (a b : Int) : Ret tab 59 [.d (.int .i64 (a)), .d (.int .i64 (b))] (.d (.int .i64 (mulI a b))) := by
  have hz : (a != 0) = true → a ≠ 0 := fun h => by simpa using h
  refine ret_of (1) fn59 rfl rfl ?_
  rcases Int.lt_trichotomy a 0 with h0 | h0 | h0
  · have h1 : (a != 0) = true := by simp; omega
    have h2 : ¬ a = 0 := by omega
    have h3 : ¬ 0 < a := by omega
    simp only [amr, amc, amp, if_true, if_false, ne_eq, gt_iff_lt, Option.getD, argsT, Option.bind, Option.map, List.headD, List.tail, opnsL, List.replicate, lendsL, seval, ty_NumMul_59, h0, h1, h2, h3]
    repeat' ((first | refine good_ci (fun h => ?_) (fun h => ?_) | refine good_cgt (fun h => ?_) (fun h => ?_) | refine good_cgf (fun h => ?_) (fun h => ?_) | refine good_cqgt (fun h => ?_) (fun h => ?_) | refine good_cqgf (fun h => ?_) (fun h => ?_)) <;> simp only [amr, amc, amp, if_true, if_false, ne_eq, gt_iff_lt, Option.getD, argsT, Option.bind, Option.map, List.headD, List.tail, opnsL, List.replicate, lendsL, seval, ty_NumMul_59, h0, h1, h2, h3, h])
    all_goals first | (simp_all [mulI]; done) | (simp_all [mulI]; intro hh; exfalso; omega)
  · subst h0
    simp only [amr, amc, amp, if_true, if_false, ne_eq, gt_iff_lt, Option.getD, argsT, Option.bind, Option.map, List.headD, List.tail, opnsL, List.replicate, lendsL, seval, ty_NumMul_59, bne_self_eq_false]
    repeat' ((first | refine good_ci (fun h => ?_) (fun h => ?_) | refine good_cgt (fun h => ?_) (fun h => ?_) | refine good_cgf (fun h => ?_) (fun h => ?_) | refine good_cqgt (fun h => ?_) (fun h => ?_) | refine good_cqgf (fun h => ?_) (fun h => ?_)) <;> simp only [amr, amc, amp, if_true, if_false, ne_eq, gt_iff_lt, Option.getD, argsT, Option.bind, Option.map, List.headD, List.tail, opnsL, List.replicate, lendsL, seval, ty_NumMul_59, bne_self_eq_false, h])
    all_goals first | (simp_all [mulI]; done) | (simp_all [mulI]; intro hh; exfalso; omega)
  · have h1 : (a != 0) = true := by simp; omega
    have h2 : ¬ a = 0 := by omega
    have h3 : ¬ a < 0 := by omega
    simp only [amr, amc, amp, if_true, if_false, ne_eq, gt_iff_lt, Option.getD, argsT, Option.bind, Option.map, List.headD, List.tail, opnsL, List.replicate, lendsL, seval, ty_NumMul_59, h0, h1, h2, h3]
    repeat' ((first | refine good_ci (fun h => ?_) (fun h => ?_) | refine good_cgt (fun h => ?_) (fun h => ?_) | refine good_cgf (fun h => ?_) (fun h => ?_) | refine good_cqgt (fun h => ?_) (fun h => ?_) | refine good_cqgf (fun h => ?_) (fun h => ?_)) <;> simp only [amr, amc, amp, if_true, if_false, ne_eq, gt_iff_lt, Option.getD, argsT, Option.bind, Option.map, List.headD, List.tail, opnsL, List.replicate, lendsL, seval, ty_NumMul_59, h0, h1, h2, h3, h])
    all_goals first | (simp_all [mulI]; done) | (simp_all [mulI]; intro hh; exfalso; omega)
theorem ca_Mul1 {d dst : Nat} {S : St} (a b : Int) : callA tab (callR tab) d dst 59 [.d (.int .i64 (a)), .d (.int .i64 (b))] S = some (.d (.int .i64 (mulI a b)), S) :=
  ca_ret (ds := [.int .i64 (a), .int .i64 (b)]) (ret_Mul1 a b) rfl (tab_opn (by kernel_rfl)) (tab_res (by kernel_rfl))
theorem ret_Mul (a b : Int) : Ret tab 46 [.d (.int .i64 (a)), .d (.int .i64 (b))] (.tup [.d (.int .i64 ((numW a b (mulI a b)).1)), .d (.int .i64 ((numW a b (mulI a b)).2))]) := by
  refine ret_of (1) fn46 rfl rfl ?_
  simp only [amr, amc, amp, if_true, if_false, ne_eq, gt_iff_lt, Option.getD, argsT, Option.bind, Option.map, List.headD, List.tail, opnsL, List.replicate, lendsL, seval, ty_NumMul_46, ca_num2 a b _ _ (ret_Mul1 a b) (tab_opn (by kernel_rfl)) (tab_res (by kernel_rfl))]
  repeat' ((first | refine good_ci (fun h => ?_) (fun h => ?_) | refine good_cgt (fun h => ?_) (fun h => ?_) | refine good_cgf (fun h => ?_) (fun h => ?_) | refine good_cqgt (fun h => ?_) (fun h => ?_) | refine good_cqgf (fun h => ?_) (fun h => ?_)) <;> simp only [amr, amc, amp, if_true, if_false, ne_eq, gt_iff_lt, Option.getD, argsT, Option.bind, Option.map, List.headD, List.tail, opnsL, List.replicate, lendsL, seval, ty_NumMul_46, ca_num2 a b _ _ (ret_Mul1 a b) (tab_opn (by kernel_rfl)) (tab_res (by kernel_rfl)), h])
  all_goals (simp)
theorem ca_Mul {d dst : Nat} {S : St} (a b : Int) : callA tab (callR tab) d dst 46 [.d (.int .i64 (a)), .d (.int .i64 (b))] S = some (.tup [.d (.int .i64 ((numW a b (mulI a b)).1)), .d (.int .i64 ((numW a b (mulI a b)).2))], S) :=
  ca_ret_tup (ds := [.int .i64 (a), .int .i64 (b)]) (ys := [.int .i64 ((numW a b (mulI a b)).1), .int .i64 ((numW a b (mulI a b)).2)]) (ret_Mul a b) rfl (tab_opn (by kernel_rfl)) (tab_res (by kernel_rfl)) rfl
/-- A product that is in range is found. -/
theorem mulI_in {a b : Int} (ha : Num a) (hb : Num b) (h : Num (a * b)) : mulI a b = a * b := by
  have ⟨a0, a1⟩ := ha
  have ⟨b0, b1⟩ := hb
  have ⟨c0, c1⟩ := h
  have hw : IntKind.i64.wrap (a * b) = a * b := wrap_in (by omega) (by omega)
  unfold mulI
  rw [if_neg, hw]
  have key : ∀ (x y : Int), 0 < x → y * x ≤ 1099511627776 → ¬ y > IntKind.i64.wrap (Int.tdiv 1099511627776 x) := fun x y hx hy => by
    have h1 : Int.tdiv 1099511627776 x = 1099511627776 / x := Int.tdiv_eq_ediv_of_nonneg (by decide)
    have h2 : y ≤ 1099511627776 / x := (Int.le_ediv_iff_mul_le hx).2 hy
    have h3 : 1099511627776 / x ≤ 1099511627776 := Int.ediv_le_self _ (by decide)
    have h4 : 0 ≤ 1099511627776 / x := Int.ediv_nonneg (by decide) (by omega)
    rw [h1, wrap_in (by omega) (by omega)]
    omega
  have key2 : ∀ (x y : Int), 0 < x → -1099511627776 ≤ y * x → ¬ y < IntKind.i64.wrap (Int.tdiv (-1099511627776) x) := fun x y hx hy => by
    have h1 : Int.tdiv (-1099511627776) x = -(1099511627776 / x) := by rw [Int.neg_tdiv, Int.tdiv_eq_ediv_of_nonneg (by decide)]
    have h2 : -y ≤ 1099511627776 / x := (Int.le_ediv_iff_mul_le hx).2 (by rw [Int.neg_mul]; omega)
    have h3 : 1099511627776 / x ≤ 1099511627776 := Int.ediv_le_self _ (by decide)
    have h4 : 0 ≤ 1099511627776 / x := Int.ediv_nonneg (by decide) (by omega)
    rw [h1, wrap_in (by omega) (by omega)]
    omega
  rintro (⟨h1, h2 | h2⟩ | ⟨h1, h2 | h2⟩)
  · exact key a b h1 (by rw [Int.mul_comm]; exact c1) h2
  · exact key2 a b h1 (by rw [Int.mul_comm]; exact c0) h2
  · have : Int.tdiv (-1099511627776) a = Int.tdiv 1099511627776 (-a) := by rw [Int.tdiv_neg, Int.neg_tdiv]
    rw [this] at h2
    refine key (-a) b (by omega) ?_ h2
    rw [Int.mul_neg, Int.mul_comm]
    omega
  · have : Int.tdiv 1099511627776 a = Int.tdiv (-1099511627776) (-a) := by rw [Int.tdiv_neg, Int.neg_tdiv, Int.neg_neg]
    rw [this] at h2
    refine key2 (-a) b (by omega) ?_ h2
    rw [Int.mul_neg, Int.mul_comm]
    omega
end Go.Proofs.Ythmggkidmcgfoaa.Am
/- What the quotient and the rest of two numbers come to. -/
set_option linter.unusedVariables false
set_option linter.unusedSimpArgs false
namespace Go.Proofs.Ythmggkidmcgfoaa.Am
open Go Go.RowKit
theorem ty_NumDiv_61 : type_of% (ai (ai (ai (ai @rs61 @lv61_0) (ai @dr61_1 @lv61_1)) (ai (ai @lv61_2 @lv61_3) (ai @lv61_4 @und3))) (ai (ai (ai @sz3 @ag3) (ai @lv3 @inf3)) (ai (ai @und4 @sz4) (ai @ag4 (ai @lv4 @inf4))))) := (ai (ai (ai (ai @rs61 @lv61_0) (ai @dr61_1 @lv61_1)) (ai (ai @lv61_2 @lv61_3) (ai @lv61_4 @und3))) (ai (ai (ai @sz3 @ag3) (ai @lv3 @inf3)) (ai (ai @und4 @sz4) (ai @ag4 (ai @lv4 @inf4)))))
theorem ty_NumDiv_60 : type_of% (ai (ai (ai @rs60 (ai @lv60_0 @lv60_1)) (ai @lv60_2 (ai @und1 @sz1))) (ai (ai @ag1 (ai @inf1 @und3)) (ai (ai @sz3 @ag3) (ai @lv3 @inf3)))) := (ai (ai (ai @rs60 (ai @lv60_0 @lv60_1)) (ai @lv60_2 (ai @und1 @sz1))) (ai (ai @ag1 (ai @inf1 @und3)) (ai (ai @sz3 @ag3) (ai @lv3 @inf3))))
theorem ty_NumDiv_62 : type_of% (ai (ai (ai @rs62 (ai @lv62_0 @lv62_1)) (ai @lv62_2 (ai @und1 @sz1))) (ai (ai @ag1 (ai @inf1 @und3)) (ai (ai @sz3 @ag3) (ai @lv3 @inf3)))) := (ai (ai (ai @rs62 (ai @lv62_0 @lv62_1)) (ai @lv62_2 (ai @und1 @sz1))) (ai (ai @ag1 (ai @inf1 @und3)) (ai (ai @sz3 @ag3) (ai @lv3 @inf3))))
theorem ty_NumDiv_47 : type_of% (ai (ai (ai (ai @rs47 (ai @lv47_0 @lv47_1)) (ai (ai @lv47_2 @lv47_3) (ai @und1 @sz1))) (ai (ai @ag1 (ai @inf1 @und3)) (ai (ai @sz3 @ag3) (ai @lv3 @inf3)))) (ai (ai (ai @und4 (ai @sz4 @ag4)) (ai (ai @lv4 @inf4) (ai @und29 @sz29))) (ai (ai @ag29 (ai @inf29 @und32)) (ai (ai @sz32 @ag32) (ai @lv32 @inf32))))) := (ai (ai (ai (ai @rs47 (ai @lv47_0 @lv47_1)) (ai (ai @lv47_2 @lv47_3) (ai @und1 @sz1))) (ai (ai @ag1 (ai @inf1 @und3)) (ai (ai @sz3 @ag3) (ai @lv3 @inf3)))) (ai (ai (ai @und4 (ai @sz4 @ag4)) (ai (ai @lv4 @inf4) (ai @und29 @sz29))) (ai (ai @ag29 (ai @inf29 @und32)) (ai (ai @sz32 @ag32) (ai @lv32 @inf32)))))
theorem ty_NumDiv_48 : type_of% (ai (ai (ai (ai @rs48 (ai @lv48_0 @lv48_1)) (ai (ai @lv48_2 @lv48_3) (ai @und1 @sz1))) (ai (ai @ag1 (ai @inf1 @und3)) (ai (ai @sz3 @ag3) (ai @lv3 @inf3)))) (ai (ai (ai @und4 (ai @sz4 @ag4)) (ai (ai @lv4 @inf4) (ai @und29 @sz29))) (ai (ai @ag29 (ai @inf29 @und32)) (ai (ai @sz32 @ag32) (ai @lv32 @inf32))))) := (ai (ai (ai (ai @rs48 (ai @lv48_0 @lv48_1)) (ai (ai @lv48_2 @lv48_3) (ai @und1 @sz1))) (ai (ai @ag1 (ai @inf1 @und3)) (ai (ai @sz3 @ag3) (ai @lv3 @inf3)))) (ai (ai (ai @und4 (ai @sz4 @ag4)) (ai (ai @lv4 @inf4) (ai @und29 @sz29))) (ai (ai @ag29 (ai @inf29 @und32)) (ai (ai @sz32 @ag32) (ai @lv32 @inf32)))))
set_option maxRecDepth 100000
set_option maxHeartbeats 4000000
def flr (a b : Int) : Int × Int := if (a.tmod b != 0) = true ∧ (!(decide (a.tmod b < 0) == decide (b < 0))) = true then (IntKind.i64.wrap (IntKind.i64.wrap (a.tdiv b) - 1), IntKind.i64.wrap (a.tmod b + b)) else (IntKind.i64.wrap (a.tdiv b), a.tmod b)
theorem ret_floor (a b : Int) (hb : b ≠ 0) : Ret tab 61 [.d (.int .i64 (a)), .d (.int .i64 (b))] (.tup [.d (.int .i64 ((flr a b).1)), .d (.int .i64 ((flr a b).2))]) := by
  refine ret_of (1) fn61 rfl rfl ?_
  simp only [amr, amc, amp, if_true, if_false, ne_eq, gt_iff_lt, Option.getD, argsT, Option.bind, Option.map, List.headD, List.tail, opnsL, List.replicate, lendsL, seval, ty_NumDiv_61, hb]
  repeat' ((first | refine good_ci (fun h => ?_) (fun h => ?_) | refine good_cgt (fun h => ?_) (fun h => ?_) | refine good_cgf (fun h => ?_) (fun h => ?_) | refine good_cqgt (fun h => ?_) (fun h => ?_) | refine good_cqgf (fun h => ?_) (fun h => ?_)) <;> simp only [amr, amc, amp, if_true, if_false, ne_eq, gt_iff_lt, Option.getD, argsT, Option.bind, Option.map, List.headD, List.tail, opnsL, List.replicate, lendsL, seval, ty_NumDiv_61, hb, h])
  all_goals (simp [flr, *])
theorem ca_floor {d dst : Nat} {S : St} (a b : Int) (hb : b ≠ 0) : callA tab (callR tab) d dst 61 [.d (.int .i64 (a)), .d (.int .i64 (b))] S = some (.tup [.d (.int .i64 ((flr a b).1)), .d (.int .i64 ((flr a b).2))], S) :=
  ca_ret_tup (ds := [.int .i64 (a), .int .i64 (b)]) (ys := [.int .i64 ((flr a b).1), .int .i64 ((flr a b).2)]) (ret_floor a b hb) rfl (tab_opn (by kernel_rfl)) (tab_res (by kernel_rfl)) rfl
theorem ret_Div1 (a b : Int) (hb : b ≠ 0) : Ret tab 60 [.d (.int .i64 (a)), .d (.int .i64 (b))] (.d (.int .i64 ((flr a b).1))) := by
  refine ret_of (1) fn60 rfl rfl ?_
  simp only [amr, amc, amp, if_true, if_false, ne_eq, gt_iff_lt, Option.getD, argsT, Option.bind, Option.map, List.headD, List.tail, opnsL, List.replicate, lendsL, seval, ty_NumDiv_60, hb, ca_floor]
  repeat' ((first | refine good_ci (fun h => ?_) (fun h => ?_) | refine good_cgt (fun h => ?_) (fun h => ?_) | refine good_cgf (fun h => ?_) (fun h => ?_) | refine good_cqgt (fun h => ?_) (fun h => ?_) | refine good_cqgf (fun h => ?_) (fun h => ?_)) <;> simp only [amr, amc, amp, if_true, if_false, ne_eq, gt_iff_lt, Option.getD, argsT, Option.bind, Option.map, List.headD, List.tail, opnsL, List.replicate, lendsL, seval, ty_NumDiv_60, hb, ca_floor, h])
  all_goals (simp)
theorem ca_Div1 {d dst : Nat} {S : St} (a b : Int) (hb : b ≠ 0) : callA tab (callR tab) d dst 60 [.d (.int .i64 (a)), .d (.int .i64 (b))] S = some (.d (.int .i64 ((flr a b).1)), S) :=
  ca_ret (ds := [.int .i64 (a), .int .i64 (b)]) (ret_Div1 a b hb) rfl (tab_opn (by kernel_rfl)) (tab_res (by kernel_rfl))
theorem ret_Mod1 (a b : Int) (hb : b ≠ 0) : Ret tab 62 [.d (.int .i64 (a)), .d (.int .i64 (b))] (.d (.int .i64 ((flr a b).2))) := by
  refine ret_of (1) fn62 rfl rfl ?_
  simp only [amr, amc, amp, if_true, if_false, ne_eq, gt_iff_lt, Option.getD, argsT, Option.bind, Option.map, List.headD, List.tail, opnsL, List.replicate, lendsL, seval, ty_NumDiv_62, hb, ca_floor]
  repeat' ((first | refine good_ci (fun h => ?_) (fun h => ?_) | refine good_cgt (fun h => ?_) (fun h => ?_) | refine good_cgf (fun h => ?_) (fun h => ?_) | refine good_cqgt (fun h => ?_) (fun h => ?_) | refine good_cqgf (fun h => ?_) (fun h => ?_)) <;> simp only [amr, amc, amp, if_true, if_false, ne_eq, gt_iff_lt, Option.getD, argsT, Option.bind, Option.map, List.headD, List.tail, opnsL, List.replicate, lendsL, seval, ty_NumDiv_62, hb, ca_floor, h])
  all_goals (simp)
theorem ca_Mod1 {d dst : Nat} {S : St} (a b : Int) (hb : b ≠ 0) : callA tab (callR tab) d dst 62 [.d (.int .i64 (a)), .d (.int .i64 (b))] S = some (.d (.int .i64 ((flr a b).2)), S) :=
  ca_ret (ds := [.int .i64 (a), .int .i64 (b)]) (ret_Mod1 a b hb) rfl (tab_opn (by kernel_rfl)) (tab_res (by kernel_rfl))
theorem ret_Div (a b : Int) (hb : b ≠ 0) : Ret tab 47 [.d (.int .i64 (a)), .d (.int .i64 (b))] (.tup [.d (.int .i64 ((numW a b (flr a b).1).1)), .d (.int .i64 ((numW a b (flr a b).1).2))]) := by
  have hb' : (b == 0) = false := by simpa using hb
  refine ret_of (1) fn47 rfl rfl ?_
  simp only [amr, amc, amp, if_true, if_false, ne_eq, gt_iff_lt, Option.getD, argsT, Option.bind, Option.map, List.headD, List.tail, opnsL, List.replicate, lendsL, seval, ty_NumDiv_47, hb', ca_Check, ca_num2 a b _ _ (ret_Div1 a b hb) (tab_opn (by kernel_rfl)) (tab_res (by kernel_rfl))]
  repeat' ((first | refine good_ci (fun h => ?_) (fun h => ?_) | refine good_cgt (fun h => ?_) (fun h => ?_) | refine good_cgf (fun h => ?_) (fun h => ?_) | refine good_cqgt (fun h => ?_) (fun h => ?_) | refine good_cqgf (fun h => ?_) (fun h => ?_)) <;> simp only [amr, amc, amp, if_true, if_false, ne_eq, gt_iff_lt, Option.getD, argsT, Option.bind, Option.map, List.headD, List.tail, opnsL, List.replicate, lendsL, seval, ty_NumDiv_47, hb', ca_Check, ca_num2 a b _ _ (ret_Div1 a b hb) (tab_opn (by kernel_rfl)) (tab_res (by kernel_rfl)), h])
  all_goals (simp)
theorem ca_Div {d dst : Nat} {S : St} (a b : Int) (hb : b ≠ 0) : callA tab (callR tab) d dst 47 [.d (.int .i64 (a)), .d (.int .i64 (b))] S = some (.tup [.d (.int .i64 ((numW a b (flr a b).1).1)), .d (.int .i64 ((numW a b (flr a b).1).2))], S) :=
  ca_ret_tup (ds := [.int .i64 (a), .int .i64 (b)]) (ys := [.int .i64 ((numW a b (flr a b).1).1), .int .i64 ((numW a b (flr a b).1).2)]) (ret_Div a b hb) rfl (tab_opn (by kernel_rfl)) (tab_res (by kernel_rfl)) rfl
theorem ret_Mod (a b : Int) (hb : b ≠ 0) : Ret tab 48 [.d (.int .i64 (a)), .d (.int .i64 (b))] (.tup [.d (.int .i64 ((numW a b (flr a b).2).1)), .d (.int .i64 ((numW a b (flr a b).2).2))]) := by
  have hb' : (b == 0) = false := by simpa using hb
  refine ret_of (1) fn48 rfl rfl ?_
  simp only [amr, amc, amp, if_true, if_false, ne_eq, gt_iff_lt, Option.getD, argsT, Option.bind, Option.map, List.headD, List.tail, opnsL, List.replicate, lendsL, seval, ty_NumDiv_48, hb', ca_Check, ca_num2 a b _ _ (ret_Mod1 a b hb) (tab_opn (by kernel_rfl)) (tab_res (by kernel_rfl))]
  repeat' ((first | refine good_ci (fun h => ?_) (fun h => ?_) | refine good_cgt (fun h => ?_) (fun h => ?_) | refine good_cgf (fun h => ?_) (fun h => ?_) | refine good_cqgt (fun h => ?_) (fun h => ?_) | refine good_cqgf (fun h => ?_) (fun h => ?_)) <;> simp only [amr, amc, amp, if_true, if_false, ne_eq, gt_iff_lt, Option.getD, argsT, Option.bind, Option.map, List.headD, List.tail, opnsL, List.replicate, lendsL, seval, ty_NumDiv_48, hb', ca_Check, ca_num2 a b _ _ (ret_Mod1 a b hb) (tab_opn (by kernel_rfl)) (tab_res (by kernel_rfl)), h])
  all_goals (simp)
theorem ca_Mod {d dst : Nat} {S : St} (a b : Int) (hb : b ≠ 0) : callA tab (callR tab) d dst 48 [.d (.int .i64 (a)), .d (.int .i64 (b))] S = some (.tup [.d (.int .i64 ((numW a b (flr a b).2).1)), .d (.int .i64 ((numW a b (flr a b).2).2))], S) :=
  ca_ret_tup (ds := [.int .i64 (a), .int .i64 (b)]) (ys := [.int .i64 ((numW a b (flr a b).2).1), .int .i64 ((numW a b (flr a b).2).2)]) (ret_Mod a b hb) rfl (tab_opn (by kernel_rfl)) (tab_res (by kernel_rfl)) rfl
theorem ret_Div0 (a : Int) (ha : chk a = 0) : Ret tab 47 [.d (.int .i64 (a)), .d (.int .i64 (0))] (.tup [.d (.int .i64 (0)), .d (.int .i64 (8))]) := by
  refine ret_of (1) fn47 rfl rfl ?_
  simp only [amr, amc, amp, if_true, if_false, ne_eq, gt_iff_lt, Option.getD, argsT, Option.bind, Option.map, List.headD, List.tail, opnsL, List.replicate, lendsL, seval, ty_NumDiv_47, ha, ca_Check, beq_self_eq_true]
  repeat' ((first | refine good_ci (fun h => ?_) (fun h => ?_) | refine good_cgt (fun h => ?_) (fun h => ?_) | refine good_cgf (fun h => ?_) (fun h => ?_) | refine good_cqgt (fun h => ?_) (fun h => ?_) | refine good_cqgf (fun h => ?_) (fun h => ?_)) <;> simp only [amr, amc, amp, if_true, if_false, ne_eq, gt_iff_lt, Option.getD, argsT, Option.bind, Option.map, List.headD, List.tail, opnsL, List.replicate, lendsL, seval, ty_NumDiv_47, ha, ca_Check, beq_self_eq_true, h])
  all_goals (simp)
theorem ca_Div0 {d dst : Nat} {S : St} (a : Int) (ha : chk a = 0) : callA tab (callR tab) d dst 47 [.d (.int .i64 (a)), .d (.int .i64 (0))] S = some (.tup [.d (.int .i64 (0)), .d (.int .i64 (8))], S) :=
  ca_ret_tup (ds := [.int .i64 (a), .int .i64 (0)]) (ys := [.int .i64 (0), .int .i64 (8)]) (ret_Div0 a ha) rfl (tab_opn (by kernel_rfl)) (tab_res (by kernel_rfl)) rfl
theorem ret_Mod0 (a : Int) (ha : chk a = 0) : Ret tab 48 [.d (.int .i64 (a)), .d (.int .i64 (0))] (.tup [.d (.int .i64 (0)), .d (.int .i64 (8))]) := by
  refine ret_of (1) fn48 rfl rfl ?_
  simp only [amr, amc, amp, if_true, if_false, ne_eq, gt_iff_lt, Option.getD, argsT, Option.bind, Option.map, List.headD, List.tail, opnsL, List.replicate, lendsL, seval, ty_NumDiv_48, ha, ca_Check, beq_self_eq_true]
  repeat' ((first | refine good_ci (fun h => ?_) (fun h => ?_) | refine good_cgt (fun h => ?_) (fun h => ?_) | refine good_cgf (fun h => ?_) (fun h => ?_) | refine good_cqgt (fun h => ?_) (fun h => ?_) | refine good_cqgf (fun h => ?_) (fun h => ?_)) <;> simp only [amr, amc, amp, if_true, if_false, ne_eq, gt_iff_lt, Option.getD, argsT, Option.bind, Option.map, List.headD, List.tail, opnsL, List.replicate, lendsL, seval, ty_NumDiv_48, ha, ca_Check, beq_self_eq_true, h])
  all_goals (simp)
theorem ca_Mod0 {d dst : Nat} {S : St} (a : Int) (ha : chk a = 0) : callA tab (callR tab) d dst 48 [.d (.int .i64 (a)), .d (.int .i64 (0))] S = some (.tup [.d (.int .i64 (0)), .d (.int .i64 (8))], S) :=
  ca_ret_tup (ds := [.int .i64 (a), .int .i64 (0)]) (ys := [.int .i64 (0), .int .i64 (8)]) (ret_Mod0 a ha) rfl (tab_opn (by kernel_rfl)) (tab_res (by kernel_rfl)) rfl
end Go.Proofs.Ythmggkidmcgfoaa.Am
/- What ValueOrderly comes to: the order of values. -/
set_option linter.unusedVariables false
set_option linter.unusedSimpArgs false
namespace Go.Proofs.Ythmggkidmcgfoaa.Am
open Go Go.RowKit
theorem ty_ValOrd_73 : type_of% (ai (ai (ai @rs73 (ai @lv73_0 @lv73_1)) (ai @und3 (ai @sz3 @ag3))) (ai (ai @lv3 (ai @inf3 @und4)) (ai (ai @sz4 @ag4) (ai @lv4 @inf4)))) := (ai (ai (ai @rs73 (ai @lv73_0 @lv73_1)) (ai @und3 (ai @sz3 @ag3))) (ai (ai @lv3 (ai @inf3 @und4)) (ai (ai @sz4 @ag4) (ai @lv4 @inf4))))
theorem ty_ValOrd_74 : type_of% (ai (ai (ai @rs74 (ai @lv74_0 @lv74_1)) (ai @und4 (ai @sz4 @ag4))) (ai (ai @lv4 (ai @inf4 @und9)) (ai (ai @sz9 @ag9) (ai @lv9 @inf9)))) := (ai (ai (ai @rs74 (ai @lv74_0 @lv74_1)) (ai @und4 (ai @sz4 @ag4))) (ai (ai @lv4 (ai @inf4 @und9)) (ai (ai @sz9 @ag9) (ai @lv9 @inf9))))
theorem ty_ValOrd_56 : type_of% (ai (ai (ai (ai @rs56 (ai @lv56_0 @lv56_1)) (ai @lv56_2 (ai @lv56_3 @lv56_4))) (ai (ai @lv56_5 (ai @lv56_6 @lv56_7)) (ai @lv56_8 (ai @lv56_9 @lv56_10)))) (ai (ai (ai @lv56_11 (ai @lv56_12 @lv56_13)) (ai @und3 (ai @sz3 @ag3))) (ai (ai @lv3 (ai @inf3 @und4)) (ai (ai @sz4 @ag4) (ai @lv4 @inf4))))) := (ai (ai (ai (ai @rs56 (ai @lv56_0 @lv56_1)) (ai @lv56_2 (ai @lv56_3 @lv56_4))) (ai (ai @lv56_5 (ai @lv56_6 @lv56_7)) (ai @lv56_8 (ai @lv56_9 @lv56_10)))) (ai (ai (ai @lv56_11 (ai @lv56_12 @lv56_13)) (ai @und3 (ai @sz3 @ag3))) (ai (ai @lv3 (ai @inf3 @und4)) (ai (ai @sz4 @ag4) (ai @lv4 @inf4)))))
theorem ty_ValOrd_57 : type_of% (ai (ai (ai (ai @rs57 (ai @lv57_0 @lv57_1)) (ai (ai @lv57_2 @lv57_3) (ai @lv57_4 @lv57_5))) (ai (ai (ai @lv57_6 @lv57_7) (ai @lv57_8 @lv57_9)) (ai (ai @lv57_10 @lv57_11) (ai @lv57_12 @lv57_13)))) (ai (ai (ai @und3 (ai @sz3 @ag3)) (ai (ai @lv3 @inf3) (ai @und4 @sz4))) (ai (ai (ai @ag4 @lv4) (ai @inf4 @und9)) (ai (ai @sz9 @ag9) (ai @lv9 @inf9))))) := (ai (ai (ai (ai @rs57 (ai @lv57_0 @lv57_1)) (ai (ai @lv57_2 @lv57_3) (ai @lv57_4 @lv57_5))) (ai (ai (ai @lv57_6 @lv57_7) (ai @lv57_8 @lv57_9)) (ai (ai @lv57_10 @lv57_11) (ai @lv57_12 @lv57_13)))) (ai (ai (ai @und3 (ai @sz3 @ag3)) (ai (ai @lv3 @inf3) (ai @und4 @sz4))) (ai (ai (ai @ag4 @lv4) (ai @inf4 @und9)) (ai (ai @sz9 @ag9) (ai @lv9 @inf9)))))
theorem ty_ValOrd_55 : type_of% (ai (ai (ai (ai @rs55 (ai @lv55_0 @lv55_1)) (ai @lv55_2 (ai @lv55_3 @lv55_4))) (ai (ai @lv55_5 (ai @lv55_6 @lv55_7)) (ai (ai @lv55_8 @kp55_3) (ai @und3 @sz3)))) (ai (ai (ai @ag3 (ai @lv3 @inf3)) (ai @und4 (ai @sz4 @ag4))) (ai (ai @lv4 (ai @inf4 @und70)) (ai (ai @sz70 @ag70) (ai @pT70 @inf70))))) := (ai (ai (ai (ai @rs55 (ai @lv55_0 @lv55_1)) (ai @lv55_2 (ai @lv55_3 @lv55_4))) (ai (ai @lv55_5 (ai @lv55_6 @lv55_7)) (ai (ai @lv55_8 @kp55_3) (ai @und3 @sz3)))) (ai (ai (ai @ag3 (ai @lv3 @inf3)) (ai @und4 (ai @sz4 @ag4))) (ai (ai @lv4 (ai @inf4 @und70)) (ai (ai @sz70 @ag70) (ai @pT70 @inf70)))))
theorem ty_ValOrd_43 : type_of% (ai (ai (ai (ai (ai @rs43 (ai @lv43_0 @ro24_2_value_go_126)) (ai @ro24_3_value_go_126 (ai @lv43_1 @lv43_2))) (ai (ai @dr43_3 (ai @lv43_3 @und1)) (ai (ai @sz1 @ag1) (ai @inf1 @und2)))) (ai (ai (ai @sz2 (ai @ag2 @lv2)) (ai @inf2 (ai @und3 @sz3))) (ai (ai @ag3 (ai @lv3 @inf3)) (ai (ai @und4 @sz4) (ai @ag4 @lv4))))) (ai (ai (ai (ai @inf4 (ai @und9 @sz9)) (ai @ag9 (ai @lv9 @inf9))) (ai (ai @und24 (ai @sz24 @ag24)) (ai (ai @fo24 @bA24) (ai @pT24_0 @pT24_1)))) (ai (ai (ai @pT24_2 (ai @lv24 @inf24)) (ai @und32 (ai @sz32 @ag32))) (ai (ai @lv32 (ai @inf32 @und70)) (ai (ai @sz70 @ag70) (ai @pT70 @inf70)))))) := (ai (ai (ai (ai (ai @rs43 (ai @lv43_0 @ro24_2_value_go_126)) (ai @ro24_3_value_go_126 (ai @lv43_1 @lv43_2))) (ai (ai @dr43_3 (ai @lv43_3 @und1)) (ai (ai @sz1 @ag1) (ai @inf1 @und2)))) (ai (ai (ai @sz2 (ai @ag2 @lv2)) (ai @inf2 (ai @und3 @sz3))) (ai (ai @ag3 (ai @lv3 @inf3)) (ai (ai @und4 @sz4) (ai @ag4 @lv4))))) (ai (ai (ai (ai @inf4 (ai @und9 @sz9)) (ai @ag9 (ai @lv9 @inf9))) (ai (ai @und24 (ai @sz24 @ag24)) (ai (ai @fo24 @bA24) (ai @pT24_0 @pT24_1)))) (ai (ai (ai @pT24_2 (ai @lv24 @inf24)) (ai @und32 (ai @sz32 @ag32))) (ai (ai @lv32 (ai @inf32 @und70)) (ai (ai @sz70 @ag70) (ai @pT70 @inf70))))))
set_option maxRecDepth 100000
set_option maxHeartbeats 40000000

theorem b_sgtr {T : Tab} {t : TypeId} {a b : List UInt8} : bin1 T .gtr t (some (.d (.str a))) (some (.d (.str b))) = some (.d (.bool (!(bytesLt a b || a == b)))) := rfl
def cmpI (a b : Int) : Int := if a < b then -1 else if a > b then 1 else 0
def cmpS (a b : Str) : Int := if bytesLt a b = true then -1 else if (!(bytesLt a b || a == b)) = true then 1 else 0
theorem ret_nanI (a : Int) : Ret tab 73 [.d (.int .i64 (a))] (.d (.bool (false))) := by
  refine ret_of (1) fn73 rfl rfl ?_
  simp only [amr, amc, amp, if_true, if_false, ne_eq, gt_iff_lt, Option.getD, argsT, Option.bind, Option.map, List.headD, List.tail, opnsL, List.replicate, lendsL, seval, ty_ValOrd_73, bne_self_eq_false]
  repeat' ((first | refine good_ci (fun h => ?_) (fun h => ?_) | refine good_cgt (fun h => ?_) (fun h => ?_) | refine good_cgf (fun h => ?_) (fun h => ?_) | refine good_cqgt (fun h => ?_) (fun h => ?_) | refine good_cqgf (fun h => ?_) (fun h => ?_)) <;> simp only [amr, amc, amp, if_true, if_false, ne_eq, gt_iff_lt, Option.getD, argsT, Option.bind, Option.map, List.headD, List.tail, opnsL, List.replicate, lendsL, seval, ty_ValOrd_73, bne_self_eq_false, h])
  all_goals (simp [*])
theorem ca_nanI {d dst : Nat} {S : St} (a : Int) : callA tab (callR tab) d dst 73 [.d (.int .i64 (a))] S = some (.d (.bool (false)), S) :=
  ca_ret (ds := [.int .i64 (a)]) (ret_nanI a) rfl (tab_opn (by kernel_rfl)) (tab_res (by kernel_rfl))
theorem ret_nanS (a : Str) : Ret tab 74 [.d (.str (a))] (.d (.bool (false))) := by
  refine ret_of (1) fn74 rfl rfl ?_
  simp only [amr, amc, amp, if_true, if_false, ne_eq, gt_iff_lt, Option.getD, argsT, Option.bind, Option.map, List.headD, List.tail, opnsL, List.replicate, lendsL, seval, ty_ValOrd_74, BEq.rfl]
  repeat' ((first | refine good_ci (fun h => ?_) (fun h => ?_) | refine good_cgt (fun h => ?_) (fun h => ?_) | refine good_cgf (fun h => ?_) (fun h => ?_) | refine good_cqgt (fun h => ?_) (fun h => ?_) | refine good_cqgf (fun h => ?_) (fun h => ?_)) <;> simp only [amr, amc, amp, if_true, if_false, ne_eq, gt_iff_lt, Option.getD, argsT, Option.bind, Option.map, List.headD, List.tail, opnsL, List.replicate, lendsL, seval, ty_ValOrd_74, BEq.rfl, h])
  all_goals (simp [*])
theorem ca_nanS {d dst : Nat} {S : St} (a : Str) : callA tab (callR tab) d dst 74 [.d (.str (a))] S = some (.d (.bool (false)), S) :=
  ca_ret (ds := [.str (a)]) (ret_nanS a) rfl (tab_opn (by kernel_rfl)) (tab_res (by kernel_rfl))
theorem ret_cmpI (a b : Int) : Ret tab 56 [.d (.int .i64 (a)), .d (.int .i64 (b))] (.d (.int .i64 (cmpI a b))) := by
  refine ret_of (1) fn56 rfl rfl ?_
  simp only [amr, amc, amp, if_true, if_false, ne_eq, gt_iff_lt, Option.getD, argsT, Option.bind, Option.map, List.headD, List.tail, opnsL, List.replicate, lendsL, seval, ty_ValOrd_56, ca_nanI, cmpI]
  repeat' ((first | refine good_ci (fun h => ?_) (fun h => ?_) | refine good_cgt (fun h => ?_) (fun h => ?_) | refine good_cgf (fun h => ?_) (fun h => ?_) | refine good_cqgt (fun h => ?_) (fun h => ?_) | refine good_cqgf (fun h => ?_) (fun h => ?_)) <;> simp only [amr, amc, amp, if_true, if_false, ne_eq, gt_iff_lt, Option.getD, argsT, Option.bind, Option.map, List.headD, List.tail, opnsL, List.replicate, lendsL, seval, ty_ValOrd_56, ca_nanI, cmpI, h])
  all_goals ((simp_all [cmpI] <;> omega))
theorem ca_cmpI {d dst : Nat} {S : St} (a b : Int) : callA tab (callR tab) d dst 56 [.d (.int .i64 (a)), .d (.int .i64 (b))] S = some (.d (.int .i64 (cmpI a b)), S) :=
  ca_ret (ds := [.int .i64 (a), .int .i64 (b)]) (ret_cmpI a b) rfl (tab_opn (by kernel_rfl)) (tab_res (by kernel_rfl))
theorem ret_cmpS (a b : Str) : Ret tab 57 [.d (.str (a)), .d (.str (b))] (.d (.int .i64 (cmpS a b))) := by
  refine ret_of (1) fn57 rfl rfl ?_
  simp only [amr, amc, amp, if_true, if_false, ne_eq, gt_iff_lt, Option.getD, argsT, Option.bind, Option.map, List.headD, List.tail, opnsL, List.replicate, lendsL, seval, ty_ValOrd_57, ca_nanS, cmpS, b_sgtr]
  repeat' ((first | refine good_ci (fun h => ?_) (fun h => ?_) | refine good_cgt (fun h => ?_) (fun h => ?_) | refine good_cgf (fun h => ?_) (fun h => ?_) | refine good_cqgt (fun h => ?_) (fun h => ?_) | refine good_cqgf (fun h => ?_) (fun h => ?_)) <;> simp only [amr, amc, amp, if_true, if_false, ne_eq, gt_iff_lt, Option.getD, argsT, Option.bind, Option.map, List.headD, List.tail, opnsL, List.replicate, lendsL, seval, ty_ValOrd_57, ca_nanS, cmpS, b_sgtr, h])
  all_goals (simp_all [cmpS])
theorem ca_cmpS {d dst : Nat} {S : St} (a b : Str) : callA tab (callR tab) d dst 57 [.d (.str (a)), .d (.str (b))] S = some (.d (.int .i64 (cmpS a b)), S) :=
  ca_ret (ds := [.str (a), .str (b)]) (ret_cmpS a b) rfl (tab_opn (by kernel_rfl)) (tab_res (by kernel_rfl))
theorem ret_orI (a b : Int) : Ret tab 55 [.d (.sl 1 ([.int .i64 a, .int .i64 b]))] (.d (.int .i64 (if a = 0 then b else a))) := by
  refine ret_of (3) fn55 rfl rfl ?_
  simp only [amr, amc, amp, if_true, if_false, ne_eq, gt_iff_lt, Option.getD, argsT, Option.bind, Option.map, List.headD, List.tail, opnsL, List.replicate, lendsL, seval, ty_ValOrd_55, (show IntKind.i64.wrap 0 = 0 from rfl), (show IntKind.i64.wrap 1 = 1 from rfl), (show IntKind.i64.wrap 2 = 2 from rfl), (show IntKind.i64.wrap 3 = 3 from rfl), (show IntKind.i64.wrap 4 = 4 from rfl), (show IntKind.i64.wrap 5 = 5 from rfl), (show IntKind.i64.wrap 6 = 6 from rfl), (show IntKind.i64.wrap 7 = 7 from rfl), (show IntKind.i64.wrap 8 = 8 from rfl), (show IntKind.i64.wrap 9 = 9 from rfl), (show IntKind.i64.wrap 10 = 10 from rfl), (show IntKind.i64.wrap 11 = 11 from rfl), (show IntKind.i64.wrap 12 = 12 from rfl), (show IntKind.i64.wrap 13 = 13 from rfl), (show IntKind.i64.wrap 14 = 14 from rfl), cx_loop, clp_s, nameOf]
  repeat' ((first | refine good_ci (fun h => ?_) (fun h => ?_) | refine good_cgt (fun h => ?_) (fun h => ?_) | refine good_cgf (fun h => ?_) (fun h => ?_) | refine good_cqgt (fun h => ?_) (fun h => ?_) | refine good_cqgf (fun h => ?_) (fun h => ?_)) <;> simp only [amr, amc, amp, if_true, if_false, ne_eq, gt_iff_lt, Option.getD, argsT, Option.bind, Option.map, List.headD, List.tail, opnsL, List.replicate, lendsL, seval, ty_ValOrd_55, (show IntKind.i64.wrap 0 = 0 from rfl), (show IntKind.i64.wrap 1 = 1 from rfl), (show IntKind.i64.wrap 2 = 2 from rfl), (show IntKind.i64.wrap 3 = 3 from rfl), (show IntKind.i64.wrap 4 = 4 from rfl), (show IntKind.i64.wrap 5 = 5 from rfl), (show IntKind.i64.wrap 6 = 6 from rfl), (show IntKind.i64.wrap 7 = 7 from rfl), (show IntKind.i64.wrap 8 = 8 from rfl), (show IntKind.i64.wrap 9 = 9 from rfl), (show IntKind.i64.wrap 10 = 10 from rfl), (show IntKind.i64.wrap 11 = 11 from rfl), (show IntKind.i64.wrap 12 = 12 from rfl), (show IntKind.i64.wrap 13 = 13 from rfl), (show IntKind.i64.wrap 14 = 14 from rfl), cx_loop, clp_s, nameOf, h])
  all_goals (simp_all)
theorem ca_orI {d dst : Nat} {S : St} (a b : Int) : callA tab (callR tab) d dst 55 [.d (.sl 1 ([.int .i64 a, .int .i64 b]))] S = some (.d (.int .i64 (if a = 0 then b else a)), S) :=
  ca_ret (ds := [.sl 1 ([.int .i64 a, .int .i64 b])]) (ret_orI a b) rfl (tab_opn (by kernel_rfl)) (tab_res (by kernel_rfl))
theorem ca_orO {d dst : Nat} {S : St} (a b : Int) : callA tab (callR tab) d dst 55 [.own 1 [.int .i64 a, .int .i64 b] none] S = some (.d (.int .i64 (if a = 0 then b else a)), S) :=
  ca_ret (ds := [.sl 1 [.int .i64 a, .int .i64 b]]) (ret_orI a b) rfl (tab_opn (by kernel_rfl)) (tab_res (by kernel_rfl))
def valCmp (a b : Val) : Int := if cmpI a.n b.n = 0 then cmpS a.s b.s else cmpI a.n b.n
theorem ret_VCompare (a b : Val) (ha : valKnown a = true) (hb : valKnown b = true) (hk : a.kind = b.kind) : Ret tab 43 [.d (a.dv), .d (b.dv)] (.tup [.d (.int .i64 (valCmp a b)), .d (.int .i64 (0))]) := by
  have hk2 : (a.kind != b.kind) = false := by rw [hk]; simp
  refine ret_of (1) fn43 rfl rfl ?_
  simp only [amr, amc, amp, if_true, if_false, ne_eq, gt_iff_lt, Option.getD, argsT, Option.bind, Option.map, List.headD, List.tail, opnsL, List.replicate, lendsL, seval, ty_ValOrd_43, Val.dv, ca_Known a.kind a.n a.s, ca_Known b.kind b.n b.s, Val.eta, ha, hb, hk2, bne_self_eq_false, ca_cmpI, ca_cmpS, ca_orO, valCmp]
  repeat' ((first | refine good_ci (fun h => ?_) (fun h => ?_) | refine good_cgt (fun h => ?_) (fun h => ?_) | refine good_cgf (fun h => ?_) (fun h => ?_) | refine good_cqgt (fun h => ?_) (fun h => ?_) | refine good_cqgf (fun h => ?_) (fun h => ?_)) <;> simp only [amr, amc, amp, if_true, if_false, ne_eq, gt_iff_lt, Option.getD, argsT, Option.bind, Option.map, List.headD, List.tail, opnsL, List.replicate, lendsL, seval, ty_ValOrd_43, Val.dv, ca_Known a.kind a.n a.s, ca_Known b.kind b.n b.s, Val.eta, ha, hb, hk2, bne_self_eq_false, ca_cmpI, ca_cmpS, ca_orO, valCmp, h])
  all_goals (skip)
theorem cf_VCompare {d dst : Nat} {S : St} (a b : Val) (ha : valKnown a = true) (hb : valKnown b = true) (hk : a.kind = b.kind) : callA tab (callR tab) d dst 43 [.d (a.dv), .d (b.dv)] S = some (.tup [.d (.int .i64 (valCmp a b)), .d (.int .i64 (0))], S) :=
  ca_ret_tup (ds := [a.dv, b.dv]) (ys := [.int .i64 (valCmp a b), .int .i64 (0)]) (ret_VCompare a b ha hb hk) rfl (tab_opn (by kernel_rfl)) (tab_res (by kernel_rfl)) rfl
theorem ca_VCompare {d dst : Nat} {S : St} (a_kind : Int) (a_n : Int) (a_s : List UInt8) (b_kind : Int) (b_n : Int) (b_s : List UInt8) (ha : valKnown (Val.mk a_kind a_n a_s) = true) (hb : valKnown (Val.mk b_kind b_n b_s) = true) (hk : (Val.mk a_kind a_n a_s).kind = (Val.mk b_kind b_n b_s).kind) : callA tab (callR tab) d dst 43 [.d (.agg [.int .i64 a_kind, .int .i64 a_n, .str a_s]), .d (.agg [.int .i64 b_kind, .int .i64 b_n, .str b_s])] S = some (.tup [.d (.int .i64 (valCmp (Val.mk a_kind a_n a_s) (Val.mk b_kind b_n b_s))), .d (.int .i64 (0))], S) :=
  ca_ret_tup (ds := [.agg [.int .i64 a_kind, .int .i64 a_n, .str a_s], .agg [.int .i64 b_kind, .int .i64 b_n, .str b_s]]) (ys := [.int .i64 (valCmp (Val.mk a_kind a_n a_s) (Val.mk b_kind b_n b_s)), .int .i64 (0)]) (ret_VCompare (Val.mk a_kind a_n a_s) (Val.mk b_kind b_n b_s) ha hb hk) rfl (tab_opn (by kernel_rfl)) (tab_res (by kernel_rfl)) rfl
theorem bl_irrefl : ∀ x, bytesLt x x = false
  | [] => rfl
  | a :: x => by simp [bytesLt, bl_irrefl x]
theorem bl_tri : ∀ x y, bytesLt x y = false → bytesLt y x = false → x = y
  | [], [], _, _ => rfl
  | [], _ :: _, h, _ => by simp [bytesLt] at h
  | _ :: _, [], _, h => by simp [bytesLt] at h
  | a :: x, b :: y, h, k => by
    simp only [bytesLt, Bool.or_eq_false_iff, decide_eq_false_iff_not, Bool.and_eq_false_iff] at h k
    have hab : a = b := by
      have h1 := h.1; have k1 := k.1
      rw [UInt8.lt_iff_toNat_lt] at h1 k1
      exact UInt8.toNat_inj.1 (by omega)
    subst hab
    simp at h k
    rw [bl_tri x y h k]
theorem bl_trans : ∀ x y z, bytesLt x y = true → bytesLt y z = true → bytesLt x z = true
  | [], [], _, h, _ => by simp [bytesLt] at h
  | [], _ :: _, [], _, h => by simp [bytesLt] at h
  | [], _ :: _, _ :: _, _, _ => rfl
  | _ :: _, [], _, h, _ => by simp [bytesLt] at h
  | _ :: _, _ :: _, [], _, h => by simp [bytesLt] at h
  | a :: x, b :: y, c :: z, h, k => by
    simp only [bytesLt, Bool.or_eq_true, decide_eq_true_eq, Bool.and_eq_true, beq_iff_eq] at h k ⊢
    rcases h with h | ⟨rfl, h⟩ <;> rcases k with k | ⟨rfl, k⟩
    · exact .inl (UInt8.lt_trans h k)
    · exact .inl h
    · exact .inl k
    · exact .inr ⟨rfl, bl_trans x y z h k⟩
theorem bl_asymm {x y : Str} (h : bytesLt x y = true) : bytesLt y x = false := by
  cases k : bytesLt y x with
  | false => rfl
  | true => have := bl_trans x y x h k; rw [bl_irrefl] at this; simp at this
theorem cmpS_spec (a b : Str) : (cmpS a b = -1 ∧ bytesLt a b = true) ∨ (cmpS a b = 0 ∧ a = b) ∨ (cmpS a b = 1 ∧ bytesLt b a = true) := by
  unfold cmpS
  cases h : bytesLt a b with
  | true => simp
  | false =>
    cases k : bytesLt b a with
    | true =>
      have : (a == b) = false := by
        rw [beq_eq_false_iff_ne]; intro e; subst e; rw [h] at k; simp at k
      simp [this]
    | false =>
      have := bl_tri a b h k
      subst this; simp
theorem cmpI_spec (a b : Int) : (cmpI a b = -1 ∧ a < b) ∨ (cmpI a b = 0 ∧ a = b) ∨ (cmpI a b = 1 ∧ b < a) := by
  unfold cmpI
  split
  · exact .inl ⟨rfl, by assumption⟩
  · split
    · exact .inr (.inr ⟨rfl, by omega⟩)
    · exact .inr (.inl ⟨rfl, by omega⟩)
/-- What the order says. -/
def vLt (a b : Val) : Prop := a.n < b.n ∨ (a.n = b.n ∧ bytesLt a.s b.s = true)
theorem valCmp_spec (a b : Val) (hk : a.kind = b.kind) : (valCmp a b = -1 ∧ vLt a b) ∨ (valCmp a b = 0 ∧ a = b) ∨ (valCmp a b = 1 ∧ vLt b a) := by
  unfold valCmp vLt
  rcases cmpI_spec a.n b.n with ⟨h, k⟩ | ⟨h, k⟩ | ⟨h, k⟩
  · rw [h]; simp [k]
  · rw [h, if_pos rfl]
    rcases cmpS_spec a.s b.s with ⟨h, m⟩ | ⟨h, m⟩ | ⟨h, m⟩
    · exact .inl ⟨h, .inr ⟨k, m⟩⟩
    · refine .inr (.inl ⟨h, ?_⟩)
      cases a; cases b; simp_all
    · exact .inr (.inr ⟨h, .inr ⟨k.symm, m⟩⟩)
  · rw [h]; simp [k]
theorem vLt_trans {a b c : Val} (h : vLt a b) (k : vLt b c) : vLt a c := by
  rcases h with h | ⟨h, h'⟩ <;> rcases k with k | ⟨k, k'⟩
  · exact .inl (by omega)
  · exact .inl (by omega)
  · exact .inl (by omega)
  · exact .inr ⟨by omega, bl_trans _ _ _ h' k'⟩
theorem vLt_irrefl {a : Val} (h : vLt a a) : False := by
  rcases h with h | ⟨_, h⟩
  · omega
  · rw [bl_irrefl] at h; simp at h
theorem valCmp_neg (a b : Val) (hk : a.kind = b.kind) : valCmp b a = - valCmp a b := by
  rcases valCmp_spec a b hk with ⟨h, k⟩ | ⟨h, k⟩ | ⟨h, k⟩ <;> rcases valCmp_spec b a hk.symm with ⟨h', k'⟩ | ⟨h', k'⟩ | ⟨h', k'⟩ <;> first
    | omega
    | exact (vLt_irrefl (vLt_trans k k')).elim
    | (rw [k] at k'; exact (vLt_irrefl k').elim)
    | (rw [k'] at k; exact (vLt_irrefl k).elim)
theorem valCmp_zero (a b : Val) (hk : a.kind = b.kind) : valCmp a b = 0 ↔ a = b := by
  rcases valCmp_spec a b hk with ⟨h, k⟩ | ⟨h, k⟩ | ⟨h, k⟩
  · rw [h]; exact ⟨fun h => by simp at h, fun e => by subst e; exact (vLt_irrefl k).elim⟩
  · rw [h]; exact ⟨fun _ => k, fun _ => rfl⟩
  · rw [h]; exact ⟨fun h => by simp at h, fun e => by subst e; exact (vLt_irrefl k).elim⟩
theorem valCmp_trans (a b c : Val) (h1 : a.kind = b.kind) (h2 : b.kind = c.kind) (h : valCmp a b ≤ 0) (k : valCmp b c ≤ 0) : valCmp a c ≤ 0 := by
  rcases valCmp_spec a b h1 with ⟨p, p'⟩ | ⟨p, rfl⟩ | ⟨p, p'⟩
  · rcases valCmp_spec b c h2 with ⟨q, q'⟩ | ⟨q, rfl⟩ | ⟨q, q'⟩
    · rcases valCmp_spec a c (h1.trans h2) with ⟨r, r'⟩ | ⟨r, r'⟩ | ⟨r, r'⟩
      · omega
      · omega
      · exact (vLt_irrefl (vLt_trans (vLt_trans p' q') r')).elim
    · omega
    · omega
  · exact k
  · omega
theorem valCmp_range (a b : Val) : -1 ≤ valCmp a b ∧ valCmp a b ≤ 1 := by
  unfold valCmp
  rcases cmpI_spec a.n b.n with ⟨h, k⟩ | ⟨h, k⟩ | ⟨h, k⟩ <;> rcases cmpS_spec a.s b.s with ⟨h', k'⟩ | ⟨h', k'⟩ | ⟨h', k'⟩ <;> rw [h] <;> simp [h']
end Go.Proofs.Ythmggkidmcgfoaa.Am
