/- Open calls, as equations: what was reachable is what the callee left of it. -/
import Derived.Test.YtnombkkfijlkfaaAmSet
set_option linter.unusedVariables false
set_option linter.unusedSimpArgs false
namespace Go.Proofs.Ytnombkkfijlkfaa.Am
open Go Go.RowKit

/-- Variables as a callee left them. -/
def upd (W : Heap) : Heap → Heap
  | [] => []
  | (i, p) :: r => (i, (W.get i).getD p) :: upd W r
theorem upd_nil {W : Heap} : upd W [] = [] := rfl
theorem upd_cons {W : Heap} {i : Id} {p : Place} {r : Heap} : upd W ((i, p) :: r) = (i, (W.get i).getD p) :: upd W r := rfl
def keys (H : Heap) : List Id := H.map (·.1)
theorem get_keys : ∀ (W : Heap) i, (W.get i).isSome = (keys W).contains i
  | [], i => rfl
  | (j, p) :: r, i => by
    unfold Heap.get keys
    rw [List.map_cons, List.contains_cons]
    split
    · rename_i h; subst h; simp
    · rename_i h
      rw [get_keys r i]
      have : (i == j) = false := by simp; exact fun e => h e.symm
      rw [this]
      rfl
theorem mem_within {H : Heap} : ∀ (l : List Id) e, e ∈ within l H → e.1 ∈ l ∧ H.get e.1 = some e.2
  | [], e, h => by cases h
  | i :: r, e, h => by
    unfold within at h
    split at h
    · rename_i p hp
      rcases List.mem_cons.1 h with rfl | h
      · exact ⟨by simp, hp⟩
      · obtain ⟨h1, h2⟩ := mem_within r e h; exact ⟨by simp [h1], h2⟩
    · obtain ⟨h1, h2⟩ := mem_within r e h; exact ⟨by simp [h1], h2⟩
theorem within_get {H : Heap} (l : List Id) (i : Id) (h : i ∈ l) : (within l H).get i = H.get i := by rw [get_within, if_pos h]
theorem weave_upd {R : List Id} {W : Heap} : ∀ (H : Heap), (∀ i ∈ R, (W.get i).isSome = true) → (∀ i, i ∉ R → W.get i = none) → weave R W H = upd W H
  | [], _, _ => rfl
  | (i, p) :: r, h, h' => by
    unfold weave upd
    rw [weave_upd r h h']
    by_cases hc : R.contains i = true
    · rw [if_pos hc]
      have := h i (by simpa using hc)
      cases hw : W.get i with
      | none => rw [hw] at this; cases this
      | some q => rfl
    · rw [if_neg hc, h' i (by simpa using hc)]
      rfl
theorem fresh_nil {R : List Id} {H : Heap} : ∀ (H1 : Heap), (∀ e ∈ H1, (H.get e.1).isSome = true ∧ e.1 ∈ R) → fresh R H H1 = []
  | [], _ => rfl
  | (i, p) :: r, h => by
    unfold fresh
    obtain ⟨h1, h2⟩ := h (i, p) (by simp)
    have h3 : ((H.get i).isNone || !R.contains i) = false := by
      cases hg : H.get i with
      | none => rw [hg] at h1; cases h1
      | some q => simp [h2]
    rw [h3]
    simp only [Bool.false_eq_true, if_false]
    exact fresh_nil r fun e he => h e (by simp [he])
theorem upd_congr {W W' : Heap} : ∀ (H : Heap), (∀ i, W.get i = W'.get i) → upd W H = upd W' H
  | [], _ => rfl
  | (i, p) :: r, h => by unfold upd; rw [h i, upd_congr r h]
theorem weave_congr {R : List Id} {W W' : Heap} : ∀ (H : Heap), (∀ i ∈ R, W.get i = W'.get i) → weave R W H = weave R W' H
  | [], _ => rfl
  | (i, p) :: r, h => by
    unfold weave
    rw [weave_congr r h]
    split
    · rename_i hc
      rw [h i (by simpa using hc)]
    · rfl
theorem addIds_nil (l : List Id) : addIds l [] = l := rfl
/-- An open call that answers something deep and leaves W of what it saw. -/
theorem ca_open {d dst f : Nat} {args : List AV} {S : St} {W0 W : Heap} {r : AV}
    (hn : (if tab.opn f = true then none else toDs args) = none) (hlt : lentA tab S f args = none)
    (h1 : reach S.H 8 (addIds [] (idsL args)) = keys W0) (h2 : within (keys W0) S.H = W0) (h3 : (idsH W0).all (fun i => (keys W0).contains i) = true)
    (hc : ∃ x H', callR tab (d + 1) f args W0 (0 :: S.g) = some (x, H') ∧ soft tab f x = r ∧ ∀ i ∈ keys W0, H'.get i = W.get i)
    (h4 : addIds (keys W0) (idsA r) = keys W0) (h5 : keys W = keys W0) (h6 : (idsH (within (keys W0) W)).all (fun i => (keys W0).contains i) = true) :
    callA tab (callR tab) d dst f args S = some (r, ⟨S.T, upd W S.H, 1 :: S.g⟩) := by
  obtain ⟨x, H', hc, hs, hW⟩ := hc
  have hR : reach H' 8 (keys W0) = keys W0 := by
    show (if (idsH (within (keys W0) H')).all (fun i => (keys W0).contains i) = true then keys W0 else _) = _
    rw [within_congr (keys W0) hW, if_pos h6]
  unfold callA
  rw [hlt]
  simp only
  unfold callO
  rw [hn]
  simp only [h1, h2]
  rw [if_pos h3, hc]
  simp only [hs, h4, hR]
  have hf : (within (keys W0) H').filter (fun e => (keys W0).contains e.1 || sfx (0 :: S.g) e.1.g) = within (keys W0) H' := by
    rw [List.filter_eq_self]
    intro e he
    have := (mem_within _ e he).1
    simp [this]
  rw [hf]
  congr 2
  congr 1
  unfold weaveH
  rw [fresh_nil (H1 := within (keys W0) H') (fun e he => ⟨?_, (mem_within _ e he).1⟩), List.nil_append]
  · rw [weave_congr (W' := W) _ (fun i hi => by rw [within_get _ i hi, hW i hi])]
    refine weave_upd _ (fun i hi => ?_) (fun i hi => ?_)
    · rw [get_keys, h5]; simpa using hi
    · have := get_keys W i
      rw [h5] at this
      cases hg : W.get i with
      | none => rfl
      | some q => rw [hg] at this; simp at this; exact absurd this hi
  · have hi := (mem_within _ e he).1
    rw [← within_get (keys W0) e.1 hi, h2, get_keys]
    simpa using hi
/-- The same where one variable is seen, and nothing behind it. -/
theorem ca_open1 {d dst f : Nat} {args : List AV} {S : St} {id : Id} {cs cs' : List AV} {r : AV}
    (hn : (if tab.opn f = true then none else toDs args) = none) (hlt : lentA tab S f args = none) (ha : addIds [] (idsL args) = [id]) (hi : idsL cs = []) (hi' : idsL cs' = [])
    (hc : ∃ x H', callR tab (d + 1) f args [(id, .box cs)] (0 :: S.g) = some (x, H') ∧ soft tab f x = r ∧ H'.get id = some (.box cs'))
    (h4 : addIds [id] (idsA r) = [id]) (hS : S.H.get id = some (.box cs)) :
    callA tab (callR tab) d dst f args S = some (r, ⟨S.T, upd [(id, .box cs')] S.H, 1 :: S.g⟩) := by
  obtain ⟨x, H', hc, hs, hW⟩ := hc
  have hw : within [id] S.H = [(id, .box cs)] := by
    unfold within
    rw [hS]
    rfl
  refine ca_open (W0 := [(id, .box cs)]) hn hlt ?_ hw ?_ ⟨x, H', hc, hs, fun i hi => ?_⟩ h4 rfl ?_
  · rw [ha]
    show (if (idsH (within [id] S.H)).all (fun i => [id].contains i) = true then [id] else _) = _
    rw [hw]
    simp only [idsH, idsP, hi, List.nil_append, List.all_nil, if_true]
    rfl
  · simp only [idsH, idsP, hi, List.nil_append, List.all_nil]
  · have : i = id := by simpa [Am.keys] using hi
    subst this
    rw [hW]
    simp [Heap.get]
  · show (idsH (within [id] [(id, .box cs')])).all _ = true
    unfold within
    simp only [Heap.get, if_true, within, idsH, idsP, hi', List.nil_append, List.all_nil]
/-- An open call that sees nothing and answers a list of its own. -/
theorem ca_fresh {d dst f n sz : Nat} {args : List AV} {S : St} {id : Id} {cs : List AV}
    (hn : (if tab.opn f = true then none else toDs args) = none) (hlt : lentA tab S f args = none) (ha : idsL args = []) (hi : idsL cs = [])
    (hc : ∃ H', callR tab (d + 1) f args [] (0 :: S.g) = some (.arr id 0 n sz, H') ∧ H'.get id = some (.box cs)) (hs : sfx (0 :: S.g) id.g = true) :
    callA tab (callR tab) d dst f args S = some (.arr id 0 n sz, ⟨S.T, (id, .box cs) :: S.H, 1 :: S.g⟩) := by
  obtain ⟨H', hc, hg⟩ := hc
  have hsoft : soft tab f (.arr id 0 n sz) = .arr id 0 n sz := by unfold soft; split <;> rfl
  have hw : within [id] H' = [(id, .box cs)] := by
    unfold within
    rw [hg]
    rfl
  have hR : reach H' 8 [id] = [id] := by
    show (if (idsH (within [id] H')).all (fun i => [id].contains i) = true then [id] else _) = _
    rw [hw]
    simp only [idsH, idsP, hi, List.nil_append, List.all_nil, if_true]
  unfold callA
  rw [hlt]
  simp only
  unfold callO
  rw [hn]
  have h0 : reach S.H 8 (addIds [] (idsL args)) = [] := by
    rw [ha]
    rfl
  simp only [h0]
  have h1 : within [] S.H = [] := rfl
  rw [h1, hc]
  have h2 : addIds [] (idsA (.arr id 0 n sz)) = [id] := by show addIds [] [id] = [id]; simp [addIds]
  simp only [hsoft, h2, hR, hw, idsH, List.all_nil, if_true]
  congr 2
  have hf : List.filter (fun e => ([] : List Id).contains e.1 || sfx (0 :: S.g) e.1.g) [(id, Place.box cs)] = [(id, Place.box cs)] := by
    simp [hs]
  rw [hf]
  congr 1
  unfold weaveH
  have hwv : ∀ H : Heap, weave [] [(id, Place.box cs)] H = H := by
    intro H
    induction H with
    | nil => rfl
    | cons e r ih => obtain ⟨i, p⟩ := e; simp [weave, ih]
  rw [hwv]
  simp [fresh]
theorem ca_fresh0 {d dst f sz : Nat} {args : List AV} {S : St}
    (hn : (if tab.opn f = true then none else toDs args) = none) (hlt : lentA tab S f args = none) (ha : idsL args = []) (hr : tab.res f = some 0)
    (hc : ∃ H', callR tab (d + 1) f args [] (0 :: S.g) = some (.own sz [] none, H') ∧ True) :
    callA tab (callR tab) d dst f args S = some (.own sz [] none, ⟨S.T, S.H, 1 :: S.g⟩) := by
  obtain ⟨H', hc, _⟩ := hc
  have hsoft : soft tab f (.own sz [] none) = .own sz [] none := by unfold soft; rw [hr]; rfl
  unfold callA
  rw [hlt]
  simp only
  unfold callO
  rw [hn]
  have h0 : reach S.H 8 (addIds [] (idsL args)) = [] := by
    rw [ha]
    rfl
  simp only [h0]
  have h1 : within [] S.H = [] := rfl
  rw [h1, hc]
  have h2 : addIds [] (idsA (.own sz [] none)) = [] := rfl
  have h3 : reach H' 8 [] = [] := rfl
  have h4 : within [] H' = [] := rfl
  simp only [hsoft, h2, h3, h4, idsH, List.all_nil, if_true, List.filter_nil]
  congr 2
  congr 1
  unfold weaveH
  have hwv : ∀ H : Heap, weave [] [] H = H := by
    intro H
    induction H with
    | nil => rfl
    | cons e r ih => obtain ⟨i, p⟩ := e; simp [weave, ih]
  rw [hwv]
  simp [fresh]
end Go.Proofs.Ytnombkkfijlkfaa.Am
