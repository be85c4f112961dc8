/- Lists of the library's, cloned and compared. -/
import Derived.Test.YtnombkkfijlkfaaBase
import Derived.Test.YtnombkkfijlkfaaAmOpc
set_option linter.unusedVariables false
set_option linter.unusedSimpArgs false
namespace Go.Proofs.Ytnombkkfijlkfaa.Am
open Go Go.RowKit
set_option maxRecDepth 100000
set_option maxHeartbeats 4000000

def EXx {α : Type} (k : Out) (mk : α → St) (P : α → Prop) : Out → St → Prop := fun o S => o = k ∧ ∃ x, P x ∧ Sub (mk x) S
theorem up_exx {α : Type} {k : Out} {mk : α → St} {P : α → Prop} : Up (EXx k mk P) := fun o S S' h ⟨h1, x, h2, h3⟩ => ⟨h1, x, h2, h3.trans h⟩
theorem allD_map : ∀ l : List DV, allD (l.map .d) = some l
  | [] => rfl
  | x :: r => by simp [allD, toDc, allD_map r]
theorem chop_flat (sz : Nat) : ∀ (xs : List DV), (∀ x ∈ xs, x.cells.length = sz ∧ (if sz = 1 then x.leaf = true else ∃ cs, x = .agg cs)) → chop sz xs.length (xs.flatMap DV.cells) = xs
  | [], _ => rfl
  | x :: r, h => by
    obtain ⟨h1, h2⟩ := h x (by simp)
    have ih := chop_flat sz r (fun y hy => h y (by simp [hy]))
    have ht : (x.cells ++ r.flatMap DV.cells).take sz = x.cells := by rw [← h1]; simp
    have hd : (x.cells ++ r.flatMap DV.cells).drop sz = r.flatMap DV.cells := by rw [← h1]; simp
    simp only [List.length_cons, chop, List.flatMap_cons, ht, hd, ih]
    by_cases hs : sz = 1
    · rw [if_pos hs] at h2 ⊢
      rw [dcells_leaf h2]
      rfl
    · rw [if_neg hs] at h2 ⊢
      obtain ⟨cs, rfl⟩ := h2
      rfl
theorem flatD_append (xs ys : List DV) : flatD (xs ++ ys) = flatD xs ++ flatD ys := by simp [flatD]
/-- Elements of one size. -/
def Elt (sz : Nat) (x : DV) : Prop := x.cells.length = sz ∧ (if sz = 1 then x.leaf = true else ∃ cs, x = .agg cs)
theorem flatD_len {sz : Nat} : ∀ (xs : List DV), (∀ x ∈ xs, Elt sz x) → (flatD xs).length = xs.length * sz
  | [], _ => by simp [flatD]
  | x :: r, h => by
    have ih := flatD_len r fun y hy => h y (by simp [hy])
    have h1 := (h x (by simp)).1
    simp only [flatD, List.flatMap_cons, List.map_append, List.length_append, List.length_map] at ih ⊢
    rw [ih, h1, List.length_cons, Nat.add_mul]
    omega
/-- A list that can be written to, as it stands. -/
theorem frz_list {H : Heap} {id : Id} {sz n : Nat} {xs : List DV} {rest : List AV} (hg : H.get id = some (.box (flatD xs ++ rest))) (hn : n = xs.length) (hs : 0 < sz) (hx : ∀ x ∈ xs, Elt sz x) :
    frzB H (.arr id 0 n sz) = .d (.sl sz xs) := by
  subst hn
  have hl := flatD_len xs hx
  have hl2 : (xs.flatMap DV.cells).length = xs.length * sz := by simpa [flatD] using hl
  show frzV H (.arr id 0 xs.length sz) = _
  unfold frzV
  simp only [hg, List.drop_zero]
  rw [← hl, List.take_left, hl]
  unfold flatD
  simp only [allD_map, hl2, hs, and_self, if_true]
  rw [chop_flat sz xs hx]
theorem frz_list0 {H : Heap} {id : Id} {sz n : Nat} {xs : List DV} (hg : H.get id = some (.box (flatD xs))) (hn : n = xs.length) (hs : 0 < sz) (hx : ∀ x ∈ xs, Elt sz x) :
    frzB H (.arr id 0 n sz) = .d (.sl sz xs) := frz_list (rest := []) (by simpa using hg) hn hs hx
/-- A closed call of a list that answers a list of its own. -/
theorem ca_frz {d dst f : Nat} {S : St} {args : List AV} {ds : List DV} {y : DV} (h : RetD tab f (ds.map .d) y) (ha : toDs args = some ds) (ho : tab.opn f = false) (hr : tab.res f = none) (ht : tab.thaw f dst = none) (hpr : tab.prim f = none := by exact tab_nprim (by kernel_rfl)) : callA tab (callR tab) d dst f args S = some (.d y, S) := by
  obtain ⟨x, H, h, hq, hx⟩ := h
  exact call_closed h ha rfl ho hr ht hq hx hpr
theorem fin_cells {X R Z : List AV} {k s : Nat} (h1 : X.length = k) (h2 : R.length = s) : List.take k (X ++ R) ++ Z ++ List.drop (k + s) (X ++ R) = X ++ Z := by
  rw [← h1, List.take_left, List.drop_eq_nil_of_le (by rw [List.length_append]; omega), List.append_nil]
theorem ids_flat (xs : List DV) : idsL (flatD xs) = [] := by
  unfold flatD
  generalize xs.flatMap DV.cells = l
  induction l with
  | nil => rfl
  | cons x r ih => simp only [List.map_cons, idsL, List.flatMap_cons] at ih ⊢; rw [ih]; rfl
theorem ids_app (a b : List AV) : idsL (a ++ b) = idsL a ++ idsL b := by simp [idsL]
theorem soft_arr {f : Nat} {id : Id} {off n sz : Nat} : soft tab f (.arr id off n sz) = .arr id off n sz := by
  unfold soft
  split <;> rfl
structure KG where
  k : Nat
  g : List Nat
end Go.Proofs.Ytnombkkfijlkfaa.Am
