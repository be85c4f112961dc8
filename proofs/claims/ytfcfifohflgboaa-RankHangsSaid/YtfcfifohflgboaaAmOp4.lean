/- Each operation, one by one: arithmetic, comparison. -/
import Derived.Test.YtfcfifohflgboaaAmOp3
import Derived.Laws.StructEq
import Derived.Laws.Shifts
set_option linter.unusedVariables false
set_option linter.unusedSimpArgs false
namespace Go.Proofs.Ytfcfifohflgboaa.Am
open Go Go.RowKit

section
variable {C : Ctx} {w w' : World} {G G' : Gh} {P : Program} {T : Tab} {S S' : St} {a : Act} {H : Heap} {U : Id → Prop}

theorem sized_eq {t : Nat} {ls ms : List TypeDesc} (h : sized T t ls = some ms) : ls = ms ∧ size T t = some ls.length := by
  unfold sized at h
  split at h
  · injection h with h; exact ⟨h, by assumption⟩
  · cases h

theorem leaves_size {k t : Nat} {ls : List TypeDesc} (h : leaves T k t = some ls) : size T t = some ls.length := by
  cases k with
  | zero => simp [leaves] at h
  | succ k =>
    unfold leaves at h
    cases hu : T.und t with
    | none => rw [hu] at h; cases h
    | some d =>
      rw [hu] at h
      cases d with
      | struct fs =>
        simp only at h
        by_cases hc : T.cmp t = true
        · rw [if_pos hc] at h
          cases hf : leavesF (leaves T k) 0 fs.toList with
          | none => rw [hf] at h; cases h
          | some ms =>
            rw [hf] at h
            obtain ⟨rfl, h2⟩ := sized_eq h
            exact h2
        · rw [if_neg hc] at h; cases h
      | bool | int | string =>
        obtain ⟨rfl, h2⟩ := sized_eq h
        exact h2
      | _ => simp at h

theorem eqCells_append : ∀ (l1 l2 : List TypeDesc) (cx cy : List AV) (b : Bool), eqCells (l1 ++ l2) cx cy = some b →
    ∃ b1 b2, eqCells l1 (cx.take l1.length) (cy.take l1.length) = some b1 ∧ eqCells l2 (cx.drop l1.length) (cy.drop l1.length) = some b2 ∧ b = (b1 && b2)
  | [], l2, cx, cy, b, h => ⟨true, b, by simp [eqCells], by simpa using h, by simp⟩
  | t :: l1, l2, cx, cy, b, h => by
    cases cx with
    | nil => cases cy <;> simp [eqCells] at h
    | cons x r =>
      cases cy with
      | nil => simp [eqCells] at h
      | cons y s =>
        simp only [List.cons_append, eqCells] at h
        cases h1 : eqCell t x y with
        | none => rw [h1] at h; simp at h
        | some q =>
          cases h2 : eqCells (l1 ++ l2) r s with
          | none => rw [h1, h2] at h; simp at h
          | some q2 =>
            rw [h1, h2] at h
            injection h with h
            obtain ⟨b1, b2, h3, h4, h5⟩ := eqCells_append l1 l2 r s q2 h2
            exact ⟨q && b1, b2, by simp [eqCells, h1, h3], by simpa using h4, by rw [← h, h5, Bool.and_assoc]⟩

def CellsAt (C : Ctx) (w : World) (G : Gh) (H : Heap) (U : Id → Prop) (xs : Array Value) (off : Nat) (cs : List AV) : Prop :=
  ∀ (j : Nat) y, cs[j]? = some y → ∃ u, xs[off + j]? = some u ∧ Rep C w G H U u y
theorem CellsAt.drop {xs : Array Value} {off : Nat} {cs : List AV} (h : CellsAt C w G H U xs off cs) (k : Nat) : CellsAt C w G H U xs (off + k) (cs.drop k) := fun j y hy => by
  rw [List.getElem?_drop] at hy
  obtain ⟨u, h1, h2⟩ := h _ y hy
  exact ⟨u, by rw [Nat.add_assoc]; exact h1, h2⟩
theorem CellsAt.take {xs : Array Value} {off : Nat} {cs : List AV} (h : CellsAt C w G H U xs off cs) (k : Nat) : CellsAt C w G H U xs off (cs.take k) := fun j y hy => by
  rw [List.getElem?_take] at hy
  split at hy
  · exact h j y hy
  · cases hy

theorem eqCells_len : ∀ (ls : List TypeDesc) (cx cy : List AV) (b : Bool), eqCells ls cx cy = some b → cx.length = ls.length ∧ cy.length = ls.length
  | [], [], [], _, _ => ⟨rfl, rfl⟩
  | [], [], _ :: _, _, h => by simp [eqCells] at h
  | [], _ :: _, _, _, h => by simp [eqCells] at h
  | t :: ls, [], cy, _, h => by cases cy <;> simp [eqCells] at h
  | t :: ls, x :: r, [], _, h => by simp [eqCells] at h
  | t :: ls, x :: r, y :: s, b, h => by
    simp only [eqCells] at h
    cases h1 : eqCell t x y with
    | none => rw [h1] at h; simp at h
    | some q =>
      cases h2 : eqCells ls r s with
      | none => rw [h1, h2] at h; simp at h
      | some q2 =>
        obtain ⟨h3, h4⟩ := eqCells_len ls r s q2 h2
        simp [h3, h4]

theorem leaf_part (ok : T.Ok P) {t : Nat} {d : TypeDesc} (hu : T.und t = some d) (hd : (∃ k, d = .int k) ∨ d = .bool ∨ d = .string) {xs : Array Value} {off : Nat} {u : Value} (h : xs[off]? = some u) : (part t xs off).run P w = .ok u w := by
  have hra : (Go.isAgg t).run P w = .ok false w := by
    rcases hd with ⟨k, rfl⟩ | rfl | rfl <;> simp [Go.isAgg, run_underlying (ok.und _ _ hu)]
  simp [part, hra, h]
theorem eqCell_cases {d : TypeDesc} {x y : AV} {b : Bool} (h : eqCell d x y = some b) : (∃ k m n, d = .int k ∧ ∃ j, x = .d (.int j m) ∧ y = .d (.int j n) ∧ b = (m == n)) ∨ (∃ m n, d = .bool ∧ x = .d (.bool m) ∧ y = .d (.bool n) ∧ b = (m == n)) ∨
      (∃ m n, d = .string ∧ x = .d (.str m) ∧ y = .d (.str n) ∧ b = (m == n)) := by
    unfold eqCell at h
    split at h
    · split at h
      · injection h with h
        rename_i hk
        subst hk
        exact .inl ⟨_, _, _, rfl, _, rfl, rfl, h.symm⟩
      · cases h
    · injection h with h
      exact .inr (.inl ⟨_, _, rfl, rfl, rfl, h.symm⟩)
    · injection h with h
      exact .inr (.inr ⟨_, _, rfl, rfl, rfl, h.symm⟩)
    · cases h
theorem leaf_eq (ok : T.Ok P) {t : Nat} {d : TypeDesc} (hu : T.und t = some d) (hd : (∃ k, d = .int k) ∨ d = .bool ∨ d = .string) {u v : Value} {x y : AV} (hx : Rep C w G H U u x) (hy : Rep C w G H U v y) {b : Bool}
    (h : eqCell d x y = some b) (D : Nat) : (Op.equalIn (D + 1) t u v).run P w = .ok b w := by
  have hsplit := eqCell_cases h
  rcases hsplit with ⟨k, m, n, rfl, j, rfl, rfl, rfl⟩ | ⟨m, n, rfl, rfl, rfl, rfl⟩ | ⟨m, n, rfl, rfl, rfl, rfl⟩
  · rw [rep_int hx, rep_int hy]
    exact run_equalIn_int w D t _ _ _ _ (ok.und _ _ hu)
  · rw [rep_bool hx, rep_bool hy]
    exact run_equalIn_bool' w D t _ _ (ok.und _ _ hu)
  · obtain ⟨p, rfl, rfl⟩ := rep_str hx
    obtain ⟨q, rfl, rfl⟩ := rep_str hy
    have := run_equalIn_string w D t p q (ok.und _ _ hu)
    rw [ByteArray.toList_eq, ByteArray.toList_eq] at this
    exact this
theorem eqOne {d : TypeDesc} {cx cy : List AV} {b : Bool} (h : eqCells [d] cx cy = some b) : ∃ x y, cx = [x] ∧ cy = [y] ∧ eqCell d x y = some b := by
  obtain ⟨h1, h2⟩ := eqCells_len _ _ _ _ h
  match cx, cy, h1, h2 with
  | [x], [y], _, _ =>
    refine ⟨x, y, rfl, rfl, ?_⟩
    simp only [eqCells] at h
    cases h3 : eqCell d x y with
    | none => rw [h3] at h; simp at h
    | some q => rw [h3] at h; simpa using h

theorem fieldsOf_eq {t : Nat} {gs : Array Field} (h : P.underlying t = some (.struct gs)) : P.fieldsOf t = gs := by simp [Program.fieldsOf, h]

theorem eq_ok (ok : T.Ok P) : ∀ (k : Nat) (t : Nat) (ls : List TypeDesc), leaves T k t = some ls → ∀ (D : Nat), k ≤ D → ∀ (xs ys : Array Value) (off off' : Nat) (cx cy : List AV) (b : Bool),
    CellsAt C w G H U xs off cx → CellsAt C w G H U ys off' cy → eqCells ls cx cy = some b →
    ∃ u v, (part t xs off).run P w = .ok u w ∧ (part t ys off').run P w = .ok v w ∧ (Op.equalIn D t u v).run P w = .ok b w
  | 0, _, _, h, _, _, _, _, _, _, _, _, _, _, _, _ => by simp [leaves] at h
  | k + 1, t, ls, h, D, hD, xs, ys, off, off', cx, cy, b, hx, hy, he => by
    obtain ⟨D, rfl⟩ : ∃ m, D = m + 1 := ⟨D - 1, by omega⟩
    have hleaf : ∀ d, T.und t = some d → ((∃ k, d = .int k) ∨ d = .bool ∨ d = .string) → sized T t [d] = some ls →
        ∃ u v, (part t xs off).run P w = .ok u w ∧ (part t ys off').run P w = .ok v w ∧ (Op.equalIn (D + 1) t u v).run P w = .ok b w := by
      intro d hu hd hs
      obtain ⟨rfl, _⟩ := sized_eq hs
      obtain ⟨x, y, rfl, rfl, hc⟩ := eqOne he
      obtain ⟨u, hu1, hu2⟩ := hx 0 x rfl
      obtain ⟨v, hv1, hv2⟩ := hy 0 y rfl
      exact ⟨u, v, leaf_part ok hu hd hu1, leaf_part ok hu hd hv1, leaf_eq ok hu hd hu2 hv2 hc D⟩
    unfold leaves at h
    cases hu : T.und t with
    | none => rw [hu] at h; cases h
    | some d =>
      rw [hu] at h
      cases d with
      | bool => exact hleaf _ hu (.inr (.inl rfl)) h
      | int j => exact hleaf _ hu (.inl ⟨j, rfl⟩) h
      | string => exact hleaf _ hu (.inr (.inr rfl)) h
      | struct gs =>
        simp only at h
        by_cases hc : T.cmp t = true
        · rw [if_pos hc] at h
          cases hf : leavesF (leaves T k) 0 gs.toList with
          | none => rw [hf] at h; cases h
          | some ms =>
            rw [hf] at h
            obtain ⟨rfl, hsz⟩ := sized_eq h
            obtain ⟨hl1, hl2⟩ := eqCells_len _ _ _ _ he
            have hra : (Go.isAgg t).run P w = .ok true w := by simp [Go.isAgg, run_underlying (ok.und _ _ hu)]
            obtain ⟨hrs, _⟩ := size_ok ok hsz w
            refine ⟨.agg (xs.extract off (off + ms.length)), .agg (ys.extract off' (off' + ms.length)), by simp [part, hra, hrs], by simp [part, hra, hrs], ?_⟩
            have hgs : P.fieldsOf t = gs := fieldsOf_eq (ok.und _ _ hu)
            rw [run_equalIn_struct w D t _ _ (by rw [hgs]; exact ok.und _ _ hu) (ok.cmp t hc).1, hgs]
            have hX : CellsAt C w G H U (xs.extract off (off + ms.length)) 0 cx := fun j y hj => by
              obtain ⟨u, h1, h2⟩ := hx j y hj
              have := (List.getElem?_eq_some_iff.1 hj).1
              refine ⟨u, ?_, h2⟩
              have h3 := (Array.getElem?_eq_some_iff.1 h1).1
              rw [Nat.zero_add, Array.getElem?_extract, if_pos (by omega)]
              exact h1
            have hY : CellsAt C w G H U (ys.extract off' (off' + ms.length)) 0 cy := fun j y hj => by
              obtain ⟨u, h1, h2⟩ := hy j y hj
              have := (List.getElem?_eq_some_iff.1 hj).1
              refine ⟨u, ?_, h2⟩
              have h3 := (Array.getElem?_eq_some_iff.1 h1).1
              rw [Nat.zero_add, Array.getElem?_extract, if_pos (by omega)]
              exact h1
            generalize xs.extract off (off + ms.length) = X at hX
            generalize ys.extract off' (off' + ms.length) = Y at hY
            have key : ∀ (fs : List Field) (o : Nat) (ms : List TypeDesc) (cx cy : List AV) (b : Bool), leavesF (leaves T k) o fs = some ms → CellsAt C w G H U X o cx → CellsAt C w G H U Y o cy → eqCells ms cx cy = some b →
                (Op.eqFields D X Y fs).run P w = .ok b w := by
              intro fs
              induction fs with
              | nil =>
                intro o ms cx cy b h1 _ _ h2
                simp only [leavesF, Option.some.injEq] at h1
                subst h1
                obtain ⟨h3, h4⟩ := eqCells_len _ _ _ _ h2
                match cx, cy, h3, h4 with
                | [], [], _, _ =>
                  simp only [eqCells, Option.some.injEq] at h2
                  subst h2
                  simp [Op.eqFields]
              | cons f fs ih =>
                intro o ms cx cy b h1 hX hY h2
                simp only [leavesF] at h1
                by_cases hn : f.name = "_" ∨ f.offset ≠ o
                · rw [if_pos hn] at h1; cases h1
                · rw [if_neg hn] at h1
                  have hn1 : f.name ≠ "_" := fun e => hn (.inl e)
                  have hn2 : f.offset = o := Classical.byContradiction fun e => hn (.inr e)
                  cases h3 : leaves T k f.type with
                  | none => rw [h3] at h1; cases h1
                  | some l1 =>
                    cases h4 : leavesF (leaves T k) (o + l1.length) fs with
                    | none => simp [h3, h4] at h1
                    | some l2 =>
                      have h1 : l1 ++ l2 = ms := by simpa [h3, h4] using h1
                      subst h1
                      obtain ⟨b1, b2, h5, h6, rfl⟩ := eqCells_append l1 l2 cx cy b h2
                      obtain ⟨u, v, h7, h8, h9⟩ := eq_ok ok k f.type l1 h3 D (by omega) X Y o o _ _ b1 (hX.take _) (hY.take _) h5
                      have h10 := ih (o + l1.length) l2 _ _ b2 h4 (hX.drop _) (hY.drop _) h6
                      simp only [Op.eqFields, hn1, ne_eq, not_false_eq_true, if_true, hn2, Sem.run_bind, h7, h8, h9, Result.andThen_ok]
                      cases b1
                      · simp
                      · simp [h10]
            exact key gs.toList 0 ms cx cy b hf hX hY he
        · rw [if_neg hc] at h; cases h
      | _ => simp at h
end
end Go.Proofs.Ytfcfifohflgboaa.Am
