/- Structs and lists that are built. -/
import Derived.Test.YtfcfifohflgboaaAmOp8
set_option linter.unusedVariables false
set_option linter.unusedSimpArgs false
namespace Go.Proofs.Ytfcfifohflgboaa.Am
open Go Go.RowKit

section
variable {C : Ctx} {w w' : World} {G G' : Gh} {P : Program} {T : Tab} {S S' : St} {a : Act} {H : Heap} {U : Id → Prop}

theorem toDc_ok {v : Value} {x : AV} {y : DV} (h : Rep C w G H U v x) (hy : toDc x = some y) : RepD w (Fz C G H) v y := by
  cases h with
  | d v x h => simp only [toDc, Option.some.injEq] at hy; subst hy; exact h
  | own A n c sz xs tok h ht => simp only [toDc, Option.some.injEq] at hy; subst hy; exact h
  | _ => simp [toDc] at hy
theorem toDc_leaf {x : AV} {y : DV} (hx : x.leaf = true) (hy : toDc x = some y) : y.leaf = true := by
  cases x with
  | d x => simp only [toDc, Option.some.injEq] at hy; subst hy; exact hx
  | own sz xs tok => simp only [toDc, Option.some.injEq] at hy; subst hy; rfl
  | _ => simp [toDc] at hy
theorem allD_ok : ∀ (cs : List AV) (ds : List DV), allD cs = some ds → cs.length = ds.length ∧ ∀ (i : Nat) y, ds[i]? = some y → ∃ x, cs[i]? = some x ∧ toDc x = some y
  | [], ds, h => by simp only [allD, Option.some.injEq] at h; subst h; exact ⟨rfl, fun i y hy => by simp at hy⟩
  | x :: r, ds, h => by
    simp only [allD] at h
    cases h1 : toDc x with
    | none => rw [h1] at h; simp at h
    | some y =>
      cases h2 : allD r with
      | none => rw [h1, h2] at h; simp at h
      | some s =>
        rw [h1, h2] at h
        injection h with h
        subst h
        obtain ⟨h3, h4⟩ := allD_ok r s h2
        refine ⟨by simp [h3], fun i z hz => ?_⟩
        cases i with
        | zero =>
          have : y = z := by simpa using hz
          subst this
          exact ⟨x, rfl, h1⟩
        | succ i => exact h4 i z (by simpa using hz)

theorem good_boxRo (ok : T.Ok P) (hs : Sim C w G U S a) {o : Oper} {e : Nat} {y : Operand} (ho : o.op = .box e y) {t : Nat} {x : AV} (h : ev T S t y = some x) (hx : ∀ xs, x ≠ .tup xs) {ds : List DV} (hd : allD x.cells = some ds) :
    Good C P w G U S ((execOp a.eval o).run P w) (some (.d (.rp ds))) S := by
  obtain ⟨h1, h2⟩ := (ev_ok ok hs h).cells hx
  obtain ⟨h3, h4⟩ := allD_ok _ _ hd
  have hb2 : Below w.heap.size w (w.alloc (.cells (a.eval y).cells e)) := (Below.refl _ _).alloc (Nat.le_refl _) _
  have e2 : Ext C w G S.H U (w.alloc (.cells (a.eval y).cells e)) G S.H U := Ext.grown hs.heap hb2
  have hblk : (w.alloc (.cells (a.eval y).cells e)).heap[w.heap.size]? = some (.cells (a.eval y).cells e) := heap_alloc_new w _
  have hcell : ∀ (j : Nat) z, ds[j]? = some z → z.leaf = true ∧ ∃ u, (a.eval y).cells[j]? = some u ∧ RepD w (Fz C G S.H) u z := fun j z hz => by
    obtain ⟨q, hq, hqz⟩ := h4 j z hz
    obtain ⟨h5, u, h6, h7⟩ := h2 j q hq
    exact ⟨toDc_leaf h5 hqz, u, h6, toDc_ok h7 hqz⟩
  refine ⟨.value (.pointer (some ⟨w.heap.size, 0, none⟩)), _, G, U, ?_, e2, hs.heap.grown hb2, ⟨rfl, hs.fr, fun i h => .inl h⟩, Rep.d _ _ (.rp _ _ ds (fun j => (a.eval y).cells.getD j undef) (fun j z hz => (hcell j z hz).1) (fun j z hz => ?_) (fun j z hz => ?_))⟩
  · simp [execOp, ho, Instr.box, newVar, newRow]
  · obtain ⟨_, u, h6, _⟩ := hcell j z hz
    refine ⟨by rw [cell_blk hblk]; simp [h6], .inr hs.heap.base, hs.heap.nex (Nat.le_refl _), fun id p hp hG => ?_⟩
    have := (hs.heap.blkLt hp hG).2
    omega
  · obtain ⟨_, u, h6, h7⟩ := hcell j z hz
    have : (a.eval y).cells.getD j undef = u := by rw [Array.getD_eq_getD_getElem?, h6]; rfl
    rw [this]
    exact h7.mono e2.cell e2.mpb
theorem toD_ok {v : Value} {x : AV} {y : DV} (h : Rep C w G H U v x) (hy : toD x = some y) : RepD w (Fz C G H) v y := by
  cases h with
  | d v x h => simp only [toD, Option.some.injEq] at hy; subst hy; exact h
  | own A n c sz xs tok h ht => simp only [toD, Option.some.injEq] at hy; subst hy; exact h
  | agg vs cs hl hf h =>
    simp only [toD] at hy
    cases hd : allD cs with
    | none => rw [hd] at hy; cases hy
    | some ds =>
      rw [hd] at hy
      injection hy with hy
      subst hy
      obtain ⟨h1, h2⟩ := allD_ok cs ds hd
      refine .agg vs ds (by omega) (fun i y hy => ?_) (fun i v y hv hy => ?_)
      · obtain ⟨x, h3, h4⟩ := h2 i y hy
        exact toDc_leaf (hf i x h3) h4
      · obtain ⟨x, h3, h4⟩ := h2 i y hy
        exact toDc_ok (h i v x hv h3) h4
  | fn f vs cs hl hf h =>
    simp only [toD] at hy
    cases hd : allD cs with
    | none => rw [hd] at hy; cases hy
    | some ds =>
      rw [hd] at hy
      injection hy with hy
      subst hy
      obtain ⟨h1, h2⟩ := allD_ok cs ds hd
      refine .fn f vs ds (by omega) (fun i y hy => ?_) (fun i v y hv hy => ?_)
      · obtain ⟨x, h3, h4⟩ := h2 i y hy
        exact toDc_leaf (cap_leaf (hf i x h3)) h4
      · obtain ⟨x, h3, h4⟩ := h2 i y hy
        exact toDc_ok (h i v x hv h3) h4
  | _ => simp [toD] at hy

def CellsOk (C : Ctx) (w : World) (G : Gh) (H : Heap) (U : Id → Prop) (arr : Array Value) (cs : List AV) : Prop :=
  arr.size = cs.length ∧ ∀ (j : Nat) y, cs[j]? = some y → y.leaf = true ∧ ∃ u, arr[j]? = some u ∧ Rep C w G H U u y

theorem foldl_zipIdx (off : Nat) : ∀ (vs : List Value) (k : Nat) (arr : Array Value), (vs.zipIdx k).foldl (fun cs x => cs.setIfInBounds (off + x.2) x.1) arr = setArr arr (off + k) vs
  | [], k, arr => rfl
  | v :: r, k, arr => by
    simp only [List.zipIdx_cons, List.foldl_cons, setArr]
    rw [foldl_zipIdx off r (k + 1)]
    rfl

theorem fill_ok {place : Nat → Option (Nat × Nat)} : ∀ (ps : List (Nat × AV)) (vs : List (Nat × Value)) (cs cs' : List AV) (arr : Array Value), CellsOk C w G H U arr cs → vs.length = ps.length →
    (∀ (i : Nat) p, ps[i]? = some p → (∀ xs, p.2 ≠ .tup xs) ∧ ∃ v, vs[i]? = some (p.1, v) ∧ Rep C w G H U v p.2) → fillA place cs ps = some cs' →
    ∃ arr', Instr.fill place arr vs = some arr' ∧ CellsOk C w G H U arr' cs'
  | [], vs, cs, cs', arr, hc, hl, _, h => by
    match vs, hl with
    | [], _ =>
      simp only [fillA, Option.some.injEq] at h
      subst h
      exact ⟨arr, rfl, hc⟩
  | (i, x) :: r, vs, cs, cs', arr, hc, hl, hp, h => by
    match vs, hl with
    | v :: vr, hl =>
      obtain ⟨hnt, v', hv', hrep⟩ := hp 0 (i, x) rfl
      have hv : v = (i, v') := by simpa using hv'
      subst hv
      simp only [fillA] at h
      cases hpl : place i with
      | none => rw [hpl] at h; simp at h
      | some q =>
        obtain ⟨off, size⟩ := q
        rw [hpl] at h
        simp only at h
        by_cases hcond : x.cells.length ≠ size ∨ off + size > cs.length
        · rw [if_pos hcond] at h; cases h
        · rw [if_neg hcond] at h
          have h1 : x.cells.length = size := Classical.byContradiction fun e => hcond (.inl e)
          have h2 : off + size ≤ cs.length := by
            rcases Nat.lt_or_ge cs.length (off + size) with hlt | hge
            · exact (hcond (.inr hlt)).elim
            · exact hge
          obtain ⟨hc1, hc2⟩ := hrep.cells hnt
          have hc1 : v'.cells.size = size := by rw [← h1]; exact hc1
          have hlen : v'.cells.toList.length = size := by simpa using hc1
          have hnew : CellsOk C w G H U (setArr arr off v'.cells.toList) (setCells cs off x.cells) := by
            refine ⟨by rw [setArr_size, setCells_len _ _ _ (by omega)]; exact hc.1, fun j y hy => ?_⟩
            rw [setCells_get _ _ _ _ (by omega)] at hy
            rw [setArr_get _ _ _ _ (by rw [hc.1, hlen]; exact h2)]
            by_cases hj : off ≤ j ∧ j < off + x.cells.length
            · rw [if_pos hj] at hy
              rw [if_pos (by omega), Array.getElem?_toList]
              exact hc2 _ y hy
            · rw [if_neg hj] at hy
              rw [if_neg (by omega)]
              exact hc.2 j y hy
          obtain ⟨arr', h3, h4⟩ := fill_ok r vr _ cs' _ hnew (by simpa using hl) (fun k p hk => hp (k + 1) p (by simpa using hk)) h
          refine ⟨arr', ?_, h4⟩
          have h5 : ¬ (v'.cells.size ≠ size ∨ off + v'.cells.size > arr.size) := by rw [hc.1]; omega
          have h6 : (v'.cells.zipIdx.foldl (fun cs x => cs.setIfInBounds (off + x.2) x.1) arr) = setArr arr off v'.cells.toList := by
            rw [← Array.foldl_toList, Array.toList_zipIdx, foldl_zipIdx]
            rfl
          simp only [Instr.fill, hpl]
          rw [if_neg (by simpa using h5)]
          rw [show (fun cs (x : Value × Nat) => match x with | (c, j) => cs.setIfInBounds (off + j) c) = (fun (cs : Array Value) (x : Value × Nat) => cs.setIfInBounds (off + x.2) x.1) from rfl, h6]
          exact h3

theorem partsA_ok (ok : T.Ok P) (hs : Sim C w G U S a) {ty : Nat → Nat} : ∀ (ps : List (Nat × Operand)) (qs : List (Nat × AV)), partsA T S ty ps = some qs →
    qs.length = ps.length ∧ ∀ (i : Nat) q, qs[i]? = some q → ∃ x, ps[i]? = some (q.1, x) ∧ Rep C w G S.H U (a.eval x) q.2
  | [], qs, h => by simp only [partsA, Option.some.injEq] at h; subst h; exact ⟨rfl, fun i q hq => by simp at hq⟩
  | (i, x) :: r, qs, h => by
    simp only [partsA] at h
    cases h1 : ev T S (ty i) x with
    | none => rw [h1] at h; simp at h
    | some v =>
      cases h2 : partsA T S ty r with
      | none => rw [h1, h2] at h; simp at h
      | some s =>
        rw [h1, h2] at h
        injection h with h
        subst h
        obtain ⟨h3, h4⟩ := partsA_ok ok hs r s h2
        refine ⟨by simp [h3], fun k q hq => ?_⟩
        cases k with
        | zero =>
          have : (i, v) = q := by simpa using hq
          subst this
          exact ⟨x, rfl, ev_ok ok hs h1⟩
        | succ k => exact h4 k q (by simpa using hq)

theorem parts_vals (hs : Sim C w G U S a) {ps : Array (Nat × Operand)} {qs : List (Nat × AV)} (h : qs.length = ps.toList.length ∧ ∀ (i : Nat) q, qs[i]? = some q → ∃ x, ps.toList[i]? = some (q.1, x) ∧ Rep C w G S.H U (a.eval x) q.2)
    (hn : ∀ (i : Nat) q, qs[i]? = some q → ∀ xs, q.2 ≠ .tup xs) :
    (ps.map fun (p : Nat × Operand) => (p.1, a.eval p.2)).toList.length = qs.length ∧ ∀ (i : Nat) q, qs[i]? = some q → (∀ xs, q.2 ≠ .tup xs) ∧ ∃ v, (ps.map fun (p : Nat × Operand) => (p.1, a.eval p.2)).toList[i]? = some (q.1, v) ∧ Rep C w G S.H U v q.2 := by
  refine ⟨by simp [h.1], fun i q hq => ⟨hn i q hq, ?_⟩⟩
  obtain ⟨x, h1, h2⟩ := h.2 i q hq
  exact ⟨_, by rw [Array.toList_map, List.getElem?_map, h1]; rfl, h2⟩
end
end Go.Proofs.Ytfcfifohflgboaa.Am
