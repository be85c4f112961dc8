/- Structs and lists that are built: the operations. -/
import Derived.Test.YtfcfifohflgboaaAmOp9
import Derived.Laws.Tables
set_option linter.unusedVariables false
set_option linter.unusedSimpArgs false
namespace Go.Proofs.Ytfcfifohflgboaa.Am
open Go Go.RowKit

section
variable {C : Ctx} {w w' : World} {G G' : Gh} {P : Program} {T : Tab} {S S' : St} {a : Act} {H : Heap} {U : Id → Prop}

theorem noTup_ne {x : AV} (h : noTup x = true) (xs : List AV) : x ≠ .tup xs := fun e => by subst e; cases h

theorem placesL_ok (ok : T.Ok P) : ∀ (fs : List Field) (pl : List (Nat × Nat)), placesL T fs = some pl → fs.mapM (fun f => (P.info? f.type).map fun i => (f.offset, i.size)) = some pl
  | [], pl, h => by simpa [placesL] using h
  | f :: r, pl, h => by
    simp only [placesL] at h
    cases h1 : size T f.type with
    | none => rw [h1] at h; simp at h
    | some n =>
      cases h2 : placesL T r with
      | none => rw [h1, h2] at h; simp at h
      | some s =>
        rw [h1, h2] at h
        injection h with h
        subst h
        obtain ⟨_, i, h3, h4⟩ := size_ok ok h1 (default : World)
        simp [List.mapM_cons, h3, h4, placesL_ok ok r s h2]

theorem zero_cells (ok : T.Ok P) {t n b : Nat} {z : List AV} (h : T.inf t = some (n, b, z)) : ∃ i zv, P.info? t = some i ∧ i.size = n ∧ i.zero = some zv ∧ zv.cells.size = n ∧ z.length = n ∧ CellsOk C w G H U zv.cells z := by
  obtain ⟨i, zv, h1, h2, h3, h4, h5, h6, h7⟩ := ok.inf t n b z h
  refine ⟨i, zv, h1, h2, h4, h5, h6, by omega, fun j y hy => ?_⟩
  obtain ⟨u, hu, hr⟩ := h7 j y hy
  exact ⟨hr.leaf, u, hu, hr.rep⟩

theorem good_build (ok : T.Ok P) (hs : Sim C w G U S a) {o : Oper} {t n b : Nat} {parts : Array (Nat × Operand)} (ho : o.op = .build t parts) {z : List AV} (hz : T.inf t = some (n, b, z)) {ty : Nat → Nat} {ps : List (Nat × AV)}
    (hp : partsA T S ty parts.toList = some ps) (hn : ps.all (fun p => noTup p.2) = true) {cs : List AV} (hb : buildA T t z ps = some cs) : Good C P w G U S ((execOp a.eval o).run P w) (some (mkAgg cs)) S := by
  obtain ⟨i, zv, h1, h2, h3, h4, h5, h6⟩ := zero_cells (C := C) (w := w) (G := G) (H := S.H) (U := U) ok hz
  have hnt : ∀ (i : Nat) q, ps[i]? = some q → ∀ xs, q.2 ≠ .tup xs := fun i q hq => noTup_ne (by
    have := List.all_eq_true.1 hn q (List.mem_of_getElem? hq)
    exact this)
  obtain ⟨hl, hv⟩ := parts_vals hs (partsA_ok ok hs _ _ hp) hnt
  have fin : ∀ arr', P.built t (parts.map fun (p : Nat × Operand) => (p.1, a.eval p.2)).toList = some arr' → CellsOk C w G S.H U arr' cs → Good C P w G U S ((execOp a.eval o).run P w) (some (mkAgg cs)) S := fun arr' hbu hc => by
    refine Good.quiet hs (v := .agg arr') ?_ (rep_mkAgg hc.1 hc.2)
    simp only [execOp, ho, Sem.run_bind]
    rw [show (parts.map fun x => match x with | (i, x) => (i, a.eval x)) = parts.map fun (p : Nat × Operand) => (p.1, a.eval p.2) from rfl, run_build w t _ arr' hbu]
    rfl
  unfold buildA at hb
  split at hb
  · rename_i fs hu
    split at hb
    · rename_i pl hpl
      obtain ⟨arr', h7, h8⟩ := fill_ok (C := C) (w := w) (G := G) (H := S.H) (U := U) ps _ z cs zv.cells h6 hl hv hb
      refine fin arr' ?_ h8
      simp only [Program.built, h1, ok.und _ _ hu, h3, placesL_ok ok _ _ hpl]
      simpa using h7
    · cases hb
  · rename_i k e hu
    split at hb
    · rename_i m hm
      obtain ⟨arr', h7, h8⟩ := fill_ok (C := C) (w := w) (G := G) (H := S.H) (U := U) ps _ z cs zv.cells h6 hl hv hb
      obtain ⟨_, ie, h9, h10⟩ := size_ok ok hm w
      refine fin arr' ?_ h8
      simp only [Program.built, h1, ok.und _ _ hu, h3, h9, h10]
      exact h7
    · cases hb
  · cases hb

theorem flat_rep (z : List AV) (n : Nat) (hz : z.length = n) (h0 : 0 < n) : ∀ k j, (List.replicate k z).flatten[j]? = if j < k * n then z[j % n]? else none
  | 0, j => by simp
  | k + 1, j => by
    rw [List.replicate_succ, List.flatten_cons]
    by_cases hj : j < n
    · rw [List.getElem?_append_left (by omega), if_pos (by rw [Nat.succ_mul]; omega), Nat.mod_eq_of_lt hj]
    · rw [List.getElem?_append_right (by omega), flat_rep z n hz h0 k, hz]
      have : (j - n) % n = j % n := by rw [← Nat.mod_eq_sub_mod (by omega)]
      rw [this]
      by_cases h : j < (k + 1) * n
      · rw [if_pos h, if_pos (by rw [Nat.succ_mul] at h; omega)]
      · rw [if_neg h, if_neg (by rw [Nat.succ_mul] at h; omega)]

theorem mkVar_rep (ok : T.Ok P) {t n : Nat} {arr : Array Value} {cs : List AV} {off : Nat} (hsz : size T t = some n) (hc : ∀ (j : Nat) y, cs[j]? = some y → y.leaf = true ∧ ∃ u, arr[off + j]? = some u ∧ Rep C w G H U u y) {x : AV}
    (hx : mkVar T t cs = some x) (hl : cs.length = n) : ∃ v : Value, Rep C w G H U v x ∧ v.cells.size = n ∧ x.cells.length = n ∧ ∀ (j : Nat) u, v.cells[j]? = some u → arr[off + j]? = some u := by
  unfold mkVar at hx
  cases ha : isAgg T t with
  | none => rw [ha] at hx; simp at hx
  | some q =>
    rw [ha, hsz] at hx
    cases q with
    | true =>
      simp only at hx
      rw [if_pos (by omega)] at hx
      injection hx with hx
      subst hx
      rw [List.take_of_length_le (by omega)]
      have hex : ∀ j, j < n → off + j < arr.size := fun j hj => by
        obtain ⟨_, u, h1, _⟩ := hc j cs[j] (List.getElem?_eq_getElem (by omega))
        exact (Array.getElem?_eq_some_iff.1 h1).1
      have hget : ∀ j, (arr.extract off (off + n))[j]? = if j < n then arr[off + j]? else none := fun j => by
        rw [Array.getElem?_extract]
        by_cases hj : j < n
        · rw [if_pos hj, if_pos (by have := hex j hj; omega)]
        · rw [if_neg hj, if_neg (by omega)]
      have hsize : (arr.extract off (off + n)).size = n := by
        rcases Nat.eq_zero_or_pos n with h0 | h0
        · subst h0; simp; omega
        · have := hex (n - 1) (by omega)
          simp; omega
      refine ⟨.agg (arr.extract off (off + n)), rep_mkAgg (by omega) (fun j y hy => ?_), hsize, ?_, fun j u hu => ?_⟩
      · have hj : j < n := by have := (List.getElem?_eq_some_iff.1 hy).1; omega
        obtain ⟨h1, u, h2, h3⟩ := hc j y hy
        exact ⟨h1, u, by rw [hget, if_pos hj]; exact h2, h3⟩
      · unfold mkAgg
        split
        · rename_i ds hds
          have := plainD_eq _ _ hds
          subst this
          simpa [AV.cells, DV.cells] using hl
        · exact hl
      · have hu : (arr.extract off (off + n))[j]? = some u := hu
        rw [hget] at hu
        split at hu
        · exact hu
        · cases hu
    | false =>
      simp only at hx
      split at hx
      case isFalse => cases hx
      rename_i hn1
      subst hn1
      cases cs with
      | nil => simp at hx
      | cons y r =>
        simp only [List.head?_cons, Option.some.injEq] at hx
        subst hx
        obtain ⟨h1, u, h2, h3⟩ := hc 0 y rfl
        have hlv := h3.leafV h1
        refine ⟨u, h3, by rw [cells_leaf hlv]; rfl, by rw [acells_leaf h1]; rfl, fun j v hv => ?_⟩
        rw [cells_leaf hlv] at hv
        cases j with
        | zero =>
          have : u = v := by simpa using hv
          subst this
          exact h2
        | succ j => simp at hv

theorem toD_cells {x : AV} {y : DV} (h : toD x = some y) : x.cells.length = y.cells.length := by
  cases x with
  | d x => simp only [toD, Option.some.injEq] at h; subst h; simp [AV.cells]
  | own sz xs tok => simp only [toD, Option.some.injEq] at h; subst h; rfl
  | agg cs =>
    simp only [toD] at h
    cases hd : allD cs with
    | none => rw [hd] at h; cases h
    | some ds =>
      rw [hd] at h
      injection h with h
      subst h
      exact (allD_ok cs ds hd).1
  | fn f cs =>
    simp only [toD] at h
    cases hd : allD cs with
    | none => rw [hd] at h; cases h
    | some ds =>
      rw [hd] at h
      injection h with h
      subst h
      rfl
  | _ => simp [toD] at h

theorem elemsL_ok (ok : T.Ok P) {e n : Nat} (hsz : size T e = some n) {arr : Array Value} : ∀ (k : Nat) (cs : List AV) (off : Nat) (ds : List DV), elemsL T e n k cs = some ds → k * n ≤ cs.length →
    (∀ (j : Nat) y, cs[j]? = some y → y.leaf = true ∧ ∃ u, arr[off + j]? = some u ∧ Rep C w G H U u y) →
    ds.length = k ∧ ∃ fv : Nat → Value, ∀ (i : Nat) d, ds[i]? = some d → RepD w (Fz C G H) (fv i) d ∧ d.cells.length = n ∧ ∀ (j : Nat) u, (fv i).cells[j]? = some u → arr[off + i * n + j]? = some u
  | 0, cs, off, ds, h, _, _ => by
    simp only [elemsL, Option.some.injEq] at h
    subst h
    exact ⟨rfl, fun _ => undef, fun i d hd => by simp at hd⟩
  | k + 1, cs, off, ds, h, hk, hc => by
    rw [Nat.succ_mul] at hk
    simp only [elemsL] at h
    cases h1 : mkVar T e (cs.take n) with
    | none => rw [h1] at h; simp at h
    | some y =>
      cases h2 : elemsL T e n k (cs.drop n) with
      | none => rw [h1, h2] at h; simp at h
      | some s =>
        rw [h1, h2] at h
        simp only at h
        cases h3 : toD y with
        | none => rw [h3] at h; cases h
        | some z =>
          rw [h3] at h
          injection h with h
          subst h
          obtain ⟨v, hv, hv1, hv2, hv3⟩ := mkVar_rep ok (C := C) (w := w) (G := G) (H := H) (U := U) (arr := arr) (off := off) hsz (fun j y hy => by
            rw [List.getElem?_take] at hy
            split at hy
            · exact hc j y hy
            · cases hy) h1 (by simp; omega)
          obtain ⟨h4, fv, h5⟩ := elemsL_ok ok hsz k (cs.drop n) (off + n) s h2 (by simp; omega) (fun j y hy => by
            rw [List.getElem?_drop] at hy
            rw [Nat.add_assoc]
            exact hc _ y hy)
          refine ⟨by simp [h4], fun i => if i = 0 then v else fv (i - 1), fun i d hd => ?_⟩
          cases i with
          | zero =>
            have : z = d := by simpa using hd
            subst this
            refine ⟨toD_ok hv h3, by rw [← toD_cells h3]; exact hv2, fun j u hu => ?_⟩
            have := hv3 j u hu
            simpa using this
          | succ i =>
            obtain ⟨h6, h7, h8⟩ := h5 i d (by simpa using hd)
            refine ⟨h6, h7, fun j u hu => ?_⟩
            have := h8 j u hu
            rw [show off + (i + 1) * n + j = off + n + i * n + j by rw [Nat.succ_mul]; omega]
            exact this

theorem good_buildSlice0 (ok : T.Ok P) (hs : Sim C w G U S a) {o : Oper} {t e n b len : Nat} {parts : Array (Nat × Operand)} (ho : o.op = .buildSlice t len parts) (hu : T.und t = some (.slice e)) {z : List AV} (hz : T.inf e = some (n, b, z))
    (hl : len = 0) (hp : parts.size = 0) : Good C P w G U S ((execOp a.eval o).run P w) (some (.own n [] none)) S := by
  subst hl
  have hparts : parts = #[] := Array.eq_empty_of_size_eq_zero hp
  subst hparts
  obtain ⟨i, zv, h1, h2, h3, h4, h5, h6⟩ := zero_cells (C := C) (w := w) (G := G) (H := S.H) (U := U) ok hz
  have hb2 : Below w.heap.size w (w.alloc (.cells #[] e)) := (Below.refl _ _).alloc (Nat.le_refl _) _
  refine ⟨.value (.slice (some ⟨w.heap.size, 0, none⟩) 0 0), w.alloc (.cells #[] e), G, U, ?_, Ext.grown hs.heap hb2, hs.heap.grown hb2, ⟨rfl, hs.fr, fun i h => .inl h⟩, Rep.own _ _ _ _ _ _ (.sl _ _ _ _ _ (fun _ => undef) rfl (Nat.le_refl _) (by omega) (fun i x hx => by simp at hx) (fun i x hx => by simp at hx)) rfl⟩
  simp [execOp, ho, Instr.buildSlice, run_underlying (ok.und _ _ hu), sizeOf, typeInfo, h1, Instr.fill, newRow]
  congr 2
  exact Array.eq_empty_of_size_eq_zero (by simp)
theorem good_buildSlice (ok : T.Ok P) (hs : Sim C w G U S a) {o : Oper} {t e n b len : Nat} {parts : Array (Nat × Operand)} (ho : o.op = .buildSlice t len parts) (hu : T.und t = some (.slice e)) {z : List AV} (hz : T.inf e = some (n, b, z))
    {ty : Nat → Nat} {ps : List (Nat × AV)} (hp : partsA T S ty parts.toList = some ps) (hn : ps.all (fun p => noTup p.2) = true) (h0 : 0 < n) (hl0 : 0 < len) (h24 : len * n ≤ 16777216) {cs : List AV}
    (hb : fillA (fun i => some (i * n, n)) (List.replicate len z).flatten ps = some cs) {ds : List DV} (hd : elemsL T e n len cs = some ds) : Good C P w G U S ((execOp a.eval o).run P w) (some (.own n ds none)) S := by
  obtain ⟨i, zv, h1, h2, h3, h4, h5, h6⟩ := zero_cells (C := C) (w := w) (G := G) (H := S.H) (U := U) ok hz
  have hnt : ∀ (i : Nat) q, ps[i]? = some q → ∀ xs, q.2 ≠ .tup xs := fun i q hq => noTup_ne (by
    have := List.all_eq_true.1 hn q (List.mem_of_getElem? hq)
    exact this)
  obtain ⟨hl, hv⟩ := parts_vals hs (partsA_ok ok hs _ _ hp) hnt
  have hszT : size T e = some n := by simp [Am.size, hz]
  have hinit : CellsOk C w G S.H U ((Array.range (len * n)).map fun j => zv.cells[j % zv.cells.size]!) (List.replicate len z).flatten := by
    refine ⟨by simp [h5], fun j y hy => ?_⟩
    rw [flat_rep z n h5 h0] at hy
    split at hy
    · rename_i hj
      obtain ⟨h7, u, h8, h9⟩ := h6.2 _ y hy
      refine ⟨h7, u, ?_, h9⟩
      rw [h4] at *
      simp only [Array.getElem?_map, Array.getElem?_range, hj, if_true, Option.map_some]
      rw [Array.getElem!_eq_getD, Array.getD_eq_getD_getElem?, h8]
      rfl
    · cases hy
  obtain ⟨arr', h7, h8⟩ := fill_ok (C := C) (w := w) (G := G) (H := S.H) (U := U) ps _ _ cs _ hinit hl hv hb
  have hcl : len * n = cs.length := by
    have key : ∀ (ps : List (Nat × AV)) (cs cs' : List AV), fillA (fun i => some (i * n, n)) cs ps = some cs' → cs'.length = cs.length := by
      intro ps
      induction ps with
      | nil => intro cs cs' h; simp only [fillA, Option.some.injEq] at h; rw [h]
      | cons p r ih =>
        intro cs cs' h
        obtain ⟨i, x⟩ := p
        simp only [fillA] at h
        split at h
        · cases h
        · rename_i hcond
          rw [ih _ _ h, setCells_len]
          have h1 : x.cells.length = n := Classical.byContradiction fun e => hcond (.inl e)
          have h2 : i * n + n ≤ cs.length := by
            rcases Nat.lt_or_ge cs.length (i * n + n) with hlt | hge
            · exact (hcond (.inr hlt)).elim
            · exact hge
          omega
    rw [key ps _ _ hb]
    simp [h5]
  have hb2 : Below w.heap.size w (w.alloc (.cells arr' e)) := (Below.refl _ _).alloc (Nat.le_refl _) _
  have e2 : Ext C w G S.H U (w.alloc (.cells arr' e)) G S.H U := Ext.grown hs.heap hb2
  obtain ⟨hdl, fv, hfv⟩ := elemsL_ok ok (C := C) (w := w) (G := G) (H := S.H) (U := U) (arr := arr') hszT len cs 0 ds hd (by omega) (fun j y hy => by
    obtain ⟨h9, u, h10, h11⟩ := h8.2 j y hy
    exact ⟨h9, u, by rw [Nat.zero_add]; exact h10, h11⟩)
  have hlen : len ≤ 16777216 := Nat.le_trans (Nat.le_mul_of_pos_right _ h0) h24
  obtain ⟨hszr, _⟩ := size_ok ok hszT w
  refine ⟨.value (.slice (some ⟨w.heap.size, 0, none⟩) len len), w.alloc (.cells arr' e), G, U, ?_, e2, hs.heap.grown hb2, ⟨rfl, hs.fr, fun i h => .inl h⟩, ?_⟩
  · have h9 : ¬ (16777216 < len * n) := by omega
    have hfill : Instr.fill (fun i => some (i * n, n)) ((Array.range (len * n)).map fun j => zv.cells[j % zv.cells.size]!) (parts.map fun x => match x with | (i, x) => (i, a.eval x)).toList = some arr' := h7
    simp only [execOp, ho, Instr.buildSlice, Sem.run_bind, run_underlying (ok.und _ _ hu), Result.andThen_ok, hszr]
    have hz0 : ¬ len * n = 0 := Nat.ne_of_gt (Nat.mul_pos hl0 h0)
    simp only [gt_iff_lt, Nat.reducePow, h9, if_false, Sem.run_bind, Sem.run_pure, Result.andThen_ok, hz0, zeroValue, typeInfo, h1, h3, run_program, hfill, newRow, run_newObj]
    rfl
  · refine .own _ _ _ _ _ _ (.sl _ _ _ _ _ fv hdl (Nat.le_refl _) (by omega) (fun i d hi => ?_) (fun i d hi => ((hfv i d hi).1).mono e2.cell e2.mpb)) rfl
    obtain ⟨h9, h10, h11⟩ := hfv i d hi
    refine ⟨h10, w.heap.size, 0, rfl, fun j u hu => ?_⟩
    have h12 := h11 j u hu
    have hblk : (w.alloc (.cells arr' e)).heap[w.heap.size]? = some (.cells arr' e) := heap_alloc_new w _
    refine ⟨by rw [cell_blk hblk]; exact h12, .inr hs.heap.base, hs.heap.nex (Nat.le_refl _), fun id p hp hG => ?_⟩
    have := (hs.heap.blkLt hp hG).2
    omega
end
end Go.Proofs.Ytfcfifohflgboaa.Am
