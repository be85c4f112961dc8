/- Each operation, one by one: addresses, fields, indexes, numbers. -/
import Derived.Test.YtfcfifohflgboaaAmOp2
set_option linter.unusedVariables false
set_option linter.unusedSimpArgs false
namespace Go.Proofs.Ytfcfifohflgboaa.Am
open Go Go.RowKit

section
variable {C : Ctx} {w w' : World} {G G' : Gh} {P : Program} {T : Tab} {S S' : St} {a : Act} {U : Id → Prop}

theorem fieldsOf_ok (ok : T.Ok P) {t : Nat} {fs : List Field} (h : fieldsOf T t = some fs) : ∃ gs : Array Field, P.underlying t = some (.struct gs) ∧ gs.toList = fs := by
  unfold fieldsOf at h
  split at h
  · rename_i gs hu
    injection h with h
    exact ⟨gs, ok.und _ _ hu, h⟩
  · cases h

theorem rep_ptr {id : Id} {off : Nat} {v : Value} {H : Heap} {U : Id → Prop} (h : Rep C w G H U v (.ptr id off)) : leafV v = true ∧ U id ∧ ∀ cs, H.get id = some (.box cs) → ∃ b, G id = some b ∧ v = .pointer (some ⟨b, off, none⟩) := by
  cases h; exact ⟨by assumption, by assumption, by assumption⟩

theorem rep_rp_drop {cs : List DV} {v : Value} {H : Heap} {U : Id → Prop} (h : Rep C w G H U v (.d (.rp cs))) : ∃ b off, v = .pointer (some ⟨b, off, none⟩) ∧ ∀ k, Rep C w G H U (.pointer (some ⟨b, off + k, none⟩)) (.d (.rp (cs.drop k))) := by
  cases h.dinv with
  | rp b off cs fv hf hm h =>
    refine ⟨b, off, rfl, fun k => .d _ _ (.rp b (off + k) (cs.drop k) (fun j => fv (k + j)) (fun i x hx => ?_) (fun j y hy => ?_) (fun j y hy => ?_))⟩
    · rw [List.getElem?_drop] at hx; exact hf _ x hx
    · rw [List.getElem?_drop] at hy; rw [Nat.add_assoc]; exact hm _ y hy
    · rw [List.getElem?_drop] at hy; exact h _ y hy

theorem good_nilCheck_rp (ok : T.Ok P) (hs : Sim C w G U S a) {o : Oper} {y : Operand} (ho : o.op = .nilCheck y) {cs : List DV} (h : ev T S 0 y = some (.d (.rp cs))) :
    Good C P w G U S ((execOp a.eval o).run P w) (some (.d (.rp cs))) S := by
  have hr := ev_ok ok hs h
  obtain ⟨b, off, he, _⟩ := rep_rp_drop hr
  exact Good.quiet hs (by simp [execOp, ho, he]) (he ▸ hr)
theorem good_nilCheck_ptr (ok : T.Ok P) (hs : Sim C w G U S a) {o : Oper} {y : Operand} (ho : o.op = .nilCheck y) {id : Id} {off : Nat} (h : ev T S 0 y = some (.ptr id off)) {cs : List AV} (hl : S.H.get id = some (.box cs)) :
    Good C P w G U S ((execOp a.eval o).run P w) (some (.ptr id off)) S := by
  have hr := ev_ok ok hs h
  obtain ⟨_, _, h3⟩ := rep_ptr hr
  obtain ⟨b, _, he⟩ := h3 cs hl
  exact Good.quiet hs (by simp [execOp, ho, he]) (he ▸ hr)

theorem rep_ptr_add {id : Id} {off : Nat} {v : Value} {H : Heap} {U : Id → Prop} (h : Rep C w G H U v (.ptr id off)) {cs : List AV} (hl : H.get id = some (.box cs)) :
    ∃ b, v = .pointer (some ⟨b, off, none⟩) ∧ ∀ k, Rep C w G H U (.pointer (some ⟨b, off + k, none⟩)) (.ptr id (off + k)) := by
  obtain ⟨_, h2, h3⟩ := rep_ptr h
  obtain ⟨b, hG, rfl⟩ := h3 cs hl
  exact ⟨b, rfl, fun k => .ptr _ _ _ rfl h2 fun cs' _ => ⟨b, hG, rfl⟩⟩

theorem run_field (ok : T.Ok P) {t : Nat} {fs : List Field} (h : fieldsOf T t = some fs) {i n : Nat} {f : Field} (hf : fs[i]? = some f) (hn : size T f.type = some n) (h0 : n ≠ 0) (b off : Nat) :
    (Instr.fieldAt t (.pointer (some ⟨b, off, none⟩)) i).run P w = .ok (.pointer (some ⟨b, off + f.offset, none⟩)) w := by
  obtain ⟨gs, hu, rfl⟩ := fieldsOf_ok ok h
  obtain ⟨hsz, _⟩ := size_ok ok hn w
  rw [Array.getElem?_toList] at hf
  simp [Instr.fieldAt, run_underlying hu, hf, Instr.sureAddr, fieldPlace, hsz, h0, addr_add]

theorem good_fieldAddr_ptr (ok : T.Ok P) (hs : Sim C w G U S a) {o : Oper} {t i n : Nat} {y : Operand} (ho : o.op = .fieldAddr t y i) {fs : List Field} {f : Field} (hfs : fieldsOf T t = some fs) (hf : fs[i]? = some f)
    (hn : size T f.type = some n) (h0 : n ≠ 0) {id : Id} {off : Nat} (h : ev T S 0 y = some (.ptr id off)) {cs : List AV} (hl : S.H.get id = some (.box cs)) :
    Good C P w G U S ((execOp a.eval o).run P w) (some (.ptr id (off + f.offset))) S := by
  obtain ⟨b, he, hr⟩ := rep_ptr_add (ev_ok ok hs h) hl
  exact Good.quiet hs (by simp [execOp, ho, he, run_field ok hfs hf hn h0]) (hr f.offset)
theorem good_fieldAddr_rp (ok : T.Ok P) (hs : Sim C w G U S a) {o : Oper} {t i n : Nat} {y : Operand} (ho : o.op = .fieldAddr t y i) {fs : List Field} {f : Field} (hfs : fieldsOf T t = some fs) (hf : fs[i]? = some f)
    (hn : size T f.type = some n) (h0 : n ≠ 0) {cs : List DV} (h : ev T S 0 y = some (.d (.rp cs))) :
    Good C P w G U S ((execOp a.eval o).run P w) (some (.d (.rp (cs.drop f.offset)))) S := by
  obtain ⟨b, off, he, hr⟩ := rep_rp_drop (ev_ok ok hs h)
  exact Good.quiet hs (by simp [execOp, ho, he, run_field ok hfs hf hn h0]) (hr f.offset)

theorem good_indexAddr_arr (ok : T.Ok P) (hs : Sim C w G U S a) {o : Oper} {t e sz : Nat} {y z : Operand} (ho : o.op = .indexAddr t y z) (hu : T.und t = some (.slice e)) (hsz : size T e = some sz)
    {id : Id} {off n : Nat} (h : ev T S 0 y = some (.arr id off n sz)) {k : IntKind} {i : Int} (hz : ev T S 0 z = some (.d (.int k i))) (h0 : 0 ≤ i) (h1 : i < n) {cs : List AV} (hl : S.H.get id = some (.box cs)) :
    Good C P w G U S ((execOp a.eval o).run P w) (some (.ptr id (off + i.toNat * sz))) S := by
  have hy := ev_ok ok hs h
  have hi := rep_int (ev_ok ok hs hz)
  obtain ⟨hsize, _⟩ := size_ok ok hsz w
  obtain ⟨b, c, hG, hnc, he, hg⟩ : ∃ b c, G id = some b ∧ n ≤ c ∧ a.eval y = .slice (some ⟨b, off, none⟩) n c ∧ U id := by
    generalize a.eval y = v at hy
    cases hy with
    | arr v id off n sz hv hg hm h =>
      obtain ⟨b, c, h1, h2, h3, _⟩ := h cs hl
      exact ⟨b, c, h1, h2, h3, hg⟩
  refine Good.quiet hs (v := .pointer (some ⟨b, off + i.toNat * sz, none⟩)) ?_ (.ptr _ _ _ rfl hg fun cs' _ => ⟨b, hG, rfl⟩)
  simp [execOp, ho, he, hi, Instr.indexAt, asIntOf, run_underlying (ok.und _ _ hu), h0, h1, hsize, addr_add]

theorem good_indexAddr_sl (ok : T.Ok P) (hs : Sim C w G U S a) {o : Oper} {t e sz : Nat} {y z : Operand} (ho : o.op = .indexAddr t y z) (hu : T.und t = some (.slice e)) (hsz : size T e = some sz)
    {x : AV} {xs : List DV} (h : ev T S 0 y = some x) (hx : elemsA x = some (sz, xs)) {k : IntKind} {i : Int} (hz : ev T S 0 z = some (.d (.int k i))) (h0 : 0 ≤ i) {u : DV} (hi : xs[i.toNat]? = some u) :
    Good C P w G U S ((execOp a.eval o).run P w) (some (.d (.rp u.cells))) S := by
  obtain ⟨A, c, he, hr⟩ := rep_elems (ev_ok ok hs h) hx
  have hii := rep_int (ev_ok ok hs hz)
  obtain ⟨hsize, _⟩ := size_ok ok hsz w
  have hlt : i.toNat < xs.length := (List.getElem?_eq_some_iff.1 hi).1
  rw [he] at hr
  cases hr with
  | sl A n c sz' xs' fv hl hc hm hm2 hh =>
    obtain ⟨hcl, b, off, hA, hcell⟩ := hm2 _ u hi
    have hru := hh _ u hi
    obtain ⟨hc1, hc2⟩ := hru.cells
    subst hA
    refine Good.quiet hs (v := .pointer (some ⟨b, off + i.toNat * sz, none⟩)) ?_ (.d _ _ (.rp b _ u.cells (fun j => (fv i.toNat).cells.getD j undef) (fun j y hy => (hc2 j y hy).1) (fun j y hy => ?_) (fun j y hy => ?_)))
    · have h1 : i < (xs.length : Int) := by omega
      simp [execOp, ho, he, hii, Instr.indexAt, asIntOf, run_underlying (ok.und _ _ hu), h0, h1, hsize, addr_add]
    · obtain ⟨_, v, hv, _⟩ := hc2 j y hy
      have := hcell j v hv
      simpa [hv] using this
    · obtain ⟨_, v, hv, hr⟩ := hc2 j y hy
      simpa [hv] using hr

theorem good_indexAddr_ptr (ok : T.Ok P) (hs : Sim C w G U S a) {o : Oper} {t e n sz : Nat} {y z : Operand} (ho : o.op = .indexAddr t y z) (hu : T.und t = some (.array n e)) (hsz : size T e = some sz)
    {id : Id} {off : Nat} (h : ev T S 0 y = some (.ptr id off)) {k : IntKind} {i : Int} (hz : ev T S 0 z = some (.d (.int k i))) (h0 : 0 ≤ i) (h1 : i < n) {cs : List AV} (hl : S.H.get id = some (.box cs)) :
    Good C P w G U S ((execOp a.eval o).run P w) (some (.ptr id (off + i.toNat * sz))) S := by
  obtain ⟨b, he, hr⟩ := rep_ptr_add (ev_ok ok hs h) hl
  have hii := rep_int (ev_ok ok hs hz)
  obtain ⟨hsize, _⟩ := size_ok ok hsz w
  refine Good.quiet hs ?_ (hr (i.toNat * sz))
  simp [execOp, ho, he, hii, Instr.indexAt, asIntOf, run_underlying (ok.und _ _ hu), h0, h1, hsize, addr_add, Instr.sureAddr]
theorem good_indexAddr_rp (ok : T.Ok P) (hs : Sim C w G U S a) {o : Oper} {t e n sz : Nat} {y z : Operand} (ho : o.op = .indexAddr t y z) (hu : T.und t = some (.array n e)) (hsz : size T e = some sz)
    {cs : List DV} (h : ev T S 0 y = some (.d (.rp cs))) {k : IntKind} {i : Int} (hz : ev T S 0 z = some (.d (.int k i))) (h0 : 0 ≤ i) (h1 : i < n) :
    Good C P w G U S ((execOp a.eval o).run P w) (some (.d (.rp (cs.drop (i.toNat * sz))))) S := by
  obtain ⟨b, off, he, hr⟩ := rep_rp_drop (ev_ok ok hs h)
  have hii := rep_int (ev_ok ok hs hz)
  obtain ⟨hsize, _⟩ := size_ok ok hsz w
  refine Good.quiet hs ?_ (hr (i.toNat * sz))
  simp [execOp, ho, he, hii, Instr.indexAt, asIntOf, run_underlying (ok.und _ _ hu), h0, h1, hsize, addr_add, Instr.sureAddr]

theorem good_index_str (ok : T.Ok P) (hs : Sim C w G U S a) {o : Oper} {t : Nat} {y z : Operand} (ho : o.op = .index t y z) (hu : T.und t = some .string)
    {s : List UInt8} (h : ev T S 0 y = some (.d (.str s))) {k : IntKind} {i : Int} (hz : ev T S 0 z = some (.d (.int k i))) (h0 : 0 ≤ i) {b : UInt8} (hb : s[i.toNat]? = some b) :
    Good C P w G U S ((execOp a.eval o).run P w) (some (.d (.int .u8 (b.toNat : Int)))) S := by
  obtain ⟨u, he, rfl⟩ := rep_str (ev_ok ok hs h)
  have hii := rep_int (ev_ok ok hs hz)
  refine Good.quiet hs (v := .int .u8 (b.toNat : Int)) ?_ (.d _ _ (.int _ _))
  have hb' : u[i.toNat]? = some b := by
    rw [← hb, Array.getElem?_toList]
    by_cases hlt : i.toNat < u.size
    · rw [getElem?_pos u i.toNat hlt, getElem?_pos u.data i.toNat hlt]; rfl
    · rw [getElem?_neg u i.toNat hlt, getElem?_neg u.data i.toNat hlt]
  simp [execOp, ho, he, hii, Instr.index, asIntOf, run_underlying (ok.und _ _ hu), h0, hb']

theorem part_ok (ok : T.Ok P) {t : Nat} {vs : Array Value} {cs : List AV} {H : Heap} {U : Id → Prop} {off : Nat} (hl : vs.size = cs.length) (h : ∀ (j : Nat) y, cs[j]? = some y → y.leaf = true ∧ ∃ u, vs[j]? = some u ∧ Rep C w G H U u y)
    {x : AV} (hx : mkVar T t (cs.drop off) = some x) : ∃ v, (Go.part t vs off).run P w = .ok v w ∧ Rep C w G H U v x := by
  unfold mkVar at hx
  cases ha : isAgg T t with
  | none => rw [ha] at hx; simp at hx
  | some q =>
    cases hsz : size T t with
    | none => rw [ha, hsz] at hx; cases q <;> simp at hx
    | some n =>
      have hra := isAgg_ok ok ha w
      obtain ⟨hrs, _⟩ := size_ok ok hsz w
      rw [ha, hsz] at hx
      cases q with
      | true =>
        simp only at hx
        by_cases hn : n ≤ (cs.drop off).length
        · rw [if_pos hn] at hx
          injection hx with hx
          subst hx
          rw [List.length_drop] at hn
          refine ⟨.agg (vs.extract off (off + n)), by simp [Go.part, hra, hrs], rep_mkAgg (by simp; omega) (fun j y hy => ?_)⟩
          have hj : j < n := by
            have := (List.getElem?_eq_some_iff.1 hy).1
            simp at this; omega
          rw [List.getElem?_take, if_pos hj, List.getElem?_drop] at hy
          obtain ⟨h3, u, h4, h5⟩ := h _ y hy
          refine ⟨h3, u, ?_, h5⟩
          rw [Array.getElem?_extract, if_pos (by omega)]
          exact h4
        · rw [if_neg hn] at hx; cases hx
      | false =>
        simp only at hx
        split at hx
        case isFalse => cases hx
        cases hcs : cs.drop off with
        | nil => rw [hcs] at hx; simp at hx
        | cons y r =>
          rw [hcs] at hx
          simp only [List.head?_cons, Option.some.injEq] at hx
          subst hx
          obtain ⟨h3, u, h4, h5⟩ := h off y (by
            have : (cs.drop off)[0]? = some y := by rw [hcs]; rfl
            simpa using this)
          exact ⟨u, by simp [Go.part, hra, h4], h5⟩

theorem rep_aggCells {v : Value} {x : AV} {H : Heap} {U : Id → Prop} (h : Rep C w G H U v x) {cs : List AV} (hx : aggCells x = some cs) :
    ∃ vs, v = .agg vs ∧ vs.size = cs.length ∧ ∀ (j : Nat) y, cs[j]? = some y → y.leaf = true ∧ ∃ u, vs[j]? = some u ∧ Rep C w G H U u y := by
  have hc := h.cells (fun xs e => by subst e; simp [aggCells] at hx)
  cases h with
  | agg vs ds hl hf hh =>
    simp only [aggCells, Option.some.injEq] at hx
    subst hx
    exact ⟨vs, rfl, hc.1, hc.2⟩
  | d v x h =>
    cases h with
    | agg vs ds hl hf hh =>
      simp only [aggCells, Option.some.injEq] at hx
      subst hx
      exact ⟨vs, rfl, hc.1, hc.2⟩
    | _ => simp [aggCells] at hx
  | _ => simp [aggCells] at hx

theorem good_field (ok : T.Ok P) (hs : Sim C w G U S a) {o : Oper} {t i : Nat} {y : Operand} (ho : o.op = .field t y i) {fs : List Field} {f : Field} (hfs : fieldsOf T t = some fs) (hf : fs[i]? = some f)
    {x z : AV} {cs : List AV} (h : ev T S 0 y = some x) (hx : aggCells x = some cs) (hz : mkVar T f.type (cs.drop f.offset) = some z) :
    Good C P w G U S ((execOp a.eval o).run P w) (some z) S := by
  obtain ⟨vs, he, h1, h2⟩ := rep_aggCells (ev_ok ok hs h) hx
  obtain ⟨v, hv, hrep⟩ := part_ok ok (t := f.type) (off := f.offset) (vs := vs) h1 h2 hz
  obtain ⟨gs, hu, rfl⟩ := fieldsOf_ok ok hfs
  rw [Array.getElem?_toList] at hf
  exact Good.quiet hs (by simp [execOp, ho, he, Instr.field, run_underlying hu, hf, asAgg, hv]) hrep
theorem good_index_agg (ok : T.Ok P) (hs : Sim C w G U S a) {o : Oper} {t e n sz : Nat} {y z : Operand} (ho : o.op = .index t y z) (hu : T.und t = some (.array n e)) (hsz : size T e = some sz)
    {x r : AV} {cs : List AV} (h : ev T S 0 y = some x) (hx : aggCells x = some cs) {k : IntKind} {i : Int} (hz : ev T S 0 z = some (.d (.int k i))) (h0 : 0 ≤ i) (h1 : i < n)
    (hr : mkVar T e (cs.drop (i.toNat * sz)) = some r) : Good C P w G U S ((execOp a.eval o).run P w) (some r) S := by
  obtain ⟨vs, he, h2, h3⟩ := rep_aggCells (ev_ok ok hs h) hx
  have hii := rep_int (ev_ok ok hs hz)
  obtain ⟨hsize, _⟩ := size_ok ok hsz w
  obtain ⟨v, hv, hrep⟩ := part_ok ok (t := e) (off := i.toNat * sz) (vs := vs) h2 h3 hr
  exact Good.quiet hs (by simp [execOp, ho, he, hii, Instr.index, asIntOf, run_underlying (ok.und _ _ hu), h0, h1, hsize, hv]) hrep
end
end Go.Proofs.Ytfcfifohflgboaa.Am
