/- Each operation, one by one. -/
import Derived.Test.YtfcfifohflgboaaAmOps
import Derived.Laws.Pointers
set_option linter.unusedVariables false
set_option linter.unusedSimpArgs false
namespace Go.Proofs.Ytfcfifohflgboaa.Am
open Go Go.RowKit

def Good (C : Ctx) (P : Program) (w : World) (G : Gh) (U : Id → Prop) (S : St) (r : Result Next) (x : Option AV) (S' : St) : Prop :=
  ∃ nx w' G' U', r = .ok nx w' ∧ Ext C w G S.H U w' G' S'.H U' ∧ HeapRel C w' G' S'.H U' ∧ (S'.T = S.T ∧ Fr U' S'.g ∧ ∀ i, U' i → U i ∨ S.g <:+ i.g) ∧
    match x, nx with
    | some y, .value v => Rep C w' G' S'.H U' v y
    | none, .skip => True
    | _, _ => False

section
variable {C : Ctx} {w w' : World} {G G' : Gh} {P : Program} {T : Tab} {S S' : St} {a : Act} {U : Id → Prop}

theorem Good.quiet (hs : Sim C w G U S a) {r : Result Next} {v : Value} {x : AV} (hr : r = .ok (.value v) w) (hx : Rep C w G S.H U v x) : Good C P w G U S r (some x) S :=
  ⟨_, w, G, U, hr, Ext.refl _ _ _ _ _, hs.heap, ⟨rfl, hs.fr, fun i h => .inl h⟩, hx⟩

theorem rep_int {k : IntKind} {n : Int} {v : Value} {H : Heap} {U : Id → Prop} (h : Rep C w G H U v (.d (.int k n))) : v = .int k n := by cases h.dinv; rfl
theorem rep_bool {b : Bool} {v : Value} {H : Heap} {U : Id → Prop} (h : Rep C w G H U v (.d (.bool b))) : v = .bool b := by cases h.dinv; rfl
theorem rep_str {s : List UInt8} {v : Value} {H : Heap} {U : Id → Prop} (h : Rep C w G H U v (.d (.str s))) : ∃ t : ByteArray, v = .string t ∧ t.data.toList = s := by cases h.dinv; exact ⟨_, rfl, rfl⟩
theorem rep_tup {xs : List AV} {v : Value} {H : Heap} {U : Id → Prop} (h : Rep C w G H U v (.tup xs)) : ∃ vs : Array Value, v = .tuple vs ∧ vs.size = xs.length ∧ ∀ (i : Nat) x, xs[i]? = some x → ∃ u, vs[i]? = some u ∧ Rep C w G H U u x := by
  cases h with
  | tup vs xs hl hf h =>
    refine ⟨vs, rfl, hl, fun i x hx => ?_⟩
    have hi : i < vs.size := by
      have := (List.getElem?_eq_some_iff.1 hx).1
      omega
    exact ⟨vs[i], Array.getElem?_eq_getElem hi, h i _ x (Array.getElem?_eq_getElem hi) hx⟩
theorem rep_elems {v : Value} {x : AV} {H : Heap} {U : Id → Prop} (h : Rep C w G H U v x) {sz : Nat} {xs : List DV} (he : elemsA x = some (sz, xs)) : ∃ A c, v = .slice A xs.length c ∧ RepD w (Fz C G H) v (.sl sz xs) := by
  cases h with
  | d v x h =>
    cases h with
    | sl A n c sz' xs' fv hl hc hm hm2 h =>
      simp only [elemsA] at he
      injection he with he
      injection he with h1 h2
      subst h1; subst h2; subst hl
      exact ⟨A, c, rfl, .sl A _ c sz' xs' fv rfl hc hm hm2 h⟩
    | nils _ c sz' hv =>
      subst hv
      simp only [elemsA] at he
      injection he with he
      injection he with h1 h2
      subst h1; subst h2
      exact ⟨none, c, rfl, .sl none 0 c _ [] (fun _ => undef) rfl (Nat.zero_le _) (by omega) (fun i x hx => by simp at hx) (fun i x hx => by simp at hx)⟩
    | emps _ q c sz' hv =>
      subst hv
      simp only [elemsA] at he
      injection he with he
      injection he with h1 h2
      subst h1; subst h2
      exact ⟨some q, c, rfl, .sl (some q) 0 c _ [] (fun _ => undef) rfl (Nat.zero_le _) (by omega) (fun i x hx => by simp at hx) (fun i x hx => by simp at hx)⟩
    | _ => simp [elemsA] at he
  | own A n c sz' xs' tok h ht =>
    simp only [elemsA] at he
    injection he with he
    injection he with h1 h2
    subst h1; subst h2
    have hl : xs'.length = n := by cases h; assumption
    subst hl
    exact ⟨A, c, rfl, h⟩
  | _ => simp [elemsA] at he

theorem good_move (ok : T.Ok P) (hs : Sim C w G U S a) {o : Oper} {y : Operand} (ho : o.op = .move y ∨ o.op = .assign y) {t : Nat} {x : AV} (h : ev T S t y = some x) :
    Good C P w G U S ((execOp a.eval o).run P w) (some x) S :=
  Good.quiet hs (by rcases ho with ho | ho <;> simp [execOp, ho]) (ev_ok ok hs h)

theorem good_pick (ok : T.Ok P) (hs : Sim C w G U S a) {o : Oper} {c y z : Operand} (ho : o.op = .pick c y z) {b : Bool} (hc : ev T S 0 c = some (.d (.bool b))) {t : Nat} {x : AV}
    (h : ev T S t (if b then y else z) = some x) : Good C P w G U S ((execOp a.eval o).run P w) (some x) S := by
  have hb := rep_bool (ev_ok ok hs hc)
  cases b with
  | true => exact Good.quiet hs (by simp [execOp, ho, hb, asBool]) (ev_ok ok hs h)
  | false => exact Good.quiet hs (by simp [execOp, ho, hb, asBool]) (ev_ok ok hs h)

theorem newBox_ok (hs : Sim C w G U S a) (d dst : Nat) (cs : List AV) (arr : Array Value) (te : TypeId) (hl : cs.length ≤ arr.size)
    (hc : ∀ (j : Nat) y, cs[j]? = some y → y.leaf = true ∧ ∃ u, arr[j]? = some u ∧ Rep C w G S.H U u y) {r : Result Next}
    (hr : r = .ok (.value (.pointer (some ⟨w.heap.size, 0, none⟩))) (w.alloc (.cells arr te))) :
    Good C P w G U S r (some (newBox d dst S cs).1) (newBox d dst S cs).2 := by
  refine ⟨_, _, _, _, hr, Ext.newBox hs.heap (id := ⟨d, dst, 0 :: S.g⟩) (hs.fr.not d dst) arr te (0, 0), hs.heap.newBox (hs.fr.not d dst) arr te cs hl hc, ⟨rfl, hs.fr.add d dst, fun i hi => ?_⟩, ?_⟩
  · rcases hi with hi | rfl
    · exact .inl hi
    · exact .inr (List.suffix_cons 0 S.g)
  · exact .ptr _ _ _ rfl (.inr rfl) (fun cs' h => ⟨w.heap.size, by simp [setG], rfl⟩)

theorem good_alloc (ok : T.Ok P) (hs : Sim C w G U S a) {o : Oper} {e : Nat} (ho : o.op = .alloc e) {n b : Nat} {z : List AV} (h : T.inf e = some (n, b, z)) (d dst : Nat) :
    Good C P w G U S ((execOp a.eval o).run P w) (some (newBox d dst S z).1) (newBox d dst S z).2 := by
  obtain ⟨i, zv, h1, h2, h3, h4, h5, h6, h7⟩ := ok.inf e n b z h
  refine newBox_ok hs d dst z zv.cells e (by omega) (fun j y hy => ?_) ?_
  · obtain ⟨u, hu, hr⟩ := h7 j y hy
    exact ⟨hr.leaf, u, hu, hr.rep⟩
  · simp [execOp, ho, Instr.alloc, zeroValue, typeInfo, h1, h4, newVar, newRow]

theorem good_box (ok : T.Ok P) (hs : Sim C w G U S a) {o : Oper} {e : Nat} {y : Operand} (ho : o.op = .box e y) {t : Nat} {x : AV} (h : ev T S t y = some x) (hx : ∀ xs, x ≠ .tup xs) (d dst : Nat) :
    Good C P w G U S ((execOp a.eval o).run P w) (some (newBox d dst S x.cells).1) (newBox d dst S x.cells).2 := by
  obtain ⟨h1, h2⟩ := (ev_ok ok hs h).cells hx
  refine newBox_ok hs d dst x.cells (a.eval y).cells e (by omega) h2 ?_
  simp [execOp, ho, Instr.box, newVar, newRow]

theorem good_load (ok : T.Ok P) (hs : Sim C w G U S a) {o : Oper} {t : Nat} {y : Operand} (ho : o.op = .load t y) {p x : AV} {cs : List AV} {t' : Nat} (h : ev T S t' y = some p) (hb : behind S p = some cs)
    (hx : mkVar T t cs = some x) : Good C P w G U S ((execOp a.eval o).run P w) (some x) S := by
  obtain ⟨b, off, he, hc⟩ := behind_ok hs.heap (ev_ok ok hs h) hb
  obtain ⟨v, hv, hr, _⟩ := loadVar_ok ok (C := C) (w := w) (G := G) (H := S.H) (U := U) ⟨b, off, rfl, hc⟩ hx
  exact Good.quiet hs (by simp [execOp, ho, Instr.loadAt, Instr.sureAddr, he, hv]) hr

theorem setCells_get (cs xs : List AV) (off j : Nat) (h : off + xs.length ≤ cs.length) : (setCells cs off xs)[j]? = if off ≤ j ∧ j < off + xs.length then xs[j - off]? else cs[j]? := by
  unfold setCells
  have h1 : (cs.take off).length = off := by simp; omega
  by_cases h2 : j < off
  · rw [if_neg (by omega), List.append_assoc, List.getElem?_append_left (by omega), List.getElem?_take, if_pos h2]
  · by_cases h3 : j < off + xs.length
    · rw [if_pos (by omega), List.append_assoc, List.getElem?_append_right (by omega), h1, List.getElem?_append_left (by omega)]
    · rw [if_neg (by omega), List.getElem?_append_right (by simp; omega), List.getElem?_drop]
      congr 1
      simp; omega
theorem setCells_len (cs xs : List AV) (off : Nat) (h : off + xs.length ≤ cs.length) : (setCells cs off xs).length = cs.length := by
  simp [setCells]; omega

theorem leaf_one {v : Value} (h : leafV v = true) : v.oneCell' = true := by cases v <;> first | rfl | simp [Am.leafV] at h

theorem good_store (ok : T.Ok P) (hs : Sim C w G U S a) {o : Oper} {t : Nat} {y z : Operand} (ho : o.op = .store t y z) {id : Id} {off n : Nat} {x : AV} {cs : List AV} {t1 t2 : Nat} (h : ev T S t1 y = some (.ptr id off))
    (hz : ev T S t2 z = some x) (hx : ∀ xs, x ≠ .tup xs) (hn : size T t = some n) (hid : S.H.get id = some (.box cs)) (hl : x.cells.length = n) (hle : off + n ≤ cs.length) :
    Good C P w G U S ((execOp a.eval o).run P w) none { S with H := S.H.put id (.box (setCells cs off x.cells)) } := by
  have hp := ev_ok ok hs h
  obtain ⟨b, hG, he⟩ : ∃ b, G id = some b ∧ a.eval y = .pointer (some ⟨b, off, none⟩) := by
    generalize a.eval y = v at hp
    cases hp with
    | ptr v id off hv hg h => exact h cs hid
  obtain ⟨b', arr, te, zz, h1, h2, h3, h4, h5, h6⟩ := hs.heap.box id cs hid
  rw [hG] at h1; injection h1 with h1; subst h1
  obtain ⟨hc1, hc2⟩ := (ev_ok ok hs hz).cells hx
  generalize hev : a.eval z = v at hc1 hc2
  have hvl : ∀ u ∈ v.cells.toList, u.oneCell' = true := fun u hu => by
    obtain ⟨j, hj, rfl⟩ := List.getElem_of_mem hu
    have hj' : j < x.cells.length := by simpa [hc1] using hj
    obtain ⟨h7, u', h8, h9⟩ := hc2 j x.cells[j] (List.getElem?_eq_getElem hj')
    have : v.cells.toList[j] = u' := by
      have : v.cells[j]? = some v.cells.toList[j] := by
        simp at hj ⊢
      rw [h8] at this; injection this with this; exact this.symm
    rw [this]
    exact leaf_one (h9.leafV h7)
  have hlen : v.cells.toList.length = n := by simp [hc1, hl]
  have hrun := run_storeCells_cells (P := P) b off v.cells.toList 0 w (fun j hj => by
      rw [Nat.add_zero, cell_blk h3]
      have : off + j < arr.size := by omega
      simp [this]) (fun j hj => h4 _ (by omega)) hvl
  simp only [Nat.add_zero] at hrun
  obtain ⟨hsz, _⟩ := size_ok ok hn w
  have hk : (∃ cs0 cs', Place.box cs = .box cs0 ∧ Place.box (setCells cs off x.cells) = .box cs' ∧ cs0.length = cs'.length) ∨ ∃ n n', Place.box cs = .grow n ∧ Place.box (setCells cs off x.cells) = .grow n' ∧ n ≤ off ∧ n ≤ n' := .inl ⟨_, _, rfl, rfl, (setCells_len _ _ _ (by omega)).symm⟩
  refine ⟨.skip, w.setCells b off v.cells.toList, G, U, ?_, Ext.write hs.heap hid hG off _ hk, hs.heap.write hid hG off _ hk (fun arr' te' z' hh => ?_), ⟨rfl, hs.fr, fun i h => .inl h⟩, trivial⟩
  · have hvs : v.cells.size = n := by omega
    simp [execOp, ho, Instr.storeAt, Instr.sureAddr, he, storeVar, hsz, hrun, hev, hvs]
  · rw [h3] at hh
    injection hh with hh
    injection hh with hh
    subst hh
    refine ⟨by rw [setCells_len _ _ _ (by omega)]; exact h5, fun j y hy => ?_⟩
    rw [setCells_get _ _ _ _ (by omega)] at hy
    rw [setArr_get _ _ _ _ (by omega)]
    by_cases hj : off ≤ j ∧ j < off + x.cells.length
    · rw [if_pos hj] at hy
      rw [if_pos (by omega)]
      obtain ⟨h7, u, h8, h9⟩ := hc2 _ y hy
      exact ⟨h7, u, by rw [Array.getElem?_toList]; exact h8, h9⟩
    · rw [if_neg hj] at hy
      rw [if_neg (by omega)]
      exact h6 j y hy
end
end Go.Proofs.Ytfcfifohflgboaa.Am
