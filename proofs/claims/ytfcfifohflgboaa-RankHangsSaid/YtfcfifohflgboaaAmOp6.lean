/- Each operation, one by one: texts, cuts, built-in functions, append. -/
import Derived.Test.YtfcfifohflgboaaAmOp5
import Derived.Laws.Append
import Derived.Laws.AppendOwn
import Derived.Laws.IdiomStrings
import Derived.Laws.MakeOwn
set_option linter.unusedVariables false
set_option linter.unusedSimpArgs false
namespace Go.Proofs.Ytfcfifohflgboaa.Am
open Go Go.RowKit

section
variable {C : Ctx} {w w' : World} {G G' : Gh} {P : Program} {T : Tab} {S S' : St} {a : Act} {H : Heap} {U : Id → Prop}

theorem good_neg (ok : T.Ok P) (hs : Sim C w G U S a) {o : Oper} {t t1 : Nat} {y : Operand} (ho : o.op = .unOp .neg t y) {k : IntKind} {n : Int} (h : ev T S t1 y = some (.d (.int k n))) :
    Good C P w G U S ((execOp a.eval o).run P w) (some (.d (.int k (k.wrap (0 - n))))) S := by
  have e := rep_int (ev_ok ok hs h)
  exact Good.quiet hs (by simp [execOp, ho, e, Op.unary, Op.intArith]) (.d _ _ (.int _ _))
theorem good_not (ok : T.Ok P) (hs : Sim C w G U S a) {o : Oper} {t t1 : Nat} {y : Operand} (ho : o.op = .unOp .not t y) {b : Bool} (h : ev T S t1 y = some (.d (.bool b))) :
    Good C P w G U S ((execOp a.eval o).run P w) (some (.d (.bool (!b)))) S := by
  have e := rep_bool (ev_ok ok hs h)
  exact Good.quiet hs (by simp [execOp, ho, e, Op.unary]) (.d _ _ (.bool _))
theorem good_convInt (ok : T.Ok P) (hs : Sim C w G U S a) {o : Oper} {s t t1 : Nat} {y : Operand} (ho : o.op = .convert s t y) {j k k' : IntKind} {n : Int} (hs1 : T.und s = some (.int j)) (ht : T.und t = some (.int k))
    (h : ev T S t1 y = some (.d (.int k' n))) : Good C P w G U S ((execOp a.eval o).run P w) (some (.d (.int k (k.wrap n)))) S := by
  have e := rep_int (ev_ok ok hs h)
  exact Good.quiet hs (by simp [execOp, ho, e, convert, run_underlying (ok.und _ _ hs1), run_underlying (ok.und _ _ ht), Conv.intToInt]) (.d _ _ (.int _ _))
theorem good_convStr (ok : T.Ok P) (hs : Sim C w G U S a) {o : Oper} {s t t1 : Nat} {y : Operand} (ho : o.op = .convert s t y) {x : List UInt8} (hs1 : T.und s = some .string) (ht : T.und t = some .string)
    (h : ev T S t1 y = some (.d (.str x))) : Good C P w G U S ((execOp a.eval o).run P w) (some (.d (.str x))) S := by
  have hr := ev_ok ok hs h
  obtain ⟨q, e, _⟩ := rep_str hr
  exact Good.quiet hs (by simp [execOp, ho, e, convert, run_underlying (ok.und _ _ hs1), run_underlying (ok.und _ _ ht)]) (e ▸ hr)
theorem rep_arr0 {id : Id} {off n sz : Nat} {v : Value} {H : Heap} {U : Id → Prop} (h : Rep C w G H U v (.arr id off n sz)) : U id ∧ n ≤ 9223372036854775807 ∧ ∀ cs, H.get id = some (.box cs) → ∃ b c, G id = some b ∧ n ≤ c ∧ v = .slice (some ⟨b, off, none⟩) n c := by
  cases h with
  | arr v id off n sz hv hg hm h => exact ⟨hg, hm, fun cs hc => by obtain ⟨b, c, h1, h2, h3, _⟩ := h cs hc; exact ⟨b, c, h1, h2, h3⟩⟩
theorem newArr_ok (hs : Sim C w G U S a) (d dst : Nat) (cs : List AV) (arr : Array Value) (te : TypeId) (z : Nat × Nat) (hz : ∀ o, o < arr.size → ¬ (z.1 ≤ o ∧ o < z.2)) (hl : cs.length ≤ arr.size) {w0 : World} (hw : HeapRel C w0 G S.H U) (he : Ext C w G S.H U w0 G S.H U)
    (hc : ∀ (j : Nat) y, cs[j]? = some y → y.leaf = true ∧ ∃ u, arr[j]? = some u ∧ Rep C w0 G S.H U u y) {n sz c : Nat} (hn : n ≤ 9223372036854775807) (hnc : n ≤ c) (hcl : cs.length ≤ c * sz) (hca : c * sz ≤ arr.size) {r : Result Next}
    (hr : r = .ok (.value (.slice (some ⟨w0.heap.size, 0, none⟩) n c)) (w0.alloc (.cells arr te z))) :
    Good C P w G U S r (some (newArr d dst S cs n sz).1) (newArr d dst S cs n sz).2 := by
  refine ⟨_, _, _, _, hr, he.trans (Ext.newBox hw (id := ⟨d, dst, 0 :: S.g⟩) (p := .box cs) (hs.fr.not d dst) arr te z), hw.newBoxZ (hs.fr.not d dst) arr te z hz cs hl hc, ⟨rfl, hs.fr.add d dst, fun i hi => ?_⟩, ?_⟩
  · rcases hi with hi | rfl
    · exact .inl hi
    · exact .inr (List.suffix_cons 0 S.g)
  · exact .arr _ _ _ _ _ rfl (.inr rfl) hn (fun cs' h => ⟨w0.heap.size, c, by simp [setG], hnc, rfl, by
      simp only [newArr, Heap.get, if_true, Option.some.injEq, Place.box.injEq] at h
      subst h; omega, arr, te, z, heap_alloc_new w0 _, by omega⟩)
theorem good_convBytes (ok : T.Ok P) (hs : Sim C w G U S a) {o : Oper} {s t t1 e : Nat} {y : Operand} (ho : o.op = .convert s t y) {x : List UInt8} (hs1 : T.und s = some .string) (ht : T.und t = some (.slice e)) (d dst : Nat)
    (h : ev T S t1 y = some (.d (.str x))) {q : AV × St} (hq : convS T d dst S e x = some q) : Good C P w G U S ((execOp a.eval o).run P w) (some q.1) q.2 := by
  have hr := ev_ok ok hs h
  obtain ⟨b, e1, rfl⟩ := rep_str hr
  unfold convS at hq
  split at hq
  · rename_i he
    split at hq
    · rename_i hlen
      injection hq with hq
      subst hq
      have hd : HeapRel C w.drew G S.H U := hs.heap.grown ((Below.refl _ _).drew)
      have hde : Ext C w G S.H U w.drew G S.H U := Ext.grown hs.heap ((Below.refl _ _).drew)
      have hcap := grownCap_ge w b.size 0 e
      refine newArr_ok hs d dst _ (bytesRow b (grownCap w b.size 0 e)) e ((bytesRow b (grownCap w b.size 0 e)).size, (bytesRow b (grownCap w b.size 0 e)).size + 1) (fun o ho hh => by simp only at hh; omega) ?_ hd hde (fun j y hy => ?_) hlen (c := grownCap w b.size 0 e) ?_ ?_ ?_ ?_
      · simp [bytesAV, bytesRow]
      · simp only [bytesAV, List.getElem?_map, Option.map_eq_some_iff] at hy
        obtain ⟨z, hz, rfl⟩ := hy
        have hj : j < b.data.size := by
          have := (List.getElem?_eq_some_iff.1 hz).1
          simpa using this
        refine ⟨rfl, _, bytesRow_at b _ j hj, ?_⟩
        have hz' : b.data[j] = z := by
          have h0 : b.data.toList[j]? = some b.data[j] := by rw [List.getElem?_eq_getElem (by simpa using hj)]; simp
          rw [h0] at hz
          injection hz
        rw [hz']
        exact .d _ _ (.int _ _)
      · simpa using hcap
      · simpa [bytesAV] using hcap
      · simp [bytesRow]; omega
      · have hrun := run_bytes_of_string (P := P) w s t e b (ok.und _ _ hs1) (ok.und _ _ ht) (ok.und _ _ he)
        simp only [execOp, ho, e1]
        simp [hrun]
    · cases hq
  · cases hq
theorem strD_ok : ∀ (xs : List DV) (s : List UInt8), strD xs = some s → xs.length = s.length ∧ ∀ j (hj : j < s.length), xs[j]? = some (.int .u8 (s[j].toNat : Int))
  | [], s, h => by simp only [strD, Option.some.injEq] at h; subst h; exact ⟨rfl, fun j hj => by simp at hj⟩
  | .int .u8 n :: r, s, h => by
    simp only [strD] at h
    split at h
    · rename_i hn
      cases hr : strD r with
      | none => rw [hr] at h; cases h
      | some q =>
        rw [hr] at h
        injection h with h
        subst h
        obtain ⟨h1, h2⟩ := strD_ok r q hr
        refine ⟨by simp [h1], fun j hj => ?_⟩
        cases j with
        | zero =>
          have : ((UInt8.ofNat n.toNat).toNat : Int) = n := by
            rw [UInt8.toNat_ofNat']
            omega
          show some (DV.int .u8 n) = some (DV.int .u8 ((UInt8.ofNat n.toNat).toNat : Int))
          rw [this]
        | succ j => simpa using h2 j (by simpa using hj)
    · cases h
  | .int .u16 n :: r, s, h | .int .u32 n :: r, s, h | .int .u64 n :: r, s, h | .int .i8 n :: r, s, h | .int .i16 n :: r, s, h | .int .i32 n :: r, s, h | .int .i64 n :: r, s, h => by simp [strD] at h
  | .bool _ :: r, s, h | .str _ :: r, s, h | .agg _ :: r, s, h | .sl _ _ :: r, s, h | .rp _ :: r, s, h | .fn _ _ :: r, s, h => by simp [strD] at h
theorem plainD_ok : ∀ (cs : List AV) (ds : List DV), plainD cs = some ds → cs = ds.map .d
  | [], ds, h => by simp only [plainD, Option.some.injEq] at h; subst h; rfl
  | .d x :: r, ds, h => by
    simp only [plainD] at h
    cases hr : plainD r with
    | none => rw [hr] at h; cases h
    | some s =>
      rw [hr] at h
      injection h with h
      subst h
      rw [plainD_ok r s hr]
      rfl
  | .own .. :: r, ds, h | .ptr .. :: r, ds, h | .arr .. :: r, ds, h | .fn .. :: r, ds, h | .agg .. :: r, ds, h | .tup .. :: r, ds, h => by simp [plainD] at h
theorem good_convBack (ok : T.Ok P) (hs : Sim C w G U S a) {o : Oper} {s t t1 e : Nat} {y : Operand} (ho : o.op = .convert s t y) (hs1 : T.und s = some (.slice e)) (ht : T.und t = some .string)
    {p q : AV} (h : ev T S t1 y = some p) (hq : convB T S e p = some q) : Good C P w G U S ((execOp a.eval o).run P w) (some q) S := by
  have hr := ev_ok ok hs h
  unfold convB at hq
  split at hq
  · rename_i he
    cases hst : strA S p with
    | none => rw [hst] at hq; cases hq
    | some l =>
      rw [hst] at hq
      injection hq with hq
      subst hq
      have key : ∀ (b off c : Nat), (∀ j (hj : j < l.length), w.cell? ⟨b, off + j, none⟩ = some (.int .u8 (l[j].toNat : Int))) → a.eval y = .slice (some ⟨b, off, none⟩) l.length c → Good C P w G U S ((execOp a.eval o).run P w) (some (.d (.str l))) S := fun b off c hc e1 => by
        refine Good.quiet hs (v := .string ⟨l.toArray⟩) ?_ (.d _ _ ?_)
        · have hrun := run_convert_bytes_back (P := P) w s t e ⟨b, off, none⟩ c l (ok.und _ _ hs1) (ok.und _ _ he) (ok.und _ _ ht) (fun j hj => by rw [addr_add]; exact hc j hj)
          simp [execOp, ho, e1, hrun]
        · have := RepD.str (w := w) (F := Fz C G S.H) ⟨l.toArray⟩
          simpa using this
      unfold strA at hst
      split at hst
      · rename_i id off n sz
        obtain ⟨h1, h2, h3⟩ := rep_arr0 hr
        split at hst
        · rename_i cs hid
          split at hst
          · rename_i hc
            obtain ⟨b, c, hG, hnc, e1⟩ := h3 cs hid
            split at hst
            · rename_i ds hds
              obtain ⟨h4, h5⟩ := strD_ok ds l hst
              have h6 := plainD_ok _ _ hds
              obtain ⟨b', arr, te, z, hb1, hb2, hb3, hb4, hb5, hb6⟩ := hs.heap.box id cs hid
              rw [hG] at hb1
              injection hb1 with hb1
              subst hb1
              have hn : n = l.length := by
                have := congrArg List.length h6
                simp at this; omega
              subst hn
              refine key b off c (fun j hj => ?_) e1
              have h7 := h5 j hj
              have h8 : ((cs.drop off).take l.length)[j]? = some (.d (.int .u8 (l[j].toNat : Int))) := by rw [h6]; simp [h7]
              rw [List.getElem?_take, if_pos hj, List.getElem?_drop] at h8
              obtain ⟨_, u, hu1, hu2⟩ := hb6 _ _ h8
              rw [rep_int hu2] at hu1
              rw [cell_blk hb3]
              exact hu1
            · cases hst
          · cases hst
        · cases hst
      · split at hst
        · rename_i sz xs hel
          split at hst
          · rename_i hsz
            subst hsz
            obtain ⟨A, c, e1, hrd⟩ := rep_elems hr hel
            obtain ⟨h4, h5⟩ := strD_ok xs l hst
            rw [e1] at hrd
            cases hrd with
            | sl A n c sz xs fv hl hc hm hm2 hh =>
              cases l with
              | nil =>
                cases A with
                | none =>
                  have hx : xs.length = 0 := by simpa using h4
                  rw [hx] at e1
                  refine Good.quiet hs (v := .string .empty) ?_ (.d _ _ (RepD.str (w := w) (F := Fz C G S.H) .empty))
                  simp only [execOp, ho, e1]
                  have hrun := run_convert_bytes_string (P := P) w s t e none 0 c (ok.und _ _ hs1) (ok.und _ _ he) (ok.und _ _ ht)
                  simp [hrun, Conv.bytesToString]
                | some A =>
                  have hx : xs.length = 0 := by simpa using h4
                  rw [hx] at e1
                  refine Good.quiet hs (v := .string ⟨([] : List UInt8).toArray⟩) ?_ (.d _ _ (RepD.str (w := w) (F := Fz C G S.H) .empty))
                  have hrun := run_convert_bytes_back (P := P) w s t e A c [] (ok.und _ _ hs1) (ok.und _ _ he) (ok.und _ _ ht) (fun j hj => by simp at hj)
                  simp at hrun
                  simp [execOp, ho, e1, hrun]
              | cons b0 l0 =>
                obtain ⟨_, b, off, rfl, _⟩ := hm2 0 _ (h5 0 (by simp))
                rw [h4] at e1
                refine key b off c (fun j hj => ?_) e1
                have hxj := h5 j hj
                obtain ⟨_, b', off', hA, hcell⟩ := hm2 j _ hxj
                injection hA with hA
                injection hA with hA1 hA2
                subst hA1; subst hA2
                have hfv := hh j _ hxj
                generalize hu : fv j = u at hfv hcell
                cases hfv
                have := (hcell 0 (.int .u8 ((b0 :: l0)[j].toNat : Int)) rfl).1
                simpa using this
          · cases hst
        · cases hst
  · cases hq
theorem madeCells_get (z : Array Value) : ∀ (n j : Nat), j < n → z.size ≠ 0 → (madeCells z n)[j]? = z[j % z.size]? := fun n j hj hz => by
  have : j % z.size < z.size := Nat.mod_lt _ (by omega)
  simp [madeCells, hj, this]
theorem flat_get {α : Type} (z : List α) : ∀ (n j : Nat) (x : α), (List.replicate n z).flatten[j]? = some x → j < n * z.length ∧ z[j % z.length]? = some x
  | 0, j, x, h => by simp at h
  | n + 1, j, x, h => by
    simp only [List.replicate_succ, List.flatten_cons] at h
    by_cases hj : j < z.length
    · rw [List.getElem?_append_left hj] at h
      rw [Nat.mod_eq_of_lt hj, Nat.succ_mul]
      exact ⟨by omega, h⟩
    · rw [List.getElem?_append_right (by omega)] at h
      obtain ⟨h1, h2⟩ := flat_get z n _ x h
      rw [Nat.succ_mul]
      refine ⟨by omega, ?_⟩
      rw [Nat.mod_eq_sub_mod (by omega)]
      exact h2
theorem good_make (ok : T.Ok P) (hs : Sim C w G U S a) {o : Oper} {t : Nat} {y z : Operand} (ho : o.op = .makeSlice t y z) {k k' : IntKind} {n m : Int} {t1 t2 : Nat} (h1 : ev T S t1 y = some (.d (.int k n))) (h2 : ev T S t2 z = some (.d (.int k' m))) (d dst : Nat)
    {q : AV × St} (hq : makeA T d dst S t n m = some q) : Good C P w G U S ((execOp a.eval o).run P w) (some q.1) q.2 := by
  have e1 := rep_int (ev_ok ok hs h1)
  have e2 := rep_int (ev_ok ok hs h2)
  unfold makeA at hq
  split at hq
  · rename_i e hu
    split at hq
    · rename_i sz bytes zero hi
      split at hq
      · rename_i hc
        obtain ⟨rfl, h0, hb, h63, hsz⟩ := hc
        injection hq with hq
        subst hq
        obtain ⟨i, zv, i1, i2, i3, i4, i5, i6, i7⟩ := ok.inf e sz bytes zero hi
        have hrun := run_make (P := P) w t e i zv (ok.und _ _ hu) i1 i4 k k' n n h0 (Int.le_refl _) (by rw [i3, Int.mul_comm]; omega) h63
        have hpos : 0 < n.toNat * sz := by
          have : 0 < n := by
            rcases Int.lt_or_eq_of_le h0 with h | h
            · exact h
            · subst h; simp at hsz
          have hs0 : 0 < sz := by
            rcases Nat.eq_zero_or_pos sz with h | h
            · subst h; simp at hsz
            · exact h
          exact Nat.mul_pos (by omega) hs0
        have hs0 : sz ≠ 0 := fun h => by subst h; simp at hpos
        have hms : (madeCells zv.cells (n.toNat * i.size)).size = n.toNat * sz := by rw [i2]; simp [madeCells]
        refine newArr_ok hs d dst _ (madeCells zv.cells (n.toNat * i.size)) e (0, 0) (fun o ho hh => by simp only at hh; omega) ?_ hs.heap (Ext.refl _ _ _ _ _) (fun j y hy => ?_) (by omega) (c := n.toNat) (Nat.le_refl _) ?_ ?_ ?_
        · rw [hms]
          simp [i6]
        · obtain ⟨hj, hz⟩ := flat_get zero n.toNat j y hy
          rw [i6] at hj hz
          obtain ⟨u, hu1, hr⟩ := i7 _ _ hz
          refine ⟨hr.leaf, u, ?_, hr.rep⟩
          rw [i2, madeCells_get _ _ _ hj (by omega), i5]
          simpa using hu1
        · simp [i6]
        · rw [hms]; exact Nat.le_refl _
        · simp [execOp, ho, e1, e2, hrun]
      · cases hq
    · cases hq
  · cases hq
theorem good_extract (ok : T.Ok P) (hs : Sim C w G U S a) {o : Oper} {i t1 : Nat} {y : Operand} (ho : o.op = .extract y i) {xs : List AV} {x : AV} (h : ev T S t1 y = some (.tup xs)) (hx : xs[i]? = some x) :
    Good C P w G U S ((execOp a.eval o).run P w) (some x) S := by
  obtain ⟨vs, e, _, hv⟩ := rep_tup (ev_ok ok hs h)
  obtain ⟨u, h1, h2⟩ := hv i x hx
  exact Good.quiet hs (by simp [execOp, ho, e, Instr.extract, h1]) h2

theorem evs_ok (ok : T.Ok P) (hs : Sim C w G U S a) : ∀ (ys : List Operand) (ts : List Nat) (xs : List AV), evs T S ys ts = some xs → xs.length = ys.length ∧ ∀ (i : Nat) y, ys[i]? = some y → ∃ x, xs[i]? = some x ∧ Rep C w G S.H U (a.eval y) x
  | [], ts, xs, h => by
    simp only [evs, Option.some.injEq] at h
    subst h
    exact ⟨rfl, fun i y hy => by simp at hy⟩
  | y :: r, ts, xs, h => by
    simp only [evs] at h
    cases h1 : ev T S (ts.headD 0) y with
    | none => rw [h1] at h; simp at h
    | some x =>
      cases h2 : evs T S r ts.tail with
      | none => rw [h1, h2] at h; simp at h
      | some s =>
        rw [h1, h2] at h
        injection h with h
        subst h
        obtain ⟨h3, h4⟩ := evs_ok ok hs r ts.tail s h2
        refine ⟨by simp [h3], fun i z hz => ?_⟩
        cases i with
        | zero =>
          have : y = z := by simpa using hz
          subst this
          exact ⟨x, rfl, ev_ok ok hs h1⟩
        | succ i => exact h4 i z (by simpa using hz)

theorem good_makeFunc (ok : T.Ok P) (hs : Sim C w G U S a) {o : Oper} {f : Nat} {first caps : Array Operand} {ts : List Nat} (ho : o.op = .makeFunc (.func f) first caps) (hf : first.size = 0) {cs : List AV}
    (h : evs T S caps.toList ts = some cs) (hl : ∀ (i : Nat) x, cs[i]? = some x → x.cap = true) : Good C P w G U S ((execOp a.eval o).run P w) (some (mkFn f cs)) S := by
  obtain ⟨h1, h2⟩ := evs_ok ok hs _ _ _ h
  have hfirst : first = #[] := Array.eq_empty_of_size_eq_zero hf
  refine Good.quiet hs (v := .func (.func f) #[] (caps.map a.eval)) (by simp [execOp, ho, hfirst, Instr.makeFunc]) (rep_mkFn (by simp; simp at h1; exact h1.symm) (fun j y hy => ⟨hl j y hy, ?_⟩))
  have hj : j < caps.size := by
    have := (List.getElem?_eq_some_iff.1 hy).1
    simp at h1; omega
  obtain ⟨x, h3, h4⟩ := h2 j caps[j] (by simp [hj])
  rw [hy] at h3; injection h3 with h3; subst h3
  exact ⟨_, by simp [hj], h4⟩

theorem rep_arr {id : Id} {off n sz : Nat} {v : Value} {H : Heap} {U : Id → Prop} (h : Rep C w G H U v (.arr id off n sz)) : U id ∧ n ≤ 9223372036854775807 ∧ ∀ cs, H.get id = some (.box cs) → ∃ b c, G id = some b ∧ n ≤ c ∧ v = .slice (some ⟨b, off, none⟩) n c := by
  cases h with
  | arr v id off n sz hv hg hm h => exact ⟨hg, hm, fun cs hc => by obtain ⟨b, c, h1, h2, h3, _⟩ := h cs hc; exact ⟨b, c, h1, h2, h3⟩⟩

theorem len_ok (ok : T.Ok P) {t : Nat} {x : AV} {v : Value} (hr : Rep C w G S.H U v x) {n : Nat} (hn : lenA T S t x = some n) (ty : Nat) : (Builtin.len_ #[t] ty #[v]).run P w = .ok (.int .i64 n) w := by
  unfold lenA at hn
  cases hu : T.und t with
  | none => rw [hu] at hn; cases hn
  | some d =>
    have hu' := run_underlying (ok.und _ _ hu) w
    rw [hu] at hn
    cases d with
    | string =>
      simp only at hn
      split at hn
      · injection hn with hn
        subst hn
        obtain ⟨q, rfl, rfl⟩ := rep_str hr
        simp [Builtin.len_, hu', goInt]
      · cases hn
    | slice e =>
      simp only at hn
      split at hn
      · injection hn with hn
        subst hn
        obtain ⟨A, c, rfl, _⟩ := rep_elems hr rfl
        simp [Builtin.len_, hu', goInt]
      · injection hn with hn
        subst hn
        obtain ⟨A, c, rfl, _⟩ := rep_elems hr rfl
        simp [Builtin.len_, hu', goInt]
      · split at hn
        · injection hn with hn
          subst hn
          rename_i hid
          obtain ⟨_, _, h3⟩ := rep_arr hr
          obtain ⟨b, c, _, _, rfl⟩ := h3 _ hid
          simp [Builtin.len_, hu', goInt]
        · cases hn
      · cases hn
    | array m e =>
      injection hn with hn
      subst hn
      simp [Builtin.len_, hu', goInt]
    | _ => cases hn

theorem minMax_ok {mx : Bool} {x y : AV} {u v : Value} {r : DV} (h : minMax mx [x, y] = some r) (hx : Rep C w G H U u x) (hy : Rep C w G H U v y) (ts : Array TypeId) (ty : Nat) :
    ∃ k n, r = .int k n ∧ (if mx then Builtin.max_ ts ty #[u, v] else Builtin.min_ ts ty #[u, v]).run P w = .ok (.int k n) w := by
  unfold minMax at h
  split at h
  · rename_i k m j n heq
    injection heq with h1 heq
    injection heq with h2 _
    subst h1; subst h2
    injection h with h
    subst h
    rw [rep_int hx, rep_int hy]
    refine ⟨_, _, rfl, ?_⟩
    cases mx <;> simp [Builtin.max_, Builtin.min_, Builtin.max2, Builtin.min2]
  · cases h

theorem repD_slice {F : Nat → Nat → Prop} {A : Option Addr} {n c sz : Nat} {xs : List DV} (h : RepD w F (.slice A n c) (.sl sz xs)) (i j : Nat) (hi : i ≤ j) (hj : j ≤ n) :
    RepD w F (.slice (if c = i then A else A.map (·.add (i * sz))) (j - i) (c - i)) (.sl sz ((xs.take j).drop i)) := by
  cases h with
  | sl A n c sz xs fv hl hc hm hm2 h =>
    refine .sl _ _ _ sz _ (fun k => fv (i + k)) (by simp; omega) (by omega) (by omega) (fun k x hx => ?_) (fun k x hx => ?_)
    · rw [List.getElem?_drop, List.getElem?_take] at hx
      split at hx
      · obtain ⟨h1, b, off, rfl, h2⟩ := hm2 _ x hx
        have hlt := (List.getElem?_eq_some_iff.1 hx).1
        refine ⟨h1, b, off + i * sz, ?_, fun q u hu => ?_⟩
        · rw [if_neg (by omega)]
          simp [addr_add]
        · have := h2 q u hu
          rw [show off + i * sz + k * sz + q = off + (i + k) * sz + q by rw [Nat.add_mul]; omega]
          exact this
      · cases hx
    · rw [List.getElem?_drop, List.getElem?_take] at hx
      split at hx
      · exact h _ x hx
      · cases hx

def RepO (C : Ctx) (w : World) (G : Gh) (H : Heap) (U : Id → Prop) : Option Value → Option AV → Prop
  | none, none => True
  | some v, some x => Rep C w G H U v x
  | _, _ => False
theorem evO_ok (ok : T.Ok P) (hs : Sim C w G U S a) {y : Option Operand} {x : Option AV} (h : evO T S y = some x) : RepO C w G S.H U (y.map a.eval) x := by
  cases y with
  | none => simp only [evO, Option.some.injEq] at h; subst h; trivial
  | some z =>
    simp only [evO] at h
    cases h1 : ev T S 0 z with
    | none => rw [h1] at h; cases h
    | some v =>
      rw [h1] at h
      injection h with h
      subst h
      exact ev_ok ok hs h1

def BoundRuns (P : Program) (w : World) (top dflt q : Nat) : Option Value → Prop
  | none => q = dflt
  | some u => ∀ code, (Instr.sliceBound u top code).run P w = .ok q w
theorem bound_ok {top top' dflt q : Nat} {v : Option Value} {x : Option AV} (hr : RepO C w G H U v x) (h : boundA top dflt x = some q) (ht : top ≤ top') (hd : dflt ≤ top) :
    q ≤ top ∧ BoundRuns P w top' dflt q v := by
  cases x with
  | none =>
    cases v with
    | none => simp only [boundA, Option.some.injEq] at h; subst h; exact ⟨hd, rfl⟩
    | some z => exact hr.elim
  | some y =>
    cases v with
    | none => exact hr.elim
    | some u =>
      unfold boundA at h
      split at h
      · rename_i heq; cases heq
      · rename_i k m heq
        injection heq with heq
        subst heq
        split at h
        · rename_i hb
          injection h with h
          subst h
          have hr : Rep C w G H U u (.d (.int k m)) := hr
          refine ⟨by omega, fun code => ?_⟩
          have : 0 ≤ m ∧ m ≤ (top' : Int) := by omega
          rw [rep_int hr]
          simp [Instr.sliceBound, asIntOf, this]
        · cases h
      · cases h
theorem sliceBounds_ok {isSlice : Bool} {n cap : Nat} {lo hi : Option AV} {vlo vhi : Option Value} (hlo : RepO C w G H U vlo lo) (hhi : RepO C w G H U vhi hi) {i j : Nat} (hn : n ≤ cap) (h : sliceA n lo hi = some (i, j)) :
    (Instr.sliceBounds isSlice n cap vlo vhi none).run P w = .ok (i, j, cap) w ∧ i ≤ j ∧ j ≤ n := by
  unfold sliceA at h
  cases hq : boundA n n hi with
  | none => rw [hq] at h; cases h
  | some q =>
    rw [hq] at h
    simp only at h
    cases hl : boundA q 0 lo with
    | none => rw [hl] at h; cases h
    | some l =>
      rw [hl] at h
      injection h with h
      injection h with h1 h2
      subst h1; subst h2
      obtain ⟨h3, h4⟩ := bound_ok (P := P) (w := w) hhi hq hn (Nat.le_refl _)
      obtain ⟨h5, h6⟩ := bound_ok (P := P) (w := w) hlo hl (Nat.le_refl _) (Nat.zero_le _)
      refine ⟨?_, h5, h3⟩
      unfold Instr.sliceBounds
      cases vhi <;> cases vlo <;> simp only [BoundRuns] at h4 h6 <;> (try subst h4) <;> simp [*]

theorem good_slice_str (ok : T.Ok P) (hs : Sim C w G U S a) {o : Oper} {t t1 : Nat} {y : Operand} {lo hi : Option Operand} (ho : o.op = .slice t y lo hi none) (hu : T.und t = some .string) {s : List UInt8}
    (h : ev T S t1 y = some (.d (.str s))) {l u : Option AV} (hl : evO T S lo = some l) (hh : evO T S hi = some u) {i j : Nat} (hb : sliceA s.length l u = some (i, j)) :
    Good C P w G U S ((execOp a.eval o).run P w) (some (.d (.str ((s.take j).drop i)))) S := by
  obtain ⟨q, e, rfl⟩ := rep_str (ev_ok ok hs h)
  obtain ⟨h1, h2, h3⟩ := sliceBounds_ok (P := P) (isSlice := false) (n := q.size) (cap := q.size) (evO_ok ok hs hl) (evO_ok ok hs hh) (Nat.le_refl _) hb
  refine Good.quiet hs (v := .string (q.extract i j)) ?_ (.d _ _ ?_)
  · simp [execOp, ho, e, Instr.sliceAt, run_underlying (ok.und _ _ hu), Instr.slice, h1]
  · have : ((q.data.toList.take j).drop i) = (q.extract i j).data.toList := by
      rw [ByteArray.data_extract]
      simp [List.drop_take]
    rw [this]
    exact .str _

theorem good_slice_sl (ok : T.Ok P) (hs : Sim C w G U S a) {o : Oper} {t e t1 : Nat} {y : Operand} {lo hi : Option Operand} (ho : o.op = .slice t y lo hi none) (hu : T.und t = some (.slice e)) {x : AV} {sz : Nat} {xs : List DV}
    (h : ev T S t1 y = some x) (hx : elemsA x = some (sz, xs)) (hsz : size T e = some sz) {l u : Option AV} (hl : evO T S lo = some l) (hh : evO T S hi = some u) {i j : Nat} (hb : sliceA xs.length l u = some (i, j)) :
    Good C P w G U S ((execOp a.eval o).run P w) (some (.d (.sl sz ((xs.take j).drop i)))) S := by
  obtain ⟨A, c, e, hr⟩ := rep_elems (ev_ok ok hs h) hx
  have hc : xs.length ≤ c := by rw [e] at hr; cases hr; assumption
  obtain ⟨h1, h2, h3⟩ := sliceBounds_ok (P := P) (isSlice := true) (n := xs.length) (cap := c) (evO_ok ok hs hl) (evO_ok ok hs hh) hc hb
  obtain ⟨hrs, _⟩ := size_ok ok hsz w
  rw [e] at hr
  refine Good.quiet hs ?_ (.d _ _ (repD_slice hr i j h2 h3))
  simp [execOp, ho, e, Instr.sliceAt, run_underlying (ok.und _ _ hu), Instr.slice, h1, hrs]
theorem good_cutO (ok : T.Ok P) (hs : Sim C w G U S a) {o : Oper} {t e t1 : Nat} {y : Operand} {lo hi : Option Operand} (ho : o.op = .slice t y lo hi none) (hu : T.und t = some (.slice e)) {x : AV} {sz : Nat} {xs : List DV}
    (h : ev T S t1 y = some x) (hx : elemsA x = some (sz, xs)) (hsz : size T e = some sz) {l u : Option AV} (hl : evO T S lo = some l) (hh : evO T S hi = some u) {i j : Nat} (hb : sliceA xs.length l u = some (i, j)) (b : Bool) :
    Good C P w G U S ((execOp a.eval o).run P w) (some (cutO b x (.sl sz ((xs.take j).drop i)))) S := by
  have hg := good_slice_sl ok hs ho hu h hx hsz hl hh hb
  unfold cutO
  split
  · rename_i sz'
    simp only [elemsA, Option.some.injEq, Prod.mk.injEq] at hx
    obtain ⟨rfl, rfl⟩ := hx
    have hr0 := ev_ok ok hs h
    generalize hv : a.eval y = v at hr0
    cases hr0 with
    | own A k c _ _ tok hx ht =>
      have hk : k = 0 := by cases hx; simp_all
      subst hk
      have hc0 : c = 0 := ht
      subst hc0
      obtain ⟨h1, h2, h3⟩ := sliceBounds_ok (P := P) (isSlice := true) (n := 0) (cap := 0) (evO_ok ok hs hl) (evO_ok ok hs hh) (Nat.le_refl _) hb
      obtain ⟨hrs, _⟩ := size_ok ok hsz w
      have hj : j = 0 := by omega
      subst hj
      have hi : i = 0 := by omega
      subst hi
      refine Good.quiet hs ?_ (.own A 0 0 _ [] none hx rfl)
      simp [execOp, ho, hv, Instr.sliceAt, run_underlying (ok.und _ _ hu), Instr.slice, h1, hrs]
  · exact hg
theorem repD_sliceMax {F : Nat → Nat → Prop} {A : Option Addr} {n c sz : Nat} {xs : List DV} (h : RepD w F (.slice A n c) (.sl sz xs)) (i j : Nat) (hi : i ≤ j) (hj : j ≤ n) :
    RepD w F (.slice (if j = i then A else A.map (·.add (i * sz))) (j - i) (j - i)) (.sl sz ((xs.take j).drop i)) := by
  cases h with
  | sl A n c sz xs fv hl hc hm hm2 h =>
    refine .sl _ _ _ sz _ (fun k => fv (i + k)) (by simp; omega) (by omega) (by omega) (fun k x hx => ?_) (fun k x hx => ?_)
    · rw [List.getElem?_drop, List.getElem?_take] at hx
      split at hx
      · obtain ⟨h1, b, off, rfl, h2⟩ := hm2 _ x hx
        have hlt := (List.getElem?_eq_some_iff.1 hx).1
        refine ⟨h1, b, off + i * sz, ?_, fun q u hu => ?_⟩
        · rw [if_neg (by omega)]
          simp [addr_add]
        · have := h2 q u hu
          rw [show off + i * sz + k * sz + q = off + (i + k) * sz + q by rw [Nat.add_mul]; omega]
          exact this
      · cases hx
    · rw [List.getElem?_drop, List.getElem?_take] at hx
      split at hx
      · exact h _ x hx
      · cases hx
theorem good_slice_max (ok : T.Ok P) (hs : Sim C w G U S a) {o : Oper} {t e t1 t2 : Nat} {y mx : Operand} {lo hi : Option Operand} (ho : o.op = .slice t y lo hi (some mx)) (hu : T.und t = some (.slice e)) {x : AV} {sz : Nat} {xs : List DV}
    (h : ev T S t1 y = some x) (hx : elemsA x = some (sz, xs)) (hsz : size T e = some sz) {l : Option AV} {k k' : IntKind} {p : Int} (hl : evO T S lo = some l) (hh : evO T S hi = some (some (.d (.int k p)))) (hm : ev T S t2 mx = some (.d (.int k' p))) {i j : Nat}
    (hb : sliceA xs.length l (some (.d (.int k p))) = some (i, j)) : Good C P w G U S ((execOp a.eval o).run P w) (some (.own sz ((xs.take j).drop i) none)) S := by
  obtain ⟨A, c, e, hr⟩ := rep_elems (ev_ok ok hs h) hx
  have hc : xs.length ≤ c := by rw [e] at hr; cases hr; assumption
  have em := rep_int (ev_ok ok hs hm)
  unfold sliceA at hb
  cases hq : boundA xs.length xs.length (some (.d (.int k p))) with
  | none => rw [hq] at hb; cases hb
  | some q =>
    rw [hq] at hb
    simp only at hb
    cases hlq : boundA q 0 l with
    | none => rw [hlq] at hb; cases hb
    | some l' =>
      rw [hlq] at hb
      injection hb with hb
      injection hb with hb1 hb2
      subst hb1; subst hb2
      have hpq : 0 ≤ p ∧ p ≤ xs.length ∧ q = p.toNat := by
        simp only [boundA] at hq
        split at hq
        · rename_i hb
          injection hq with hq
          exact ⟨hb.1, hb.2, hq.symm⟩
        · cases hq
      obtain ⟨hp0, hp1, rfl⟩ := hpq
      have hhi := evO_ok ok hs hh
      cases hi with
      | none => simp [RepO] at hhi
      | some hi =>
        have ehi := rep_int (show Rep C w G S.H U (a.eval hi) (.d (.int k p)) from hhi)
        obtain ⟨h5, h6⟩ := bound_ok (P := P) (w := w) (evO_ok ok hs hl) hlq (Nat.le_refl _) (Nat.zero_le _)
        have hbd : (Instr.sliceBounds true xs.length c (lo.map a.eval) (some (a.eval hi)) (some (a.eval mx))).run P w = .ok (l', p.toNat, p.toNat) w := by
          unfold Instr.sliceBounds
          rw [em, ehi]
          have sb : ∀ (k : IntKind) (top : Nat) code, p ≤ (top : Int) → (Instr.sliceBound (.int k p) top code).run P w = .ok p.toNat w := fun k top code h => by
            simp [Instr.sliceBound, asIntOf, hp0, h]
          have b1 := fun k code => sb k c code (by omega)
          have b2 := fun k code => sb k p.toNat code (by omega)
          cases lo with
          | none =>
            simp only [BoundRuns, Option.map_none] at h6
            subst h6
            simp [b1, b2]
          | some lo =>
            simp only [BoundRuns, Option.map_some] at h6
            simp [b1, b2, h6]
        obtain ⟨hrs, _⟩ := size_ok ok hsz w
        rw [e] at hr
        refine Good.quiet hs ?_ (.own _ _ _ _ _ none (repD_sliceMax hr l' p.toNat h5 (by omega)) rfl)
        simp [execOp, ho, e, Instr.sliceAt, run_underlying (ok.und _ _ hu), Instr.slice, hbd, hrs]
end
end Go.Proofs.Ytfcfifohflgboaa.Am
