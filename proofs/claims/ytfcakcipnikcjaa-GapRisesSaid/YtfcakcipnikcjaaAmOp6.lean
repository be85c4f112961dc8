/- Each operation, one by one: texts, cuts, built-in functions, append. -/
import Derived.Test.YtfcakcipnikcjaaAmOp5
import Derived.Laws.Append
import Derived.Laws.AppendOwn
set_option linter.unusedVariables false
set_option linter.unusedSimpArgs false
namespace Go.Proofs.Ytfcakcipnikcjaa.Am
open Go Go.RowKit

section
variable {C : Ctx} {w w' : World} {G G' : Gh} {P : Program} {T : Tab} {S S' : St} {a : Act} {H : Heap} {U : Id → Prop}

theorem good_neg (ok : T.Ok P) (hs : Sim C w G U S a) {o : Oper} {t t1 : Nat} {y : Operand} (ho : o.op = .unOp .neg t y) {k : IntKind} {n : Int} (h : ev T S t1 y = some (.d (.int k n))) :
    Good C P w G U S ((execOp a.eval o).run P w) (some (.d (.int k (k.wrap (0 - n))))) S := by
  have e := rep_int (ev_ok ok hs h)
  exact Good.quiet hs (by simp [execOp, ho, e, Op.unary, Op.intArith]) (.d _ _ (.int _ _))
theorem good_not (ok : T.Ok P) (hs : Sim C w G U S a) {o : Oper} {t t1 : Nat} {y : Operand} (ho : o.op = .unOp .not t y) {b : Bool} (h : ev T S t1 y = some (.d (.bool b))) :
    Good C P w G U S ((execOp a.eval o).run P w) (some (.d (.bool (!b)))) S := by
  have e := rep_bool (ev_ok ok hs h)
  exact Good.quiet hs (by simp [execOp, ho, e, Op.unary]) (.d _ _ (.bool _))
theorem good_convInt (ok : T.Ok P) (hs : Sim C w G U S a) {o : Oper} {s t t1 : Nat} {y : Operand} (ho : o.op = .convert s t y) {j k k' : IntKind} {n : Int} (hs1 : T.und s = some (.int j)) (ht : T.und t = some (.int k))
    (h : ev T S t1 y = some (.d (.int k' n))) : Good C P w G U S ((execOp a.eval o).run P w) (some (.d (.int k (k.wrap n)))) S := by
  have e := rep_int (ev_ok ok hs h)
  exact Good.quiet hs (by simp [execOp, ho, e, convert, run_underlying (ok.und _ _ hs1), run_underlying (ok.und _ _ ht), Conv.intToInt]) (.d _ _ (.int _ _))
theorem good_convStr (ok : T.Ok P) (hs : Sim C w G U S a) {o : Oper} {s t t1 : Nat} {y : Operand} (ho : o.op = .convert s t y) {x : List UInt8} (hs1 : T.und s = some .string) (ht : T.und t = some .string)
    (h : ev T S t1 y = some (.d (.str x))) : Good C P w G U S ((execOp a.eval o).run P w) (some (.d (.str x))) S := by
  have hr := ev_ok ok hs h
  obtain ⟨q, e, _⟩ := rep_str hr
  exact Good.quiet hs (by simp [execOp, ho, e, convert, run_underlying (ok.und _ _ hs1), run_underlying (ok.und _ _ ht)]) (e ▸ hr)
theorem good_extract (ok : T.Ok P) (hs : Sim C w G U S a) {o : Oper} {i t1 : Nat} {y : Operand} (ho : o.op = .extract y i) {xs : List AV} {x : AV} (h : ev T S t1 y = some (.tup xs)) (hx : xs[i]? = some x) :
    Good C P w G U S ((execOp a.eval o).run P w) (some x) S := by
  obtain ⟨vs, e, _, hv⟩ := rep_tup (ev_ok ok hs h)
  obtain ⟨u, h1, h2⟩ := hv i x hx
  exact Good.quiet hs (by simp [execOp, ho, e, Instr.extract, h1]) h2

theorem evs_ok (ok : T.Ok P) (hs : Sim C w G U S a) : ∀ (ys : List Operand) (ts : List Nat) (xs : List AV), evs T S ys ts = some xs → xs.length = ys.length ∧ ∀ (i : Nat) y, ys[i]? = some y → ∃ x, xs[i]? = some x ∧ Rep C w G S.H U (a.eval y) x
  | [], ts, xs, h => by
    simp only [evs, Option.some.injEq] at h
    subst h
    exact ⟨rfl, fun i y hy => by simp at hy⟩
  | y :: r, ts, xs, h => by
    simp only [evs] at h
    cases h1 : ev T S (ts.headD 0) y with
    | none => rw [h1] at h; simp at h
    | some x =>
      cases h2 : evs T S r ts.tail with
      | none => rw [h1, h2] at h; simp at h
      | some s =>
        rw [h1, h2] at h
        injection h with h
        subst h
        obtain ⟨h3, h4⟩ := evs_ok ok hs r ts.tail s h2
        refine ⟨by simp [h3], fun i z hz => ?_⟩
        cases i with
        | zero =>
          have : y = z := by simpa using hz
          subst this
          exact ⟨x, rfl, ev_ok ok hs h1⟩
        | succ i => exact h4 i z (by simpa using hz)

theorem good_makeFunc (ok : T.Ok P) (hs : Sim C w G U S a) {o : Oper} {f : Nat} {first caps : Array Operand} {ts : List Nat} (ho : o.op = .makeFunc (.func f) first caps) (hf : first.size = 0) {cs : List AV}
    (h : evs T S caps.toList ts = some cs) (hl : ∀ (i : Nat) x, cs[i]? = some x → x.cap = true) : Good C P w G U S ((execOp a.eval o).run P w) (some (mkFn f cs)) S := by
  obtain ⟨h1, h2⟩ := evs_ok ok hs _ _ _ h
  have hfirst : first = #[] := Array.eq_empty_of_size_eq_zero hf
  refine Good.quiet hs (v := .func (.func f) #[] (caps.map a.eval)) (by simp [execOp, ho, hfirst, Instr.makeFunc]) (rep_mkFn (by simp; simp at h1; exact h1.symm) (fun j y hy => ⟨hl j y hy, ?_⟩))
  have hj : j < caps.size := by
    have := (List.getElem?_eq_some_iff.1 hy).1
    simp at h1; omega
  obtain ⟨x, h3, h4⟩ := h2 j caps[j] (by simp [hj])
  rw [hy] at h3; injection h3 with h3; subst h3
  exact ⟨_, by simp [hj], h4⟩

theorem rep_arr {id : Id} {off n sz : Nat} {v : Value} {H : Heap} {U : Id → Prop} (h : Rep C w G H U v (.arr id off n sz)) : U id ∧ n ≤ 9223372036854775807 ∧ ∀ cs, H.get id = some (.box cs) → ∃ b c, G id = some b ∧ n ≤ c ∧ v = .slice (some ⟨b, off, none⟩) n c := by
  cases h; exact ⟨by assumption, by assumption, by assumption⟩

theorem len_ok (ok : T.Ok P) {t : Nat} {x : AV} {v : Value} (hr : Rep C w G S.H U v x) {n : Nat} (hn : lenA T S t x = some n) (ty : Nat) : (Builtin.len_ #[t] ty #[v]).run P w = .ok (.int .i64 n) w := by
  unfold lenA at hn
  cases hu : T.und t with
  | none => rw [hu] at hn; cases hn
  | some d =>
    have hu' := run_underlying (ok.und _ _ hu) w
    rw [hu] at hn
    cases d with
    | string =>
      simp only at hn
      split at hn
      · injection hn with hn
        subst hn
        obtain ⟨q, rfl, rfl⟩ := rep_str hr
        simp [Builtin.len_, hu', goInt]
      · cases hn
    | slice e =>
      simp only at hn
      split at hn
      · injection hn with hn
        subst hn
        obtain ⟨A, c, rfl, _⟩ := rep_elems hr rfl
        simp [Builtin.len_, hu', goInt]
      · injection hn with hn
        subst hn
        obtain ⟨A, c, rfl, _⟩ := rep_elems hr rfl
        simp [Builtin.len_, hu', goInt]
      · split at hn
        · injection hn with hn
          subst hn
          rename_i hid
          obtain ⟨_, _, h3⟩ := rep_arr hr
          obtain ⟨b, c, _, _, rfl⟩ := h3 _ hid
          simp [Builtin.len_, hu', goInt]
        · cases hn
      · cases hn
    | array m e =>
      injection hn with hn
      subst hn
      simp [Builtin.len_, hu', goInt]
    | _ => cases hn

theorem minMax_ok {mx : Bool} {x y : AV} {u v : Value} {r : DV} (h : minMax mx [x, y] = some r) (hx : Rep C w G H U u x) (hy : Rep C w G H U v y) (ts : Array TypeId) (ty : Nat) :
    ∃ k n, r = .int k n ∧ (if mx then Builtin.max_ ts ty #[u, v] else Builtin.min_ ts ty #[u, v]).run P w = .ok (.int k n) w := by
  unfold minMax at h
  split at h
  · rename_i k m j n heq
    injection heq with h1 heq
    injection heq with h2 _
    subst h1; subst h2
    injection h with h
    subst h
    rw [rep_int hx, rep_int hy]
    refine ⟨_, _, rfl, ?_⟩
    cases mx <;> simp [Builtin.max_, Builtin.min_, Builtin.max2, Builtin.min2]
  · cases h

theorem repD_slice {F : Nat → Nat → Prop} {A : Option Addr} {n c sz : Nat} {xs : List DV} (h : RepD w F (.slice A n c) (.sl sz xs)) (i j : Nat) (hi : i ≤ j) (hj : j ≤ n) :
    RepD w F (.slice (if c = i then A else A.map (·.add (i * sz))) (j - i) (c - i)) (.sl sz ((xs.take j).drop i)) := by
  cases h with
  | sl A n c sz xs fv hl hc hm hm2 h =>
    refine .sl _ _ _ sz _ (fun k => fv (i + k)) (by simp; omega) (by omega) (by omega) (fun k x hx => ?_) (fun k x hx => ?_)
    · rw [List.getElem?_drop, List.getElem?_take] at hx
      split at hx
      · obtain ⟨h1, b, off, rfl, h2⟩ := hm2 _ x hx
        have hlt := (List.getElem?_eq_some_iff.1 hx).1
        refine ⟨h1, b, off + i * sz, ?_, fun q u hu => ?_⟩
        · rw [if_neg (by omega)]
          simp [addr_add]
        · have := h2 q u hu
          rw [show off + i * sz + k * sz + q = off + (i + k) * sz + q by rw [Nat.add_mul]; omega]
          exact this
      · cases hx
    · rw [List.getElem?_drop, List.getElem?_take] at hx
      split at hx
      · exact h _ x hx
      · cases hx

/-- An operand that may lack. -/
def RepO (C : Ctx) (w : World) (G : Gh) (H : Heap) (U : Id → Prop) : Option Value → Option AV → Prop
  | none, none => True
  | some v, some x => Rep C w G H U v x
  | _, _ => False
theorem evO_ok (ok : T.Ok P) (hs : Sim C w G U S a) {y : Option Operand} {x : Option AV} (h : evO T S y = some x) : RepO C w G S.H U (y.map a.eval) x := by
  cases y with
  | none => simp only [evO, Option.some.injEq] at h; subst h; trivial
  | some z =>
    simp only [evO] at h
    cases h1 : ev T S 0 z with
    | none => rw [h1] at h; cases h
    | some v =>
      rw [h1] at h
      injection h with h
      subst h
      exact ev_ok ok hs h1

def BoundRuns (P : Program) (w : World) (top dflt q : Nat) : Option Value → Prop
  | none => q = dflt
  | some u => ∀ code, (Instr.sliceBound u top code).run P w = .ok q w
theorem bound_ok {top top' dflt q : Nat} {v : Option Value} {x : Option AV} (hr : RepO C w G H U v x) (h : boundA top dflt x = some q) (ht : top ≤ top') (hd : dflt ≤ top) :
    q ≤ top ∧ BoundRuns P w top' dflt q v := by
  cases x with
  | none =>
    cases v with
    | none => simp only [boundA, Option.some.injEq] at h; subst h; exact ⟨hd, rfl⟩
    | some z => exact hr.elim
  | some y =>
    cases v with
    | none => exact hr.elim
    | some u =>
      unfold boundA at h
      split at h
      · rename_i heq; cases heq
      · rename_i k m heq
        injection heq with heq
        subst heq
        split at h
        · rename_i hb
          injection h with h
          subst h
          have hr : Rep C w G H U u (.d (.int k m)) := hr
          refine ⟨by omega, fun code => ?_⟩
          have : 0 ≤ m ∧ m ≤ (top' : Int) := by omega
          rw [rep_int hr]
          simp [Instr.sliceBound, asIntOf, this]
        · cases h
      · cases h
theorem sliceBounds_ok {isSlice : Bool} {n cap : Nat} {lo hi : Option AV} {vlo vhi : Option Value} (hlo : RepO C w G H U vlo lo) (hhi : RepO C w G H U vhi hi) {i j : Nat} (hn : n ≤ cap) (h : sliceA n lo hi = some (i, j)) :
    (Instr.sliceBounds isSlice n cap vlo vhi none).run P w = .ok (i, j, cap) w ∧ i ≤ j ∧ j ≤ n := by
  unfold sliceA at h
  cases hq : boundA n n hi with
  | none => rw [hq] at h; cases h
  | some q =>
    rw [hq] at h
    simp only at h
    cases hl : boundA q 0 lo with
    | none => rw [hl] at h; cases h
    | some l =>
      rw [hl] at h
      injection h with h
      injection h with h1 h2
      subst h1; subst h2
      obtain ⟨h3, h4⟩ := bound_ok (P := P) (w := w) hhi hq hn (Nat.le_refl _)
      obtain ⟨h5, h6⟩ := bound_ok (P := P) (w := w) hlo hl (Nat.le_refl _) (Nat.zero_le _)
      refine ⟨?_, h5, h3⟩
      unfold Instr.sliceBounds
      cases vhi <;> cases vlo <;> simp only [BoundRuns] at h4 h6 <;> (try subst h4) <;> simp [*]

theorem good_slice_str (ok : T.Ok P) (hs : Sim C w G U S a) {o : Oper} {t t1 : Nat} {y : Operand} {lo hi : Option Operand} (ho : o.op = .slice t y lo hi none) (hu : T.und t = some .string) {s : List UInt8}
    (h : ev T S t1 y = some (.d (.str s))) {l u : Option AV} (hl : evO T S lo = some l) (hh : evO T S hi = some u) {i j : Nat} (hb : sliceA s.length l u = some (i, j)) :
    Good C P w G U S ((execOp a.eval o).run P w) (some (.d (.str ((s.take j).drop i)))) S := by
  obtain ⟨q, e, rfl⟩ := rep_str (ev_ok ok hs h)
  obtain ⟨h1, h2, h3⟩ := sliceBounds_ok (P := P) (isSlice := false) (n := q.size) (cap := q.size) (evO_ok ok hs hl) (evO_ok ok hs hh) (Nat.le_refl _) hb
  refine Good.quiet hs (v := .string (q.extract i j)) ?_ (.d _ _ ?_)
  · simp [execOp, ho, e, Instr.sliceAt, run_underlying (ok.und _ _ hu), Instr.slice, h1]
  · have : ((q.data.toList.take j).drop i) = (q.extract i j).data.toList := by
      rw [ByteArray.data_extract]
      simp [List.drop_take]
    rw [this]
    exact .str _

theorem good_slice_sl (ok : T.Ok P) (hs : Sim C w G U S a) {o : Oper} {t e t1 : Nat} {y : Operand} {lo hi : Option Operand} (ho : o.op = .slice t y lo hi none) (hu : T.und t = some (.slice e)) {x : AV} {sz : Nat} {xs : List DV}
    (h : ev T S t1 y = some x) (hx : elemsA x = some (sz, xs)) (hsz : size T e = some sz) {l u : Option AV} (hl : evO T S lo = some l) (hh : evO T S hi = some u) {i j : Nat} (hb : sliceA xs.length l u = some (i, j)) :
    Good C P w G U S ((execOp a.eval o).run P w) (some (.d (.sl sz ((xs.take j).drop i)))) S := by
  obtain ⟨A, c, e, hr⟩ := rep_elems (ev_ok ok hs h) hx
  have hc : xs.length ≤ c := by rw [e] at hr; cases hr; assumption
  obtain ⟨h1, h2, h3⟩ := sliceBounds_ok (P := P) (isSlice := true) (n := xs.length) (cap := c) (evO_ok ok hs hl) (evO_ok ok hs hh) hc hb
  obtain ⟨hrs, _⟩ := size_ok ok hsz w
  rw [e] at hr
  refine Good.quiet hs ?_ (.d _ _ (repD_slice hr i j h2 h3))
  simp [execOp, ho, e, Instr.sliceAt, run_underlying (ok.und _ _ hu), Instr.slice, h1, hrs]
end
end Go.Proofs.Ytfcakcipnikcjaa.Am
