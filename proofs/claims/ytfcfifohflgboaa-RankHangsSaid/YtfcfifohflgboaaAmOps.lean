/- What each operation of the model does where the evaluator carries it out. -/
import Derived.Test.YtfcfifohflgboaaAmStep
import Derived.Tactics
import Derived.Calls
set_option linter.unusedVariables false
set_option linter.unusedSimpArgs false
namespace Go.Proofs.Ytfcfifohflgboaa.Am
open Go Go.RowKit

inductive CRep : Value → AV → Prop where
  | int (k : IntKind) (n : Int) : CRep (.int k n) (.d (.int k n))
  | bool (b : Bool) : CRep (.bool b) (.d (.bool b))
  | str (s : ByteArray) : CRep (.string s) (.d (.str s.data.toList))
  | nilsl (sz : Nat) : CRep (.slice none 0 0) (.own sz [] none)
  | nilf : CRep .nilFunc (.d .nilf)
  | anyv (v : Value) (h : leafV v = true) : CRep v (.d .any)

def dstsOk (n : Nat) : Code → Bool
  | .region _ ops _ => ops.toList.all fun o => match o.dst with
    | some t => decide (t < n)
    | none => true
  | .seq a b => dstsOk n a && dstsOk n b
  | .cond _ a b => dstsOk n a && dstsOk n b
  | .block _ b | .loop b => dstsOk n b
  | _ => true

/-! ### which operations of a region are in order -/
def maskOf (acc : List Nat) : List Edge → Nat → Nat
  | [], s => s
  | e :: r, s => if Region.binds .any e then maskOf acc r (s ||| 2 ^ e.on ||| (acc[e.on]?).getD 0) else maskOf acc r s
def masks : List Oper → List Nat → List Nat
  | [], acc => acc
  | o :: r, acc => masks r (acc ++ [maskOf acc o.after.toList 0])
def namesO (ops : List Oper) (o : Oper) : List Nat :=
  (o.op.operands.toList.filterMap fun | .tmp t => some t | _ => none) ++
  (match o.guard with
   | some (g, _) => ((ops[g]?).bind (·.dst)).toList
   | none => [])
def apartO (ops : List Oper) (x y : Oper) : Bool :=
  (match x.dst with
   | some d => !(namesO ops y).contains d && y.dst != some d
   | none => true) &&
  (match y.dst with
   | some d => !(namesO ops x).contains d
   | none => true)
def quietPair (i j : Nat) : Bool := i == 0 || j == 0 || (i == 1 && j == 1) || (i == 2 && j == 2)
def drawSt (ops : List Oper) (L : List (List Nat)) : Bool :=
  let ms := masks ops []
  (List.range ops.length).all fun j => match ops[j]?, ms[j]?, L[j]? with
    | some oj, some m, some l => (oj.after.toList.all fun e => !Region.binds .any e || decide (e.on < j)) &&
      (match oj.op with | .select _ _ => false | _ => true) &&
      (List.range j).all fun i => match ops[i]? with
        | some oi => m.testBit i || (apartO ops oi oj && (quietPair (clsA oi.op) (clsA oj.op) || l.contains i))
        | none => true
    | _, _, _ => false
def drawsOk (L : Nat → Option (List (List Nat))) : Code → Bool
  | .region id ops true => match L id with
    | some l => drawSt ops.toList l
    | none => true
  | .seq a b => drawsOk L a && drawsOk L b
  | .cond _ a b => drawsOk L a && drawsOk L b
  | .block _ b | .loop b => drawsOk L b
  | _ => true

structure Tab.Ok (T : Tab) (P : Program) : Prop where
  fn : ∀ f F, T.fn f = some F → P.funcs[f]? = some F ∧ (F.name == "runtime.NumGoroutine") = false ∧ ∃ c, F.body = some c ∧ dstsOk F.ntmps c = true
  und : ∀ t d, T.und t = some d → P.underlying t = some d
  inf : ∀ t n b z, T.inf t = some (n, b, z) → ∃ i zv, P.info? t = some i ∧ i.size = n ∧ i.bytes = b ∧ i.zero = some zv ∧ zv.cells.size = n ∧ z.length = n ∧
    ∀ (j : Nat) y, z[j]? = some y → ∃ u, zv.cells[j]? = some u ∧ CRep u y
  mix : P.follows .mixedOrders = true
  drw : ∀ f F c, T.fn f = some F → F.body = some c → drawsOk (T.drw f) c = true
  cmp : ∀ t, T.cmp t = true → P.stoodInHeld t = false ∧ P.eqGuardType P.depth t = false
  zag : ∀ t n b z i zv, T.inf t = some (n, b, z) → P.info? t = some i → i.zero = some zv → ∀ q, isAgg T t = some q → (q = true → ∃ cs, zv = .agg cs) ∧ (q = false → leafV zv = true)

def Fr (U : Id → Prop) (p : List Nat) : Prop := ∀ i, U i → ¬ p <:+ i.g
theorem Fr.not {U : Id → Prop} {p : List Nat} (h : Fr U p) (d t : Nat) : ¬ U ⟨d, t, 0 :: p⟩ := fun hu => h _ hu (List.suffix_cons 0 p)
theorem Fr.add {U : Id → Prop} {p : List Nat} (h : Fr U p) (d t : Nat) : Fr (addU U ⟨d, t, 0 :: p⟩) (1 :: p) := fun i hi hs => by
  rcases hi with hi | rfl
  · exact h i hi ((List.suffix_cons 1 p).trans hs)
  · have := hs.eq_of_length rfl
    injection this with h1 _
    omega
theorem Fr.sub {U U' : Id → Prop} {p q : List Nat} (h : Fr U p) (hpq : p <:+ q) (hU : ∀ i, U' i → U i) : Fr U' q := fun i hi hs => h i (hU i hi) (hpq.trans hs)

structure Sim (C : Ctx) (w : World) (G : Gh) (U : Id → Prop) (S : St) (a : Act) : Prop where
  T : ∀ t x, S.T.get t = some x → t < a.tmps.size ∧ Rep C w G S.H U (a.tmps.getD t undef) x
  heap : HeapRel C w G S.H U
  fr : Fr U S.g
  defers : a.defers = []

section
variable {C : Ctx} {w w' : World} {G G' : Gh} {H H' : Heap} {U U' : Id → Prop} {P : Program} {T : Tab}

theorem CRep.rep {v : Value} {x : AV} (h : CRep v x) : Rep C w G H U v x := by
  cases h with
  | int k n => exact .d _ _ (.int k n)
  | bool b => exact .d _ _ (.bool b)
  | str s => exact .d _ _ (.str s)
  | nilsl sz => exact .own none 0 0 sz [] none (.sl none 0 0 sz [] (fun _ => undef) rfl (Nat.le_refl _) (by omega) (fun i x h => by simp at h) (fun i x h => by simp at h)) rfl
  | nilf => exact .d _ _ .nilf
  | anyv _ h => exact .d _ _ (.any _ h)
theorem CRep.leaf {v : Value} {x : AV} (h : CRep v x) : x.leaf = true := by cases h <;> rfl

theorem Rep.leafV {v : Value} {x : AV} (h : Rep C w G H U v x) (hl : x.leaf = true) : leafV v = true := by
  cases h with
  | d v x h => exact h.leafV hl
  | own => rfl
  | ptr v id off hv => exact hv
  | arr v id off n sz hv => exact hv
  | mp v id hv => exact hv
  | fn => rfl
  | agg => simp [AV.leaf] at hl
  | tup => simp [AV.leaf] at hl

theorem acells_leaf {x : AV} (h : x.leaf = true) : x.cells = [x] := by
  cases x with
  | d x => simp [AV.cells, dcells_leaf (x := x) h]
  | agg | tup => simp [AV.leaf] at h
  | _ => rfl

theorem Rep.cells {v : Value} {x : AV} (h : Rep C w G H U v x) (ht : ∀ xs, x ≠ .tup xs) :
    v.cells.size = x.cells.length ∧ ∀ (j : Nat) y, x.cells[j]? = some y → y.leaf = true ∧ ∃ u, v.cells[j]? = some u ∧ Rep C w G H U u y := by
  cases h with
  | d v x h =>
    obtain ⟨h1, h2⟩ := h.cells
    refine ⟨by simp [AV.cells, h1], fun j y hy => ?_⟩
    simp only [AV.cells, List.getElem?_map, Option.map_eq_some_iff] at hy
    obtain ⟨z, hz, rfl⟩ := hy
    obtain ⟨h3, u, h4, h5⟩ := h2 j z hz
    exact ⟨h3, u, h4, .d _ _ h5⟩
  | agg vs cs hl hf hr =>
    refine ⟨hl, fun j y hy => ⟨hf j y hy, ?_⟩⟩
    have hj : j < vs.size := by
      have h1 : j < cs.length := (List.getElem?_eq_some_iff.1 hy).1
      omega
    exact ⟨vs[j], Array.getElem?_eq_getElem hj, hr j _ y (Array.getElem?_eq_getElem hj) hy⟩
  | tup vs xs => exact (ht _ rfl).elim
  | own A n c sz xs tok h1 h2 =>
    refine ⟨rfl, fun j y hy => ?_⟩
    cases j with
    | zero =>
      have : AV.own sz xs tok = y := by simpa [AV.cells] using hy
      subst this
      exact ⟨rfl, _, rfl, .own A n c sz xs tok h1 h2⟩
    | succ j => simp [AV.cells] at hy
  | ptr v id off hv h1 h2 =>
    rw [cells_leaf hv]
    refine ⟨rfl, fun j y hy => ?_⟩
    cases j with
    | zero =>
      have : AV.ptr id off = y := by simpa [AV.cells] using hy
      subst this
      exact ⟨rfl, _, rfl, .ptr v id off hv h1 h2⟩
    | succ j => simp [AV.cells] at hy
  | arr v id off n sz hv h1 h2 h3 =>
    rw [cells_leaf hv]
    refine ⟨rfl, fun j y hy => ?_⟩
    cases j with
    | zero =>
      have : AV.arr id off n sz = y := by simpa [AV.cells] using hy
      subst this
      exact ⟨rfl, _, rfl, .arr v id off n sz hv h1 h2 h3⟩
    | succ j => simp [AV.cells] at hy
  | mp v id hv h1 h2 =>
    rw [cells_leaf hv]
    refine ⟨rfl, fun j y hy => ?_⟩
    cases j with
    | zero =>
      have : AV.mp id = y := by simpa [AV.cells] using hy
      subst this
      exact ⟨rfl, _, rfl, .mp v id hv h1 h2⟩
    | succ j => simp [AV.cells] at hy
  | fn f vs cs h1 h2 h3 =>
    refine ⟨rfl, fun j y hy => ?_⟩
    cases j with
    | zero =>
      have : AV.fn f cs = y := by simpa [AV.cells] using hy
      subst this
      exact ⟨rfl, _, rfl, .fn f vs cs h1 h2 h3⟩
    | succ j => simp [AV.cells] at hy

theorem plainD_eq : ∀ (cs : List AV) ds, plainD cs = some ds → cs = ds.map .d
  | [], ds, h => by simp [plainD] at h; subst h; rfl
  | x :: r, ds, h => by
    cases x <;> simp only [plainD] at h
    case d x =>
      cases hr : plainD r with
      | none => rw [hr] at h; simp at h
      | some s =>
        rw [hr] at h
        injection h with h
        subst h
        rw [plainD_eq r s hr]; rfl
    all_goals cases h

theorem Rep.dinv {v : Value} {x : DV} (h : Rep C w G H U v (.d x)) : RepD w (Fz C G H) v x := by cases h; assumption

theorem rep_mkAgg {vs : Array Value} {cs : List AV} (hl : vs.size = cs.length) (h : ∀ (j : Nat) y, cs[j]? = some y → y.leaf = true ∧ ∃ u, vs[j]? = some u ∧ Rep C w G H U u y) :
    Rep C w G H U (.agg vs) (mkAgg cs) := by
  unfold mkAgg
  cases hp : plainD cs with
  | none =>
    exact .agg vs cs hl (fun i x hx => (h i x hx).1) (fun i v x hv hx => by
      obtain ⟨_, u, h1, h2⟩ := h i x hx
      rw [hv] at h1; injection h1 with h1; subst h1
      exact h2)
  | some ds =>
    have hcs := plainD_eq cs ds hp
    subst hcs
    refine .d _ _ (.agg vs ds (by simpa using hl) (fun i x hx => ?_) (fun i v x hv hx => ?_))
    · exact (h i (.d x) (by simp [hx])).1
    · obtain ⟨_, u, h1, h2⟩ := h i (.d x) (by simp [hx])
      rw [hv] at h1; injection h1 with h1; subst h1
      exact h2.dinv
theorem cap_leaf {x : AV} (h : x.cap = true) : x.leaf = true := by cases x <;> first | exact h | cases h
theorem rep_mkFn {f : Nat} {vs : Array Value} {cs : List AV} (hl : vs.size = cs.length) (h : ∀ (j : Nat) y, cs[j]? = some y → y.cap = true ∧ ∃ u, vs[j]? = some u ∧ Rep C w G H U u y) :
    Rep C w G H U (.func (.func f) #[] vs) (mkFn f cs) := by
  unfold mkFn
  cases hp : plainD cs with
  | none =>
    exact .fn f vs cs hl (fun i x hx => (h i x hx).1) (fun i v x hv hx => by
      obtain ⟨_, u, h1, h2⟩ := h i x hx
      rw [hv] at h1; injection h1 with h1; subst h1
      exact h2)
  | some ds =>
    have hcs := plainD_eq cs ds hp
    subst hcs
    refine .d _ _ (.fn f vs ds (by simpa using hl) (fun i x hx => ?_) (fun i v x hv hx => ?_))
    · exact cap_leaf (h i (.d x) (by simp [hx])).1
    · obtain ⟨_, u, h1, h2⟩ := h i (.d x) (by simp [hx])
      rw [hv] at h1; injection h1 with h1; subst h1
      exact h2.dinv

def Behind (C : Ctx) (w : World) (G : Gh) (H : Heap) (U : Id → Prop) (v : Value) (cs : List AV) : Prop :=
  ∃ b off, v = .pointer (some ⟨b, off, none⟩) ∧ ∀ (j : Nat) y, cs[j]? = some y → y.leaf = true ∧ ∃ u, w.cell? ⟨b, off + j, none⟩ = some u ∧ Rep C w G H U u y
theorem Behind.drop {v : Value} {cs : List AV} (h : Behind C w G H U v cs) (k : Nat) : ∃ b off, v = .pointer (some ⟨b, off, none⟩) ∧ Behind C w G H U (.pointer (some ⟨b, off + k, none⟩)) (cs.drop k) := by
  obtain ⟨b, off, rfl, h⟩ := h
  refine ⟨b, off, rfl, b, off + k, rfl, fun j y hy => ?_⟩
  rw [List.getElem?_drop] at hy
  obtain ⟨h1, u, h2, h3⟩ := h (k + j) y hy
  exact ⟨h1, u, by rw [Nat.add_assoc]; exact h2, h3⟩

theorem behind_ok {S : St} (hr : HeapRel C w G S.H U) {v : Value} {x : AV} (h : Rep C w G S.H U v x) {cs : List AV} (hb : behind S x = some cs) : Behind C w G S.H U v cs := by
  cases h with
  | ptr v id off hv hg h =>
    simp only [behind] at hb
    cases hid : S.H.get id with
    | none => rw [hid] at hb; cases hb
    | some p =>
      rw [hid] at hb
      cases p with
      | grow n => cases hb
      | mpl es => cases hb
      | box ds =>
        injection hb with hb
        subst hb
        obtain ⟨b, h1, rfl⟩ := h ds hid
        obtain ⟨b', arr, te, z, h2, _, h3, _, h4, h5⟩ := hr.box id ds hid
        rw [h1] at h2; injection h2 with h2; subst h2
        refine ⟨b, off, rfl, fun j y hy => ?_⟩
        rw [List.getElem?_drop] at hy
        obtain ⟨h6, u, h7, h8⟩ := h5 _ y hy
        exact ⟨h6, u, by rw [cell_blk h3]; exact h7, h8⟩
  | d v x h =>
    cases h with
    | rp b off cs' fv hf hm h =>
      simp only [behind] at hb
      injection hb with hb
      subst hb
      refine ⟨b, off, rfl, fun j y hy => ?_⟩
      simp only [List.getElem?_map, Option.map_eq_some_iff] at hy
      obtain ⟨z, hz, rfl⟩ := hy
      exact ⟨hf j z hz, fv j, (hm j z hz).1, .d _ _ (h j z hz)⟩
    | _ => simp [behind] at hb
  | _ => simp [behind] at hb

theorem isAgg_ok (ok : T.Ok P) {t : Nat} {b : Bool} (h : isAgg T t = some b) (W : World) : (Go.isAgg t).run P W = .ok b W := by
  unfold Am.isAgg at h
  cases hd : T.und t with
  | none => rw [hd] at h; cases h
  | some d =>
    have hu := run_underlying (ok.und t d hd) W
    rw [hd] at h
    cases d <;> simp only [Option.some.injEq] at h <;> subst h <;> simp [Go.isAgg, hu]
theorem size_ok (ok : T.Ok P) {t n : Nat} (h : size T t = some n) (W : World) : (sizeOf t).run P W = .ok n W ∧ ∃ i, P.info? t = some i ∧ i.size = n := by
  unfold Am.size at h
  cases hd : T.inf t with
  | none => rw [hd] at h; cases h
  | some d =>
    obtain ⟨m, b, z⟩ := d
    rw [hd] at h
    have h : m = n := by simpa using h
    subst h
    obtain ⟨i, zv, h1, h2, _⟩ := ok.inf t m b z hd
    exact ⟨by simp [sizeOf, typeInfo, h1, h2], i, h1, h2⟩

theorem addr_add (b o n : Nat) : (⟨b, o, none⟩ : Addr).add n = ⟨b, o + n, none⟩ := by unfold Addr.add; split <;> simp_all

theorem loadVar_ok (ok : T.Ok P) {t : Nat} {b off : Nat} {cs : List AV} (hb : Behind C w G H U (.pointer (some ⟨b, off, none⟩)) cs) {x : AV} (hx : mkVar T t cs = some x) :
    ∃ v, (loadVar t ⟨b, off, none⟩).run P w = .ok v w ∧ Rep C w G H U v x ∧ ∀ xs, x ≠ .tup xs := by
  obtain ⟨b', off', he, hc⟩ := hb
  injection he with he
  injection he with he
  injection he with h1 h2
  subst h1; subst h2
  unfold mkVar at hx
  cases ha : isAgg T t with
  | none => rw [ha] at hx; simp at hx
  | some q =>
    cases hs : size T t with
    | none => rw [ha, hs] at hx; cases q <;> simp at hx
    | some n =>
      have hra := isAgg_ok ok ha w
      obtain ⟨hrs, _⟩ := size_ok ok hs w
      rw [ha, hs] at hx
      cases q with
      | true =>
        simp only at hx
        by_cases hn : n ≤ cs.length
        · rw [if_pos hn] at hx
          injection hx with hx
          subst hx
          have hex : ∀ j, j < n → ∃ u, w.cell? ⟨b, off + j, none⟩ = some u := fun j hj => by
            obtain ⟨_, u, h3, _⟩ := hc j cs[j] (List.getElem?_eq_getElem (by omega))
            exact ⟨u, h3⟩
          have hrun := run_loadCells (P := P) w ⟨b, off, none⟩ n (fun j => (w.cell? ⟨b, off + j, none⟩).getD undef) (fun j hj => by
            obtain ⟨u, hu⟩ := hex j hj
            rw [addr_add, hu]; rfl)
          refine ⟨.agg ((List.range n).map fun j => (w.cell? ⟨b, off + j, none⟩).getD undef).toArray, by simp [loadVar, hra, hrs, hrun], rep_mkAgg (by simp; omega) (fun j y hy => ?_), fun xs h => by unfold mkAgg at h; split at h <;> cases h⟩
          have hj : j < n := by
            have := (List.getElem?_eq_some_iff.1 hy).1
            simp at this; omega
          rw [List.getElem?_take, if_pos hj] at hy
          obtain ⟨h3, u, h4, h5⟩ := hc j y hy
          exact ⟨h3, u, by simp [hj, h4], h5⟩
        · rw [if_neg hn] at hx; cases hx
      | false =>
        simp only at hx
        split at hx
        case isFalse => cases hx
        cases cs with
        | nil => simp at hx
        | cons y r =>
          simp only [List.head?_cons, Option.some.injEq] at hx
          subst hx
          obtain ⟨h3, u, h4, h5⟩ := hc 0 y rfl
          refine ⟨u, ?_, h5, fun xs h => by subst h; simp [AV.leaf] at h3⟩
          simp only [Nat.add_zero] at h4
          simp [loadVar, hra, h4]

theorem const_ok (ok : T.Ok P) {t : Nat} {v : Value} {x : AV} (h : constAV T t v = some x) : CRep v x := by
  unfold constAV at h
  split at h
  · injection h with h; subst h; exact .int _ _
  · injection h with h; subst h; exact .bool _
  · injection h with h; subst h; exact .str _
  · split at h
    · split at h
      · injection h with h; subst h; exact .nilsl _
      · cases h
    · cases h
  · injection h with h; subst h; exact .anyv _ rfl
  · injection h with h; subst h; exact .anyv _ rfl
  · cases h
theorem ev_ok (ok : T.Ok P) {S : St} {a : Act} (hs : Sim C w G U S a) {t : Nat} {o : Operand} {x : AV} (h : ev T S t o = some x) : Rep C w G S.H U (a.eval o) x := by
  cases o with
  | tmp i => exact (hs.T i x h).2
  | const v => exact (const_ok ok h).rep
  | func f =>
    simp only [ev] at h
    injection h with h
    subst h
    exact .d _ _ (.fn f #[] [] rfl (fun i x h => by simp at h) (fun i v x h => by simp at h))
  | global n => simp [ev] at h
end
end Go.Proofs.Ytfcfifohflgboaa.Am
