/- How machine values and memory stand for the evaluator's values: the relation, and that it stays where memory grows. -/
import Derived.Test.YtfcfifohflgboaaAmDefs
import Derived.Below
import Derived.Deep.Draws
import Derived.Laws.OwnMore
set_option linter.unusedVariables false
set_option linter.unusedSimpArgs false
namespace Go.Proofs.Ytfcfifohflgboaa.Am
open Go Go.RowKit

def leafV : Value → Bool
  | .agg _ | .tuple _ => false
  | _ => true

inductive RepD (w : World) (F : Nat → Nat → Prop) : Value → DV → Prop where
  | int (k : IntKind) (n : Int) : RepD w F (.int k n) (.int k n)
  | bool (b : Bool) : RepD w F (.bool b) (.bool b)
  | str (s : ByteArray) : RepD w F (.string s) (.str s.data.toList)
  | agg (vs : Array Value) (cs : List DV) (hl : vs.size = cs.length) (hf : ∀ (i : Nat) x, cs[i]? = some x → x.leaf = true)
      (h : ∀ (i : Nat) v x, vs[i]? = some v → cs[i]? = some x → RepD w F v x) : RepD w F (.agg vs) (.agg cs)
  | sl (A : Option Addr) (n c sz : Nat) (xs : List DV) (fv : Nat → Value) (hl : xs.length = n) (hc : n ≤ c) (hm : n ≤ 9223372036854775807)
      (hm2 : ∀ (i : Nat) x, xs[i]? = some x → x.cells.length = sz ∧ ∃ b off, A = some ⟨b, off, none⟩ ∧ ∀ (j : Nat) u, (fv i).cells[j]? = some u → w.cell? ⟨b, off + i * sz + j, none⟩ = some u ∧ F b (off + i * sz + j))
      (h : ∀ (i : Nat) x, xs[i]? = some x → RepD w F (fv i) x) : RepD w F (.slice A n c) (.sl sz xs)
  | rp (b off : Nat) (cs : List DV) (fv : Nat → Value) (hf : ∀ (i : Nat) x, cs[i]? = some x → x.leaf = true)
      (hm : ∀ (j : Nat) y, cs[j]? = some y → w.cell? ⟨b, off + j, none⟩ = some (fv j) ∧ F b (off + j))
      (h : ∀ (j : Nat) y, cs[j]? = some y → RepD w F (fv j) y) : RepD w F (.pointer (some ⟨b, off, none⟩)) (.rp cs)
  | fn (f : Nat) (vs : Array Value) (cs : List DV) (hl : vs.size = cs.length) (hf : ∀ (i : Nat) x, cs[i]? = some x → x.leaf = true)
      (h : ∀ (i : Nat) v x, vs[i]? = some v → cs[i]? = some x → RepD w F v x) : RepD w F (.func (.func f) #[] vs) (.fn f cs)
  | mp (r : Nat) (ents : Array MapEntry) (clock : Nat) (es : List (DV × DV)) (hb : w.heap[r]? = some (.map ents clock)) (hf : F r 0) (hl : ents.size = es.length)
      (hk : ∀ (i : Nat) e p, ents[i]? = some e → es[i]? = some p → RepD w F e.key p.1) (hv : ∀ (i : Nat) e p, ents[i]? = some e → es[i]? = some p → RepD w F e.val p.2) : RepD w F (.map (some r)) (.mp es)
  | nilf : RepD w F .nilFunc .nilf
  | any (v : Value) (h : leafV v = true) : RepD w F v .any
  | nils (v : Value) (c sz : Nat) (hv : v = .slice none 0 c) : RepD w F v (.nils sz)
  | emps (v : Value) (a : Addr) (c sz : Nat) (hv : v = .slice (some a) 0 c) : RepD w F v (.emps sz)
  | ump (r : Nat) (ents : Array MapEntry) (clock : Nat) (es es' : List (DV × DV)) (hb : w.heap[r]? = some (.map ents clock)) (hf : F r 0) (hl : ents.size = es'.length) (hfind : ∀ kd q x, findK kd q es = some x → findK kd q es' = some x)
      (hk : ∀ (i : Nat) e p, ents[i]? = some e → es'[i]? = some p → RepD w F e.key p.1) (hv : ∀ (i : Nat) e p, ents[i]? = some e → es'[i]? = some p → RepD w F e.val p.2) : RepD w F (.map (some r)) (.ump es)

theorem RepD.mono {w w' : World} {F F' : Nat → Nat → Prop} {v : Value} {x : DV} (h : RepD w F v x) (hc : ∀ b o u, F b o → w.cell? ⟨b, o, none⟩ = some u → w'.cell? ⟨b, o, none⟩ = some u ∧ F' b o)
    (hp : ∀ b es k, F b 0 → w.heap[b]? = some (.map es k) → w'.heap[b]? = some (.map es k) ∧ F' b 0) : RepD w' F' v x := by
  induction h with
  | int k n => exact .int k n
  | bool b => exact .bool b
  | str s => exact .str s
  | agg vs cs hl hf _ ih => exact .agg vs cs hl hf ih
  | sl A n c sz xs fv hl hcap hm hm2 _ ih =>
    refine .sl A n c sz xs fv hl hcap hm (fun i x hx => ?_) ih
    obtain ⟨h1, b, off, hA, h2⟩ := hm2 i x hx
    exact ⟨h1, b, off, hA, fun j u hu => hc _ _ _ (h2 j u hu).2 (h2 j u hu).1⟩
  | rp b off cs fv hf hm _ ih => exact .rp b off cs fv hf (fun j y hy => hc _ _ _ (hm j y hy).2 (hm j y hy).1) ih
  | fn f vs cs hl hf _ ih => exact .fn f vs cs hl hf ih
  | mp r ents clock es hb hf hl _ _ ih1 ih2 => exact .mp r ents clock es (hp _ _ _ hf hb).1 (hp _ _ _ hf hb).2 hl ih1 ih2
  | nilf => exact .nilf
  | any v h => exact .any v h
  | nils v c sz hv => exact .nils v c sz hv
  | emps v a c sz hv => exact .emps v a c sz hv
  | ump r ents clock es es' hb hf hl hfind _ _ ih1 ih2 => exact .ump r ents clock es es' (hp _ _ _ hf hb).1 (hp _ _ _ hf hb).2 hl hfind ih1 ih2
theorem RepD.weak {w : World} {F F' : Nat → Nat → Prop} {v : Value} {x : DV} (h : RepD w F v x) (hF : ∀ b o, F b o → F' b o) : RepD w F' v x :=
  h.mono (fun b o u hf hc => ⟨hc, hF b o hf⟩) (fun b es k hf hc => ⟨hc, hF b 0 hf⟩)

theorem RepD.leafV {w : World} {F : Nat → Nat → Prop} {v : Value} {x : DV} (h : RepD w F v x) (hl : x.leaf = true) : leafV v = true := by
  cases h <;> first | rfl | assumption | (subst_vars; rfl) | simp [DV.leaf] at hl

theorem cells_leaf {v : Value} (h : leafV v = true) : v.cells = #[v] := by cases v <;> first | rfl | simp [Am.leafV] at h
theorem dcells_leaf {x : DV} (h : x.leaf = true) : x.cells = [x] := by cases x <;> first | rfl | simp [DV.leaf] at h

theorem RepD.cells {w : World} {F : Nat → Nat → Prop} {v : Value} {x : DV} (h : RepD w F v x) :
    v.cells.size = x.cells.length ∧ ∀ (j : Nat) y, x.cells[j]? = some y → y.leaf = true ∧ ∃ u, v.cells[j]? = some u ∧ RepD w F u y := by
  by_cases hl : x.leaf = true
  · rw [cells_leaf (h.leafV hl), dcells_leaf hl]
    refine ⟨rfl, fun j y hy => ?_⟩
    cases j with
    | zero =>
      have : x = y := by simpa using hy
      subst this
      exact ⟨hl, v, rfl, h⟩
    | succ j => simp at hy
  · cases h with
    | agg vs cs hs hf hr =>
      refine ⟨hs, fun j y hy => ⟨hf j y hy, ?_⟩⟩
      have hj : j < vs.size := by
        have h1 : j < cs.length := (List.getElem?_eq_some_iff.1 hy).1
        omega
      exact ⟨vs[j], Array.getElem?_eq_getElem hj, hr j _ y (Array.getElem?_eq_getElem hj) hy⟩
    | _ => simp [DV.leaf] at hl

/-! ### what is whose -/
structure Ctx where
  base : Nat
  fz0 : Nat → Nat → Prop
  ex : Nat → Nat → Prop
  exb : Nat → Prop
abbrev Gh := Id → Option Nat

def Place.upto : Place → Nat → Prop
  | .box _, _ => False
  | .grow n, o => o < n
  | .mpl _, _ => False
def Fz (C : Ctx) (G : Gh) (H : Heap) (b o : Nat) : Prop := (C.fz0 b o ∨ C.base ≤ b) ∧ ¬ C.ex b o ∧ ∀ id p, H.get id = some p → G id = some b → p.upto o

def addU (U : Id → Prop) (id : Id) : Id → Prop := fun i => U i ∨ i = id
def TokOk (w : World) (G : Gh) (H : Heap) (U : Id → Prop) (A : Option Addr) (n c sz : Nat) : Option Id → Prop
  | none => c = n
  | some id => U id ∧ 0 < sz ∧ ∀ fr, H.get id = some (.grow fr) → n * sz ≤ fr ∧ (n * sz = fr → c = n ∨ ∃ b arr te z, A = some ⟨b, 0, none⟩ ∧ G id = some b ∧ w.heap[b]? = some (Obj.cells arr te z) ∧ c * sz ≤ arr.size)

inductive Rep (C : Ctx) (w : World) (G : Gh) (H : Heap) (U : Id → Prop) : Value → AV → Prop where
  | d (v : Value) (x : DV) (h : RepD w (Fz C G H) v x) : Rep C w G H U v (.d x)
  | own (A : Option Addr) (n c sz : Nat) (xs : List DV) (tok : Option Id) (h : RepD w (Fz C G H) (.slice A n c) (.sl sz xs)) (ht : TokOk w G H U A n c sz tok) :
      Rep C w G H U (.slice A n c) (.own sz xs tok)
  | ptr (v : Value) (id : Id) (off : Nat) (hv : leafV v = true) (hg : U id) (h : ∀ cs, H.get id = some (.box cs) → ∃ b, G id = some b ∧ v = .pointer (some ⟨b, off, none⟩)) : Rep C w G H U v (.ptr id off)
  | arr (v : Value) (id : Id) (off n sz : Nat) (hv : leafV v = true) (hg : U id) (hm : n ≤ 9223372036854775807)
      (h : ∀ cs, H.get id = some (.box cs) → ∃ b c, G id = some b ∧ n ≤ c ∧ v = .slice (some ⟨b, off, none⟩) n c ∧ cs.length ≤ off + c * sz ∧
        ∃ (arr : Array Value) (te : TypeId) (z : Nat × Nat), w.heap[b]? = some (.cells arr te z) ∧ off + c * sz ≤ arr.size) : Rep C w G H U v (.arr id off n sz)
  | mp (v : Value) (id : Id) (hv : leafV v = true) (hg : U id) (h : ∀ es, H.get id = some (.mpl es) → ∃ b, G id = some b ∧ v = .map (some b)) : Rep C w G H U v (.mp id)
  | fn (f : Nat) (vs : Array Value) (cs : List AV) (hl : vs.size = cs.length) (hf : ∀ (i : Nat) x, cs[i]? = some x → x.cap = true)
      (h : ∀ (i : Nat) v x, vs[i]? = some v → cs[i]? = some x → Rep C w G H U v x) : Rep C w G H U (.func (.func f) #[] vs) (.fn f cs)
  | agg (vs : Array Value) (cs : List AV) (hl : vs.size = cs.length) (hf : ∀ (i : Nat) x, cs[i]? = some x → x.leaf = true)
      (h : ∀ (i : Nat) v x, vs[i]? = some v → cs[i]? = some x → Rep C w G H U v x) : Rep C w G H U (.agg vs) (.agg cs)
  | tup (vs : Array Value) (xs : List AV) (hl : vs.size = xs.length) (hf : ∀ (i : Nat) x, xs[i]? = some x → noTup x = true)
      (h : ∀ (i : Nat) v x, vs[i]? = some v → xs[i]? = some x → Rep C w G H U v x) : Rep C w G H U (.tuple vs) (.tup xs)

structure Keep (C : Ctx) (w w' : World) : Prop where
  os : w'.os = w.os
  tape : w'.tape = w.tape
  output : w'.output = w.output
  size : w.heap.size ≤ w'.heap.size
  block : ∀ k, k < C.base ∨ C.exb k → w'.heap[k]? = w.heap[k]?

structure Ext (C : Ctx) (w : World) (G : Gh) (H : Heap) (U : Id → Prop) (w' : World) (G' : Gh) (H' : Heap) (U' : Id → Prop) : Prop where
  gle : ∀ i, U i → U' i
  cell : ∀ b o u, Fz C G H b o → w.cell? ⟨b, o, none⟩ = some u → w'.cell? ⟨b, o, none⟩ = some u ∧ Fz C G' H' b o
  box : ∀ id cs', U id → H'.get id = some (.box cs') → (∃ cs, H.get id = some (.box cs) ∧ cs.length = cs'.length) ∧ G' id = G id
  grow : ∀ id n', U id → H'.get id = some (.grow n') → ∃ n, H.get id = some (.grow n) ∧ n ≤ n' ∧ (n = n' → G' id = G id)
  blk : ∀ (b : Nat) (arr : Array Value) (te : TypeId) (z : Nat × Nat), w.heap[b]? = some (Obj.cells arr te z) → ∃ (arr' : Array Value) (z' : Nat × Nat), w'.heap[b]? = some (Obj.cells arr' te z') ∧ arr'.size = arr.size
  keep : Keep C w w'
  mpb : ∀ (b : Nat) es k, Fz C G H b 0 → w.heap[b]? = some (.map es k) → w'.heap[b]? = some (.map es k) ∧ Fz C G' H' b 0
  mpl : ∀ id es', U id → H'.get id = some (.mpl es') → (∃ es, H.get id = some (.mpl es)) ∧ G' id = G id

section
variable {C : Ctx} {w w' w'' : World} {G G' G'' : Gh} {H H' H'' : Heap} {U U' U'' : Id → Prop}

theorem Ext.refl (C : Ctx) (w : World) (G : Gh) (H : Heap) (U : Id → Prop) : Ext C w G H U w G H U where
  gle := fun _ h => h
  cell := fun _ _ _ h hc => ⟨hc, h⟩
  box := fun _ cs' _ h => ⟨⟨cs', h, rfl⟩, rfl⟩
  grow := fun _ n' _ h => ⟨n', h, Nat.le_refl _, fun _ => rfl⟩
  blk := fun _ arr _ z h => ⟨arr, z, h, rfl⟩
  keep := ⟨rfl, rfl, rfl, Nat.le_refl _, fun _ _ => rfl⟩
  mpb := fun _ _ _ h hc => ⟨hc, h⟩
  mpl := fun _ es' _ h => ⟨⟨es', h⟩, rfl⟩

theorem Ext.trans (h : Ext C w G H U w' G' H' U') (k : Ext C w' G' H' U' w'' G'' H'' U'') : Ext C w G H U w'' G'' H'' U'' where
  gle := fun i hi => k.gle i (h.gle i hi)
  cell := fun b o u hf hc => let ⟨h1, h2⟩ := h.cell b o u hf hc; k.cell b o u h2 h1
  box := fun id cs' hg hh => by
    obtain ⟨⟨cs, h1, hl⟩, h2⟩ := k.box id cs' (h.gle _ hg) hh
    obtain ⟨⟨cs0, h3, hl0⟩, h4⟩ := h.box id cs hg h1
    exact ⟨⟨cs0, h3, hl0.trans hl⟩, h2.trans h4⟩
  grow := fun id n' hg hh => by
    obtain ⟨n, h1, h2, h3⟩ := k.grow id n' (h.gle _ hg) hh
    obtain ⟨m, h4, h5, h6⟩ := h.grow id n hg h1
    exact ⟨m, h4, Nat.le_trans h5 h2, fun e => (h3 (by omega)).trans (h6 (by omega))⟩
  blk := fun b arr te z hb => by
    obtain ⟨arr1, z1, h1, h2⟩ := h.blk b arr te z hb
    obtain ⟨arr2, z2, h3, h4⟩ := k.blk b arr1 te z1 h1
    exact ⟨arr2, z2, h3, h4.trans h2⟩
  keep := ⟨k.keep.os.trans h.keep.os, k.keep.tape.trans h.keep.tape, k.keep.output.trans h.keep.output, Nat.le_trans h.keep.size k.keep.size,
    fun j hj => (k.keep.block j hj).trans (h.keep.block j hj)⟩
  mpb := fun b es c hf hc => let ⟨h1, h2⟩ := h.mpb b es c hf hc; k.mpb b es c h2 h1
  mpl := fun id es' hg hh => by
    obtain ⟨⟨es, h1⟩, h2⟩ := k.mpl id es' (h.gle _ hg) hh
    obtain ⟨h3, h4⟩ := h.mpl id es hg h1
    exact ⟨h3, h2.trans h4⟩

structure Mv (C : Ctx) (w : World) (G : Gh) (H : Heap) (U : Id → Prop) (C' : Ctx) (w' : World) (G' : Gh) (H' : Heap) (U' : Id → Prop) : Prop where
  gle : ∀ i, U i → U' i
  cell : ∀ b o u, Fz C G H b o → w.cell? ⟨b, o, none⟩ = some u → w'.cell? ⟨b, o, none⟩ = some u ∧ Fz C' G' H' b o
  box : ∀ id cs', U id → H'.get id = some (.box cs') → (∃ cs, H.get id = some (.box cs) ∧ cs.length = cs'.length) ∧ G' id = G id
  grow : ∀ id n', U id → H'.get id = some (.grow n') → ∃ n, H.get id = some (.grow n) ∧ n ≤ n' ∧ (n = n' → G' id = G id)
  blk : ∀ (b : Nat) (arr : Array Value) (te : TypeId) (z : Nat × Nat), w.heap[b]? = some (Obj.cells arr te z) → ∃ (arr' : Array Value) (z' : Nat × Nat), w'.heap[b]? = some (Obj.cells arr' te z') ∧ arr'.size = arr.size
  mpb : ∀ (b : Nat) es k, Fz C G H b 0 → w.heap[b]? = some (.map es k) → w'.heap[b]? = some (.map es k) ∧ Fz C' G' H' b 0
  mpl : ∀ id es', U id → H'.get id = some (.mpl es') → (∃ es, H.get id = some (.mpl es)) ∧ G' id = G id
theorem Ext.mv (e : Ext C w G H U w' G' H' U') : Mv C w G H U C w' G' H' U' := ⟨e.gle, e.cell, e.box, e.grow, e.blk, e.mpb, e.mpl⟩

theorem TokOk.mv {C' : Ctx} (e : Mv C w G H U C' w' G' H' U') {A : Option Addr} {n c sz : Nat} {tok : Option Id} (h : TokOk w G H U A n c sz tok) : TokOk w' G' H' U' A n c sz tok := by
  cases tok with
  | none => exact h
  | some id =>
    obtain ⟨h1, h0, h2⟩ := h
    refine ⟨e.gle _ h1, h0, fun fr hfr => ?_⟩
    obtain ⟨m, h3, h4, h5⟩ := e.grow id fr h1 hfr
    obtain ⟨h6, h7⟩ := h2 m h3
    refine ⟨Nat.le_trans h6 h4, fun he => ?_⟩
    have hm : n * sz = m := by omega
    rcases h7 hm with h7 | ⟨b, arr, te, z, hA, hG, hb, hs⟩
    · exact .inl h7
    · obtain ⟨arr', z', h8, h9⟩ := e.blk b arr te z hb
      exact .inr ⟨b, arr', te, z', hA, (h5 (by omega)).trans hG, h8, by omega⟩

theorem Rep.mv {C' : Ctx} (e : Mv C w G H U C' w' G' H' U') {v : Value} {x : AV} (h : Rep C w G H U v x) : Rep C' w' G' H' U' v x := by
  induction h with
  | d v x h => exact .d v x (h.mono e.cell e.mpb)
  | own A n c sz xs tok h ht => exact .own A n c sz xs tok (h.mono e.cell e.mpb) (ht.mv e)
  | ptr v id off hv hg h =>
    refine .ptr v id off hv (e.gle _ hg) fun cs hp => ?_
    obtain ⟨⟨cs0, h1, _⟩, h2⟩ := e.box id cs hg hp
    obtain ⟨b, h3, h4⟩ := h _ h1
    exact ⟨b, h2.trans h3, h4⟩
  | arr v id off n sz hv hg hm h =>
    refine .arr v id off n sz hv (e.gle _ hg) hm fun cs hp => ?_
    obtain ⟨⟨cs0, h1, hl⟩, h2⟩ := e.box id cs hg hp
    obtain ⟨b, c, h3, h4, h5, h6, arr, te, z, h7, h8⟩ := h _ h1
    obtain ⟨arr', z', h9, h10⟩ := e.blk b arr te z h7
    exact ⟨b, c, h2.trans h3, h4, h5, by omega, arr', te, z', h9, by omega⟩
  | mp v id hv hg h =>
    refine .mp v id hv (e.gle _ hg) fun es hp => ?_
    obtain ⟨⟨es0, h1⟩, h2⟩ := e.mpl id es hg hp
    obtain ⟨b, h3, h4⟩ := h _ h1
    exact ⟨b, h2.trans h3, h4⟩
  | fn f vs cs hl hf _ ih => exact .fn f vs cs hl hf ih
  | agg vs cs hl hf _ ih => exact .agg vs cs hl hf ih
  | tup vs xs hl hf _ ih => exact .tup vs xs hl hf ih
theorem Rep.ext (e : Ext C w G H U w' G' H' U') {v : Value} {x : AV} (h : Rep C w G H U v x) : Rep C w' G' H' U' v x := h.mv e.mv

theorem cell_lt {w : World} {b o : Nat} {u : Value} (h : w.cell? ⟨b, o, none⟩ = some u) : b < w.heap.size := by
  unfold World.cell? at h
  rcases Nat.lt_or_ge b w.heap.size with hb | hb
  · exact hb
  · simp [Array.getElem?_eq_none hb] at h
theorem cell_blk {w : World} {b o : Nat} {arr : Array Value} {te : TypeId} {z : Nat × Nat} (h : w.heap[b]? = some (.cells arr te z)) : w.cell? ⟨b, o, none⟩ = arr[o]? := by
  simp [World.cell?, h]
theorem blk_lt {w : World} {b : Nat} {x : Obj} (h : w.heap[b]? = some x) : b < w.heap.size := (Array.getElem?_eq_some_iff.1 h).1

structure HeapRel (C : Ctx) (w : World) (G : Gh) (H : Heap) (U : Id → Prop) : Prop where
  base : C.base ≤ w.heap.size
  exlt : ∀ k, C.exb k → k < w.heap.size
  exb : ∀ k o, C.ex k o → C.exb k
  exo : ∀ id p b, H.get id = some p → G id = some b → ¬ C.exb b
  keys : ∀ id p, H.get id = some p → U id
  box : ∀ id cs, H.get id = some (.box cs) → ∃ (b : Nat) (arr : Array Value) (te : TypeId) (z : Nat × Nat), G id = some b ∧ C.base ≤ b ∧ w.heap[b]? = some (.cells arr te z) ∧
    (∀ o, o < arr.size → w.frozen? ⟨b, o, none⟩ = false) ∧ cs.length ≤ arr.size ∧ ∀ (j : Nat) y, cs[j]? = some y → y.leaf = true ∧ ∃ u, arr[j]? = some u ∧ Rep C w G H U u y
  grow : ∀ id n b, H.get id = some (.grow n) → G id = some b → C.base ≤ b ∧ ∃ (arr : Array Value) (te : TypeId) (z : Nat × Nat), w.heap[b]? = some (.cells arr te z) ∧
    (∀ o, o < arr.size → w.frozen? ⟨b, o, none⟩ = false) ∧ n ≤ arr.size
  sep : ∀ id id' p p' b, H.get id = some p → H.get id' = some p' → G id = some b → G id' = some b → id = id'
  mpl : ∀ id es, H.get id = some (.mpl es) → ∃ (b : Nat) (ents : Array MapEntry) (clock : Nat), G id = some b ∧ C.base ≤ b ∧ w.heap[b]? = some (.map ents clock) ∧ ents.size = es.length ∧
    ∀ (j : Nat) e p, ents[j]? = some e → es[j]? = some p → RepD w (Fz C G H) e.key p.1 ∧ RepD w (Fz C G H) e.val p.2

theorem Ext.grown (hr : HeapRel C w G H U) (h : Below w.heap.size w w') : Ext C w G H U w' G H U where
  gle := fun _ h => h
  cell := fun b o u hf hc => ⟨(h.cell (p := ⟨b, o, none⟩) (cell_lt hc)).trans hc, hf⟩
  box := fun _ cs' _ hh => ⟨⟨cs', hh, rfl⟩, rfl⟩
  grow := fun _ n' _ hh => ⟨n', hh, Nat.le_refl _, fun _ => rfl⟩
  blk := fun b arr _ z hh => ⟨arr, z, (h.block b (blk_lt hh)).trans hh, rfl⟩
  keep := ⟨h.os, h.tape, h.output, h.size, fun k hk => h.block k (by rcases hk with hk | hk; exact Nat.lt_of_lt_of_le hk hr.base; exact hr.exlt k hk)⟩
  mpb := fun b es k hf hb => ⟨(h.block b (blk_lt hb)).trans hb, hf⟩
  mpl := fun _ es' _ hh => ⟨⟨es', hh⟩, rfl⟩
theorem HeapRel.grown (hr : HeapRel C w G H U) (h : Below w.heap.size w w') : HeapRel C w' G H U where
  base := Nat.le_trans hr.base h.size
  exlt := fun k hk => Nat.lt_of_lt_of_le (hr.exlt k hk) h.size
  exb := hr.exb
  exo := hr.exo
  keys := hr.keys
  box := fun id cs hh => by
    obtain ⟨b, arr, te, z, h1, h2, h3, h4, h5, h6⟩ := hr.box id cs hh
    refine ⟨b, arr, te, z, h1, h2, (h.block b (blk_lt h3)).trans h3, fun o ho => (h.frozen (p := ⟨b, o, none⟩) (blk_lt h3)).trans (h4 o ho), h5, fun j y hy => ?_⟩
    obtain ⟨h7, u, h8, h9⟩ := h6 j y hy
    exact ⟨h7, u, h8, h9.ext (Ext.grown hr h)⟩
  grow := fun id n b hh hG => by
    obtain ⟨h2, arr, te, z, h3, h4, h5⟩ := hr.grow id n b hh hG
    exact ⟨h2, arr, te, z, (h.block b (blk_lt h3)).trans h3, fun o ho => (h.frozen (p := ⟨b, o, none⟩) (blk_lt h3)).trans (h4 o ho), h5⟩
  sep := hr.sep
  mpl := fun id es hh => by
    obtain ⟨b, ents, clock, h1, h2, h3, h4, h5⟩ := hr.mpl id es hh
    have e := Ext.grown hr h
    exact ⟨b, ents, clock, h1, h2, (h.block b (blk_lt h3)).trans h3, h4, fun j x p hx hp => ⟨(h5 j x p hx hp).1.mono e.cell e.mpb, (h5 j x p hx hp).2.mono e.cell e.mpb⟩⟩

theorem Ext.drop (hsub : ∀ id p, H'.get id = some p → H.get id = some p) (hg : ∀ i, U i → U' i) : Ext C w G H U w G H' U' where
  gle := hg
  cell := fun b o u hf hc => ⟨hc, hf.1, hf.2.1, fun id p hp hG => hf.2.2 id p (hsub id p hp) hG⟩
  box := fun id cs' _ hh => ⟨⟨cs', hsub _ _ hh, rfl⟩, rfl⟩
  grow := fun id n' _ hh => ⟨n', hsub _ _ hh, Nat.le_refl _, fun _ => rfl⟩
  blk := fun b arr _ z hh => ⟨arr, z, hh, rfl⟩
  keep := ⟨rfl, rfl, rfl, Nat.le_refl _, fun _ _ => rfl⟩
  mpb := fun b es k hf hc => ⟨hc, hf.1, hf.2.1, fun id p hp hG => hf.2.2 id p (hsub id p hp) hG⟩
  mpl := fun id es' _ hh => ⟨⟨es', hsub _ _ hh⟩, rfl⟩
theorem HeapRel.drop (hr : HeapRel C w G H U) (hsub : ∀ id p, H'.get id = some p → H.get id = some p) (hg : ∀ i, U i → U' i) : HeapRel C w G H' U' where
  base := hr.base
  exlt := hr.exlt
  exb := hr.exb
  exo := fun id p b hp hG => hr.exo id p b (hsub _ _ hp) hG
  keys := fun id p hp => hg _ (hr.keys id p (hsub _ _ hp))
  box := fun id cs hh => by
    obtain ⟨b, arr, te, z, h1, h2, h3, h4, h5, h6⟩ := hr.box id cs (hsub _ _ hh)
    refine ⟨b, arr, te, z, h1, h2, h3, h4, h5, fun j y hy => ?_⟩
    obtain ⟨h7, u, h8, h9⟩ := h6 j y hy
    exact ⟨h7, u, h8, h9.ext (Ext.drop hsub hg)⟩
  grow := fun id n b hh hG => hr.grow id n b (hsub _ _ hh) hG
  sep := fun id id' p p' b h1 h2 => hr.sep id id' p p' b (hsub _ _ h1) (hsub _ _ h2)
  mpl := fun id es hh => by
    obtain ⟨b, ents, clock, h1, h2, h3, h4, h5⟩ := hr.mpl id es (hsub _ _ hh)
    have e : Ext C w G H U w G H' U' := Ext.drop hsub hg
    exact ⟨b, ents, clock, h1, h2, h3, h4, fun j x p hx hp => ⟨(h5 j x p hx hp).1.mono e.cell e.mpb, (h5 j x p hx hp).2.mono e.cell e.mpb⟩⟩

theorem get_filter (q : Id → Bool) (id : Id) : ∀ H : Heap, Heap.get (H.filter fun e => q e.1) id = if q id = true then H.get id else none
  | [] => by simp [Heap.get]
  | (i, p) :: r => by
    have ih := get_filter q id r
    by_cases hq : q i = true
    · simp only [List.filter_cons, hq, if_true, Heap.get]
      by_cases hi : i = id
      · subst hi; simp [hq]
      · simp only [hi, if_false]; exact ih
    · simp only [List.filter_cons, hq, Heap.get]
      by_cases hi : i = id
      · subst hi; simp only [hq, if_true]; rw [if_neg (by simp)]; rw [ih, if_neg hq]; simp
      · simp only [hi, if_false]
        simpa using ih
theorem get_put (id id' : Id) (q : Place) : ∀ H : Heap, Heap.get (H.put id q) id' = if id = id' then (H.get id).map (fun _ => q) else H.get id'
  | [] => by simp [Heap.get, Heap.put]
  | (i, p) :: r => by
    have ih := get_put id id' q r
    unfold Heap.put
    by_cases hi : i = id
    · subst hi
      by_cases he : i = id'
      · subst he; simp [Heap.get]
      · simp [Heap.get, he]
    · rw [if_neg hi]
      by_cases he : i = id'
      · subst he
        simp [Heap.get, hi, Ne.symm hi]
      · by_cases hd : id = id'
        · subst hd; simp only [Heap.get, he, if_false, if_true]; rw [ih, if_pos rfl]
        · simp only [Heap.get, he, if_false, hd]; rw [ih, if_neg hd]

def setG (G : Gh) (id : Id) (b : Option Nat) : Gh := fun i => if i = id then b else G i

theorem Ext.newObj (hr : HeapRel C w G H U) {id : Id} (hid : ¬ U id) {p : Place} (o0 : Obj) :
    Ext C w G H U (w.alloc o0) (setG G id (some w.heap.size)) ((id, p) :: H) (addU U id) where
  gle := fun _ h => .inl h
  cell := fun b o u hf hc => by
    have hb := cell_lt hc
    refine ⟨(World.cell?_alloc_lt w _ ⟨b, o, none⟩ hb).trans hc, hf.1, hf.2.1, fun i q hq hG => ?_⟩
    unfold setG at hG
    simp only [Heap.get] at hq
    by_cases hi : id = i
    · subst hi
      rw [if_pos rfl] at hG
      injection hG with hG
      omega
    · rw [if_neg hi] at hq
      rw [if_neg (Ne.symm hi)] at hG
      exact hf.2.2 i q hq hG
  box := fun i cs' hi hh => by
    have hne : id ≠ i := fun e => by subst e; exact hid hi
    simp only [Heap.get, if_neg hne] at hh
    exact ⟨⟨cs', hh, rfl⟩, by simp [setG, Ne.symm hne]⟩
  grow := fun i n' hi hh => by
    have hne : id ≠ i := fun e => by subst e; exact hid hi
    simp only [Heap.get, if_neg hne] at hh
    exact ⟨n', hh, Nat.le_refl _, fun _ => by simp [setG, Ne.symm hne]⟩
  blk := fun b a t y hh => ⟨a, y, (Below.heap_alloc w _ b (blk_lt hh)).trans hh, rfl⟩
  keep := (Ext.grown hr ((Below.refl _ _).alloc (Nat.le_refl _) _)).keep
  mpb := fun b es k hf hc => by
    have hb := blk_lt hc
    refine ⟨(Below.heap_alloc w _ b hb).trans hc, hf.1, hf.2.1, fun i q hq hG => ?_⟩
    unfold setG at hG
    simp only [Heap.get] at hq
    by_cases hi : id = i
    · subst hi
      rw [if_pos rfl] at hG
      injection hG with hG
      omega
    · rw [if_neg hi] at hq
      rw [if_neg (Ne.symm hi)] at hG
      exact hf.2.2 i q hq hG
  mpl := fun i es' hi hh => by
    have hne : id ≠ i := fun e => by subst e; exact hid hi
    simp only [Heap.get, if_neg hne] at hh
    exact ⟨⟨es', hh⟩, by simp [setG, Ne.symm hne]⟩

theorem Ext.newBox (hr : HeapRel C w G H U) {id : Id} (hid : ¬ U id) {p : Place} (arr : Array Value) (te : TypeId) (z : Nat × Nat) :
    Ext C w G H U (w.alloc (.cells arr te z)) (setG G id (some w.heap.size)) ((id, p) :: H) (addU U id) := Ext.newObj hr hid _

theorem frozen_alloc_new (w : World) (arr : Array Value) (te : TypeId) (o : Nat) : (w.alloc (.cells arr te)).frozen? ⟨w.heap.size, o, none⟩ = false := by
  have h := heap_alloc_new w (.cells arr te)
  simp only [World.frozen?, h]
  simp

theorem HeapRel.newBoxZ (hr : HeapRel C w G H U) {id : Id} (hid : ¬ U id) (arr : Array Value) (te : TypeId) (z : Nat × Nat) (hz : ∀ o, o < arr.size → ¬ (z.1 ≤ o ∧ o < z.2)) (cs : List AV) (hl : cs.length ≤ arr.size)
    (hc : ∀ (j : Nat) y, cs[j]? = some y → y.leaf = true ∧ ∃ u, arr[j]? = some u ∧ Rep C w G H U u y) :
    HeapRel C (w.alloc (.cells arr te z)) (setG G id (some w.heap.size)) ((id, .box cs) :: H) (addU U id) := by
  have e := Ext.newBox hr hid (p := .box cs) arr te z
  have hfr : ∀ o, o < arr.size → (w.alloc (.cells arr te z)).frozen? ⟨w.heap.size, o, none⟩ = false := fun o ho => by
    have hb : (w.alloc (.cells arr te z)).heap[w.heap.size]? = some (.cells arr te z) := heap_alloc_new w _
    unfold World.frozen?
    simp only [hb]
    have := hz o ho
    obtain ⟨lo, hi⟩ := z
    simp only at this ⊢
    by_cases h1 : lo ≤ o
    · have h2 : ¬ o < hi := fun h => this ⟨h1, h⟩
      simp [h2]
    · simp [h1]
  have hold : ∀ i p, Heap.get ((id, Place.box cs) :: H) i = some p → i ≠ id → H.get i = some p := fun i p hh hne => by
    simpa only [Heap.get, if_neg (Ne.symm hne)] using hh
  refine ⟨Nat.le_trans hr.base (by simp), fun k hk => Nat.lt_of_lt_of_le (hr.exlt k hk) (by simp), hr.exb, fun i p b hp hG hx => ?_, fun i p hh => ?_, fun i c hh => ?_, fun i n b hh hG => ?_, fun i i' p p' b h1 h2 h3 h4 => ?_, fun i es hh => ?_⟩
  · by_cases hi : i = id
    · subst hi
      simp only [setG, if_true] at hG
      injection hG with hG
      have := hr.exlt b hx
      omega
    · exact hr.exo i p b (hold i p hp hi) (by simpa [setG, hi] using hG) hx
  · by_cases hi : i = id
    · exact .inr hi
    · exact .inl (hr.keys i p (hold i p hh hi))
  · by_cases hi : i = id
    · subst hi
      simp only [Heap.get, if_true] at hh
      injection hh with hh
      injection hh with hh
      subst hh
      refine ⟨w.heap.size, arr, te, z, by simp [setG], hr.base, heap_alloc_new w _, hfr, hl, fun j y hy => ?_⟩
      obtain ⟨h1, u, h2, h3⟩ := hc j y hy
      exact ⟨h1, u, h2, h3.ext e⟩
    · obtain ⟨b, arr', te', z, h1, h2, h3, h4, h5, h6⟩ := hr.box i c (hold i _ hh hi)
      refine ⟨b, arr', te', z, by simp [setG, hi, h1], h2, (Below.heap_alloc w _ b (blk_lt h3)).trans h3, fun o ho => ?_, h5, fun j y hy => ?_⟩
      · rw [World.frozen?_of_block (w := w) (Below.heap_alloc w _ b (blk_lt h3))]; exact h4 o ho
      · obtain ⟨h7, u, h8, h9⟩ := h6 j y hy
        exact ⟨h7, u, h8, h9.ext e⟩
  · by_cases hi : i = id
    · subst hi; simp [Heap.get] at hh
    · have hG' : G i = some b := by simpa [setG, hi] using hG
      obtain ⟨h2, arr', te', z, h3, h4, h5⟩ := hr.grow i n b (hold i _ hh hi) hG'
      refine ⟨h2, arr', te', z, (Below.heap_alloc w _ b (blk_lt h3)).trans h3, fun o ho => ?_, h5⟩
      rw [World.frozen?_of_block (w := w) (Below.heap_alloc w _ b (blk_lt h3))]; exact h4 o ho
  · have hlt : ∀ j q, H.get j = some q → ∀ b, G j = some b → b < w.heap.size := fun j q hq b hb => by
      cases q with
      | box c =>
        obtain ⟨b', _, _, _, h1, _, h3, _⟩ := hr.box j c hq
        rw [hb] at h1; injection h1 with h1; subst h1
        exact blk_lt h3
      | grow n =>
        obtain ⟨_, _, _, _, h3, _⟩ := hr.grow j n b hq hb
        exact blk_lt h3
      | mpl es =>
        obtain ⟨b', _, _, h1, _, h3, _⟩ := hr.mpl j es hq
        rw [hb] at h1; injection h1 with h1; subst h1
        exact blk_lt h3
    by_cases hi : i = id <;> by_cases hi' : i' = id
    · rw [hi, hi']
    · subst hi
      have hb : w.heap.size = b := by simpa [setG] using h3
      have := hlt i' p' (hold i' _ h2 hi') b (by simpa [setG, hi'] using h4)
      omega
    · subst hi'
      have hb : w.heap.size = b := by simpa [setG] using h4
      have := hlt i p (hold i _ h1 hi) b (by simpa [setG, hi] using h3)
      omega
    · exact hr.sep i i' p p' b (hold i _ h1 hi) (hold i' _ h2 hi') (by simpa [setG, hi] using h3) (by simpa [setG, hi'] using h4)
  · by_cases hi : i = id
    · subst hi; simp [Heap.get] at hh
    · obtain ⟨b, ents, clock, h1, h2, h3, h4, h5⟩ := hr.mpl i es (hold i _ hh hi)
      exact ⟨b, ents, clock, by simp [setG, hi, h1], h2, (Below.heap_alloc w _ b (blk_lt h3)).trans h3, h4, fun j x p hx hp => ⟨(h5 j x p hx hp).1.mono e.cell e.mpb, (h5 j x p hx hp).2.mono e.cell e.mpb⟩⟩
theorem HeapRel.newBox (hr : HeapRel C w G H U) {id : Id} (hid : ¬ U id) (arr : Array Value) (te : TypeId) (cs : List AV) (hl : cs.length ≤ arr.size)
    (hc : ∀ (j : Nat) y, cs[j]? = some y → y.leaf = true ∧ ∃ u, arr[j]? = some u ∧ Rep C w G H U u y) :
    HeapRel C (w.alloc (.cells arr te)) (setG G id (some w.heap.size)) ((id, .box cs) :: H) (addU U id) :=
  hr.newBoxZ hid arr te (0, 0) (fun o _ h => by omega) cs hl hc
end
end Go.Proofs.Ytfcfifohflgboaa.Am
