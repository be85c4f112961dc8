/- What a store and an append do to memory, and that the relation stays. -/
import Derived.Test.YtfcfifohflgboaaAmRep
import Derived.Laws.IdiomCopy
import Derived.Laws.Cells
set_option linter.unusedVariables false
set_option linter.unusedSimpArgs false
namespace Go.Proofs.Ytfcfifohflgboaa.Am
open Go Go.RowKit

def setArr (arr : Array Value) : Nat → List Value → Array Value
  | _, [] => arr
  | o, v :: r => setArr (arr.setIfInBounds o v) (o + 1) r
theorem setArr_size : ∀ (vs : List Value) (arr : Array Value) (o : Nat), (setArr arr o vs).size = arr.size
  | [], _, _ => rfl
  | v :: r, arr, o => by rw [setArr, setArr_size r]; simp
theorem setArr_get : ∀ (vs : List Value) (arr : Array Value) (o j : Nat), o + vs.length ≤ arr.size → (setArr arr o vs)[j]? = if o ≤ j ∧ j < o + vs.length then vs[j - o]? else arr[j]?
  | [], arr, o, j, h => by rw [setArr, if_neg (by simp only [List.length_nil]; omega)]
  | v :: r, arr, o, j, h => by
    simp only [List.length_cons] at h ⊢
    rw [setArr, setArr_get r _ _ _ (by simp; omega)]
    by_cases h1 : o + 1 ≤ j ∧ j < o + 1 + r.length
    · rw [if_pos h1, if_pos (by omega), show j - o = (j - (o + 1)) + 1 by omega, List.getElem?_cons_succ]
    · rw [if_neg h1]
      by_cases h2 : j = o
      · subst h2
        rw [if_pos (by omega), Nat.sub_self, List.getElem?_cons_zero]
        rw [Array.getElem?_setIfInBounds]
        simp; omega
      · rw [if_neg (by omega), Array.getElem?_setIfInBounds, if_neg (by omega)]

theorem setCell_blk {w : World} {b o : Nat} {arr : Array Value} {te : TypeId} {z : Nat × Nat} (h : w.heap[b]? = some (.cells arr te z)) (v : Value) :
    (w.setCell ⟨b, o, none⟩ v).heap[b]? = some (.cells (arr.setIfInBounds o v) te z) := by
  simp [World.setCell, Array.getElem?_modify, h]
theorem setCells_blk {b : Nat} {te : TypeId} {z : Nat × Nat} : ∀ (vs : List Value) (w : World) (o : Nat) (arr : Array Value), w.heap[b]? = some (.cells arr te z) →
    (w.setCells b o vs).heap[b]? = some (.cells (setArr arr o vs) te z)
  | [], w, o, arr, h => h
  | v :: r, w, o, arr, h => setCells_blk r _ (o + 1) _ (setCell_blk h v)
theorem setCells_other {b : Nat} : ∀ (vs : List Value) (w : World) (o k : Nat), k ≠ b → (w.setCells b o vs).heap[k]? = w.heap[k]?
  | [], _, _, _, _ => rfl
  | v :: r, w, o, k, h => (setCells_other r _ (o + 1) k h).trans (Below.heap_setCell w ⟨b, o, none⟩ v k h)
theorem setCells_below {b B : Nat} (hb : B ≤ b) : ∀ (vs : List Value) (w : World) (o : Nat), Below B w (w.setCells b o vs)
  | [], w, o => Below.refl _ _
  | v :: r, w, o => ((Below.refl B w).setCell (p := ⟨b, o, none⟩) hb v).trans (setCells_below hb r _ (o + 1))
theorem setCells_size {b : Nat} (vs : List Value) (w : World) (o : Nat) : (w.setCells b o vs).heap.size = w.heap.size := by
  induction vs generalizing w o with
  | nil => rfl
  | cons v r ih => exact (ih _ (o + 1)).trans (by simp [World.setCell])

section
variable {C : Ctx} {w w' : World} {G G' : Gh} {H H' : Heap} {U U' : Id → Prop}

theorem HeapRel.blkLt (hr : HeapRel C w G H U) {i : Id} {p : Place} (h : H.get i = some p) {b : Nat} (hb : G i = some b) : C.base ≤ b ∧ b < w.heap.size := by
  cases p with
  | box c =>
    obtain ⟨b', _, _, _, h1, h2, h3, _⟩ := hr.box i c h
    rw [hb] at h1; injection h1 with h1; subst h1
    exact ⟨h2, blk_lt h3⟩
  | grow n =>
    obtain ⟨h2, _, _, _, h3, _⟩ := hr.grow i n b h hb
    exact ⟨h2, blk_lt h3⟩
  | mpl es =>
    obtain ⟨b', _, _, h1, h2, h3, _⟩ := hr.mpl i es h
    rw [hb] at h1; injection h1 with h1; subst h1
    exact ⟨h2, blk_lt h3⟩

theorem HeapRel.nex (hr : HeapRel C w G H U) {b o : Nat} (hb : w.heap.size ≤ b) : ¬ C.ex b o := fun h => by
  have := hr.exlt b (hr.exb b o h)
  omega

theorem Ext.write (hr : HeapRel C w G H U) {id : Id} {p p' : Place} {b : Nat} (hp : H.get id = some p) (hG : G id = some b) (o : Nat) (vs : List Value)
    (hk : (∃ cs cs', p = .box cs ∧ p' = .box cs' ∧ cs.length = cs'.length) ∨ ∃ n n', p = .grow n ∧ p' = .grow n' ∧ n ≤ o ∧ n ≤ n') :
    Ext C w G H U (w.setCells b o vs) G (H.put id p') U where
  gle := fun _ h => h
  cell := fun b' o' u hf hc => by
    have hlt := cell_lt hc
    have hfz : Fz C G (H.put id p') b' o' := ⟨hf.1, hf.2.1, fun i q hq hGi => by
      rw [get_put] at hq
      by_cases hi : id = i
      · subst hi
        rw [if_pos rfl, hp] at hq
        have hq : p' = q := by simpa using hq
        subst hq
        have h0 := hf.2.2 id p hp hGi
        rcases hk with ⟨cs, cs', rfl, rfl, _⟩ | ⟨n, n', rfl, rfl, _, hn⟩
        · exact h0
        · exact Nat.lt_of_lt_of_le h0 hn
      · rw [if_neg hi] at hq
        exact hf.2.2 i q hq hGi⟩
    refine ⟨?_, hfz⟩
    by_cases hb : b' = b
    · subst hb
      have h0 := hf.2.2 id p hp hG
      rcases hk with ⟨cs, cs', rfl, rfl, _⟩ | ⟨n, n', rfl, rfl, hn, _⟩
      · exact h0.elim
      · have h1 : o' < n := h0
        obtain ⟨_, arr, te, z, h2, _, h3⟩ := hr.grow id n b' hp hG
        rw [cell_blk h2] at hc
        rw [cell_blk (setCells_blk vs w o arr h2)]
        rw [← hc]
        have key : ∀ (vs : List Value) (arr : Array Value) (o : Nat), o' < o → (setArr arr o vs)[o']? = arr[o']? := by
          intro vs
          induction vs with
          | nil => intros; rfl
          | cons v r ih => intro arr o ho; rw [setArr, ih _ _ (by omega), Array.getElem?_setIfInBounds, if_neg (by omega)]
        exact key vs arr o (by omega)
    · rw [World.cell?_of_block (w := w) (setCells_other vs w o b' hb)]; exact hc
  box := fun i cs' hi hh => by
    refine ⟨?_, rfl⟩
    rw [get_put] at hh
    by_cases he : id = i
    · subst he
      rw [if_pos rfl, hp] at hh
      have hh : p' = .box cs' := by simpa using hh
      rcases hk with ⟨cs, cs'', rfl, rfl, hl⟩ | ⟨n, n', _, rfl, _⟩
      · have hh : cs'' = cs' := by simpa using hh
        subst hh
        exact ⟨cs, hp, hl⟩
      · cases hh
    · rw [if_neg he] at hh
      exact ⟨cs', hh, rfl⟩
  grow := fun i n' hi hh => by
    rw [get_put] at hh
    by_cases he : id = i
    · subst he
      rw [if_pos rfl, hp] at hh
      have hh : p' = .grow n' := by simpa using hh
      rcases hk with ⟨cs, cs'', _, rfl, _⟩ | ⟨n, n'', rfl, rfl, _, hn⟩
      · cases hh
      · have hh : n'' = n' := by simpa using hh
        subst hh
        exact ⟨n, hp, hn, fun _ => rfl⟩
    · rw [if_neg he] at hh
      exact ⟨n', hh, Nat.le_refl _, fun _ => rfl⟩
  blk := fun b' arr te z hh => by
    by_cases hb : b' = b
    · subst hb
      exact ⟨_, z, setCells_blk vs w o arr hh, setArr_size _ _ _⟩
    · exact ⟨arr, z, (setCells_other vs w o b' hb).trans hh, rfl⟩
  keep := by
    have hb := setCells_below (Nat.zero_le b) vs w o
    exact ⟨hb.os, hb.tape, hb.output, hb.size, fun k hk => setCells_other vs w o k (fun e => by
      subst e
      rcases hk with hk | hk
      · have := (hr.blkLt hp hG).1; omega
      · exact hr.exo id p k hp hG hk)⟩
  mpb := fun b' es k hf hc => by
    refine ⟨(setCells_other vs w o b' (fun e => ?_)).trans hc, hf.1, hf.2.1, fun i q hq hGi => ?_⟩
    · subst e
      rcases hk with ⟨cs, cs', rfl, rfl, _⟩ | ⟨n, n', rfl, rfl, _, hn⟩
      · obtain ⟨b1, arr, te, z, h1, _, h3, _⟩ := hr.box id cs hp
        rw [hG] at h1; injection h1 with h1; subst h1
        rw [hc] at h3; injection h3 with h3; cases h3
      · obtain ⟨_, arr, te, z, h3, _⟩ := hr.grow id n b' hp hG
        rw [hc] at h3; injection h3 with h3; cases h3
    · rw [get_put] at hq
      by_cases hi : id = i
      · subst hi
        rw [if_pos rfl, hp] at hq
        have hq : p' = q := by simpa using hq
        subst hq
        have h0 := hf.2.2 id p hp hGi
        rcases hk with ⟨cs, cs', rfl, rfl, _⟩ | ⟨n, n', rfl, rfl, _, hn⟩
        · exact h0
        · exact Nat.lt_of_lt_of_le h0 hn
      · rw [if_neg hi] at hq
        exact hf.2.2 i q hq hGi
  mpl := fun i es' hi hh => by
    refine ⟨?_, rfl⟩
    rw [get_put] at hh
    by_cases he : id = i
    · subst he
      rw [if_pos rfl, hp] at hh
      have hh : p' = .mpl es' := by simpa using hh
      rcases hk with ⟨cs, cs'', _, rfl, _⟩ | ⟨n, n', _, rfl, _⟩ <;> cases hh
    · rw [if_neg he] at hh
      exact ⟨es', hh⟩

theorem frozen_setCells (vs : List Value) (w : World) (b o b' o' : Nat) : (w.setCells b o vs).frozen? ⟨b', o', none⟩ = w.frozen? ⟨b', o', none⟩ := by
  induction vs generalizing w o with
  | nil => rfl
  | cons v r ih =>
    refine (ih _ (o + 1)).trans ?_
    by_cases h : b' = b
    · subst h
      unfold World.frozen?
      simp only [World.setCell, Array.getElem?_modify, if_true]
      cases hx : w.heap[b']? with
      | none => rfl
      | some x => cases x <;> rfl
    · exact World.frozen?_of_block (w := w) (Below.heap_setCell w ⟨b, o, none⟩ v b' h)

theorem HeapRel.write (hr : HeapRel C w G H U) {id : Id} {p p' : Place} {b : Nat} (hp : H.get id = some p) (hG : G id = some b) (o : Nat) (vs : List Value)
    (hk : (∃ cs cs', p = .box cs ∧ p' = .box cs' ∧ cs.length = cs'.length) ∨ ∃ n n', p = .grow n ∧ p' = .grow n' ∧ n ≤ o ∧ n ≤ n')
    (hme : ∀ (arr : Array Value) (te : TypeId) (z : Nat × Nat), w.heap[b]? = some (.cells arr te z) → match p' with
      | .box cs' => cs'.length ≤ arr.size ∧ ∀ (j : Nat) y, cs'[j]? = some y → y.leaf = true ∧ ∃ u, (setArr arr o vs)[j]? = some u ∧ Rep C w G H U u y
      | .grow n' => n' ≤ arr.size
      | .mpl _ => True) :
    HeapRel C (w.setCells b o vs) G (H.put id p') U := by
  have e := Ext.write hr hp hG o vs hk
  have hne : ∀ i q, Heap.get (H.put id p') i = some q → i ≠ id → H.get i = some q := fun i q hq hi => by
    rw [get_put, if_neg (Ne.symm hi)] at hq; exact hq
  have hid : ∀ q, Heap.get (H.put id p') id = some q → q = p' := fun q hq => by
    rw [get_put, if_pos rfl, hp] at hq
    simpa using hq.symm
  have hblk : ∀ i q, Heap.get (H.put id p') i = some q → i ≠ id → ∀ b', G i = some b' → b' ≠ b := fun i q hq hi b' hb' hbb => by
    subst hbb
    exact hi (hr.sep i id q p b' (hne i q hq hi) hp hb' hG)
  refine ⟨by rw [setCells_size]; exact hr.base, fun k hk => by rw [setCells_size]; exact hr.exlt k hk, hr.exb, fun i q b' hq hb' => ?_, fun i q hq => ?_, fun i cs hq => ?_, fun i n b' hq hb' => ?_, fun i i' q q' b' h1 h2 h3 h4 => ?_, fun i es hq => ?_⟩
  · by_cases hi : i = id
    · subst hi; exact hr.exo i p b' hp hb'
    · exact hr.exo i q b' (hne i q hq hi) hb'
  · by_cases hi : i = id
    · subst hi; exact hr.keys i p hp
    · exact hr.keys i q (hne i q hq hi)
  · by_cases hi : i = id
    · subst hi
      have hq := hid _ hq
      subst hq
      obtain ⟨hB, hL⟩ := hr.blkLt hp hG
      have hcell : ∃ (arr : Array Value) (te : TypeId) (z : Nat × Nat), w.heap[b]? = some (.cells arr te z) ∧ ∀ o, o < arr.size → w.frozen? ⟨b, o, none⟩ = false := by
        rcases hk with ⟨cs0, cs1, rfl, _, _⟩ | ⟨n, n', rfl, hh, _⟩
        · obtain ⟨b1, arr, te, z, h1, h2, h3, h4, _⟩ := hr.box i cs0 hp
          rw [hG] at h1; injection h1 with h1; subst h1
          exact ⟨arr, te, z, h3, h4⟩
        · cases hh
      obtain ⟨arr, te, z, h3, h4⟩ := hcell
      obtain ⟨h5, h6⟩ := hme arr te z h3
      refine ⟨b, _, te, z, hG, hB, setCells_blk vs w o arr h3, fun o' ho => ?_, by rw [setArr_size]; exact h5, fun j y hy => ?_⟩
      · rw [frozen_setCells]; exact h4 o' (by rw [setArr_size] at ho; exact ho)
      · obtain ⟨h7, u, h8, h9⟩ := h6 j y hy
        exact ⟨h7, u, h8, h9.ext e⟩
    · obtain ⟨b', arr, te, z, h1, h2, h3, h4, h5, h6⟩ := hr.box i cs (hne i _ hq hi)
      have hb := hblk i _ hq hi b' h1
      refine ⟨b', arr, te, z, h1, h2, (setCells_other vs w o b' hb).trans h3, fun o' ho => by rw [frozen_setCells]; exact h4 o' ho, h5, fun j y hy => ?_⟩
      obtain ⟨h7, u, h8, h9⟩ := h6 j y hy
      exact ⟨h7, u, h8, h9.ext e⟩
  · by_cases hi : i = id
    · subst hi
      have hq := hid _ hq
      subst hq
      rw [hG] at hb'; injection hb' with hb'; subst hb'
      obtain ⟨hB, hL⟩ := hr.blkLt hp hG
      rcases hk with ⟨cs0, cs1, _, hh, _⟩ | ⟨n1, n', rfl, hh, _⟩
      · cases hh
      · obtain ⟨h2, arr, te, z, h3, h4, h5⟩ := hr.grow i n1 b hp hG
        refine ⟨h2, _, te, z, setCells_blk vs w o arr h3, fun o' ho => ?_, ?_⟩
        · rw [frozen_setCells]; exact h4 o' (by rw [setArr_size] at ho; exact ho)
        · rw [setArr_size]; exact hme arr te z h3
    · obtain ⟨h2, arr, te, z, h3, h4, h5⟩ := hr.grow i n b' (hne i _ hq hi) hb'
      have hb := hblk i _ hq hi b' hb'
      exact ⟨h2, arr, te, z, (setCells_other vs w o b' hb).trans h3, fun o' ho => by rw [frozen_setCells]; exact h4 o' ho, h5⟩
  · by_cases hi : i = id <;> by_cases hi' : i' = id
    · rw [hi, hi']
    · subst hi
      exact hr.sep i i' p q' b' hp (hne i' q' h2 hi') h3 h4
    · subst hi'
      exact hr.sep i i' q p b' (hne i q h1 hi) hp h3 h4
    · exact hr.sep i i' q q' b' (hne i q h1 hi) (hne i' q' h2 hi') h3 h4
  · by_cases hi : i = id
    · subst hi
      have hq := hid _ hq
      rcases hk with ⟨cs0, cs1, _, hh, _⟩ | ⟨n1, n', _, hh, _⟩ <;> (rw [hh] at hq; cases hq)
    · obtain ⟨b', ents, clock, h1, h2, h3, h4, h5⟩ := hr.mpl i es (hne i _ hq hi)
      have hb := hblk i _ hq hi b' h1
      exact ⟨b', ents, clock, h1, h2, (setCells_other vs w o b' hb).trans h3, h4, fun j x y hx hy => ⟨(h5 j x y hx hy).1.mono e.cell e.mpb, (h5 j x y hx hy).2.mono e.cell e.mpb⟩⟩

theorem Ext.regrow (hr : HeapRel C w G H U) {id : Id} {n' : Nat} (hid : (¬ U id ∧ U' = addU U id ∧ H' = (id, .grow n') :: H) ∨ (∃ n, H.get id = some (.grow n) ∧ n < n' ∧ U' = U ∧ H' = H.put id (.grow n')))
    (arr : Array Value) (te : TypeId) : Ext C w G H U (w.alloc (.cells arr te)) (setG G id (some w.heap.size)) H' U' := by
  have hget : ∀ i q, H'.get i = some q → i ≠ id → H.get i = some q := fun i q hq hi => by
    rcases hid with ⟨_, _, rfl⟩ | ⟨n, _, _, _, rfl⟩
    · simpa only [Heap.get, if_neg (Ne.symm hi)] using hq
    · rwa [get_put, if_neg (Ne.symm hi)] at hq
  refine ⟨?_, fun b o u hf hc => ?_, fun i cs' hi hh => ?_, fun i m hi hh => ?_, fun b a t y hh => ⟨a, y, (Below.heap_alloc w _ b (blk_lt hh)).trans hh, rfl⟩, (Ext.grown hr ((Below.refl _ _).alloc (Nat.le_refl _) _)).keep, fun b es k hf hc => ?_, fun i es' hi hh => ?_⟩
  · rcases hid with ⟨_, h, _⟩ | ⟨_, _, _, h, _⟩
    · subst h; exact fun _ h => .inl h
    · subst h; exact fun _ h => h
  · have hb := cell_lt hc
    refine ⟨(World.cell?_alloc_lt w _ ⟨b, o, none⟩ hb).trans hc, hf.1, hf.2.1, fun i q hq hG => ?_⟩
    by_cases hi : i = id
    · subst hi
      simp only [setG, if_true] at hG
      injection hG with hG
      omega
    · exact hf.2.2 i q (hget i q hq hi) (by simpa [setG, hi] using hG)
  · by_cases he : i = id
    · subst he
      rcases hid with ⟨h, _, _⟩ | ⟨n, h, _, _, rfl⟩
      · exact (h hi).elim
      · rw [get_put, if_pos rfl, h] at hh
        simp at hh
    · exact ⟨⟨cs', hget i _ hh he, rfl⟩, by simp [setG, he]⟩
  · by_cases he : i = id
    · subst he
      rcases hid with ⟨h, _, _⟩ | ⟨n, h, hlt, _, rfl⟩
      · exact (h hi).elim
      · rw [get_put, if_pos rfl, h] at hh
        have hh : n' = m := by simpa using hh
        subst hh
        exact ⟨n, h, by omega, fun e => by omega⟩
    · exact ⟨m, hget i _ hh he, Nat.le_refl _, fun _ => by simp [setG, he]⟩
  · have hb := blk_lt hc
    refine ⟨(Below.heap_alloc w _ b hb).trans hc, hf.1, hf.2.1, fun i q hq hG => ?_⟩
    by_cases hi : i = id
    · subst hi
      simp only [setG, if_true] at hG
      injection hG with hG
      omega
    · exact hf.2.2 i q (hget i q hq hi) (by simpa [setG, hi] using hG)
  · by_cases he : i = id
    · subst he
      rcases hid with ⟨h, _, _⟩ | ⟨n, h, _, _, rfl⟩
      · exact (h hi).elim
      · rw [get_put, if_pos rfl, h] at hh
        simp at hh
    · exact ⟨⟨es', hget i _ hh he⟩, by simp [setG, he]⟩

theorem HeapRel.regrow (hr : HeapRel C w G H U) {id : Id} {n' : Nat} (hid : (¬ U id ∧ U' = addU U id ∧ H' = (id, .grow n') :: H) ∨ (∃ n, H.get id = some (.grow n) ∧ n < n' ∧ U' = U ∧ H' = H.put id (.grow n')))
    (arr : Array Value) (te : TypeId) (hn : n' ≤ arr.size) : HeapRel C (w.alloc (.cells arr te)) (setG G id (some w.heap.size)) H' U' := by
  have e := Ext.regrow hr hid arr te
  have hget : ∀ i q, H'.get i = some q → i ≠ id → H.get i = some q := fun i q hq hi => by
    rcases hid with ⟨_, _, rfl⟩ | ⟨n, _, _, _, rfl⟩
    · simpa only [Heap.get, if_neg (Ne.symm hi)] using hq
    · rwa [get_put, if_neg (Ne.symm hi)] at hq
  have hme : ∀ q, H'.get id = some q → q = .grow n' := fun q hq => by
    rcases hid with ⟨_, _, rfl⟩ | ⟨n, h, _, _, rfl⟩
    · simpa [Heap.get] using hq.symm
    · rw [get_put, if_pos rfl, h] at hq
      simpa using hq.symm
  refine ⟨Nat.le_trans hr.base (by simp), fun k hk => Nat.lt_of_lt_of_le (hr.exlt k hk) (by simp), hr.exb, fun i p b hp hG hx => ?_, fun i p hh => ?_, fun i c hh => ?_, fun i n b hh hG => ?_, fun i i' p p' b h1 h2 h3 h4 => ?_, fun i es hh => ?_⟩
  · by_cases hi : i = id
    · subst hi
      simp only [setG, if_true] at hG
      injection hG with hG
      have := hr.exlt b hx
      omega
    · exact hr.exo i p b (hget i p hp hi) (by simpa [setG, hi] using hG) hx
  · by_cases hi : i = id
    · subst hi
      rcases hid with ⟨_, rfl, _⟩ | ⟨n, h, _, rfl, _⟩
      · exact .inr rfl
      · exact hr.keys i _ h
    · exact e.gle _ (hr.keys i p (hget i p hh hi))
  · by_cases hi : i = id
    · subst hi; cases hme _ hh
    · obtain ⟨b, arr', te', z, h1, h2, h3, h4, h5, h6⟩ := hr.box i c (hget i _ hh hi)
      refine ⟨b, arr', te', z, by simp [setG, hi, h1], h2, (Below.heap_alloc w _ b (blk_lt h3)).trans h3, fun o ho => ?_, h5, fun j y hy => ?_⟩
      · rw [World.frozen?_of_block (w := w) (Below.heap_alloc w _ b (blk_lt h3))]; exact h4 o ho
      · obtain ⟨h7, u, h8, h9⟩ := h6 j y hy
        exact ⟨h7, u, h8, h9.ext e⟩
  · by_cases hi : i = id
    · subst hi
      have := hme _ hh
      injection this with this
      subst this
      simp only [setG, if_true] at hG
      injection hG with hG
      subst hG
      exact ⟨hr.base, arr, te, (0, 0), heap_alloc_new w _, fun o _ => frozen_alloc_new w arr te o, hn⟩
    · have hG' : G i = some b := by simpa [setG, hi] using hG
      obtain ⟨h2, arr', te', z, h3, h4, h5⟩ := hr.grow i n b (hget i _ hh hi) hG'
      refine ⟨h2, arr', te', z, (Below.heap_alloc w _ b (blk_lt h3)).trans h3, fun o ho => ?_, h5⟩
      rw [World.frozen?_of_block (w := w) (Below.heap_alloc w _ b (blk_lt h3))]; exact h4 o ho
  · by_cases hi : i = id <;> by_cases hi' : i' = id
    · rw [hi, hi']
    · subst hi
      have hb : w.heap.size = b := by simpa [setG] using h3
      have := (hr.blkLt (hget i' _ h2 hi') (b := b) (by simpa [setG, hi'] using h4)).2
      omega
    · subst hi'
      have hb : w.heap.size = b := by simpa [setG] using h4
      have := (hr.blkLt (hget i _ h1 hi) (b := b) (by simpa [setG, hi] using h3)).2
      omega
    · exact hr.sep i i' p p' b (hget i _ h1 hi) (hget i' _ h2 hi') (by simpa [setG, hi] using h3) (by simpa [setG, hi'] using h4)
  · by_cases hi : i = id
    · subst hi; cases hme _ hh
    · obtain ⟨b', ents, clock, h1, h2, h3, h4, h5⟩ := hr.mpl i es (hget i _ hh hi)
      exact ⟨b', ents, clock, by simp [setG, hi, h1], h2, (Below.heap_alloc w _ b' (blk_lt h3)).trans h3, h4, fun j x y hx hy => ⟨(h5 j x y hx hy).1.mono e.cell e.mpb, (h5 j x y hx hy).2.mono e.cell e.mpb⟩⟩

theorem Ext.token (hr : HeapRel C w G H U) {id : Id} (hid : ¬ U id) (n : Nat) (ob : Option Nat) (hob : ∀ b, ob = some b → False) : Ext C w G H U w (setG G id ob) ((id, .grow n) :: H) (addU U id) where
  gle := fun _ h => .inl h
  cell := fun b o u hf hc => ⟨hc, hf.1, hf.2.1, fun i q hq hG => by
    by_cases hi : id = i
    · subst hi
      simp only [setG, if_true] at hG
      exact (hob b hG).elim
    · simp only [Heap.get, if_neg hi] at hq
      exact hf.2.2 i q hq (by simpa [setG, Ne.symm hi] using hG)⟩
  box := fun i cs' hi hh => by
    have hne : id ≠ i := fun e => by subst e; exact hid hi
    simp only [Heap.get, if_neg hne] at hh
    exact ⟨⟨cs', hh, rfl⟩, by simp [setG, Ne.symm hne]⟩
  grow := fun i n' hi hh => by
    have hne : id ≠ i := fun e => by subst e; exact hid hi
    simp only [Heap.get, if_neg hne] at hh
    exact ⟨n', hh, Nat.le_refl _, fun _ => by simp [setG, Ne.symm hne]⟩
  blk := fun b a t y hh => ⟨a, y, hh, rfl⟩
  keep := ⟨rfl, rfl, rfl, Nat.le_refl _, fun _ _ => rfl⟩
  mpb := fun b es k hf hc => ⟨hc, hf.1, hf.2.1, fun i q hq hG => by
    by_cases hi : id = i
    · subst hi
      simp only [setG, if_true] at hG
      exact (hob b hG).elim
    · simp only [Heap.get, if_neg hi] at hq
      exact hf.2.2 i q hq (by simpa [setG, Ne.symm hi] using hG)⟩
  mpl := fun i es' hi hh => by
    have hne : id ≠ i := fun e => by subst e; exact hid hi
    simp only [Heap.get, if_neg hne] at hh
    exact ⟨⟨es', hh⟩, by simp [setG, Ne.symm hne]⟩
theorem HeapRel.token (hr : HeapRel C w G H U) {id : Id} (hid : ¬ U id) (n : Nat) : HeapRel C w (setG G id none) ((id, .grow n) :: H) (addU U id) := by
  have e := Ext.token hr hid n none (fun _ h => by cases h)
  have hget : ∀ i q, Heap.get ((id, Place.grow n) :: H) i = some q → i ≠ id → H.get i = some q := fun i q hq hi => by
    simpa only [Heap.get, if_neg (Ne.symm hi)] using hq
  refine ⟨hr.base, hr.exlt, hr.exb, fun i p b hp hG hx => ?_, fun i p hh => ?_, fun i c hh => ?_, fun i m b hh hG => ?_, fun i i' p p' b h1 h2 h3 h4 => ?_, fun i es hh => ?_⟩
  · by_cases hi : i = id
    · subst hi; simp [setG] at hG
    · exact hr.exo i p b (hget i p hp hi) (by simpa [setG, hi] using hG) hx
  · by_cases hi : i = id
    · exact .inr hi
    · exact .inl (hr.keys i p (hget i p hh hi))
  · by_cases hi : i = id
    · subst hi; simp [Heap.get] at hh
    · obtain ⟨b, arr', te', z, h1, h2, h3, h4, h5, h6⟩ := hr.box i c (hget i _ hh hi)
      refine ⟨b, arr', te', z, by simp [setG, hi, h1], h2, h3, h4, h5, fun j y hy => ?_⟩
      obtain ⟨h7, u, h8, h9⟩ := h6 j y hy
      exact ⟨h7, u, h8, h9.ext e⟩
  · by_cases hi : i = id
    · subst hi; simp [setG] at hG
    · exact hr.grow i m b (hget i _ hh hi) (by simpa [setG, hi] using hG)
  · by_cases hi : i = id
    · subst hi; simp [setG] at h3
    · by_cases hi' : i' = id
      · subst hi'; simp [setG] at h4
      · exact hr.sep i i' p p' b (hget i _ h1 hi) (hget i' _ h2 hi') (by simpa [setG, hi] using h3) (by simpa [setG, hi'] using h4)
  · by_cases hi : i = id
    · subst hi; simp [Heap.get] at hh
    · obtain ⟨b', ents, clock, h1, h2, h3, h4, h5⟩ := hr.mpl i es (hget i _ hh hi)
      exact ⟨b', ents, clock, by simp [setG, hi, h1], h2, h3, h4, fun j x y hx hy => ⟨(h5 j x y hx hy).1.mono e.cell e.mpb, (h5 j x y hx hy).2.mono e.cell e.mpb⟩⟩

theorem Ext.adopt (hr : HeapRel C w G H U) (hbw : Below w.heap.size w w') {id : Id} (hid : ¬ U id) (p0 : Place) (b0 : Nat) (hb0 : w.heap.size ≤ b0) :
    Ext C w G H U w' (setG G id (some b0)) ((id, p0) :: H) (addU U id) where
  gle := fun _ h => .inl h
  cell := fun b o u hf hc => by
    have hb := cell_lt hc
    refine ⟨(hbw.cell (p := ⟨b, o, none⟩) hb).trans hc, hf.1, hf.2.1, fun i q hq hG => ?_⟩
    by_cases hi : id = i
    · subst hi
      simp only [setG, if_true] at hG
      injection hG with hG
      omega
    · simp only [Heap.get, if_neg hi] at hq
      exact hf.2.2 i q hq (by simpa [setG, Ne.symm hi] using hG)
  box := fun i cs' hi hh => by
    have hne : id ≠ i := fun e => by subst e; exact hid hi
    simp only [Heap.get, if_neg hne] at hh
    exact ⟨⟨cs', hh, rfl⟩, by simp [setG, Ne.symm hne]⟩
  grow := fun i n' hi hh => by
    have hne : id ≠ i := fun e => by subst e; exact hid hi
    simp only [Heap.get, if_neg hne] at hh
    exact ⟨n', hh, Nat.le_refl _, fun _ => by simp [setG, Ne.symm hne]⟩
  blk := fun b a t y hh => ⟨a, y, (hbw.block b (blk_lt hh)).trans hh, rfl⟩
  keep := (Ext.grown hr hbw).keep
  mpb := fun b es k hf hc => by
    have hb := blk_lt hc
    refine ⟨(hbw.block b hb).trans hc, hf.1, hf.2.1, fun i q hq hG => ?_⟩
    by_cases hi : id = i
    · subst hi
      simp only [setG, if_true] at hG
      injection hG with hG
      omega
    · simp only [Heap.get, if_neg hi] at hq
      exact hf.2.2 i q hq (by simpa [setG, Ne.symm hi] using hG)
  mpl := fun i es' hi hh => by
    have hne : id ≠ i := fun e => by subst e; exact hid hi
    simp only [Heap.get, if_neg hne] at hh
    exact ⟨⟨es', hh⟩, by simp [setG, Ne.symm hne]⟩
theorem HeapRel.adopt (hr : HeapRel C w G H U) (hbw : Below w.heap.size w w') {id : Id} (hid : ¬ U id) (p0 : Place) (b0 : Nat) (hb0 : w.heap.size ≤ b0)
    (hme : match p0 with
      | .grow n => ∃ (arr : Array Value) (te : TypeId) (z : Nat × Nat), w'.heap[b0]? = some (.cells arr te z) ∧ (∀ o, o < arr.size → w'.frozen? ⟨b0, o, none⟩ = false) ∧ n ≤ arr.size
      | .box cs => ∃ (arr : Array Value) (te : TypeId) (z : Nat × Nat), w'.heap[b0]? = some (.cells arr te z) ∧ (∀ o, o < arr.size → w'.frozen? ⟨b0, o, none⟩ = false) ∧ cs.length ≤ arr.size ∧
          ∀ (j : Nat) y, cs[j]? = some y → y.leaf = true ∧ ∃ u, arr[j]? = some u ∧ Rep C w' (setG G id (some b0)) ((id, p0) :: H) (addU U id) u y
      | .mpl es => ∃ (ents : Array MapEntry) (clock : Nat), w'.heap[b0]? = some (.map ents clock) ∧ ents.size = es.length ∧
          ∀ (j : Nat) e p, ents[j]? = some e → es[j]? = some p → RepD w' (Fz C (setG G id (some b0)) ((id, p0) :: H)) e.key p.1 ∧ RepD w' (Fz C (setG G id (some b0)) ((id, p0) :: H)) e.val p.2) :
    HeapRel C w' (setG G id (some b0)) ((id, p0) :: H) (addU U id) := by
  have e := Ext.adopt hr hbw hid p0 b0 hb0
  have hget : ∀ i q, Heap.get ((id, p0) :: H) i = some q → i ≠ id → H.get i = some q := fun i q hq hi => by
    simpa only [Heap.get, if_neg (Ne.symm hi)] using hq
  refine ⟨Nat.le_trans hr.base hbw.size, fun k hk => Nat.lt_of_lt_of_le (hr.exlt k hk) hbw.size, hr.exb, fun i p b hp hG hx => ?_, fun i p hh => ?_, fun i c hh => ?_, fun i m b hh hG => ?_, fun i i' p p' b h1 h2 h3 h4 => ?_, fun i es hh => ?_⟩
  · by_cases hi : i = id
    · subst hi
      simp only [setG, if_true] at hG
      injection hG with hG
      have := hr.exlt b hx
      omega
    · exact hr.exo i p b (hget i p hp hi) (by simpa [setG, hi] using hG) hx
  · by_cases hi : i = id
    · exact .inr hi
    · exact .inl (hr.keys i p (hget i p hh hi))
  · by_cases hi : i = id
    · subst hi
      have hp : p0 = .box c := by simpa [Heap.get] using hh
      subst hp
      obtain ⟨arr, te, z, h3, h4, h5, h6⟩ := hme
      exact ⟨b0, arr, te, z, by simp [setG], Nat.le_trans hr.base hb0, h3, h4, h5, h6⟩
    · obtain ⟨b, arr', te', z, h1, h2, h3, h4, h5, h6⟩ := hr.box i c (hget i _ hh hi)
      refine ⟨b, arr', te', z, by simp [setG, hi, h1], h2, (hbw.block b (blk_lt h3)).trans h3, fun o ho => (hbw.frozen (p := ⟨b, o, none⟩) (blk_lt h3)).trans (h4 o ho), h5, fun j y hy => ?_⟩
      obtain ⟨h7, u, h8, h9⟩ := h6 j y hy
      exact ⟨h7, u, h8, h9.ext e⟩
  · by_cases hi : i = id
    · subst hi
      have hm : p0 = .grow m := by simpa [Heap.get] using hh
      subst hm
      simp only [setG, if_true] at hG
      injection hG with hG
      subst hG
      exact ⟨Nat.le_trans hr.base hb0, hme⟩
    · obtain ⟨h2, arr', te', z, h3, h4, h5⟩ := hr.grow i m b (hget i _ hh hi) (by simpa [setG, hi] using hG)
      exact ⟨h2, arr', te', z, (hbw.block b (blk_lt h3)).trans h3, fun o ho => (hbw.frozen (p := ⟨b, o, none⟩) (blk_lt h3)).trans (h4 o ho), h5⟩
  · by_cases hi : i = id <;> by_cases hi' : i' = id
    · rw [hi, hi']
    · subst hi
      have hb : b0 = b := by simpa [setG] using h3
      have := (hr.blkLt (hget i' _ h2 hi') (b := b) (by simpa [setG, hi'] using h4)).2
      omega
    · subst hi'
      have hb : b0 = b := by simpa [setG] using h4
      have := (hr.blkLt (hget i _ h1 hi) (b := b) (by simpa [setG, hi] using h3)).2
      omega
    · exact hr.sep i i' p p' b (hget i _ h1 hi) (hget i' _ h2 hi') (by simpa [setG, hi] using h3) (by simpa [setG, hi'] using h4)
  · by_cases hi : i = id
    · subst hi
      have hp : p0 = .mpl es := by simpa [Heap.get] using hh
      subst hp
      obtain ⟨ents, clock, h3, h4, h5⟩ := hme
      exact ⟨b0, ents, clock, by simp [setG], Nat.le_trans hr.base hb0, h3, h4, h5⟩
    · obtain ⟨b', ents, clock, h1, h2, h3, h4, h5⟩ := hr.mpl i es (hget i _ hh hi)
      exact ⟨b', ents, clock, by simp [setG, hi, h1], h2, (hbw.block b' (blk_lt h3)).trans h3, h4, fun j x y hx hy => ⟨(h5 j x y hx hy).1.mono e.cell e.mpb, (h5 j x y hx hy).2.mono e.cell e.mpb⟩⟩
end
end Go.Proofs.Ytfcfifohflgboaa.Am
