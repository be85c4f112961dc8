/- Lists that can be written to: append, copy, clear, cap, cuts. -/
import Derived.Test.YtfcfifohflgboaaAmOp8
set_option linter.unusedVariables false
set_option linter.unusedSimpArgs false
namespace Go.Proofs.Ytfcfifohflgboaa.Am
open Go Go.RowKit

theorem get_erase (id j : Id) : ∀ H : Heap, Heap.get (H.erase id) j = if id = j then none else H.get j
  | [] => by simp [Heap.get, Heap.erase]
  | (i, p) :: r => by
    have ih := get_erase id j r
    unfold Heap.erase
    by_cases hi : i = id
    · subst hi
      rw [if_pos rfl, ih]
      by_cases he : i = j
      · rw [if_pos he, if_pos he]
      · rw [if_neg he, if_neg he]; simp only [Heap.get, if_neg he]
    · rw [if_neg hi]
      simp only [Heap.get]
      by_cases he : i = j
      · rw [if_pos he, if_pos he, if_neg (fun h => hi (he.trans h.symm))]
      · rw [if_neg he, if_neg he, ih]

section
variable {C : Ctx} {w w' : World} {G G' : Gh} {P : Program} {T : Tab} {S S' : St} {a : Act} {H : Heap} {U : Id → Prop}

theorem Ext.rename (hr : HeapRel C w G H U) {id id' : Id} (hid' : ¬ U id') {cs cs' : List AV} {b : Nat} (hp : H.get id = some (.box cs)) (hG : G id = some b) :
    Ext C w G H U w (setG G id' (some b)) ((id', .box cs') :: H.erase id) (addU U id') := by
  have hget : ∀ i q, Heap.get ((id', Place.box cs') :: H.erase id) i = some q → i ≠ id' → H.get i = some q ∧ i ≠ id := fun i q hq hi => by
    simp only [Heap.get, if_neg (Ne.symm hi)] at hq
    rw [get_erase] at hq
    split at hq
    · cases hq
    · rename_i h; exact ⟨hq, fun e => h e.symm⟩
  have hfz : ∀ b' o, Fz C G H b' o → Fz C (setG G id' (some b)) ((id', .box cs') :: H.erase id) b' o := fun b' o hf => by
    refine ⟨hf.1, hf.2.1, fun i q hq hGi => ?_⟩
    by_cases hi : i = id'
    · subst hi
      have hb : b = b' := by simpa [setG] using hGi
      subst hb
      exact (hf.2.2 id _ hp hG).elim
    · exact hf.2.2 i q (hget i q hq hi).1 (by simpa [setG, hi] using hGi)
  refine ⟨fun _ h => .inl h, fun b' o u hf hc => ⟨hc, hfz b' o hf⟩, fun i c hi hh => ?_, fun i n hi hh => ?_, fun b' arr te z hh => ⟨arr, z, hh, rfl⟩, ⟨rfl, rfl, rfl, Nat.le_refl _, fun _ _ => rfl⟩, fun b' es k hf hc => ⟨hc, hfz b' 0 hf⟩, fun i es hi hh => ?_⟩ <;>
    have hne : i ≠ id' := (fun e => by subst e; exact hid' hi)
  · exact ⟨⟨c, (hget i _ hh hne).1, rfl⟩, by simp [setG, hne]⟩
  · exact ⟨n, (hget i _ hh hne).1, Nat.le_refl _, fun _ => by simp [setG, hne]⟩
  · exact ⟨⟨es, (hget i _ hh hne).1⟩, by simp [setG, hne]⟩
theorem HeapRel.rename (hr : HeapRel C w G H U) {id id' : Id} (hid' : ¬ U id') {cs cs' : List AV} {b : Nat} (hp : H.get id = some (.box cs)) (hG : G id = some b)
    (hme : ∀ (arr : Array Value) (te : TypeId) (z : Nat × Nat), w.heap[b]? = some (.cells arr te z) → cs'.length ≤ arr.size ∧ ∀ (j : Nat) y, cs'[j]? = some y → y.leaf = true ∧ ∃ u, arr[j]? = some u ∧ Rep C w G H U u y) :
    HeapRel C w (setG G id' (some b)) ((id', .box cs') :: H.erase id) (addU U id') := by
  have e : Ext C w G H U w (setG G id' (some b)) ((id', .box cs') :: H.erase id) (addU U id') := Ext.rename hr hid' hp hG
  have hget : ∀ i q, Heap.get ((id', Place.box cs') :: H.erase id) i = some q → i ≠ id' → H.get i = some q ∧ i ≠ id := fun i q hq hi => by
    simp only [Heap.get, if_neg (Ne.symm hi)] at hq
    rw [get_erase] at hq
    split at hq
    · cases hq
    · rename_i h; exact ⟨hq, fun e => h e.symm⟩
  have hme' : ∀ q, Heap.get ((id', Place.box cs') :: H.erase id) id' = some q → q = .box cs' := fun q hq => by
    simpa [Heap.get] using hq.symm
  refine ⟨hr.base, hr.exlt, hr.exb, fun i p b' hq hGi hx => ?_, fun i p hq => ?_, fun i c hq => ?_, fun i n b' hq hGi => ?_, fun i i' p p' b' h1 h2 h3 h4 => ?_, fun i es hq => ?_⟩
  · by_cases hi : i = id'
    · subst hi
      have hb : b = b' := by simpa [setG] using hGi
      subst hb
      exact hr.exo id _ b hp hG hx
    · exact hr.exo i p b' (hget i p hq hi).1 (by simpa [setG, hi] using hGi) hx
  · by_cases hi : i = id'
    · exact .inr hi
    · exact .inl (hr.keys i p (hget i p hq hi).1)
  · by_cases hi : i = id'
    · subst hi
      have := hme' _ hq
      injection this with this
      subst this
      obtain ⟨b1, arr, te, z, h1, h2, h3, h4, _⟩ := hr.box id cs hp
      rw [hG] at h1; injection h1 with h1; subst h1
      obtain ⟨h5, h6⟩ := hme arr te z h3
      refine ⟨b, arr, te, z, by simp [setG], h2, h3, h4, h5, fun j y hy => ?_⟩
      obtain ⟨h7, u, h8, h9⟩ := h6 j y hy
      exact ⟨h7, u, h8, h9.ext e⟩
    · obtain ⟨b1, arr, te, z, h1, h2, h3, h4, h5, h6⟩ := hr.box i c (hget i _ hq hi).1
      refine ⟨b1, arr, te, z, by simp [setG, hi, h1], h2, h3, h4, h5, fun j y hy => ?_⟩
      obtain ⟨h7, u, h8, h9⟩ := h6 j y hy
      exact ⟨h7, u, h8, h9.ext e⟩
  · by_cases hi : i = id'
    · subst hi; have := hme' _ hq; cases this
    · exact hr.grow i n b' (hget i _ hq hi).1 (by simpa [setG, hi] using hGi)
  · by_cases hi : i = id' <;> by_cases hi' : i' = id'
    · rw [hi, hi']
    · subst hi
      have hb : b = b' := by simpa [setG] using h3
      subst hb
      exact ((hget i' p' h2 hi').2 (hr.sep i' id p' _ b (hget i' p' h2 hi').1 hp (by simpa [setG, hi'] using h4) hG)).elim
    · subst hi'
      have hb : b = b' := by simpa [setG] using h4
      subst hb
      exact ((hget i p h1 hi).2 (hr.sep i id p _ b (hget i p h1 hi).1 hp (by simpa [setG, hi] using h3) hG)).elim
    · exact hr.sep i i' p p' b' (hget i _ h1 hi).1 (hget i' _ h2 hi').1 (by simpa [setG, hi] using h3) (by simpa [setG, hi'] using h4)
  · by_cases hi : i = id'
    · subst hi; have := hme' _ hq; cases this
    · obtain ⟨b1, ents, clock, h1, h2, h3, h4, h5⟩ := hr.mpl i es (hget i _ hq hi).1
      exact ⟨b1, ents, clock, by simp [setG, hi, h1], h2, h3, h4, fun j x y hx hy => ⟨(h5 j x y hx hy).1.mono e.cell e.mpb, (h5 j x y hx hy).2.mono e.cell e.mpb⟩⟩

theorem flatD_get (sz : Nat) (h0 : 0 < sz) : ∀ (xs : List DV), (∀ x ∈ xs, x.cells.length = sz) → (flatD xs).length = xs.length * sz ∧ ∀ (j : Nat) y, (flatD xs)[j]? = some y → ∃ x z, xs[j / sz]? = some x ∧ x.cells[j % sz]? = some z ∧ y = .d z
  | [], _ => ⟨by simp [flatD], fun j y h => by simp [flatD] at h⟩
  | x :: r, h => by
    obtain ⟨h1, h2⟩ := flatD_get sz h0 r (fun q hq => h q (by simp [hq]))
    have hx := h x (by simp)
    have hc : flatD (x :: r) = x.cells.map .d ++ flatD r := by simp [flatD]
    refine ⟨by rw [hc, List.length_append, h1]; simp [hx, Nat.succ_mul]; omega, fun j y hy => ?_⟩
    rw [hc] at hy
    by_cases hj : j < sz
    · rw [List.getElem?_append_left (by simpa [hx] using hj)] at hy
      simp only [List.getElem?_map, Option.map_eq_some_iff] at hy
      obtain ⟨z, hz, rfl⟩ := hy
      exact ⟨x, z, by rw [Nat.div_eq_of_lt hj]; rfl, by rw [Nat.mod_eq_of_lt hj]; exact hz, rfl⟩
    · rw [List.getElem?_append_right (by simp [hx]; omega)] at hy
      simp only [List.length_map, hx] at hy
      obtain ⟨x', z, h3, h4, h5⟩ := h2 _ y hy
      refine ⟨x', z, ?_, ?_, h5⟩
      · have : j / sz = (j - sz) / sz + 1 := Nat.div_eq_sub_div h0 (by omega)
        rw [this]; exact h3
      · rw [Nat.mod_eq_sub_mod (by omega)]; exact h4

theorem listC_ok (hr : HeapRel C w G S.H U) {v : Value} {x : AV} (h : Rep C w G S.H U v x) {sz m : Nat} {ys : List AV} (hl : listC S x = some (sz, m, ys)) (h0 : 0 < sz) :
    ∃ (A : Option Addr) (c' : Nat) (us : List Value), v = .slice A m c' ∧ m ≤ c' ∧ m ≤ 9223372036854775807 ∧ us.length = m * sz ∧ ys.length = m * sz ∧ (0 < m → ∃ b off, A = some ⟨b, off, none⟩ ∧ ∀ (j : Nat) u, us[j]? = some u → w.cell? ⟨b, off + j, none⟩ = some u) ∧
      (∀ (j : Nat) y, ys[j]? = some y → y.leaf = true ∧ ∃ u, us[j]? = some u ∧ Rep C w G S.H U u y) ∧ ∀ u ∈ us, Value.oneCell' u = true := by
  have fin : ∀ (us : List Value), us.length = m * sz → ys.length = m * sz → (∀ (j : Nat) y, ys[j]? = some y → y.leaf = true ∧ ∃ u, us[j]? = some u ∧ Rep C w G S.H U u y) → ∀ u ∈ us, u.oneCell' = true := fun us h1 h2 h3 u hu => by
    obtain ⟨j, hj, rfl⟩ := List.getElem_of_mem hu
    obtain ⟨h4, u', h5, h6⟩ := h3 j ys[j] (List.getElem?_eq_getElem (by omega))
    rw [List.getElem?_eq_getElem hj] at h5
    injection h5 with h5
    rw [h5]
    exact leaf_one (h6.leafV h4)
  have deep : ∀ xs, elemsA x = some (sz, xs) → m = xs.length → ys = flatD xs → ∃ (A : Option Addr) (c' : Nat) (us : List Value), v = .slice A m c' ∧ m ≤ c' ∧ m ≤ 9223372036854775807 ∧ us.length = m * sz ∧ ys.length = m * sz ∧ (0 < m → ∃ b off, A = some ⟨b, off, none⟩ ∧ ∀ (j : Nat) u, us[j]? = some u → w.cell? ⟨b, off + j, none⟩ = some u) ∧
      (∀ (j : Nat) y, ys[j]? = some y → y.leaf = true ∧ ∃ u, us[j]? = some u ∧ Rep C w G S.H U u y) ∧ ∀ u ∈ us, u.oneCell' = true := fun xs he hm hy => by
    obtain ⟨A, c, hv, hrd⟩ := rep_elems h he
    rw [hv] at hrd
    obtain ⟨h1, h2, h3, fv, h4, h5⟩ := repD_sl_inv hrd
    have hcl : ∀ q ∈ xs, q.cells.length = sz := fun q hq => by
      obtain ⟨i, hi, rfl⟩ := List.getElem_of_mem hq
      exact (h4 i _ (List.getElem?_eq_getElem hi)).2.2
    have hfs : ∀ i, i < m → (fv i).cells.size = sz := fun i hi => (h4 i _ (List.getElem?_eq_getElem (by omega))).2.1
    obtain ⟨h6, h7⟩ := flatD_get sz h0 xs hcl
    subst hy
    have hul : (flatV sz fv m).length = m * sz := flatV_len m hfs
    have hyl : (flatD xs).length = m * sz := by rw [h6, hm]
    have hrep : ∀ (j : Nat) y, (flatD xs)[j]? = some y → y.leaf = true ∧ ∃ u, (flatV sz fv m)[j]? = some u ∧ Rep C w G S.H U u y := fun j y hy => by
      obtain ⟨q, z, h8, h9, rfl⟩ := h7 j y hy
      obtain ⟨h10, h11, _⟩ := h4 _ q h8
      obtain ⟨h12, u, h13, h14⟩ := h10.cells.2 _ z h9
      have hq : j / sz < m := by rw [hm]; exact (List.getElem?_eq_some_iff.1 h8).1
      refine ⟨h12, u, ?_, .d _ _ h14⟩
      have := flatV_get m hfs (j / sz) (j % sz) hq (Nat.mod_lt _ h0)
      rw [Nat.mul_comm, Nat.div_add_mod] at this
      rw [this]; exact h13
    refine ⟨A, c, flatV sz fv m, by rw [hv, hm], by omega, by omega, hul, hyl, fun hm0 => ?_, hrep, fin _ hul hyl hrep⟩
    obtain ⟨b, off, hA, h8⟩ := h5 (by omega)
    refine ⟨b, off, hA, fun j u hu => ?_⟩
    obtain ⟨h9, h10, h11, h12⟩ := flatV_inv m hfs h0 j u hu
    have := (h8 _ _ u (by omega) h12).1
    rw [h11, ← Nat.add_assoc]
    exact this
  unfold listC at hl
  split at hl
  · simp only [Option.some.injEq, Prod.mk.injEq] at hl
    obtain ⟨rfl, rfl, rfl⟩ := hl
    exact deep _ rfl rfl rfl
  · simp only [Option.some.injEq, Prod.mk.injEq] at hl
    obtain ⟨rfl, rfl, rfl⟩ := hl
    exact deep _ rfl rfl rfl
  · simp only [Option.some.injEq, Prod.mk.injEq] at hl
    obtain ⟨rfl, rfl, rfl⟩ := hl
    exact deep [] rfl rfl rfl
  · simp only [Option.some.injEq, Prod.mk.injEq] at hl
    obtain ⟨rfl, rfl, rfl⟩ := hl
    exact deep [] rfl rfl rfl
  · rename_i id off n sz'
    split at hl
    · rename_i cs hid
      split at hl
      · rename_i hc
        simp only [Option.some.injEq, Prod.mk.injEq] at hl
        obtain ⟨rfl, rfl, rfl⟩ := hl
        cases h with
        | arr v id off n sz hv hg hm h =>
          obtain ⟨b, c, h1, h2, h3, h4, _⟩ := h cs hid
          obtain ⟨b', arr, te, z, k1, k2, k3, k4, k5, k6⟩ := hr.box id cs hid
          rw [h1] at k1; injection k1 with k1; subst k1
          have hus : ((arr.toList.drop off).take (n * sz')).length = n * sz' := by simp; omega
          have hys : ((cs.drop off).take (n * sz')).length = n * sz' := by simp; omega
          have hrep : ∀ (j : Nat) y, ((cs.drop off).take (n * sz'))[j]? = some y → y.leaf = true ∧ ∃ u, ((arr.toList.drop off).take (n * sz'))[j]? = some u ∧ Rep C w G S.H U u y := fun j y hy => by
            have hj : j < n * sz' := by have := (List.getElem?_eq_some_iff.1 hy).1; omega
            rw [List.getElem?_take, if_pos hj, List.getElem?_drop] at hy
            obtain ⟨h7, u, h8, h9⟩ := k6 _ y hy
            exact ⟨h7, u, by rw [List.getElem?_take, if_pos hj, List.getElem?_drop]; simpa using h8, h9⟩
          refine ⟨_, c, _, h3, h2, hm, hus, hys, fun _ => ⟨b, off, rfl, fun j u hu => ?_⟩, hrep, fin _ hus hys hrep⟩
          have hj : j < n * sz' := by have := (List.getElem?_eq_some_iff.1 hu).1; omega
          rw [List.getElem?_take, if_pos hj, List.getElem?_drop] at hu
          rw [cell_blk k3]; simpa using hu
      · cases hl
    · cases hl
  · cases hl

theorem elemOf_ok (ok : T.Ok P) {ts : List Nat} {n bytes : Nat} (h : elemOf T ts = some (n, bytes)) : ∃ t e i zv z, ts = [t, t] ∧ P.underlying t = some (.slice e) ∧ T.inf e = some (n, bytes, z) ∧ P.info? e = some i ∧ i.size = n ∧ i.bytes = bytes ∧
    i.zero = some zv ∧ zv.cells.size = n ∧ 0 < n ∧ 0 < bytes := by
  unfold elemOf at h
  split at h
  · split at h
    · rename_i t0 t1 d0 d1 e e1 h0 h1
      split at h
      · rename_i n' b' z hi
        split at h
        · rename_i hc
          simp only [Option.some.injEq, Prod.mk.injEq] at h
          obtain ⟨rfl, rfl⟩ := h
          obtain ⟨rfl, hc1, hc2⟩ := hc
          obtain ⟨i, zv, i1, i2, i3, i4, i5, _⟩ := ok.inf e _ _ z hi
          exact ⟨_, e, i, zv, z, rfl, ok.und _ _ h0, hi, i1, i2, i3, i4, i5, hc1, hc2⟩
        · cases h
      · cases h
    · cases h
  · cases h

theorem run_append_at (t ty e : TypeId) (i : TypeInfo) (ht : P.underlying t = some (.slice e)) (hi : P.info? e = some i) (b off n c : Nat) (q : Addr) (m c' : Nat) (news : List Value) (hl : news.length = m * i.size)
    (hnews : ∀ j u, news[j]? = some u → w.cell? (q.add j) = some u) (h1 : ∀ u ∈ news, u.oneCell' = true) (hroom : n + m ≤ c)
    (hc : ∀ j, j < news.length → (w.cell? ⟨b, off + n * i.size + j, none⟩).isSome = true) (hf : ∀ j, j < news.length → w.frozen? ⟨b, off + n * i.size + j, none⟩ = false) :
    (Builtin.append_ #[t, t] ty #[.slice (some ⟨b, off, none⟩) n c, .slice (some q) m c']).run P w = .ok (.slice (some ⟨b, off, none⟩) (n + m) c) (w.setCells b (off + n * i.size) news) := by
  have hfc := run_firstCells_some (P := P) w i.size m q m c' news hl hnews
  have hst := run_storeCells_cells (P := P) b (off + n * i.size) news 0 w (by simpa using hc) (by simpa using hf) h1
  simp only [Nat.add_zero] at hst
  simp [Builtin.append_, run_underlying ht, sizeOf, typeInfo, hi, Builtin.lenOf, hroom, hfc, addr_add, hst]

theorem fresh_ok (hr : HeapRel C w G S.H U) (hfr : Fr U S.g) (d dst : Nat) {olds news : List Value} {cs : List AV} (hl : cs.length = (olds ++ news).length) (hrep : ∀ (j : Nat) y, cs[j]? = some y → y.leaf = true ∧ ∃ u, (olds ++ news)[j]? = some u ∧ Rep C w G S.H U u y)
    {arr : Array Value} {te k sz cap : Nat} (hk : cs.length = k * sz) (hkc : k ≤ cap) (hkm : k ≤ 9223372036854775807) (harr : ∀ (j : Nat) u, (olds ++ news)[j]? = some u → arr[j]? = some u) (hsize : cap * sz ≤ arr.size) :
    ∃ U', Ext C w G S.H U (w.drew.alloc (.cells arr te)) (setG G ⟨d, dst, 0 :: S.g⟩ (some w.heap.size)) ((⟨d, dst, 0 :: S.g⟩, .box cs) :: S.H) U' ∧
      HeapRel C (w.drew.alloc (.cells arr te)) (setG G ⟨d, dst, 0 :: S.g⟩ (some w.heap.size)) ((⟨d, dst, 0 :: S.g⟩, .box cs) :: S.H) U' ∧ Fr U' (1 :: S.g) ∧ (∀ i, U' i → U i ∨ S.g <:+ i.g) ∧
      Rep C (w.drew.alloc (.cells arr te)) (setG G ⟨d, dst, 0 :: S.g⟩ (some w.heap.size)) ((⟨d, dst, 0 :: S.g⟩, .box cs) :: S.H) U' (.slice (some ⟨w.heap.size, 0, none⟩) k cap) (.arr ⟨d, dst, 0 :: S.g⟩ 0 k sz) := by
  have hd : HeapRel C w.drew G S.H U := hr.grown ((Below.refl _ _).drew)
  have hde : Ext C w G S.H U w.drew G S.H U := Ext.grown hr ((Below.refl _ _).drew)
  have hle : k * sz ≤ cap * sz := Nat.mul_le_mul_right _ hkc
  refine ⟨addU U _, hde.trans (Ext.newBox hd (hfr.not d dst) (p := .box cs) arr te (0, 0)), hd.newBox (hfr.not d dst) arr te cs (by omega) (fun j y hy => ?_), hfr.add d dst, fun i hi => ?_, ?_⟩
  · obtain ⟨h1, u, h2, h3⟩ := hrep j y hy
    exact ⟨h1, u, harr j u h2, h3.ext hde⟩
  · rcases hi with hi | rfl
    · exact .inl hi
    · exact .inr (List.suffix_cons 0 S.g)
  · refine .arr _ _ _ _ _ rfl (.inr rfl) hkm fun cs' hc => ⟨w.heap.size, cap, by simp [setG], hkc, rfl, ?_, arr, te, (0, 0), heap_alloc_new w.drew _, by omega⟩
    simp only [Heap.get, if_true, Option.some.injEq, Place.box.injEq] at hc
    subst hc
    omega

theorem appendM_ok (ok : T.Ok P) (hr : HeapRel C w G S.H U) (hfr : Fr U S.g) {d dst : Nat} {ts : List Nat} {sz : Nat} {x y : AV} {u v : Value} (hu : Rep C w G S.H U u (.own sz [] none)) (hv : Rep C w G S.H U v x)
    (h : appendM T d dst S ts sz x = some (y, S')) (ty : Nat) : AppGood C P w G U S ((Builtin.append_ ts.toArray ty #[u, v]).run P w) y S' := by
  unfold appendM at h
  split at h
  · rename_i n bytes sz' m ys he hl
    split at h
    · rename_i hc
      obtain ⟨rfl, rfl, hb⟩ := hc
      obtain ⟨t, e, i, zv, z, rfl, hu0, hi0, hi, hsz, hby, hz, hzs, h0, hb0⟩ := elemOf_ok ok he
      obtain ⟨B, c', us, rfl, hmc, hmm, hul, hyl, hcell, hrep, hone⟩ := listC_ok hr hv hl h0
      cases hu with
      | own A k c _ xs tok hx ht =>
        obtain ⟨hxl, hxc, _⟩ := repD_sl_inv hx
        simp only [List.length_nil] at hxl
        subst hxl
        have hc0 : c = 0 := ht
        subst hc0
        split at h
        · rename_i hm
          subst hm
          simp only [Option.some.injEq, Prod.mk.injEq] at h
          obtain ⟨rfl, rfl⟩ := h
          have hrun := run_append_zero (P := P) (w := w) t ty e i hu0 hi A B 0 0 c' (Nat.le_refl _)
          exact ⟨_, w, G, U, hrun, Ext.refl _ _ _ _ _, hr, ⟨rfl, hfr, fun i h => .inl h⟩, .own _ _ _ _ _ _ hx ht⟩
        · rename_i hm
          simp only [Option.some.injEq, Prod.mk.injEq] at h
          obtain ⟨rfl, rfl⟩ := h
          obtain ⟨yb, yo, rfl, hcell2⟩ := hcell (by omega)
          have hm47 : m ≤ 140737488355328 := by
            have : m ≤ m * bytes := Nat.le_mul_of_pos_right _ hb0
            omega
          have hnews : ∀ j u, us[j]? = some u → w.cell? ((⟨yb, yo, none⟩ : Addr).add j) = some u := fun j u hu => by rw [addr_add]; exact hcell2 j u hu
          subst hzs
          obtain ⟨cap, hcap, arr, hrun, harr, hsize⟩ : ∃ cap, m ≤ cap ∧ ∃ arr : Array Value, (Builtin.append_ #[t, t] ty #[.slice A 0 0, .slice (some ⟨yb, yo, none⟩) m c']).run P w = .ok (.slice (some ⟨w.heap.size, 0, none⟩) m cap) (w.drew.alloc (.cells arr e)) ∧
              (∀ (j : Nat) u, ([] ++ us)[j]? = some u → arr[j]? = some u) ∧ cap * zv.cells.size ≤ arr.size := by
            have hge := grownCap_ge w m 0 e
            have hge' := grownCap_ge w (0 + m) 0 e
            cases A with
            | none =>
              refine ⟨_, hge, _, run_append_nil (P := P) w t ty e i zv hu0 hi hz ⟨yb, yo, none⟩ m c' us (by rw [hsz]; exact hul) hnews (by omega) (by omega) (by rw [hby]; omega), fun j u hu => ?_, ?_⟩
              · simp only [List.nil_append] at hu
                have hlt := (List.getElem?_eq_some_iff.1 hu).1
                rw [Array.getElem?_append_left (by simpa using hlt)]
                simpa using hu
              · simp only [Array.size_append, List.size_toArray, size_zeroCells, hul]
                rw [← Nat.add_mul]
                exact Nat.mul_le_mul_right _ (by omega)
            | some q =>
              have hrun := run_append_grow (P := P) w t ty e i zv hu0 hi hz q 0 0 [] (by simp) (fun j u hu => by simp at hu) ⟨yb, yo, none⟩ m c' us (by rw [hsz]; exact hul) hnews (by omega) (by omega)
                (by rw [hby]; exact growslice_fits (by omega) (by simp only [Nat.zero_add]; exact hb))
              simp only [Nat.zero_add] at hrun hge'
              refine ⟨_, hge', _, hrun, fun j u hu => ?_, ?_⟩
              · simp only [List.nil_append] at hu
                have hlt := (List.getElem?_eq_some_iff.1 hu).1
                rw [Array.getElem?_append_left (by simpa using hlt)]
                simpa using hu
              · simp only [Array.size_append, List.size_toArray, size_zeroCells, hul, List.length_nil, Nat.zero_add]
                rw [← Nat.add_mul]
                exact Nat.mul_le_mul_right _ (by omega)
          obtain ⟨U', h1, h2, h3, h4, h5⟩ := fresh_ok hr hfr d dst (olds := []) (news := us) (cs := ys) (te := e) (k := m) (sz := zv.cells.size) (by simp [hul, hyl]) (by simpa using hrep) hyl hcap hmm harr hsize
          exact ⟨_, _, _, U', hrun, h1, h2, ⟨rfl, h3, h4⟩, h5⟩
    · cases h
  · cases h
end
end Go.Proofs.Ytfcfifohflgboaa.Am
