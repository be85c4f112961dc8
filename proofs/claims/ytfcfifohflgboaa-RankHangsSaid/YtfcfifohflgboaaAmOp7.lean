/- append. -/
import Derived.Test.YtfcfifohflgboaaAmOp6
set_option linter.unusedVariables false
set_option linter.unusedSimpArgs false
namespace Go.Proofs.Ytfcfifohflgboaa.Am
open Go Go.RowKit

section
variable {C : Ctx} {w w' : World} {G G' : Gh} {P : Program} {T : Tab} {S S' : St} {a : Act} {H : Heap} {U : Id → Prop}

theorem run_append_zero (t ty e : TypeId) (i : TypeInfo) (ht : P.underlying t = some (.slice e)) (hi : P.info? e = some i) (A B : Option Addr) (n c c' : Nat) (h : n ≤ c) :
    (Builtin.append_ #[t, t] ty #[.slice A n c, .slice B 0 c']).run P w = .ok (.slice A n c) w := by
  cases A <;> cases B <;> simp [Builtin.append_, run_underlying ht, sizeOf, typeInfo, hi, Builtin.lenOf, Builtin.firstCells, h, loadCells, loadCellsFrom, storeCells]

theorem run_append_in (t ty e : TypeId) (i : TypeInfo) (ht : P.underlying t = some (.slice e)) (hi : P.info? e = some i) (b n c : Nat) (q : Addr) (m c' : Nat) (news : List Value) (hl : news.length = m * i.size)
    (hnews : ∀ j u, news[j]? = some u → w.cell? (q.add j) = some u) (h1 : ∀ u ∈ news, u.oneCell' = true) (hroom : n + m ≤ c)
    (hc : ∀ j, j < news.length → (w.cell? ⟨b, n * i.size + j, none⟩).isSome = true) (hf : ∀ j, j < news.length → w.frozen? ⟨b, n * i.size + j, none⟩ = false) :
    (Builtin.append_ #[t, t] ty #[.slice (some ⟨b, 0, none⟩) n c, .slice (some q) m c']).run P w = .ok (.slice (some ⟨b, 0, none⟩) (n + m) c) (w.setCells b (n * i.size) news) := by
  have hfc := run_firstCells_some (P := P) w i.size m q m c' news hl hnews
  have hst := run_storeCells_cells (P := P) b (n * i.size) news 0 w (by simpa using hc) (by simpa using hf) h1
  simp only [Nat.add_zero] at hst
  simp [Builtin.append_, run_underlying ht, sizeOf, typeInfo, hi, Builtin.lenOf, hroom, hfc, addr_add, hst]

def flatV (sz : Nat) (fv : Nat → Value) : Nat → List Value
  | 0 => []
  | k + 1 => flatV sz fv k ++ (fv k).cells.toList
theorem flatV_len {sz : Nat} {fv : Nat → Value} : ∀ k, (∀ i, i < k → (fv i).cells.size = sz) → (flatV sz fv k).length = k * sz
  | 0, _ => by simp [flatV]
  | k + 1, h => by
    rw [flatV, List.length_append, flatV_len k (fun i hi => h i (by omega)), Array.length_toList, h k (by omega), Nat.succ_mul]
theorem flatV_get {sz : Nat} {fv : Nat → Value} : ∀ k, (∀ i, i < k → (fv i).cells.size = sz) → ∀ i j, i < k → j < sz → (flatV sz fv k)[i * sz + j]? = (fv i).cells[j]?
  | 0, _, i, j, hi, _ => by omega
  | k + 1, h, i, j, hi, hj => by
    have hl := flatV_len k (fun i hi => h i (by omega))
    rw [flatV]
    by_cases hk : i < k
    · have : i * sz + j < k * sz := by
        have : (i + 1) * sz ≤ k * sz := Nat.mul_le_mul_right _ hk
        rw [Nat.succ_mul] at this; omega
      rw [List.getElem?_append_left (by omega)]
      exact flatV_get k (fun i hi => h i (by omega)) i j hk hj
    · have : i = k := by omega
      subst this
      rw [List.getElem?_append_right (by omega), hl, Nat.add_sub_cancel_left]
      simp
theorem flatV_inv {sz : Nat} {fv : Nat → Value} (k : Nat) (h : ∀ i, i < k → (fv i).cells.size = sz) (hs : 0 < sz) (q : Nat) (u : Value) (hq : (flatV sz fv k)[q]? = some u) :
    q / sz < k ∧ q % sz < sz ∧ q = q / sz * sz + q % sz ∧ (fv (q / sz)).cells[q % sz]? = some u := by
  have hl := flatV_len k h
  have hlt := (List.getElem?_eq_some_iff.1 hq).1
  have h1 : q / sz < k := by rw [Nat.div_lt_iff_lt_mul hs]; omega
  have h2 : q % sz < sz := Nat.mod_lt _ hs
  have h3 : q = q / sz * sz + q % sz := by rw [Nat.mul_comm]; exact (Nat.div_add_mod q sz).symm
  refine ⟨h1, h2, h3, ?_⟩
  rw [← flatV_get k h _ _ h1 h2, ← h3]
  exact hq

theorem repD_sl_inv {F : Nat → Nat → Prop} {A : Option Addr} {n c sz : Nat} {xs : List DV} (h : RepD w F (.slice A n c) (.sl sz xs)) :
    xs.length = n ∧ n ≤ c ∧ n ≤ 9223372036854775807 ∧ ∃ fv : Nat → Value, (∀ (i : Nat) x, xs[i]? = some x → RepD w F (fv i) x ∧ (fv i).cells.size = sz ∧ x.cells.length = sz) ∧
      (0 < n → ∃ b off, A = some ⟨b, off, none⟩ ∧ ∀ i j u, i < n → (fv i).cells[j]? = some u → w.cell? ⟨b, off + i * sz + j, none⟩ = some u ∧ F b (off + i * sz + j)) := by
  cases h with
  | sl A n c sz xs fv hl hc hm hm2 h =>
    refine ⟨hl, hc, hm, fv, fun i x hx => ⟨h i x hx, ?_, (hm2 i x hx).1⟩, fun hn => ?_⟩
    · rw [(h i x hx).cells.1]; exact (hm2 i x hx).1
    · obtain ⟨_, b, off, hA, _⟩ := hm2 0 _ (List.getElem?_eq_getElem (by omega))
      refine ⟨b, off, hA, fun i j u hi hu => ?_⟩
      obtain ⟨_, b', off', hA', hcell⟩ := hm2 i _ (List.getElem?_eq_getElem (by omega))
      rw [hA] at hA'
      injection hA' with hA'
      injection hA' with h1 h2
      subst h1; subst h2
      exact hcell j u hu

theorem repD_join {F : Nat → Nat → Prop} {b n m c sz : Nat} {xs ys : List DV} {fx fy : Nat → Value} (hx : xs.length = n) (hy : ys.length = m) (hc : n + m ≤ c) (hm : n + m ≤ 9223372036854775807)
    (h1 : ∀ (i : Nat) x, xs[i]? = some x → RepD w F (fx i) x ∧ (fx i).cells.size = sz ∧ x.cells.length = sz) (h2 : ∀ (i : Nat) x, ys[i]? = some x → RepD w F (fy i) x ∧ (fy i).cells.size = sz ∧ x.cells.length = sz)
    (h3 : ∀ i j u, i < n → (fx i).cells[j]? = some u → w.cell? ⟨b, i * sz + j, none⟩ = some u ∧ F b (i * sz + j))
    (h4 : ∀ i j u, i < m → (fy i).cells[j]? = some u → w.cell? ⟨b, (n + i) * sz + j, none⟩ = some u ∧ F b ((n + i) * sz + j)) :
    RepD w F (.slice (some ⟨b, 0, none⟩) (n + m) c) (.sl sz (xs ++ ys)) := by
  refine .sl _ _ _ sz _ (fun i => if i < n then fx i else fy (i - n)) (by simp [hx, hy]) hc hm (fun i x hi => ?_) (fun i x hi => ?_)
  · by_cases hlt : i < n
    · rw [List.getElem?_append_left (by omega)] at hi
      obtain ⟨_, _, h5⟩ := h1 i x hi
      refine ⟨h5, b, 0, rfl, fun j u hu => ?_⟩
      rw [if_pos hlt] at hu
      simpa using h3 i j u hlt hu
    · rw [List.getElem?_append_right (by omega)] at hi
      obtain ⟨_, _, h5⟩ := h2 _ x hi
      have hlt' := (List.getElem?_eq_some_iff.1 hi).1
      refine ⟨h5, b, 0, rfl, fun j u hu => ?_⟩
      rw [if_neg hlt] at hu
      have := h4 (i - n) j u (by omega) (by rw [← hx]; rw [hx]; exact hu)
      rw [show n + (i - n) = i by omega] at this
      simpa using this
  · by_cases hlt : i < n
    · rw [List.getElem?_append_left (by omega)] at hi
      rw [if_pos hlt]
      exact (h1 i x hi).1
    · rw [List.getElem?_append_right (by omega)] at hi
      rw [if_neg hlt, ← hx]
      exact (h2 _ x hi).1

def AppGood (C : Ctx) (P : Program) (w : World) (G : Gh) (U : Id → Prop) (S : St) (r : Result Value) (x : AV) (S' : St) : Prop :=
  ∃ v w' G' U', r = .ok v w' ∧ Ext C w G S.H U w' G' S'.H U' ∧ HeapRel C w' G' S'.H U' ∧ (S'.T = S.T ∧ Fr U' S'.g ∧ ∀ i, U' i → U i ∨ S.g <:+ i.g) ∧ Rep C w' G' S'.H U' v x

theorem append_grow_ok (ok : T.Ok P) (hr : HeapRel C w G S.H U) (hfr : Fr U S.g) {t ty e bytes sz : Nat} {z : List AV} (ht : T.und t = some (.slice e)) (he : T.inf e = some (sz, bytes, z)) (hs0 : 0 < sz) (hb0 : 0 < bytes)
    {A B : Option Addr} {n c m c' : Nat} {xs ys : List DV} (hx : RepD w (Fz C G S.H) (.slice A n c) (.sl sz xs)) (hy : RepD w (Fz C G S.H) (.slice B m c') (.sl sz ys))
    (hbytes : (xs.length + ys.length) * bytes ≤ 140737488355328) (hg : c < n + m) (hA : n = 0 → A = none → c = 0)
    {id : Id} {S' : St} (hT : S'.T = S.T) (hid : ((∃ d t, id = ⟨d, t, 0 :: S.g⟩) ∧ S'.g = 1 :: S.g ∧ S'.H = (id, .grow ((xs ++ ys).length * sz)) :: S.H) ∨ (∃ k, S.H.get id = some (.grow k) ∧ k = xs.length * sz ∧ S'.g = S.g ∧ S'.H = S.H.put id (.grow ((xs ++ ys).length * sz)))) :
    AppGood C P w G U S ((Builtin.append_ #[t, t] ty #[.slice A n c, .slice B m c']).run P w) (.own sz (xs ++ ys) (some id)) S' := by
  obtain ⟨hxl, hxc, hxm, fx, hx1, hx2⟩ := repD_sl_inv hx
  obtain ⟨hyl, hyc, hym, fy, hy1, hy2⟩ := repD_sl_inv hy
  obtain ⟨i, zv, hi, hsz, hby, hz, hzs, _, _⟩ := ok.inf e sz bytes z he
  have hm0 : 0 < m := by omega
  obtain ⟨yb, yo, rfl, hy3⟩ := hy2 hm0
  have hfxs : ∀ i, i < n → (fx i).cells.size = sz := fun i hi => (hx1 i _ (List.getElem?_eq_getElem (by omega))).2.1
  have hfys : ∀ i, i < m → (fy i).cells.size = sz := fun i hi => (hy1 i _ (List.getElem?_eq_getElem (by omega))).2.1
  have hnews : ∀ j u, (flatV sz fy m)[j]? = some u → w.cell? ((⟨yb, yo, none⟩ : Addr).add j) = some u := fun j u hu => by
    obtain ⟨h1, h2, h3, h4⟩ := flatV_inv m hfys hs0 j u hu
    have := (hy3 _ _ u h1 h4).1
    rw [addr_add, h3, ← Nat.add_assoc]
    exact this
  have hnl : (flatV sz fy m).length = m * i.size := by rw [hsz]; exact flatV_len m hfys
  have hol : (flatV sz fx n).length = n * i.size := by rw [hsz]; exact flatV_len n hfxs
  have hnm : n + m ≤ 140737488355328 := by
    have : n + m ≤ (n + m) * bytes := Nat.le_mul_of_pos_right _ hb0
    rw [hxl, hyl] at hbytes; omega
  have hfit : Builtin.nextslicecap (n + m) c * i.bytes ≤ 281474976710656 := by
    rw [hby]; exact growslice_fits hg (by rw [hxl, hyl] at hbytes; exact hbytes)
  obtain ⟨cap, hcap, w1, arr, hrun, hw1, harr, hsize⟩ : ∃ (cap : Nat), n + m ≤ cap ∧ ∃ (w1 : World) (arr : Array Value),
      (Builtin.append_ #[t, t] ty #[.slice A n c, .slice (some ⟨yb, yo, none⟩) m c']).run P w = .ok (.slice (some ⟨w.heap.size, 0, none⟩) (n + m) cap) (w1.alloc (.cells arr e)) ∧ w1 = w.drew ∧
      (∀ j u, (flatV sz fx n ++ flatV sz fy m)[j]? = some u → arr[j]? = some u) ∧ cap * sz ≤ arr.size := by
    have hge := grownCap_ge w (n + m) c e
    have harrs : ∀ (cap : Nat), n + m ≤ cap → cap * sz ≤ ((flatV sz fx n).toArray ++ (flatV sz fy m).toArray ++ Builtin.zeroCells zv.cells (cap - (n + m))).size := fun cap hc => by
      simp only [Array.size_append, List.size_toArray, size_zeroCells, hnl, hol, hsz, hzs]
      rw [← Nat.add_mul, ← Nat.add_mul]
      exact Nat.mul_le_mul_right _ (by omega)
    by_cases hn : 0 < n
    · obtain ⟨xb, xo, rfl, hx3⟩ := hx2 hn
      have holds : ∀ j u, (flatV sz fx n)[j]? = some u → w.cell? ((⟨xb, xo, none⟩ : Addr).add j) = some u := fun j u hu => by
        obtain ⟨h1, h2, h3, h4⟩ := flatV_inv n hfxs hs0 j u hu
        have := (hx3 _ _ u h1 h4).1
        rw [addr_add, h3, ← Nat.add_assoc]
        exact this
      refine ⟨_, hge, _, _, run_append_grow (P := P) w t ty e i zv (ok.und _ _ ht) hi hz ⟨xb, xo, none⟩ n c _ hol holds ⟨yb, yo, none⟩ m c' _ hnl hnews hg (by omega) hfit, rfl, fun j u hu => ?_, harrs _ hge⟩
      have hlt := (List.getElem?_eq_some_iff.1 hu).1
      rw [Array.getElem?_append_left (by simp at hlt ⊢; omega)]
      simpa using hu
    · have hn0 : n = 0 := by omega
      subst hn0
      cases A with
      | none =>
        have := hA rfl rfl
        subst this
        have hgr := run_append_nil (P := P) w t ty e i zv (ok.und _ _ ht) hi hz ⟨yb, yo, none⟩ m c' _ hnl hnews hm0 (by omega) (by rw [hby]; simp only [Nat.zero_add, hxl, hyl] at hbytes; omega)
        simp only [Nat.zero_add] at hge harrs ⊢
        refine ⟨_, hge, _, _, hgr, rfl, fun j u hu => ?_, ?_⟩
        · simp only [flatV, List.nil_append] at hu
          have hlt := (List.getElem?_eq_some_iff.1 hu).1
          rw [Array.getElem?_append_left (by simpa using hlt)]
          simpa using hu
        · have := harrs _ hge
          simpa [flatV] using this
      | some q =>
        refine ⟨_, hge, _, _, run_append_grow (P := P) w t ty e i zv (ok.und _ _ ht) hi hz q 0 c _ hol (fun j u hu => by simp [flatV] at hu) ⟨yb, yo, none⟩ m c' _ hnl hnews hg (by omega) hfit, rfl, fun j u hu => ?_, harrs _ hge⟩
        have hlt := (List.getElem?_eq_some_iff.1 hu).1
        rw [Array.getElem?_append_left (by simp at hlt ⊢; omega)]
        simpa using hu
  subst hw1
  have hd : HeapRel C w.drew G S.H U := hr.grown ((Below.refl _ _).drew)
  have hde : Ext C w G S.H U w.drew G S.H U := Ext.grown hr ((Below.refl _ _).drew)
  have hlen : (xs ++ ys).length = n + m := by simp [hxl, hyl]
  obtain ⟨U', hid', hfr', hnew⟩ : ∃ U' : Id → Prop, ((¬ U id ∧ U' = addU U id ∧ S'.H = (id, .grow ((xs ++ ys).length * sz)) :: S.H) ∨ (∃ k, S.H.get id = some (.grow k) ∧ k < (xs ++ ys).length * sz ∧ U' = U ∧ S'.H = S.H.put id (.grow ((xs ++ ys).length * sz)))) ∧
      Fr U' S'.g ∧ ∀ i, U' i → U i ∨ S.g <:+ i.g := by
    rcases hid with ⟨⟨d, t, rfl⟩, h2, h3⟩ | ⟨k, h1, h2, h3, h4⟩
    · refine ⟨addU U _, .inl ⟨hfr.not d t, rfl, h3⟩, by rw [h2]; exact hfr.add d t, fun i hi => ?_⟩
      rcases hi with hi | rfl
      · exact .inl hi
      · exact .inr (List.suffix_cons 0 S.g)
    · refine ⟨U, .inr ⟨k, h1, ?_, rfl, h4⟩, by rw [h3]; exact hfr, fun i hi => .inl hi⟩
      rw [h2, hlen, hxl]
      exact Nat.mul_lt_mul_of_pos_right (by omega) hs0
  have e2 := Ext.regrow hd hid' arr e
  have hr2 := hd.regrow hid' arr e (by rw [hlen]; exact Nat.le_trans (Nat.mul_le_mul_right _ hcap) hsize)
  have hall := hde.trans e2
  have hget : S'.H.get id = some (.grow ((xs ++ ys).length * sz)) := by
    rcases hid' with ⟨_, _, h⟩ | ⟨k, h1, _, _, h⟩
    · rw [h]; simp [Heap.get]
    · rw [h, get_put, if_pos rfl, h1]; rfl
  have hblk : (w.drew.alloc (.cells arr e)).heap[w.heap.size]? = some (.cells arr e) := heap_alloc_new w.drew _
  have hcellnew : ∀ j u, arr[j]? = some u → (w.drew.alloc (.cells arr e)).cell? ⟨w.heap.size, j, none⟩ = some u := fun j u hu => by rw [cell_blk hblk]; exact hu
  have hfz : ∀ o, o < (xs ++ ys).length * sz → Fz C (setG G id (some w.heap.size)) S'.H w.heap.size o := fun o ho => ⟨.inr hr.base, hr.nex (Nat.le_refl _), fun i' q hq hG => by
    by_cases hii : i' = id
    · subst hii
      rw [hget] at hq
      injection hq with hq
      subst hq
      exact ho
    · have hq' : S.H.get i' = some q := by
        rcases hid' with ⟨_, _, h⟩ | ⟨k, h1, _, _, h⟩
        · rw [h] at hq; simpa only [Heap.get, if_neg (Ne.symm hii)] using hq
        · rw [h, get_put, if_neg (Ne.symm hii)] at hq; exact hq
      have := (hr.blkLt hq' (b := w.heap.size) (by simpa [setG, hii] using hG)).2
      omega⟩
  refine ⟨_, _, _, U', hrun, hall, hr2, ⟨hT, hfr', hnew⟩, .own _ _ _ _ _ _ ?_ ⟨?_, hs0, fun fr hfr => ?_⟩⟩
  · refine repD_join hxl hyl hcap (by omega) (fun i' x hx' => ?_) (fun i' x hx' => ?_) (fun i' j u hi' hu => ?_) (fun i' j u hi' hu => ?_) (fx := fx) (fy := fy)
    · obtain ⟨h1, h2⟩ := hx1 i' x hx'
      exact ⟨h1.mono hall.cell hall.mpb, h2⟩
    · obtain ⟨h1, h2⟩ := hy1 i' x hx'
      exact ⟨h1.mono hall.cell hall.mpb, h2⟩
    · have hj : j < sz := by
        have := (Array.getElem?_eq_some_iff.1 hu).1
        rw [hfxs i' hi'] at this; exact this
      have hlt : i' * sz + j < n * sz := by
        have : (i' + 1) * sz ≤ n * sz := Nat.mul_le_mul_right _ hi'
        rw [Nat.succ_mul] at this; omega
      refine ⟨hcellnew _ _ (harr _ _ ?_), hfz _ ?_⟩
      · rw [List.getElem?_append_left (by rw [flatV_len n hfxs]; exact hlt), flatV_get n hfxs i' j hi' hj]; exact hu
      · rw [hlen, Nat.add_mul]; omega
    · have hj : j < sz := by
        have := (Array.getElem?_eq_some_iff.1 hu).1
        rw [hfys i' hi'] at this; exact this
      have hlt : i' * sz + j < m * sz := by
        have : (i' + 1) * sz ≤ m * sz := Nat.mul_le_mul_right _ hi'
        rw [Nat.succ_mul] at this; omega
      have he : (n + i') * sz + j = n * sz + (i' * sz + j) := by rw [Nat.add_mul]; omega
      refine ⟨hcellnew _ _ (harr _ _ ?_), hfz _ ?_⟩
      · rw [he, List.getElem?_append_right (by rw [flatV_len n hfxs]; omega), flatV_len n hfxs, Nat.add_sub_cancel_left, flatV_get m hfys i' j hi' hj]; exact hu
      · rw [he, hlen, Nat.add_mul]; omega
  · exact hr2.keys _ _ hget
  · rw [hget] at hfr
    injection hfr with hfr
    injection hfr with hfr
    subst hfr
    rw [hlen]
    refine ⟨Nat.le_refl _, fun _ => .inr ⟨w.heap.size, arr, e, (0, 0), rfl, by simp [setG], hblk, hsize⟩⟩
end
end Go.Proofs.Ytfcfifohflgboaa.Am
