/- Lists that can be written to: append within them and behind them, copy, clear, cap, cuts. -/
import Derived.Test.YtfcfifohflgboaaAmOpB
set_option linter.unusedVariables false
set_option linter.unusedSimpArgs false
namespace Go.Proofs.Ytfcfifohflgboaa.Am
open Go Go.RowKit

section
variable {C : Ctx} {w w' : World} {G G' : Gh} {P : Program} {T : Tab} {S S' : St} {a : Act} {H : Heap} {U : Id → Prop}

theorem arr_inv (hr : HeapRel C w G S.H U) {v : Value} {id : Id} {off n sz : Nat} (h : Rep C w G S.H U v (.arr id off n sz)) {cs : List AV} (hid : S.H.get id = some (.box cs)) :
    ∃ b c arr te z, G id = some b ∧ U id ∧ n ≤ 9223372036854775807 ∧ n ≤ c ∧ v = .slice (some ⟨b, off, none⟩) n c ∧ cs.length ≤ off + c * sz ∧ off + c * sz ≤ arr.size ∧ w.heap[b]? = some (.cells arr te z) ∧
      (∀ o, o < arr.size → w.frozen? ⟨b, o, none⟩ = false) ∧ cs.length ≤ arr.size ∧ ∀ (j : Nat) y, cs[j]? = some y → y.leaf = true ∧ ∃ u, arr[j]? = some u ∧ Rep C w G S.H U u y := by
  cases h with
  | arr v id off n sz hv hg hm h =>
    obtain ⟨b, c, h1, h2, h3, h4, arr, te, z, h5, h6⟩ := h cs hid
    obtain ⟨b', arr', te', z', k1, k2, k3, k4, k5, k6⟩ := hr.box id cs hid
    rw [h1] at k1; injection k1 with k1; subst k1
    rw [h5] at k3; injection k3 with k3; injection k3 with k3 k3' k3''
    subst k3
    exact ⟨b, c, arr, te, z, h1, hg, hm, h2, h3, h4, h6, h5, k4, k5, k6⟩

theorem over_ok (hr : HeapRel C w G S.H U) {id : Id} {cs ys : List AV} {us : List Value} {o : Nat} {b : Nat} {arr : Array Value} {te : TypeId} {z : Nat × Nat} (hid : S.H.get id = some (.box cs)) (hG : G id = some b) (hb : w.heap[b]? = some (.cells arr te z))
    (hcs : cs.length ≤ arr.size) (hold : ∀ (j : Nat) y, cs[j]? = some y → y.leaf = true ∧ ∃ u, arr[j]? = some u ∧ Rep C w G S.H U u y) (hl : us.length = ys.length) (ho : o + ys.length ≤ cs.length)
    (hnew : ∀ (j : Nat) y, ys[j]? = some y → y.leaf = true ∧ ∃ u, us[j]? = some u ∧ Rep C w G S.H U u y) :
    Ext C w G S.H U (w.setCells b o us) G (S.H.put id (.box (setCells cs o ys))) U ∧ HeapRel C (w.setCells b o us) G (S.H.put id (.box (setCells cs o ys))) U := by
  have hk : (∃ cs0 cs', Place.box cs = .box cs0 ∧ Place.box (setCells cs o ys) = .box cs' ∧ cs0.length = cs'.length) ∨ ∃ n n', Place.box cs = .grow n ∧ Place.box (setCells cs o ys) = .grow n' ∧ n ≤ o ∧ n ≤ n' :=
    .inl ⟨_, _, rfl, rfl, (setCells_len _ _ _ ho).symm⟩
  refine ⟨Ext.write hr hid hG o us hk, hr.write hid hG o us hk (fun arr' te' z' hh => ?_)⟩
  rw [hb] at hh
  injection hh with hh
  injection hh with hh
  subst hh
  refine ⟨by rw [setCells_len _ _ _ ho]; exact hcs, fun j y hy => ?_⟩
  rw [setCells_get _ _ _ _ ho] at hy
  rw [setArr_get _ _ _ _ (by omega)]
  by_cases hj : o ≤ j ∧ j < o + ys.length
  · rw [if_pos hj] at hy
    rw [if_pos (by omega)]
    exact hnew _ y hy
  · rw [if_neg hj] at hy
    rw [if_neg (by omega)]
    exact hold j y hy

theorem appendB_ok (ok : T.Ok P) (hr : HeapRel C w G S.H U) (hfr : Fr U S.g) {d dst : Nat} {ts : List Nat} {id : Id} {off k sz : Nat} {x y : AV} {u v : Value} (hu : Rep C w G S.H U u (.arr id off k sz)) (hv : Rep C w G S.H U v x)
    (h : appendB T d dst S ts id off k sz x = some (y, S')) (ty : Nat) : AppGood C P w G U S ((Builtin.append_ ts.toArray ty #[u, v]).run P w) y S' := by
  unfold appendB at h
  split at h
  · rename_i n bytes cs sz' m ys he hid hl
    split at h
    · rename_i hc
      obtain ⟨rfl, rfl, hb⟩ := hc
      obtain ⟨t, e, i, zv, z, rfl, hu0, hi0, hi, hsz, hby, hz, hzs, h0, hb0⟩ := elemOf_ok ok he
      obtain ⟨B, c', us, rfl, hmc, hmm, hul, hyl, hcell, hrep, hone⟩ := listC_ok hr hv hl h0
      obtain ⟨b, c, arr, te, zz, hG, hUid, hkm, hkc, rfl, hcl, hca, hblk, hfree, hcs, hold⟩ := arr_inv hr hu hid
      have hkm47 : k + m ≤ 140737488355328 := by
        have : k + m ≤ (k + m) * bytes := Nat.le_mul_of_pos_right _ hb0
        omega
      have hin : ∀ (hroom : k + m ≤ c) (hm0 : 0 < m), (Builtin.append_ #[t, t] ty #[.slice (some ⟨b, off, none⟩) k c, .slice B m c']).run P w = .ok (.slice (some ⟨b, off, none⟩) (k + m) c) (w.setCells b (off + k * sz') us) := fun hroom hm0 => by
        obtain ⟨yb, yo, rfl, hcell2⟩ := hcell hm0
        have hfit : (k + m) * sz' ≤ c * sz' := Nat.mul_le_mul_right _ hroom
        rw [Nat.add_mul] at hfit
        have := run_append_at (P := P) (w := w) t ty e i hu0 hi b off k c ⟨yb, yo, none⟩ m c' us (by rw [hsz]; exact hul) (fun j u hu => by rw [addr_add]; exact hcell2 j u hu) hone hroom
          (fun j hj => by rw [hsz, cell_blk hblk]; simp; omega) (fun j hj => by rw [hsz]; exact hfree _ (by omega))
        rw [hsz] at this
        exact this
      split at h
      · rename_i hfit
        simp only [Option.some.injEq, Prod.mk.injEq] at h
        obtain ⟨rfl, rfl⟩ := h
        have hroom : k + m ≤ c := by
          have : (k + m) * sz' ≤ c * sz' := by omega
          exact Nat.le_of_mul_le_mul_right this h0
        have hle : off + k * sz' + ys.length ≤ cs.length := by rw [hyl]; rw [Nat.add_mul] at hfit; omega
        obtain ⟨he1, he2⟩ := over_ok hr hid hG hblk hcs hold (by omega) hle hrep
        have hres : ∀ w2, Ext C w G S.H U w2 G (S.H.put id (.box (setCells cs (off + k * sz') ys))) U → Rep C w2 G (S.H.put id (.box (setCells cs (off + k * sz') ys))) U (.slice (some ⟨b, off, none⟩) (k + m) c) (.arr id off (k + m) sz') := fun w2 e2 => by
          refine .arr _ _ _ _ _ rfl hUid (by omega) fun cs' hc => ?_
          obtain ⟨arr', zz', h1, h2⟩ := e2.blk b arr te zz hblk
          rw [get_put, if_pos rfl, hid] at hc
          have hc : setCells cs (off + k * sz') ys = cs' := by simpa using hc
          subst hc
          exact ⟨b, c, hG, hroom, rfl, by rw [setCells_len _ _ _ hle]; exact hcl, arr', te, zz', h1, by omega⟩
        by_cases hm0 : m = 0
        · subst hm0
          have hys : ys = [] := List.eq_nil_of_length_eq_zero (by simpa using hyl)
          have hus : us = [] := List.eq_nil_of_length_eq_zero (by simpa using hul)
          subst hys; subst hus
          have hrun := run_append_zero (P := P) (w := w) t ty e i hu0 hi (some ⟨b, off, none⟩) B k c c' hkc
          exact ⟨_, w, G, U, hrun, he1, he2, ⟨rfl, hfr, fun i h => .inl h⟩, hres _ he1⟩
        · exact ⟨_, _, G, U, hin hroom (by omega), he1, he2, ⟨rfl, hfr, fun i h => .inl h⟩, hres _ he1⟩
      · rename_i hnf
        split at h
        · rename_i hoff
          obtain ⟨rfl, hkl⟩ := hoff
          simp only [Option.some.injEq, Prod.mk.injEq] at h
          obtain ⟨rfl, rfl⟩ := h
          simp only [Nat.zero_add] at hnf hcl hca hin
          have hm0 : 0 < m := by
            rcases Nat.eq_zero_or_pos m with h | h
            · subst h; simp at hnf; omega
            · exact h
          have hcyl : (cs ++ ys).length = (k + m) * sz' := by rw [List.length_append, hyl, Nat.add_mul]; omega
          by_cases hroom : k + m ≤ c
          · have hfit : (k + m) * sz' ≤ c * sz' := Nat.mul_le_mul_right _ hroom
            have hk : (∃ cs0 cs', Place.box cs = .box cs0 ∧ Place.box cs = .box cs' ∧ cs0.length = cs'.length) ∨ ∃ n n', Place.box cs = .grow n ∧ Place.box cs = .grow n' ∧ n ≤ k * sz' ∧ n ≤ n' := .inl ⟨_, _, rfl, rfl, rfl⟩
            have hput : S.H.put id (.box cs) = S.H := put_self _ hid
            have e1 := Ext.write hr hid hG (k * sz') us hk
            have hr1 := hr.write hid hG (k * sz') us hk (fun arr' te' z' hh => by
              rw [hblk] at hh
              injection hh with hh
              injection hh with hh
              subst hh
              refine ⟨hcs, fun j y hy => ?_⟩
              have hj := (List.getElem?_eq_some_iff.1 hy).1
              rw [setArr_get _ _ _ _ (by rw [hul]; rw [Nat.add_mul] at hfit; omega), if_neg (by omega)]
              exact hold j y hy)
            rw [hput] at e1 hr1
            have hblk1 := setCells_blk (b := b) us w (k * sz') arr hblk
            have e2 : Ext C (w.setCells b (k * sz') us) G S.H U (w.setCells b (k * sz') us) (setG G ⟨d, dst, 0 :: S.g⟩ (some b)) ((⟨d, dst, 0 :: S.g⟩, .box (cs ++ ys)) :: S.H.erase id) (addU U ⟨d, dst, 0 :: S.g⟩) := Ext.rename hr1 (hfr.not d dst) hid hG
            have hr2 := hr1.rename (hfr.not d dst) (cs' := cs ++ ys) hid hG (fun arr' te' z' hh => by
              rw [hblk1] at hh
              injection hh with hh
              injection hh with hh
              subst hh
              rw [setArr_size]
              refine ⟨by omega, fun j y hy => ?_⟩
              rw [setArr_get _ _ _ _ (by rw [hul]; rw [Nat.add_mul] at hfit; omega)]
              by_cases hj : j < cs.length
              · rw [List.getElem?_append_left hj] at hy
                rw [if_neg (by omega)]
                obtain ⟨h1, u, h2, h3⟩ := hold j y hy
                exact ⟨h1, u, h2, h3.ext e1⟩
              · rw [List.getElem?_append_right (by omega)] at hy
                have hj2 := (List.getElem?_eq_some_iff.1 hy).1
                rw [if_pos (by omega)]
                obtain ⟨h1, u, h2, h3⟩ := hrep _ y hy
                exact ⟨h1, u, by rw [hkl]; exact h2, h3.ext e1⟩)
            have hrun := hin hroom hm0
            refine ⟨_, _, _, _, hrun, e1.trans e2, hr2, ⟨rfl, hfr.add d dst, fun i hi => ?_⟩, .arr _ _ _ _ _ rfl (.inr rfl) (by omega) fun cs' hc => ⟨b, c, by simp [setG], hroom, rfl, ?_, _, te, zz, hblk1, ?_⟩⟩
            · rcases hi with hi | rfl
              · exact .inl hi
              · exact .inr (List.suffix_cons 0 S.g)
            · simp only [Heap.get, if_true, Option.some.injEq, Place.box.injEq] at hc
              subst hc
              rw [hcyl]; omega
            · rw [setArr_size]; omega
          · obtain ⟨yb, yo, rfl, hcell2⟩ := hcell hm0
            have hge := grownCap_ge w (k + m) c e
            have hol : (arr.toList.take (k * sz')).length = k * i.size := by rw [hsz]; simp; omega
            have holds : ∀ j u, (arr.toList.take (k * sz'))[j]? = some u → w.cell? ((⟨b, 0, none⟩ : Addr).add j) = some u := fun j u hu => by
              have hj : j < k * sz' := by have := (List.getElem?_eq_some_iff.1 hu).1; rw [hol, hsz] at this; exact this
              rw [List.getElem?_take, if_pos hj] at hu
              rw [addr_add, cell_blk hblk, Nat.zero_add]; simpa using hu
            have hrun := run_append_grow (P := P) w t ty e i zv hu0 hi hz ⟨b, 0, none⟩ k c _ hol holds ⟨yb, yo, none⟩ m c' us (by rw [hsz]; exact hul) (fun j u hu => by rw [addr_add]; exact hcell2 j u hu) (by omega) (by omega)
              (by rw [hby]; exact growslice_fits (by omega) hb)
            have hol' : (arr.toList.take (k * sz')).length = k * sz' := by rw [hol, hsz]
            obtain ⟨U', h1, h2, h3, h4, h5⟩ := fresh_ok hr hfr d dst (olds := arr.toList.take (k * sz')) (news := us) (cs := cs ++ ys) (te := e) (k := k + m) (sz := sz') (by rw [hcyl, List.length_append, hol', hul, Nat.add_mul])
              (fun j y hy => by
                by_cases hj : j < cs.length
                · rw [List.getElem?_append_left hj] at hy
                  obtain ⟨h1, u, h2, h3⟩ := hold j y hy
                  refine ⟨h1, u, ?_, h3⟩
                  rw [List.getElem?_append_left (by omega), List.getElem?_take, if_pos (by omega)]
                  simpa using h2
                · rw [List.getElem?_append_right (by omega)] at hy
                  obtain ⟨h1, u, h2, h3⟩ := hrep _ y hy
                  exact ⟨h1, u, by rw [List.getElem?_append_right (by omega), hol', hkl]; exact h2, h3⟩) hcyl hge (by omega)
              (arr := (arr.toList.take (k * sz')).toArray ++ us.toArray ++ Builtin.zeroCells zv.cells (grownCap w (k + m) c e - (k + m)))
              (fun j u hu => by
                have hlt := (List.getElem?_eq_some_iff.1 hu).1
                rw [Array.getElem?_append_left (by simp only [Array.size_append, List.size_toArray]; simp only [List.length_append] at hlt; exact hlt)]
                simpa using hu)
              (by
                simp only [Array.size_append, List.size_toArray, size_zeroCells, hol', hul, hzs]
                rw [← Nat.add_mul, ← Nat.add_mul]
                exact Nat.mul_le_mul_right _ (by omega))
            have hsub : ∀ i p, Heap.get ((⟨d, dst, 0 :: S.g⟩, Place.box (cs ++ ys)) :: S.H.erase id) i = some p → Heap.get ((⟨d, dst, 0 :: S.g⟩, Place.box (cs ++ ys)) :: S.H) i = some p := fun i p hp => by
              simp only [Heap.get] at hp ⊢
              split at hp
              · rename_i hh; rw [if_pos hh]; exact hp
              · rename_i hh
                rw [if_neg hh]
                rw [get_erase] at hp
                split at hp
                · cases hp
                · exact hp
            have e3 := Ext.drop (C := C) (w := w.drew.alloc (.cells ((arr.toList.take (k * sz')).toArray ++ us.toArray ++ Builtin.zeroCells zv.cells (grownCap w (k + m) c e - (k + m))) e)) (G := setG G ⟨d, dst, 0 :: S.g⟩ (some w.heap.size)) hsub (U := U') (U' := U') (fun i hi => hi)
            exact ⟨_, _, _, U', hrun, h1.trans e3, h2.drop hsub (fun i hi => hi), ⟨rfl, h3, h4⟩, h5.ext e3⟩
        · cases h
    · cases h
  · cases h

theorem zeroCells_get (z : Array Value) (n j : Nat) (h : j < n * z.size) : (Builtin.zeroCells z n)[j]? = z[j % z.size]? := by
  have hs : 0 < z.size := by
    rcases Nat.eq_zero_or_pos z.size with h0 | h0
    · rw [h0] at h; simp at h
    · exact h0
  have hlt : j % z.size < z.size := Nat.mod_lt _ hs
  simp [Builtin.zeroCells, h, hlt]
theorem run_append_zeros (t t1 ty e : TypeId) (k : IntKind) (i : TypeInfo) (z : Value) (ht : P.underlying t = some (.slice e)) (hu : P.underlying t1 = some (.int k)) (hi : P.info? e = some i) (hz : i.zero = some z) (hzs : 0 < i.size)
    (A : Option Addr) (n : Nat) (q : IntKind) (h0 : 0 < n) (hb : 0 < i.bytes) (h47 : n * i.bytes ≤ 140737488355328) :
    (Builtin.append_ #[t, t1] ty #[.slice A 0 0, .int q n]).run P w = .ok (.slice (some ⟨w.heap.size, 0, none⟩) n (grownCap w n 0 e))
      (w.drew.alloc (.cells (Builtin.zeroCells z.cells n ++ Builtin.zeroCells z.cells (grownCap w n 0 e - n)) e)) := by
  have hn47 : n ≤ 140737488355328 := by
    have : n * 1 ≤ n * i.bytes := Nat.mul_le_mul_left _ hb
    omega
  have hw : IntKind.i64.wrap (n : Int) = (n : Int) := by rw [IntKind.wrap_i64]; omega
  have hneg : ¬ ((n : Int) < 0) := by omega
  have h48 : ¬ ((281474976710656 : Int) < (n : Int) * (i.bytes : Int)) := by
    rw [← Int.natCast_mul]; omega
  have hne : n ≠ 0 := by omega
  have h63' : ¬ (9223372036854775807 < (n : Int)) := by omega
  have h48' : ¬ (281474976710656 < Builtin.nextslicecap n 0 * i.bytes) := by rw [nextslicecap_zero h0]; omega
  have hs0 : ¬ (n * i.size = 0) := by
    have := Nat.mul_pos h0 hzs
    omega
  cases A with
  | none => simp [Builtin.append_, run_underlying ht, run_underlying hu, sizeOf, typeInfo, zeroValue, asInt, asIntOf, hi, hz, hw, hneg, h48, hne, h63', h48', hs0, Question.forced, run_firstCells_none, newRow, grownCap]
  | some a =>
    have hf := run_firstCells_some (P := P) w.drew i.size 0 a 0 0 [] (by simp) (fun j v h => by simp at h)
    simp [Builtin.append_, run_underlying ht, run_underlying hu, sizeOf, typeInfo, zeroValue, asInt, asIntOf, hi, hz, hw, hneg, h48, hne, h63', h48', hs0, Question.forced, hf, newRow, grownCap]
theorem appendZ_ok (ok : T.Ok P) (hr : HeapRel C w G S.H U) (hfr : Fr U S.g) {d dst : Nat} {ts : List Nat} {sz : Nat} {x y : AV} {u v : Value} (hu : Rep C w G S.H U u (.own sz [] none)) (hv : Rep C w G S.H U v x)
    (hzt : zerosT T ts = true) (h : appendZ T d dst S ts sz x = some (y, S')) (ty : Nat) : AppGood C P w G U S ((Builtin.append_ ts.toArray ty #[u, v]).run P w) y S' := by
  unfold appendZ at h
  split at h
  · rename_i t0 t1 k n
    obtain ⟨kt, hkt⟩ : ∃ kt, T.und t1 = some (.int kt) := by
      unfold zerosT at hzt
      simp only at hzt
      cases hq : T.und t1 with
      | none => rw [hq] at hzt; cases hzt
      | some q => rw [hq] at hzt; cases q <;> first | exact ⟨_, rfl⟩ | cases hzt
    have hvn := rep_int hv
    subst hvn
    split at h
    · rename_i e hu0
      split at h
      · rename_i c bytes zero hi
        split at h
        · rename_i hc
          obtain ⟨rfl, h0, hb0, hn0, hb⟩ := hc
          obtain ⟨i, zv, i1, i2, i3, i4, i5, i6, i7⟩ := ok.inf e sz bytes zero hi
          cases hu with
          | own A k' c' _ xs tok hx ht =>
            obtain ⟨hxl, hxc, _⟩ := repD_sl_inv hx
            simp only [List.length_nil] at hxl
            subst hxl
            have hc0 : c' = 0 := ht
            subst hc0
            obtain ⟨m, rfl⟩ : ∃ m : Nat, n = m := ⟨n.toNat, by omega⟩
            simp only [Int.toNat_natCast] at h hb
            split at h
            · rename_i hm
              subst hm
              simp only [Option.some.injEq, Prod.mk.injEq] at h
              obtain ⟨rfl, rfl⟩ := h
              have hrun : (Builtin.append_ #[t0, t1] ty #[.slice A 0 0, .int k ((0 : Nat) : Int)]).run P w = .ok (.slice A 0 0) w := by
                cases A <;> simp [Builtin.append_, run_underlying (ok.und _ _ hu0), run_underlying (ok.und _ _ hkt), sizeOf, typeInfo, asInt, asIntOf, i1, IntKind.wrap_i64, storeCells]
              exact ⟨_, w, G, U, hrun, Ext.refl _ _ _ _ _, hr, ⟨rfl, hfr, fun i h => .inl h⟩, .own _ _ _ _ _ _ hx ht⟩
            · rename_i hm
              simp only [Option.some.injEq, Prod.mk.injEq] at h
              obtain ⟨rfl, rfl⟩ := h
              have hm47 : m ≤ 140737488355328 := by
                have : m * 1 ≤ m * bytes := Nat.mul_le_mul_left _ hb0
                omega
              have hrun := run_append_zeros (P := P) (w := w) t0 t1 ty e kt i zv (ok.und _ _ hu0) (ok.und _ _ hkt) i1 i4 (by omega) A m k (by omega) (by omega) (by rw [i3]; exact hb)
              have hge := grownCap_ge w m 0 e
              have hul : (Builtin.zeroCells zv.cells m).toList.length = m * sz := by rw [Array.length_toList, size_zeroCells, i5]
              obtain ⟨U', h1, h2, h3, h4, h5⟩ := fresh_ok hr hfr d dst (olds := []) (news := (Builtin.zeroCells zv.cells m).toList) (cs := (List.replicate m zero).flatten) (te := e) (k := m) (sz := sz) (cap := grownCap w m 0 e) (arr := Builtin.zeroCells zv.cells m ++ Builtin.zeroCells zv.cells (grownCap w m 0 e - m))
                (by simp only [List.nil_append]; rw [hul]; simp [i6]) (fun j y hy => by
                  obtain ⟨hj, hz⟩ := flat_get zero m j y hy
                  rw [i6] at hj hz
                  obtain ⟨u, hu1, hr⟩ := i7 _ _ hz
                  refine ⟨hr.leaf, u, ?_, hr.rep⟩
                  simp only [List.nil_append, Array.getElem?_toList]
                  rw [zeroCells_get _ _ _ (by rw [i5]; exact hj), i5]
                  exact hu1) (by simp [i6]) hge (by omega) (fun j u hu => by
                  simp only [List.nil_append, Array.getElem?_toList] at hu
                  have hlt := (Array.getElem?_eq_some_iff.1 hu).1
                  rw [Array.getElem?_append_left hlt]
                  exact hu) (by
                  simp only [Array.size_append, size_zeroCells, i5]
                  rw [← Nat.add_mul]
                  exact Nat.mul_le_mul_right _ (by omega))
              exact ⟨_, _, _, U', hrun, h1, h2, ⟨rfl, h3, h4⟩, h5⟩
        · cases h
      · cases h
    · cases h
  · cases h
theorem appendAll_ok (ok : T.Ok P) (hr : HeapRel C w G S.H U) (hfr : Fr U S.g) {d dst : Nat} {ts : List Nat} {s x y : AV} {u v : Value} (hu : Rep C w G S.H U u s) (hv : Rep C w G S.H U v x) (h : appendA T d dst S ts s x = some (y, S')) (ty : Nat) :
    AppGood C P w G U S ((Builtin.append_ ts.toArray ty #[u, v]).run P w) y S' := by
  unfold appendA at h
  split at h
  · exact appendB_ok ok hr hfr hu hv h ty
  · split at h
    · split at h
      · split at h
        · exact appendZ_ok ok hr hfr hu hv (by assumption) h ty
        · exact appendM_ok ok hr hfr hu hv h ty
      · cases h
    · exact append_ok ok hr hfr hu hv h ty
  · cases h

theorem good_copyA (ok : T.Ok P) (hs : Sim C w G U S a) {ts : List Nat} {x y q : AV} {u v : Value} (hu : Rep C w G S.H U u x) (hv : Rep C w G S.H U v y) (h : copyA T S ts x y = some (q, S')) (ty : Nat) :
    AppGood C P w G U S ((Builtin.copy_ ts.toArray ty #[u, v]).run P w) q S' := by
  have hr := hs.heap
  unfold copyA at h
  split at h
  · rename_i n bytes id off k sz he
    split at h
    · rename_i cs sz' m ys hid hl
      split at h
      · rename_i hc
        obtain ⟨rfl, rfl, hfit, hk63⟩ := hc
        simp only [Option.some.injEq, Prod.mk.injEq] at h
        obtain ⟨rfl, rfl⟩ := h
        obtain ⟨t, e, i, zv, z, rfl, hu0, hi0, hi, hsz, hby, hz, hzs, h0, hb0⟩ := elemOf_ok ok he
        obtain ⟨B, c', us, rfl, hmc, hmm, hul, hyl, hcell, hrep, hone⟩ := listC_ok hr hv hl h0
        obtain ⟨b, c, arr, te, zz, hG, hUid, hkm, hkc, rfl, hcl, hca, hblk, hfree, hcs, hold⟩ := arr_inv hr hu hid
        have hle1 : min m k * sz' ≤ m * sz' := Nat.mul_le_mul_right _ (Nat.min_le_left _ _)
        have hle2 : min m k * sz' ≤ k * sz' := Nat.mul_le_mul_right _ (Nat.min_le_right _ _)
        have hkca : k * sz' ≤ c * sz' := Nat.mul_le_mul_right _ hkc
        have hul' : (us.take (min m k * sz')).length = min m k * sz' := by simp; omega
        have hyl' : (ys.take (min m k * sz')).length = min m k * sz' := by simp; omega
        obtain ⟨he1, he2⟩ := over_ok hr hid hG hblk hcs hold (us := us.take (min m k * sz')) (ys := ys.take (min m k * sz')) (o := off) (by omega) (by omega) (fun j y hy => by
          have hj : j < min m k * sz' := by have := (List.getElem?_eq_some_iff.1 hy).1; omega
          rw [List.getElem?_take, if_pos hj] at hy
          obtain ⟨h1, u, h2, h3⟩ := hrep j y hy
          exact ⟨h1, u, by rw [List.getElem?_take, if_pos hj]; exact h2, h3⟩)
        have hrun : (Builtin.copy_ #[t, t] ty #[.slice (some ⟨b, off, none⟩) k c, .slice B m c']).run P w = .ok (.int .i64 (min m k : Nat)) (w.setCells b off (us.take (min m k * sz'))) := by
          have hst := run_storeCells_cells (P := P) b off (us.take (min m k * sz')) 0 w (fun j hj => by rw [Nat.add_zero, cell_blk hblk]; simp; omega) (fun j hj => by rw [Nat.add_zero]; exact hfree _ (by omega)) (fun u hu => hone u (List.mem_of_mem_take hu))
          simp only [Nat.add_zero] at hst
          have hfc : (Builtin.firstCells sz' (Nat.min m k) (.slice B m c')).run P w = .ok (us.take (min m k * sz')).toArray w := by
            cases B with
            | none =>
              have hm0 : m = 0 := by
                rcases Nat.eq_zero_or_pos m with h | h
                · exact h
                · obtain ⟨b, off, h1, _⟩ := hcell h; cases h1
              subst hm0
              simp [Builtin.firstCells]
            | some q =>
              refine run_firstCells_some (P := P) w sz' (Nat.min m k) q m c' _ hul' (fun j u hu => ?_)
              have hj : j < min m k * sz' := by have := (List.getElem?_eq_some_iff.1 hu).1; omega
              rw [List.getElem?_take, if_pos hj] at hu
              have hm0 : 0 < m := by
                rcases Nat.eq_zero_or_pos m with h | h
                · subst h; simp at hj
                · exact h
              obtain ⟨b', off', h1, h2⟩ := hcell hm0
              injection h1 with h1
              subst h1
              rw [addr_add]; exact h2 j u hu
          simp [Builtin.copy_, run_underlying hu0, Builtin.lenOf, sizeOf, typeInfo, hi, hsz, hfc, hst, goInt]
        exact ⟨_, _, G, U, hrun, he1, he2, ⟨rfl, hs.fr, fun i h => .inl h⟩, .d _ _ (.int _ _)⟩
      · cases h
    · cases h
  · cases h

theorem good_clearA (ok : T.Ok P) (hs : Sim C w G U S a) {ts : List Nat} {x q : AV} {u : Value} (hu : Rep C w G S.H U u x) (h : clearA T S ts x = some (q, S')) (ty : Nat) :
    AppGood C P w G U S ((Builtin.clear_ ts.toArray ty #[u]).run P w) q S' := by
  have hr := hs.heap
  unfold clearA at h
  split at h
  · rename_i t
    split at h
    · rename_i e hu0
      have hu0 := ok.und _ _ hu0
      split at h
      · rename_i n bytes zero id off k sz hi0
        split at h
        · rename_i cs hid
          split at h
          · rename_i hc
            obtain ⟨rfl, hfit, hk0⟩ := hc
            simp only [Option.some.injEq, Prod.mk.injEq] at h
            obtain ⟨rfl, rfl⟩ := h
            obtain ⟨i, zv, i1, i2, i3, i4, i5, i6, i7⟩ := ok.inf e _ bytes zero hi0
            obtain ⟨b, c, arr, te, zz, hG, hUid, hkm, hkc, rfl, hcl, hca, hblk, hfree, hcs, hold⟩ := arr_inv hr hu hid
            have hkca : k * sz ≤ c * sz := Nat.mul_le_mul_right _ hkc
            have hyl : (List.replicate k zero).flatten.length = k * sz := by simp [i6]
            have hul : (Builtin.zeroCells zv.cells k).toList.length = k * sz := by rw [Array.length_toList, size_zeroCells, i5]
            have hrep : ∀ (j : Nat) y, (List.replicate k zero).flatten[j]? = some y → y.leaf = true ∧ ∃ u, (Builtin.zeroCells zv.cells k).toList[j]? = some u ∧ Rep C w G S.H U u y := fun j y hy => by
              obtain ⟨hj, hz⟩ := flat_get zero k j y hy
              rw [i6] at hj hz
              obtain ⟨u, hu1, hc⟩ := i7 _ _ hz
              refine ⟨hc.leaf, u, ?_, hc.rep⟩
              have hs0 : 0 < sz := by
                rcases Nat.eq_zero_or_pos sz with h | h
                · subst h; simp at hj
                · exact h
              have hlt : j % sz < zv.cells.size := by rw [i5]; exact Nat.mod_lt _ hs0
              have hg : zv.cells[j % sz]! = u := by
                rw [Array.getElem!_eq_getD, Array.getD_eq_getD_getElem?, hu1]; rfl
              simp [Builtin.zeroCells, i5, hj, hg]
            have hone : ∀ u ∈ (Builtin.zeroCells zv.cells k).toList, u.oneCell' = true := fun u hu => by
              obtain ⟨j, hj, rfl⟩ := List.getElem_of_mem hu
              obtain ⟨h1, u', h2, h3⟩ := hrep j _ (List.getElem?_eq_getElem (by omega))
              rw [List.getElem?_eq_getElem hj] at h2
              injection h2 with h2
              rw [h2]; exact leaf_one (h3.leafV h1)
            obtain ⟨he1, he2⟩ := over_ok hr hid hG hblk hcs hold (us := (Builtin.zeroCells zv.cells k).toList) (ys := (List.replicate k zero).flatten) (o := off) (by omega) (by omega) hrep
            have hst := run_storeCells_cells (P := P) b off (Builtin.zeroCells zv.cells k).toList 0 w (fun j hj => by rw [Nat.add_zero, cell_blk hblk]; simp; omega) (fun j hj => by rw [Nat.add_zero]; exact hfree _ (by omega)) hone
            simp only [Nat.add_zero] at hst
            have hrun : (Builtin.clear_ #[t] ty #[.slice (some ⟨b, off, none⟩) k c]).run P w = .ok (.tuple #[]) (w.setCells b off (Builtin.zeroCells zv.cells k).toList) := by
              have hz0 : (zeroValue e).run P w = .ok zv w := by simp [zeroValue, typeInfo, i1, i4]
              obtain ⟨k', rfl⟩ : ∃ k', k = k' + 1 := ⟨k - 1, by omega⟩
              simp only [Builtin.clear_, List.getElem?_toArray, List.getElem?_cons_zero, Sem.run_bind, run_underlying hu0]
              simp [run_underlying hu0, hz0, hst]
            exact ⟨_, _, G, U, hrun, he1, he2, ⟨rfl, hs.fr, fun i h => .inl h⟩, .tup #[] [] rfl (fun i x hx => by simp at hx) (fun i v x hv hx => by simp at hx)⟩
          · cases h
        · cases h
      · simp only [Option.some.injEq, Prod.mk.injEq] at h
        obtain ⟨rfl, rfl⟩ := h
        have hd := hu.dinv
        cases hd with
        | sl A n c sz xs fv hl =>
          simp only [List.length_nil] at hl
          subst hl
          have hrun : (Builtin.clear_ #[t] ty #[.slice A 0 c]).run P w = .ok (.tuple #[]) w := by
            cases A <;> simp [Builtin.clear_, run_underlying hu0]
          exact ⟨_, w, G, U, hrun, Ext.refl _ _ _ _ _, hr, ⟨rfl, hs.fr, fun i h => .inl h⟩, .tup #[] [] rfl (fun i x hx => by simp at hx) (fun i v x hv hx => by simp at hx)⟩
      · cases h
    · cases h
  · cases h

theorem good_capA (ok : T.Ok P) (hs : Sim C w G U S a) {ts : List Nat} {x q : AV} {u : Value} (hu : Rep C w G S.H U u x) (h : capA T S ts x = some (q, S')) (ty : Nat) :
    AppGood C P w G U S ((Builtin.cap_ ts.toArray ty #[u]).run P w) q S' := by
  unfold capA at h
  split at h
  · rename_i t
    split at h
    · rename_i e sz xs hu0
      simp only [Option.some.injEq, Prod.mk.injEq] at h
      obtain ⟨rfl, rfl⟩ := h
      cases hu with
      | own A n c sz xs tok hx ht =>
        have hc : c = n := ht
        obtain ⟨hl, _⟩ := repD_sl_inv hx
        have hrun : (Builtin.cap_ #[t] ty #[.slice A n c]).run P w = .ok (.int .i64 xs.length) w := by
          simp [Builtin.cap_, run_underlying (ok.und _ _ hu0), goInt, hc, hl]
        exact ⟨_, w, G, U, hrun, Ext.refl _ _ _ _ _, hs.heap, ⟨rfl, hs.fr, fun i h => .inl h⟩, .d _ _ (.int _ _)⟩
    · cases h
  · cases h

theorem run_eql_nil {t e : Nat} (hu : P.underlying t = some (.slice e)) (A : Option Addr) (n c d : Nat) : (Op.equalIn (d + 1) t (.slice A n c) (.slice none 0 0)).run P w = .ok A.isNone w := by
  cases A <;> simp [Op.equalIn, run_underlying hu]
theorem good_nilCmp (ok : T.Ok P) (hs : Sim C w G U S a) {o : Oper} {op : BinOp} {t t' t1 e : Nat} {y z : Operand} (ho : o.op = .binOp op t y z t') (hn : isNilC op z = true) (hu : T.und t = some (.slice e)) {p : AV} (hp : ev T S t1 y = some p) {b : Bool} (h : nilB S p = some b) :
    Good C P w G U S ((execOp a.eval o).run P w) (some (.d (.bool b))) S := by
  have hz : z = .const (.slice none 0 0) ∧ op = .eql := by
    unfold isNilC at hn
    split at hn
    · split at hn
      · exact ⟨rfl, rfl⟩
      · cases hn
    · cases hn
  obtain ⟨rfl, rfl⟩ := hz
  have hr := ev_ok ok hs hp
  have fin : ∀ (A : Option Addr) (n c : Nat), a.eval y = .slice A n c → A.isNone = b → Good C P w G U S ((execOp a.eval o).run P w) (some (.d (.bool b))) S := fun A n c he hb => by
    refine Good.quiet hs (v := .bool b) ?_ (.d _ _ (.bool b))
    have hue := ok.und _ _ hu
    simp only [execOp, ho, he]
    subst hb
    have h1 := run_eql_nil (w := w) hue A n c 9999
    have h2 : (binOp .eql t (.slice A n c) (.slice none 0 0)).run P w = .ok (.bool A.isNone) w := by
      have h3 : (Op.equal t (.slice A n c) (.slice none 0 0)).run P w = .ok A.isNone w := h1
      simp only [binOp]
      simp [h3]
    simp [eqGuard, Act.eval, h2]
  unfold nilB at h
  split at h
  · injection h with h
    subst h
    obtain ⟨A, c, he, hrd⟩ := rep_elems hr rfl
    rw [he] at hrd
    obtain ⟨_, _, _, _, _, h5⟩ := repD_sl_inv hrd
    obtain ⟨b, off, rfl, _⟩ := h5 (by simp)
    exact fin _ _ _ he rfl
  · injection h with h
    subst h
    obtain ⟨A, c, he, hrd⟩ := rep_elems hr rfl
    rw [he] at hrd
    obtain ⟨_, _, _, _, _, h5⟩ := repD_sl_inv hrd
    obtain ⟨b, off, rfl, _⟩ := h5 (by simp)
    exact fin _ _ _ he rfl
  · injection h with h
    subst h
    have hd := hr.dinv
    generalize hv : a.eval y = v at hd
    cases hd
    exact fin _ _ _ (by rw [hv]; assumption) rfl
  · injection h with h
    subst h
    have hd := hr.dinv
    generalize hv : a.eval y = v at hd
    cases hd
    exact fin _ _ _ (by rw [hv]; assumption) rfl
  · split at h
    · rename_i cs hid
      injection h with h
      subst h
      obtain ⟨b, c, arr, te, zz, hG, hUid, hkm, hkc, hev, _⟩ := arr_inv hs.heap hr hid
      exact fin _ _ _ hev rfl
    · cases h
  · cases h
theorem good_cutB (ok : T.Ok P) (hs : Sim C w G U S a) {o : Oper} {t e t1 : Nat} {y : Operand} {lo hi : Option Operand} (ho : o.op = .slice t y lo hi none) (hu : T.und t = some (.slice e)) {id : Id} {off n sz : Nat}
    (h : ev T S t1 y = some (.arr id off n sz)) {l u : Option AV} (hl : evO T S lo = some l) (hh : evO T S hi = some u) {cs : List AV} (hid : S.H.get id = some (.box cs)) (hsz : size T e = some sz) {q : AV} (hq : cutB cs id off n sz l u = some q) :
    Good C P w G U S ((execOp a.eval o).run P w) (some q) S := by
  obtain ⟨b, c, arr, te, zz, hG, hUid, hkm, hkc, hev, hcl, hca, hblk, hfree, hcs, hold⟩ := arr_inv hs.heap (ev_ok ok hs h) hid
  obtain ⟨hrs, _⟩ := size_ok ok hsz w
  have hlo := evO_ok ok hs hl
  have hhi := evO_ok ok hs hh
  unfold cutB at hq
  split at hq
  case isFalse => cases hq
  rename_i hc0
  obtain ⟨h0, hoff⟩ := hc0
  have htop : (cs.length - off) / sz ≤ c := by
    have h1 : cs.length - off ≤ c * sz := by omega
    exact Nat.div_le_of_le_mul (by rw [Nat.mul_comm]; exact h1)
  cases hsb : sliceB ((cs.length - off) / sz) n l u with
  | none => rw [hsb] at hq; cases hq
  | some lh =>
    obtain ⟨i, j⟩ := lh
    rw [hsb] at hq
    simp only at hq
    unfold sliceB at hsb
    cases hbu : boundA ((cs.length - off) / sz) n u with
    | none => rw [hbu] at hsb; cases hsb
    | some j' =>
      rw [hbu] at hsb
      simp only at hsb
      cases hbl : boundA j' 0 l with
      | none => rw [hbl] at hsb; cases hsb
      | some i' =>
        rw [hbl] at hsb
        simp only [Option.some.injEq, Prod.mk.injEq] at hsb
        obtain ⟨rfl, rfl⟩ := hsb
        have hj : j' ≤ c ∧ BoundRuns P w c n j' (hi.map a.eval) := by
          cases u with
          | none =>
            cases hi with
            | none => simp only [boundA, Option.some.injEq] at hbu; subst hbu; exact ⟨hkc, rfl⟩
            | some z => exact hhi.elim
          | some z =>
            cases hi with
            | none => exact hhi.elim
            | some z' =>
              have hb2 : boundA ((cs.length - off) / sz) 0 (some z) = some j' := by
                unfold boundA at hbu ⊢
                split at hbu
                · rename_i h; cases h
                · rename_i h; cases h; exact hbu
                · cases hbu
              obtain ⟨h1, h2⟩ := bound_ok (P := P) (w := w) hhi hb2 htop (Nat.zero_le _)
              exact ⟨by omega, h2⟩
        obtain ⟨hjc, hjr⟩ := hj
        obtain ⟨hij, hir⟩ := bound_ok (P := P) (w := w) hlo hbl (Nat.le_refl _) (Nat.zero_le _)
        have hbd : (Instr.sliceBounds true n c (lo.map a.eval) (hi.map a.eval) none).run P w = .ok (i', j', c) w := by
          unfold Instr.sliceBounds
          generalize lo.map a.eval = vlo at hir
          generalize hi.map a.eval = vhi at hjr
          cases vhi <;> cases vlo <;> simp only [BoundRuns] at hjr hir <;> (try subst hjr) <;> simp [*]
        have hrun : (execOp a.eval o).run P w = .ok (.value (.slice (if c = i' then some ⟨b, off, none⟩ else some ⟨b, off + i' * sz, none⟩) (j' - i') (c - i'))) w := by
          simp [execOp, ho, hev, Instr.sliceAt, run_underlying (ok.und _ _ hu), Instr.slice, hbd, hrs, addr_add]
        split at hq
        case isFalse => cases hq
        rename_i hj63
        injection hq with hq
        subst hq
        have hcut : ∀ i, i * sz + (c - i) * sz = max c i * sz := fun i => by
          rw [← Nat.add_mul]; congr 1; omega
        split
        · rename_i hi0
          subst hi0
          refine Good.quiet hs (v := .slice (some ⟨b, off, none⟩) j' c) (by simpa using hrun) (.arr _ _ _ _ _ rfl hUid (by omega) fun cs' hc' => ?_)
          rw [hid] at hc'
          injection hc' with hc'
          injection hc' with hc'
          subst hc'
          exact ⟨b, c, hG, hjc, rfl, hcl, arr, te, zz, hblk, hca⟩
        · split
          · rename_i hij0
            subst hij0
            exact Good.quiet hs (v := .slice (if c = i' then some ⟨b, off, none⟩ else some ⟨b, off + i' * sz, none⟩) 0 (c - i')) (by simpa using hrun)
              (.d _ _ (.sl _ _ _ _ _ (fun _ => undef) rfl (Nat.zero_le _) (by omega) (fun i x hx => by simp at hx) (fun i x hx => by simp at hx)))
          · rename_i hi0 hij0
            have hci : c ≠ i' := by omega
            rw [if_neg hci] at hrun
            have h3 := hcut i'
            rw [Nat.max_eq_left (by omega)] at h3
            refine Good.quiet hs hrun (.arr _ _ _ _ _ rfl hUid (by omega) fun cs' hc' => ?_)
            rw [hid] at hc'
            injection hc' with hc'
            injection hc' with hc'
            subst hc'
            exact ⟨b, c - i', hG, by omega, rfl, by omega, arr, te, zz, hblk, by omega⟩

theorem good_cutM (ok : T.Ok P) (hs : Sim C w G U S a) {o : Oper} {t e t1 t2 : Nat} {y mx : Operand} {lo hi : Option Operand} (ho : o.op = .slice t y lo hi (some mx)) (hu : T.und t = some (.slice e)) {id : Id} {off n sz : Nat}
    (h : ev T S t1 y = some (.arr id off n sz)) {l : Option AV} {p z : AV} (hl : evO T S lo = some l) (hh : evO T S hi = some (some p)) (hm : ev T S t2 mx = some z) {cs : List AV} (hid : S.H.get id = some (.box cs)) (hsz : size T e = some sz) {q : AV}
    (hq : cutM cs off sz l (some p) (some z) = some q) : Good C P w G U S ((execOp a.eval o).run P w) (some q) S := by
  obtain ⟨b, c, arr, te, zz, hG, hUid, hkm, hkc, hev, hcl, hca, hblk, hfree, hcs, hold⟩ := arr_inv hs.heap (ev_ok ok hs h) hid
  obtain ⟨hrs, _⟩ := size_ok ok hsz w
  have hlo := evO_ok ok hs hl
  have hhi := evO_ok ok hs hh
  have hmx : RepO C w G S.H U (some (a.eval mx)) (some z) := ev_ok ok hs hm
  cases hi with
  | none => exact hhi.elim
  | some hi =>
  unfold cutM at hq
  split at hq
  case isFalse => cases hq
  rename_i hc0
  obtain ⟨h0, hoff⟩ := hc0
  have htop : (cs.length - off) / sz ≤ c := by
    have h1 : cs.length - off ≤ c * sz := by omega
    exact Nat.div_le_of_le_mul (by rw [Nat.mul_comm]; exact h1)
  cases hbm : boundA ((cs.length - off) / sz) 0 (some z) with
  | none => rw [hbm] at hq; cases hq
  | some m =>
    rw [hbm] at hq
    simp only at hq
    cases hbh : boundA m 0 (some p) with
    | none => rw [hbh] at hq; cases hq
    | some j =>
      rw [hbh] at hq
      simp only at hq
      cases hbl : boundA j 0 l with
      | none => rw [hbl] at hq; cases hq
      | some i =>
        rw [hbl] at hq
        injection hq with hq
        subst hq
        obtain ⟨h1, h2⟩ := bound_ok (P := P) (w := w) hmx hbm htop (Nat.zero_le _)
        obtain ⟨h3, h4⟩ := bound_ok (P := P) (w := w) hhi hbh (Nat.le_refl _) (Nat.zero_le _)
        obtain ⟨h5, h6⟩ := bound_ok (P := P) (w := w) hlo hbl (Nat.le_refl _) (Nat.zero_le _)
        simp only [BoundRuns, Option.map_some] at h2 h4
        have hbd : (Instr.sliceBounds true n c (lo.map a.eval) (some (a.eval hi)) (some (a.eval mx))).run P w = .ok (i, j, m) w := by
          unfold Instr.sliceBounds
          generalize lo.map a.eval = vlo at h6
          cases vlo <;> simp only [BoundRuns] at h6 <;> (try subst h6) <;> simp [*]
        have hrun : (execOp a.eval o).run P w = .ok (.value (.slice (if m = i then some ⟨b, off, none⟩ else some ⟨b, off + i * sz, none⟩) (j - i) (m - i))) w := by
          simp [execOp, ho, hev, Instr.sliceAt, run_underlying (ok.und _ _ hu), Instr.slice, hbd, hrs, addr_add]
        split
        · rename_i hm0
          subst hm0
          have hi0 : i = 0 := by omega
          have hj0 : j = 0 := by omega
          subst hi0; subst hj0
          exact Good.quiet hs hrun (.own _ _ _ _ _ _ (.sl _ _ _ _ _ (fun _ => undef) rfl (Nat.zero_le _) (by omega) (fun i x hx => by simp at hx) (fun i x hx => by simp at hx)) rfl)
        · exact Good.quiet hs hrun (.d _ _ (.any _ rfl))
end
end Go.Proofs.Ytfcfifohflgboaa.Am
