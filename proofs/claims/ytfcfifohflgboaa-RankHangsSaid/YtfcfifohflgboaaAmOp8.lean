/- append in place, and append in all. -/
import Derived.Test.YtfcfifohflgboaaAmOp7
set_option linter.unusedVariables false
set_option linter.unusedSimpArgs false
namespace Go.Proofs.Ytfcfifohflgboaa.Am
open Go Go.RowKit

section
variable {C : Ctx} {w w' : World} {G G' : Gh} {P : Program} {T : Tab} {S S' : St} {a : Act} {H : Heap} {U : Id → Prop}

theorem append_in_ok (ok : T.Ok P) (hr : HeapRel C w G S.H U) (hfr : Fr U S.g) {t ty e bytes sz : Nat} {z : List AV} (ht : T.und t = some (.slice e)) (he : T.inf e = some (sz, bytes, z)) (hs0 : 0 < sz)
    {b : Nat} {B : Option Addr} {n c m c' : Nat} {xs ys : List DV} (hx : RepD w (Fz C G S.H) (.slice (some ⟨b, 0, none⟩) n c) (.sl sz xs)) (hy : RepD w (Fz C G S.H) (.slice B m c') (.sl sz ys))
    (hg : n + m ≤ c) (hm0 : 0 < m) (hcm : n + m ≤ 9223372036854775807) {id : Id} (hid : S.H.get id = some (.grow (xs.length * sz))) (hG : G id = some b)
    {arr0 : Array Value} {te : TypeId} {zz : Nat × Nat} (hb : w.heap[b]? = some (.cells arr0 te zz)) (hcs : c * sz ≤ arr0.size) :
    AppGood C P w G U S ((Builtin.append_ #[t, t] ty #[.slice (some ⟨b, 0, none⟩) n c, .slice B m c']).run P w) (.own sz (xs ++ ys) (some id)) { S with H := S.H.put id (.grow ((xs ++ ys).length * sz)) } := by
  obtain ⟨hxl, hxc, hxm, fx, hx1, hx2⟩ := repD_sl_inv hx
  obtain ⟨hyl, hyc, hym, fy, hy1, hy2⟩ := repD_sl_inv hy
  obtain ⟨i, zv, hi, hsz, hby, hz, hzs, _, _⟩ := ok.inf e sz bytes z he
  obtain ⟨yb, yo, rfl, hy3⟩ := hy2 hm0
  have hfxs : ∀ i, i < n → (fx i).cells.size = sz := fun i hi => (hx1 i _ (List.getElem?_eq_getElem (by omega))).2.1
  have hfys : ∀ i, i < m → (fy i).cells.size = sz := fun i hi => (hy1 i _ (List.getElem?_eq_getElem (by omega))).2.1
  have hnews : ∀ j u, (flatV sz fy m)[j]? = some u → w.cell? ((⟨yb, yo, none⟩ : Addr).add j) = some u := fun j u hu => by
    obtain ⟨h1, h2, h3, h4⟩ := flatV_inv m hfys hs0 j u hu
    have := (hy3 _ _ u h1 h4).1
    rw [addr_add, h3, ← Nat.add_assoc]
    exact this
  have hnl : (flatV sz fy m).length = m * sz := flatV_len m hfys
  have hfit : n * sz + m * sz ≤ arr0.size := by rw [← Nat.add_mul]; exact Nat.le_trans (Nat.mul_le_mul_right _ hg) hcs
  obtain ⟨_, arr1, te1, z1, hb1, hfr1, _⟩ := hr.grow id _ b hid hG
  rw [hb] at hb1
  injection hb1 with hb1
  injection hb1 with e1 e2 e3
  subst e1
  have hone : ∀ u ∈ flatV sz fy m, u.oneCell' = true := fun u hu => by
    obtain ⟨j, hj, rfl⟩ := List.getElem_of_mem hu
    obtain ⟨h1, h2, h3, h4⟩ := flatV_inv m hfys hs0 j _ (List.getElem?_eq_getElem hj)
    obtain ⟨hy4, hy5, hy6⟩ := hy1 _ _ (List.getElem?_eq_getElem (by omega : j / sz < ys.length))
    obtain ⟨hc1, hc2⟩ := hy4.cells
    obtain ⟨h7, u', h8, h9⟩ := hc2 (j % sz) _ (List.getElem?_eq_getElem (by omega))
    rw [h4] at h8
    injection h8 with h8
    rw [h8]
    exact leaf_one (h9.leafV h7)
  have hrun := run_append_in (P := P) (w := w) t ty e i (ok.und _ _ ht) hi b n c ⟨yb, yo, none⟩ m c' _ (by rw [hsz]; exact hnl) hnews hone hg
    (fun j hj => by rw [hnl] at hj; rw [cell_blk hb, hsz]; simp; omega) (fun j hj => by rw [hnl] at hj; rw [hsz]; exact hfr1 _ (by omega))
  rw [hsz] at hrun
  have hlen : (xs ++ ys).length = n + m := by simp [hxl, hyl]
  have hk : (∃ cs cs', Place.grow (xs.length * sz) = .box cs ∧ Place.grow ((xs ++ ys).length * sz) = .box cs' ∧ cs.length = cs'.length) ∨
      ∃ k k', Place.grow (xs.length * sz) = .grow k ∧ Place.grow ((xs ++ ys).length * sz) = .grow k' ∧ k ≤ n * sz ∧ k ≤ k' :=
    .inr ⟨_, _, rfl, rfl, by rw [hxl]; exact Nat.le_refl _, by rw [hlen, hxl]; exact Nat.mul_le_mul_right _ (by omega)⟩
  have hall := Ext.write hr hid hG (n * sz) (flatV sz fy m) hk
  have hr2 := hr.write hid hG (n * sz) (flatV sz fy m) hk (fun arr te' z' hh => by
    rw [hb] at hh
    injection hh with hh
    injection hh with hh
    subst hh
    show (xs ++ ys).length * sz ≤ _
    rw [hlen, Nat.add_mul]; exact hfit)
  have hget : Heap.get (S.H.put id (.grow ((xs ++ ys).length * sz))) id = some (.grow ((xs ++ ys).length * sz)) := by rw [get_put, if_pos rfl, hid]; rfl
  have hblk := setCells_blk (b := b) (flatV sz fy m) w (n * sz) arr0 hb
  have hfz : ∀ o, o < (xs ++ ys).length * sz → Fz C G (S.H.put id (.grow ((xs ++ ys).length * sz))) b o := fun o ho => ⟨.inr (hr.blkLt hid hG).1, fun hx => hr.exo id _ b hid hG (hr.exb b o hx), fun i' q hq hG' => by
    have hii : i' = id := hr2.sep i' id q _ b hq hget hG' hG
    subst hii
    rw [hget] at hq
    injection hq with hq
    subst hq
    exact ho⟩
  refine ⟨_, _, G, U, hrun, hall, hr2, ⟨rfl, hfr, fun i h => .inl h⟩, .own _ _ _ _ _ _ ?_ ⟨?_, hs0, fun fr hfr => ?_⟩⟩
  · refine repD_join hxl hyl hg hcm (fun i' x hx' => ?_) (fun i' x hx' => ?_) (fun i' j u hi' hu => ?_) (fun i' j u hi' hu => ?_) (fx := fx) (fy := fy)
    · obtain ⟨h1, h2⟩ := hx1 i' x hx'
      exact ⟨h1.mono hall.cell hall.mpb, h2⟩
    · obtain ⟨h1, h2⟩ := hy1 i' x hx'
      exact ⟨h1.mono hall.cell hall.mpb, h2⟩
    · have hj : j < sz := by
        have := (Array.getElem?_eq_some_iff.1 hu).1
        rw [hfxs i' hi'] at this; exact this
      obtain ⟨xb, xo, hA, hx3⟩ := hx2 (by omega)
      injection hA with hA
      injection hA with h1 h2
      subst h1; subst h2
      have := hx3 i' j u hi' hu
      rw [Nat.zero_add] at this
      exact hall.cell _ _ _ this.2 this.1
    · have hj : j < sz := by
        have := (Array.getElem?_eq_some_iff.1 hu).1
        rw [hfys i' hi'] at this; exact this
      have hlt : i' * sz + j < m * sz := by
        have : (i' + 1) * sz ≤ m * sz := Nat.mul_le_mul_right _ hi'
        rw [Nat.succ_mul] at this; omega
      have he : (n + i') * sz + j = n * sz + (i' * sz + j) := by rw [Nat.add_mul]; omega
      refine ⟨?_, hfz _ (by rw [he, hlen, Nat.add_mul]; omega)⟩
      rw [cell_blk hblk, he, setArr_get _ _ _ _ (by rw [hnl]; exact hfit), if_pos (by rw [hnl]; omega), Nat.add_sub_cancel_left, flatV_get m hfys i' j hi' hj]
      exact hu
  · exact hr.keys _ _ hid
  · rw [hget] at hfr
    injection hfr with hfr
    injection hfr with hfr
    subst hfr
    rw [hlen]
    exact ⟨Nat.le_refl _, fun _ => .inr ⟨b, _, te, zz, rfl, hG, hblk, by rw [setArr_size]; exact hcs⟩⟩

theorem appendO_inv {d dst : Nat} {ts : List Nat} {s x y : AV} (h : appendO T d dst S ts s x = some (y, S')) :
    ∃ t e bytes z sz xs tok ys, ts = [t, t] ∧ T.und t = some (.slice e) ∧ T.inf e = some (sz, bytes, z) ∧ s = .own sz xs tok ∧ elemsA x = some (sz, ys) ∧ 0 < sz ∧ 0 < bytes ∧
      (xs.length + ys.length) * bytes ≤ 140737488355328 ∧
      ((tok = none ∧ y = .own sz (xs ++ ys) (some ⟨d, dst, 0 :: S.g⟩) ∧ S' = { S with H := (⟨d, dst, 0 :: S.g⟩, .grow ((xs ++ ys).length * sz)) :: S.H, g := 1 :: S.g }) ∨
       ∃ id, tok = some id ∧ S.H.get id = some (.grow (xs.length * sz)) ∧ y = .own sz (xs ++ ys) (some id) ∧ S' = { S with H := S.H.put id (.grow ((xs ++ ys).length * sz)) }) := by
  unfold appendO at h
  rcases ts with _ | ⟨t0, _ | ⟨t1, _ | ⟨t2, r⟩⟩⟩
  · cases h
  · cases h
  · simp only at h
    cases h0 : T.und t0 with
    | none => rw [h0] at h; cases h
    | some d0 =>
      cases h1 : T.und t1 with
      | none => rw [h0, h1] at h; cases d0 <;> cases h
      | some d1 =>
        rw [h0, h1] at h
        cases d0 <;> cases d1 <;> try (simp at h; done)
        rename_i e e1
        simp only at h
        cases he : T.inf e with
        | none => rw [he] at h; simp at h
        | some q =>
          obtain ⟨n, bytes, z⟩ := q
          rw [he] at h
          cases hy : elemsA x with
          | none => rw [hy] at h; cases s <;> simp at h
          | some q =>
            obtain ⟨sz', ys⟩ := q
            rw [hy] at h
            obtain ⟨sz, xs, tok, rfl⟩ : ∃ sz xs tok, s = .own sz xs tok := by
              cases s with
              | own sz xs tok => exact ⟨sz, xs, tok, rfl⟩
              | _ => simp at h
            simp only at h
            by_cases hc : t0 = t1 ∧ sz = n ∧ sz' = n ∧ 0 < n ∧ 0 < bytes ∧ (xs.length + ys.length) * bytes ≤ 140737488355328
            · rw [if_pos hc] at h
              obtain ⟨rfl, rfl, rfl, h2, h3, h4⟩ := hc
              refine ⟨t0, e, bytes, z, sz', xs, tok, ys, rfl, h0, he, rfl, rfl, h2, h3, h4, ?_⟩
              cases tok with
              | none =>
                simp only [Option.some.injEq, Prod.mk.injEq] at h
                exact .inl ⟨rfl, h.1.symm, h.2.symm⟩
              | some id =>
                simp only at h
                cases hp : S.H.get id with
                | none => rw [hp] at h; cases h
                | some p =>
                  rw [hp] at h
                  cases p with
                  | box cs => cases h
                  | mpl es => cases h
                  | grow fr =>
                    simp only at h
                    by_cases hf : fr = xs.length * sz'
                    · rw [if_pos hf] at h
                      simp only [Option.some.injEq, Prod.mk.injEq] at h
                      exact .inr ⟨id, rfl, by rw [hp, hf], h.1.symm, h.2.symm⟩
                    · rw [if_neg hf] at h; cases h
            · rw [if_neg hc] at h; cases h
  · cases h

theorem put_self {id : Id} {p : Place} : ∀ H : Heap, H.get id = some p → H.put id p = H
  | [], h => rfl
  | (i, q) :: r, h => by
    unfold Heap.put
    by_cases hp : i = id
    · simp only [Heap.get, hp, if_true] at h
      injection h with h
      rw [if_pos hp, h]
    · simp only [Heap.get, hp, if_false] at h
      rw [if_neg hp, put_self r h]

theorem append_ok (ok : T.Ok P) (hr : HeapRel C w G S.H U) (hfr : Fr U S.g) {d dst : Nat} {ts : List Nat} {s x y : AV} {u v : Value} (hu : Rep C w G S.H U u s) (hv : Rep C w G S.H U v x) (h : appendO T d dst S ts s x = some (y, S')) (ty : Nat) :
    AppGood C P w G U S ((Builtin.append_ ts.toArray ty #[u, v]).run P w) y S' := by
  obtain ⟨t, e, bytes, z, sz, xs, tok, ys, rfl, hu0, he, rfl, hys, hs0, hb0, hbytes, h⟩ := appendO_inv h
  obtain ⟨B, c', rfl, hy⟩ := rep_elems hv hys
  cases hu with
  | own A k c sz xs tok hx ht =>
    obtain ⟨hxl, hxc, hxm, _⟩ := repD_sl_inv hx
    obtain ⟨i, zv, hi, hsz, hby, _⟩ := ok.inf e _ bytes z he
    have hnm : k + ys.length ≤ 140737488355328 := by
      have : k + ys.length ≤ (k + ys.length) * bytes := Nat.le_mul_of_pos_right _ hb0
      rw [hxl] at hbytes; omega
    by_cases hz : ys.length = 0
    · have hys0 : ys = [] := List.eq_nil_of_length_eq_zero hz
      subst hys0
      have hrun := run_append_zero (P := P) (w := w) t ty e i (ok.und _ _ hu0) hi A B k c c' hxc
      rcases h with ⟨rfl, rfl, rfl⟩ | ⟨id, rfl, hid, rfl, rfl⟩
      · have e2 := Ext.token hr (id := ⟨d, dst, 0 :: S.g⟩) (hfr.not d dst) ((xs ++ []).length * sz) none (fun _ h => by cases h)
        refine ⟨_, w, setG G ⟨d, dst, 0 :: S.g⟩ none, _, hrun, e2, hr.token (hfr.not d dst) _, ⟨rfl, hfr.add d dst, fun i hi => by rcases hi with hi | rfl; exact .inl hi; exact .inr (List.suffix_cons 0 S.g)⟩, .own _ _ _ _ _ _ ?_ ⟨.inr rfl, hs0, fun fr hfr => ?_⟩⟩
        · have := hx.mono e2.cell e2.mpb
          simpa only [List.append_nil] using this
        · have hck : c = k := ht
          simp only [Heap.get, if_true, Option.some.injEq, Place.grow.injEq] at hfr
          subst hfr
          rw [List.append_nil, hxl]
          exact ⟨Nat.le_refl _, fun _ => .inl hck⟩
      · have hput : S.H.put id (.grow ((xs ++ []).length * sz)) = S.H := by
          rw [List.append_nil]; exact put_self _ hid
        rw [hput, List.append_nil]
        exact ⟨_, w, G, U, hrun, Ext.refl _ _ _ _ _, hr, ⟨rfl, hfr, fun i h => .inl h⟩, .own _ _ _ _ _ _ hx ht⟩
    · by_cases hroom : k + ys.length ≤ c
      · rcases h with ⟨rfl, rfl, rfl⟩ | ⟨id, rfl, hid, rfl, rfl⟩
        · have hck : c = k := ht
          omega
        · obtain ⟨_, _, h2⟩ := ht
          obtain ⟨h3, h4⟩ := h2 _ hid
          rcases h4 (by rw [hxl]) with h4 | ⟨b, arr, te, z', rfl, hG, hb, hcs⟩
          · omega
          · exact append_in_ok ok hr hfr hu0 he hs0 hx hy hroom (by omega) (by omega) hid hG hb hcs
      · rcases h with ⟨rfl, rfl, rfl⟩ | ⟨id, rfl, hid, rfl, rfl⟩
        · have hck : c = k := ht
          exact append_grow_ok ok hr hfr hu0 he hs0 hb0 hx hy hbytes (by omega) (fun h1 h2 => by omega) rfl (.inl ⟨⟨d, dst, rfl⟩, rfl, rfl⟩)
        · obtain ⟨_, _, h2⟩ := ht
          obtain ⟨h3, h4⟩ := h2 _ hid
          refine append_grow_ok ok hr hfr hu0 he hs0 hb0 hx hy hbytes (by omega) (fun h1 h5 => ?_) rfl (.inr ⟨_, hid, rfl, rfl, rfl⟩)
          rcases h4 (by rw [hxl]) with h4 | ⟨b, arr, te, z', hA, _⟩
          · omega
          · rw [h5] at hA; cases hA
end
end Go.Proofs.Ytfcfifohflgboaa.Am
