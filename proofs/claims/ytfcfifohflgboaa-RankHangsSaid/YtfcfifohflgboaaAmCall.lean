/- Calls: what comes back from a call that is closed in itself. -/
import Derived.Test.YtfcfifohflgboaaAmOpA
import Derived.Test.YtfcfifohflgboaaAmOpM
set_option linter.unusedVariables false
set_option linter.unusedSimpArgs false
namespace Go.Proofs.Ytfcfifohflgboaa.Am
open Go Go.RowKit

section
variable {C : Ctx} {w w' : World} {G G' : Gh} {P : Program} {T : Tab} {S S' : St} {a : Act} {H : Heap} {U : Id → Prop}

def inner (C : Ctx) (w : World) (G : Gh) (H : Heap) : Ctx := ⟨w.heap.size, Fz C G H, fun _ _ => False, fun _ => False⟩

theorem inner_start (hr : HeapRel C w G H U) : HeapRel (inner C w G H) w (fun _ => none) [] (fun _ => False) where
  base := Nat.le_refl _
  exlt := fun k h => h.elim
  exb := fun k o h => h
  exo := fun id p b h _ => by simp [Heap.get] at h
  keys := fun id p h => by simp [Heap.get] at h
  box := fun id cs h => by simp [Heap.get] at h
  grow := fun id n b h _ => by simp [Heap.get] at h
  sep := fun id id' p p' b h _ _ _ => by simp [Heap.get] at h
  mpl := fun id es h => by simp [Heap.get] at h
theorem inner_rep {v : Value} {x : DV} (h : RepD w (Fz C G H) v x) : Rep (inner C w G H) w (fun _ => none) [] (fun _ => False) v (.d x) :=
  .d _ _ (h.weak fun b o hf => ⟨.inl hf, fun h => h, fun id p hp _ => by simp [Heap.get] at hp⟩)

theorem inner_fz (hr : HeapRel C w G H U) {G1 : Gh} {H1 : Heap} {b o : Nat} (h : Fz (inner C w G H) G1 H1 b o) : Fz C G H b o := by
  rcases h.1 with h1 | h1
  · exact h1
  · have h1 : w.heap.size ≤ b := h1
    refine ⟨.inr (Nat.le_trans hr.base h1), hr.nex h1, fun id p hp hG => ?_⟩
    have := (hr.blkLt hp hG).2
    omega

theorem toDs_ok : ∀ (xs : List AV) (ds : List DV), toDs xs = some ds → xs.length = ds.length ∧ ∀ (i : Nat) y, ds[i]? = some y → ∃ x, xs[i]? = some x ∧ toD x = some y
  | [], ds, h => by simp only [toDs, Option.some.injEq] at h; subst h; exact ⟨rfl, fun i y hy => by simp at hy⟩
  | x :: r, ds, h => by
    simp only [toDs] at h
    cases h1 : toD x with
    | none => rw [h1] at h; simp at h
    | some y =>
      cases h2 : toDs r with
      | none => rw [h1, h2] at h; simp at h
      | some s =>
        rw [h1, h2] at h
        injection h with h
        subst h
        obtain ⟨h3, h4⟩ := toDs_ok r s h2
        refine ⟨by simp [h3], fun i z hz => ?_⟩
        cases i with
        | zero =>
          have : y = z := by simpa using hz
          subst this
          exact ⟨x, rfl, h1⟩
        | succ i => exact h4 i z (by simpa using hz)

def Taken (C : Ctx) (w : World) (G : Gh) (U : Id → Prop) (S : St) (w' : World) (v : Value) (x : AV) (S' : St) : Prop :=
  ∃ G' U', Ext C w G S.H U w' G' S'.H U' ∧ HeapRel C w' G' S'.H U' ∧ (S'.T = S.T ∧ Fr U' S'.g ∧ ∀ i, U' i → U i ∨ S.g <:+ i.g) ∧ Rep C w' G' S'.H U' v x

theorem take_own (hr : HeapRel C w G S.H U) (hb : Below w.heap.size w w') {G1 : Gh} {H1 : Heap} {U1 : Id → Prop} (hr1 : HeapRel (inner C w G S.H) w' G1 H1 U1) {A : Option Addr} {n c sz : Nat} {xs : List DV} {tok : Option Id}
    (hx : RepD w' (Fz (inner C w G S.H) G1 H1) (.slice A n c) (.sl sz xs)) (ht : TokOk w' G1 H1 U1 A n c sz tok) (h0 : 0 < sz) (hl : tokLive H1 (xs.length * sz) tok = true) (id : Id) (hid : ¬ U id) :
    ∃ ob : Option Nat, Ext C w G S.H U w' (setG G id ob) ((id, .grow (xs.length * sz)) :: S.H) (addU U id) ∧ HeapRel C w' (setG G id ob) ((id, .grow (xs.length * sz)) :: S.H) (addU U id) ∧
      (∀ b o, Fz (inner C w G S.H) G1 H1 b o → Fz C (setG G id ob) ((id, .grow (xs.length * sz)) :: S.H) b o) ∧
      Rep C w' (setG G id ob) ((id, .grow (xs.length * sz)) :: S.H) (addU U id) (.slice A n c) (.own sz xs (some id)) := by
  have hxl : xs.length = n := (repD_sl_inv hx).1
  have hold : ∀ i p, Heap.get ((id, Place.grow (xs.length * sz)) :: S.H) i = some p → i ≠ id → S.H.get i = some p := fun i p hp hi => by
    simpa only [Heap.get, if_neg (Ne.symm hi)] using hp
  have hdet : c = n → ∃ ob : Option Nat, Ext C w G S.H U w' (setG G id ob) ((id, .grow (xs.length * sz)) :: S.H) (addU U id) ∧ HeapRel C w' (setG G id ob) ((id, .grow (xs.length * sz)) :: S.H) (addU U id) ∧
      (∀ b o, Fz (inner C w G S.H) G1 H1 b o → Fz C (setG G id ob) ((id, .grow (xs.length * sz)) :: S.H) b o) ∧
      Rep C w' (setG G id ob) ((id, .grow (xs.length * sz)) :: S.H) (addU U id) (.slice A n c) (.own sz xs (some id)) := fun hc => by
    have e1 := Ext.grown hr hb
    have hr2 := hr.grown hb
    have e2 := Ext.token hr2 hid (xs.length * sz) none (fun _ h => by cases h)
    have hfz : ∀ b o, Fz (inner C w G S.H) G1 H1 b o → Fz C (setG G id none) ((id, .grow (xs.length * sz)) :: S.H) b o := fun b o hf => by
      have h1 := inner_fz hr hf
      refine ⟨h1.1, h1.2.1, fun i p hp hG => ?_⟩
      by_cases hi : i = id
      · subst hi; simp [setG] at hG
      · exact h1.2.2 i p (hold i p hp hi) (by simpa [setG, hi] using hG)
    refine ⟨none, e1.trans e2, hr2.token hid _, hfz, .own _ _ _ _ _ _ (hx.weak hfz) ⟨.inr rfl, h0, fun fr hfr => ?_⟩⟩
    simp only [Heap.get, if_true, Option.some.injEq, Place.grow.injEq] at hfr
    subst hfr
    rw [hxl]
    exact ⟨Nat.le_refl _, fun _ => .inl hc⟩
  cases tok with
  | none => exact hdet ht
  | some id0 =>
    simp only [tokLive] at hl
    split at hl
    · rename_i m hm
      have hm' : m = xs.length * sz := by simpa using hl
      subst hm'
      obtain ⟨_, _, h2⟩ := ht
      obtain ⟨_, h4⟩ := h2 _ hm
      rcases h4 (by rw [hxl]) with h4 | ⟨b, arr, te, z, hA, hG, hblk, hcs⟩
      · exact hdet h4
      · obtain ⟨hb0, arr1, te1, z1, hblk1, hfr1, hn1⟩ := hr1.grow id0 _ b hm hG
        have hb0 : w.heap.size ≤ b := hb0
        have e1 := Ext.adopt hr hb hid (.grow (xs.length * sz)) b hb0
        have hfz : ∀ b' o, Fz (inner C w G S.H) G1 H1 b' o → Fz C (setG G id (some b)) ((id, .grow (xs.length * sz)) :: S.H) b' o := fun b' o hf => by
          have h1 := inner_fz hr hf
          refine ⟨h1.1, h1.2.1, fun i p hp hG' => ?_⟩
          by_cases hi : i = id
          · subst hi
            have hbb : b = b' := by simpa [setG] using hG'
            subst hbb
            have hp' : Place.grow (xs.length * sz) = p := by simpa [Heap.get] using hp
            subst hp'
            exact hf.2.2 id0 _ hm hG
          · exact h1.2.2 i p (hold i p hp hi) (by simpa [setG, hi] using hG')
        refine ⟨some b, e1, hr.adopt hb hid _ b hb0 ⟨arr1, te1, z1, hblk1, hfr1, hn1⟩, hfz, .own _ _ _ _ _ _ (hx.weak hfz) ⟨.inr rfl, h0, fun fr hfr => ?_⟩⟩
        simp only [Heap.get, if_true, Option.some.injEq, Place.grow.injEq] at hfr
        subst hfr
        rw [hxl]
        exact ⟨Nat.le_refl _, fun _ => .inr ⟨b, arr, te, z, hA, by simp [setG], hblk, hcs⟩⟩
    · cases hl

theorem adoptO_ok (hr : HeapRel C w G S.H U) (hfr : Fr U S.g) (hb : Below w.heap.size w w') {G1 : Gh} {H1 : Heap} {U1 : Id → Prop} (hr1 : HeapRel (inner C w G S.H) w' G1 H1 U1) {v : Value} {r x : AV}
    (hv : Rep (inner C w G S.H) w' G1 H1 U1 v r) {f d dst : Nat} (h : adoptO T f d dst H1 S r = some (x, S')) : Taken C w G U S w' v x S' := by
  have e1 := Ext.grown hr hb
  have hr2 := hr.grown hb
  have hdeep : ∀ {u : Value} {y : AV} {z : DV}, Rep (inner C w G S.H) w' G1 H1 U1 u y → toD y = some z → Rep C w' G S.H U u (.d z) := fun hu hz =>
    .d _ _ ((toD_ok hu hz).weak fun b o hf => inner_fz hr hf)
  unfold adoptO at h
  cases hres : T.res f with
  | none =>
    rw [hres] at h
    simp only at h
    split at h
    · rename_i xs
      cases hd : toDs xs with
      | none => rw [hd] at h; cases h
      | some ds =>
        rw [hd] at h
        simp only [Option.some.injEq, Prod.mk.injEq] at h
        obtain ⟨rfl, rfl⟩ := h
        obtain ⟨vs, rfl, hl, hvs⟩ := rep_tup hv
        obtain ⟨h1, h2⟩ := toDs_ok xs ds hd
        refine ⟨G, U, e1, hr2, ⟨rfl, hfr, fun i h => .inl h⟩, .tup vs _ (by simp; omega) (fun i y hy => by simp only [List.getElem?_map, Option.map_eq_some_iff] at hy; obtain ⟨z, _, rfl⟩ := hy; rfl) (fun i u y hu hy => ?_)⟩
        simp only [List.getElem?_map, Option.map_eq_some_iff] at hy
        obtain ⟨z, hz, rfl⟩ := hy
        obtain ⟨q, hq, hqz⟩ := h2 i z hz
        obtain ⟨u', hu', hrep⟩ := hvs i q hq
        rw [hu] at hu'
        injection hu' with hu'
        subst hu'
        exact hdeep hrep hqz
    · cases hd : toD r with
      | none => rw [hd] at h; cases h
      | some y =>
        rw [hd] at h
        simp only [Option.some.injEq, Prod.mk.injEq] at h
        obtain ⟨rfl, rfl⟩ := h
        exact ⟨G, U, e1, hr2, ⟨rfl, hfr, fun i h => .inl h⟩, hdeep hv hd⟩
  | some j =>
    rw [hres] at h
    simp only at h
    split at h
    · rename_i sz xs tok
      split at h
      · rename_i hc
        simp only [Option.some.injEq, Prod.mk.injEq] at h
        obtain ⟨rfl, rfl⟩ := h
        cases hv with
        | own A n c sz xs tok hx ht =>
          obtain ⟨ob, h1, h2, _, h3⟩ := take_own hr hb hr1 hx ht hc.1 hc.2 ⟨d, dst, 0 :: S.g⟩ (hfr.not d dst)
          exact ⟨_, _, h1, h2, ⟨rfl, hfr.add d dst, fun i hi => by rcases hi with hi | rfl; exact .inl hi; exact .inr (List.suffix_cons 0 S.g)⟩, h3⟩
      · cases h
    · rename_i ys
      split at h
      · rename_i sz xs tok ds hj hds
        split at h
        · rename_i hc
          simp only [Option.some.injEq, Prod.mk.injEq] at h
          obtain ⟨rfl, rfl⟩ := h
          obtain ⟨vs, rfl, hl, hvs⟩ := rep_tup hv
          obtain ⟨h1, h2⟩ := toDs_ok ys ds hds
          obtain ⟨u, hu, hrep⟩ := hvs j _ hj
          cases hrep with
          | own A n c sz xs tok hx ht =>
            obtain ⟨ob, h3, h4, h5, h6⟩ := take_own hr hb hr1 hx ht hc.1 hc.2 ⟨d, dst, 0 :: S.g⟩ (hfr.not d dst)
            refine ⟨_, _, h3, h4, ⟨rfl, hfr.add d dst, fun i hi => by rcases hi with hi | rfl; exact .inl hi; exact .inr (List.suffix_cons 0 S.g)⟩, .tup vs _ (by simp; omega) (fun i y hy => ?_) (fun i u' y hu' hy => ?_)⟩
            · rw [List.getElem?_set] at hy
              split at hy
              · split at hy
                · injection hy with hy; subst hy; rfl
                · cases hy
              · simp only [List.getElem?_map, Option.map_eq_some_iff] at hy
                obtain ⟨z, _, rfl⟩ := hy
                rfl
            rw [List.getElem?_set] at hy
            by_cases hi : j = i
            · subst hi
              rw [if_pos rfl] at hy
              split at hy
              · injection hy with hy
                subst hy
                rw [hu] at hu'
                injection hu' with hu'
                subst hu'
                exact h6
              · cases hy
            · rw [if_neg hi] at hy
              simp only [List.getElem?_map, Option.map_eq_some_iff] at hy
              obtain ⟨z, hz, rfl⟩ := hy
              obtain ⟨q, hq, hqz⟩ := h2 i z hz
              obtain ⟨u'', hu'', hrep⟩ := hvs i q hq
              rw [hu'] at hu''
              injection hu'' with hu''
              subst hu''
              exact .d _ _ ((toD_ok hrep hqz).weak h5)
        · cases h
      · cases h
    · cases h

theorem chop_get (sz : Nat) : ∀ (n : Nat) (ds : List DV), ds.length = n * sz → (chop sz n ds).length = n ∧ ∀ (i : Nat) x, (chop sz n ds)[i]? = some x → (sz = 1 → ds[i]? = some x) ∧ (sz ≠ 1 → x = .agg ((ds.drop (i * sz)).take sz))
  | 0, ds, h => ⟨rfl, fun i x hx => by simp [chop] at hx⟩
  | n + 1, ds, h => by
    rw [Nat.succ_mul] at h
    obtain ⟨h1, h2⟩ := chop_get sz n (ds.drop sz) (by simp; omega)
    refine ⟨by simp [chop, h1], fun i x hx => ?_⟩
    simp only [chop] at hx
    cases i with
    | zero =>
      simp only [List.getElem?_cons_zero, Option.some.injEq] at hx
      refine ⟨fun hs => ?_, fun hs => ?_⟩
      · subst hs
        rw [if_pos rfl] at hx
        cases ds with
        | nil => simp at h
        | cons a r => simpa using hx
      · rw [if_neg hs] at hx; simpa using hx.symm
    | succ i =>
      simp only [List.getElem?_cons_succ] at hx
      obtain ⟨h3, h4⟩ := h2 i x hx
      refine ⟨fun hs => ?_, fun hs => ?_⟩
      · have := h3 hs
        rw [hs, List.getElem?_drop, Nat.add_comm] at this
        exact this
      · rw [h4 hs, List.drop_drop, Nat.succ_mul, Nat.add_comm]

theorem frzV_leaf {x : AV} (h : x.leaf = true) : (frzV H x).leaf = true := by
  unfold frzV
  split
  · split
    · split
      · split <;> first | rfl | exact h
      · exact h
    · exact h
  · split
    · rfl
    · exact h
  · exact h
theorem frzV_ok (hr : HeapRel C w G H U) {v : Value} {x : AV} (h : Rep C w G H U v x) : Rep C w G [] U v (frzV H x) := by
  have hdrop : Ext C w G H U w G [] U := Ext.drop (fun id p hp => by simp [Heap.get] at hp) (fun i hi => hi)
  have hfz : ∀ b o, Fz C G H b o → Fz C G [] b o := fun b o hf => ⟨hf.1, hf.2.1, fun id p hp => by simp [Heap.get] at hp⟩
  have hx0 := h.ext hdrop
  unfold frzV
  split
  · rename_i id off n sz
    split
    · rename_i cs hid
      split
      · rename_i ds hds
        split
        · rename_i hc
          obtain ⟨h0, hdl⟩ := hc
          obtain ⟨b, c, arr, te, zz, hG, hUid, hkm, hkc, rfl, hcl, hca, hblk, hfree, hcs, hold⟩ := arr_inv (S := ⟨[], H, []⟩) hr h hid
          obtain ⟨hl1, hl2⟩ := allD_ok _ _ hds
          obtain ⟨hch1, hch2⟩ := chop_get sz n ds hdl
          have hbase := (hr.blkLt hid hG).1
          have hF : ∀ o, Fz C G [] b o := fun o => ⟨.inr hbase, fun hx => hr.exo id _ b hid hG (hr.exb b o hx), fun id p hp => by simp [Heap.get] at hp⟩
          have hcell : ∀ (j : Nat) z, ds[j]? = some z → z.leaf = true ∧ ∃ u, arr[off + j]? = some u ∧ RepD w (Fz C G []) u z := fun j z hz => by
            obtain ⟨y, hy, hyd⟩ := hl2 j z hz
            have hj : j < n * sz := by have := (List.getElem?_eq_some_iff.1 hz).1; omega
            rw [List.getElem?_take, if_pos hj, List.getElem?_drop] at hy
            obtain ⟨h1, u, h2, h3⟩ := hold _ y hy
            exact ⟨toDc_leaf h1 hyd, u, h2, (toDc_ok h3 hyd).weak hfz⟩
          have hsize : off + n * sz ≤ arr.size := by
            have := Nat.mul_le_mul_right sz hkc
            omega
          have hidx : ∀ i j, i < n → j < sz → i * sz + j < n * sz := fun i j hi hj => by
            have : (i + 1) * sz ≤ n * sz := Nat.mul_le_mul_right _ hi
            rw [Nat.succ_mul] at this; omega
          refine .d _ _ (.sl _ n c sz _ (fun i => if sz = 1 then arr.getD (off + i) undef else .agg (arr.extract (off + i * sz) (off + i * sz + sz))) hch1 hkc hkm (fun i x hx => ?_) (fun i x hx => ?_))
          all_goals
            have hi : i < n := by have := (List.getElem?_eq_some_iff.1 hx).1; omega
            obtain ⟨hx1, hx2⟩ := hch2 i x hx
          · by_cases hs1 : sz = 1
            · subst hs1
              obtain ⟨h1, u, h2, h3⟩ := hcell i x (hx1 rfl)
              refine ⟨by rw [dcells_leaf h1]; rfl, b, off, rfl, fun j u' hu' => ?_⟩
              have hu : arr.getD (off + i) undef = u := by rw [Array.getD_eq_getD_getElem?, h2]; rfl
              simp only [if_true, hu] at hu'
              rw [cells_leaf (h3.leafV h1)] at hu'
              have hj : j = 0 := by
                have := (Array.getElem?_eq_some_iff.1 hu').1
                simp at this; omega
              subst hj
              have hu'' : u = u' := by simpa using hu'
              subst hu''
              exact ⟨by rw [cell_blk hblk]; simpa using h2, hF _⟩
            · rw [hx2 hs1]
              have hlen : ((ds.drop (i * sz)).take sz).length = sz := by
                have := hidx i (sz - 1) hi (by omega)
                simp; omega
              refine ⟨by simp only [DV.cells]; exact hlen, b, off, rfl, fun j u hu => ?_⟩
              simp only [if_neg hs1, Value.cells] at hu
              have hj : j < sz := by
                have := (Array.getElem?_eq_some_iff.1 hu).1
                simp at this; omega
              rw [Array.getElem?_extract] at hu
              have := hidx i j hi hj
              rw [if_pos (by omega)] at hu
              exact ⟨by rw [cell_blk hblk]; exact hu, hF _⟩
          · by_cases hs1 : sz = 1
            · subst hs1
              obtain ⟨h1, u, h2, h3⟩ := hcell i x (hx1 rfl)
              have hu : arr.getD (off + i) undef = u := by rw [Array.getD_eq_getD_getElem?, h2]; rfl
              simp only [if_true, hu]
              exact h3
            · rw [hx2 hs1]
              simp only [if_neg hs1]
              have hlen : ((ds.drop (i * sz)).take sz).length = sz := by
                have := hidx i (sz - 1) hi (by omega)
                simp; omega
              have hlast := hidx i (sz - 1) hi (by omega)
              refine .agg _ _ (by rw [hlen, Array.size_extract]; omega) (fun j z hz => ?_) (fun j u z hu hz => ?_)
              · rw [List.getElem?_take] at hz
                split at hz
                · rw [List.getElem?_drop] at hz; exact (hcell _ z hz).1
                · cases hz
              · rw [List.getElem?_take] at hz
                split at hz
                · rename_i hj
                  rw [List.getElem?_drop] at hz
                  obtain ⟨_, u', h2, h3⟩ := hcell _ z hz
                  rw [Array.getElem?_extract] at hu
                  have := hidx i j hi hj
                  rw [if_pos (by omega)] at hu
                  rw [← Nat.add_assoc, hu] at h2
                  injection h2 with h2
                  rw [h2]; exact h3
                · cases hz
        · exact hx0
      · exact hx0
    · exact hx0
  · rename_i id
    split
    · rename_i es hid
      cases h with
      | mp v id hv hg h =>
        obtain ⟨b, hG, rfl⟩ := h _ hid
        obtain ⟨b', ents, clock, h1, h2, h3, h4, h5⟩ := hr.mpl id es hid
        rw [hG] at h1; injection h1 with h1; subst h1
        exact .d _ _ (.mp b ents clock es h3 ⟨.inr h2, fun hx => hr.exo id _ b hid hG (hr.exb b 0 hx), fun id p hp => by simp [Heap.get] at hp⟩ h4 (fun i e p he hp => (h5 i e p he hp).1.weak hfz) (fun i e p he hp => (h5 i e p he hp).2.weak hfz))
    · exact hx0
  · exact hx0
theorem frzB_ok (hr : HeapRel C w G H U) {v : Value} {x : AV} (h : Rep C w G H U v x) : Rep C w G [] U v (frzB H x) := by
  unfold frzB
  split
  · cases h with
    | agg vs cs hl hf hh =>
      refine .agg _ _ (by simpa using hl) (fun i x hx => ?_) (fun i v x hv hx => ?_)
      · simp only [List.getElem?_map, Option.map_eq_some_iff] at hx
        obtain ⟨z, hz, rfl⟩ := hx
        exact frzV_leaf (hf i z hz)
      · simp only [List.getElem?_map, Option.map_eq_some_iff] at hx
        obtain ⟨z, hz, rfl⟩ := hx
        exact frzV_ok hr (hh i v z hv hz)
  · exact frzV_ok hr h
theorem frzB_ntup {x : AV} (h : noTup x = true) : noTup (frzB H x) = true := by
  unfold frzB
  split
  · rfl
  · unfold frzV
    split
    · split
      · split
        · split <;> first | rfl | exact h
        · exact h
      · exact h
    · split
      · rfl
      · exact h
    · exact h
theorem frz_ok (hr : HeapRel C w G H U) {v : Value} {x : AV} (h : Rep C w G H U v x) : Rep C w G [] U v (frz H x) := by
  unfold frz
  split
  · cases h with
    | tup vs xs hl hf hh =>
      refine .tup _ _ (by simpa using hl) (fun i x hx => ?_) (fun i v x hv hx => ?_)
      · simp only [List.getElem?_map, Option.map_eq_some_iff] at hx
        obtain ⟨z, hz, rfl⟩ := hx
        exact frzB_ntup (hf i z hz)
      · simp only [List.getElem?_map, Option.map_eq_some_iff] at hx
        obtain ⟨z, hz, rfl⟩ := hx
        exact frzB_ok hr (hh i v z hv hz)
  · exact frzB_ok hr h

theorem HeapRel.none (hr : HeapRel C w G H U) : HeapRel C w G [] U := hr.drop (fun id p hp => by simp [Heap.get] at hp) (fun i hi => hi)

theorem thawV_ok (hr : HeapRel C w G S.H U) (hfr : Fr U S.g) (hb : Below w.heap.size w w') {G1 : Gh} {H1 : Heap} {U1 : Id → Prop} (hr1 : HeapRel (inner C w G S.H) w' G1 H1 U1) {v : Value} {r x : AV}
    (hv : Rep (inner C w G S.H) w' G1 H1 U1 v r) {d dst : Nat} (h : thawV H1 d dst S r = some (x, S')) :
    ∃ G' U', Ext C w G S.H U w' G' S'.H U' ∧ HeapRel C w' G' S'.H U' ∧ (S'.T = S.T ∧ Fr U' S'.g ∧ ∀ i, U' i → U i ∨ S.g <:+ i.g) ∧ Rep C w' G' S'.H U' v x ∧ ((noTup x = true) ∧ ∀ b o, Fz (inner C w G S.H) G1 H1 b o → Fz C G' S'.H b o) := by
  have hid := hfr.not d dst
  have hU : ∀ i, addU U ⟨d, dst, 0 :: S.g⟩ i → U i ∨ S.g <:+ i.g := fun i hi => by
    rcases hi with hi | rfl
    · exact .inl hi
    · exact .inr (List.suffix_cons 0 S.g)
  have hfz : ∀ (p : Place) (b : Nat) (id0 : Id) (q : Place), H1.get id0 = some q → G1 id0 = some b → (∀ o, ¬ q.upto o) → ∀ b' o, Fz (inner C w G S.H) G1 H1 b' o → Fz C (setG G ⟨d, dst, 0 :: S.g⟩ (some b)) ((⟨d, dst, 0 :: S.g⟩, p) :: S.H) b' o := fun p b id0 q hq hG1 hn b' o hf => by
    have h1 := inner_fz hr hf
    refine ⟨h1.1, h1.2.1, fun i p' hp hG => ?_⟩
    by_cases hi : i = ⟨d, dst, 0 :: S.g⟩
    · subst hi
      have hbb : b = b' := by simpa [setG] using hG
      subst hbb
      exact (hn o (hf.2.2 id0 _ hq hG1)).elim
    · simp only [Heap.get, if_neg (Ne.symm hi)] at hp
      exact h1.2.2 i p' hp (by simpa [setG, hi] using hG)
  unfold thawV at h
  split at h
  · rename_i id n sz
    split at h
    · rename_i cs hcs
      split at h
      · rename_i ds hds
        simp only [Option.some.injEq, Prod.mk.injEq] at h
        obtain ⟨rfl, rfl⟩ := h
        obtain ⟨b, c, arr, te, zz, hG, hUid, hkm, hkc, rfl, hcl, hca, hblk, hfree, hcl2, hold⟩ := arr_inv (S := ⟨[], H1, []⟩) hr1 hv hcs
        have hb0 : w.heap.size ≤ b := (hr1.blkLt hcs hG).1
        obtain ⟨hl1, hl2⟩ := allD_ok _ _ hds
        have e1 := Ext.adopt hr hb hid (.box (ds.map .d)) b hb0
        have hf := hfz (.box (ds.map .d)) b id _ hcs hG (fun o h => h)
        refine ⟨_, _, e1, hr.adopt hb hid _ b hb0 ⟨arr, te, zz, hblk, hfree, by simp; omega, fun j y hy => ?_⟩, ⟨rfl, hfr.add d dst, hU⟩, .arr _ _ _ _ _ rfl (.inr rfl) hkm (fun cs' hc => ⟨b, c, by simp [setG], hkc, rfl, ?_, arr, te, zz, hblk, by omega⟩), rfl, hf⟩
        · simp only [List.getElem?_map, Option.map_eq_some_iff] at hy
          obtain ⟨z, hz, rfl⟩ := hy
          obtain ⟨y, hy, hyd⟩ := hl2 j z hz
          obtain ⟨h1, u, h2, h3⟩ := hold j y hy
          exact ⟨toDc_leaf h1 hyd, u, h2, .d _ _ ((toDc_ok h3 hyd).weak hf)⟩
        · simp only [Heap.get, if_true, Option.some.injEq, Place.box.injEq] at hc
          subst hc
          simp; omega
      · cases h
    · cases h
  · rename_i id
    split at h
    · rename_i es hes
      simp only [Option.some.injEq, Prod.mk.injEq] at h
      obtain ⟨rfl, rfl⟩ := h
      cases hv with
      | mp v id hv hg hh =>
        obtain ⟨b, hG, rfl⟩ := hh _ hes
        obtain ⟨b', ents, clock, h1, h2, h3, h4, h5⟩ := hr1.mpl id es hes
        rw [hG] at h1; injection h1 with h1; subst h1
        have hb0 : w.heap.size ≤ b := h2
        have e1 := Ext.adopt hr hb hid (.mpl es) b hb0
        have hf := hfz (.mpl es) b id _ hes hG (fun o h => h)
        exact ⟨_, _, e1, hr.adopt hb hid _ b hb0 ⟨ents, clock, h3, h4, fun j e p he hp => ⟨(h5 j e p he hp).1.weak hf, (h5 j e p he hp).2.weak hf⟩⟩, ⟨rfl, hfr.add d dst, hU⟩, .mp _ _ rfl (.inr rfl) (fun es' h => ⟨b, by simp [setG], rfl⟩), rfl, hf⟩
    · cases h
  · simp only [Option.some.injEq, Prod.mk.injEq] at h
    obtain ⟨rfl, rfl⟩ := h
    cases hv with
    | own A n c sz xs tok hx ht =>
      exact ⟨G, U, Ext.grown hr hb, hr.grown hb, ⟨rfl, hfr, fun i h => .inl h⟩, .own _ _ _ _ _ _ (hx.weak fun b o hf => inner_fz hr hf) ht, rfl, fun b o hf => inner_fz hr hf⟩
  · cases h

theorem thawA_ok (hr : HeapRel C w G S.H U) (hfr : Fr U S.g) (hb : Below w.heap.size w w') {G1 : Gh} {H1 : Heap} {U1 : Id → Prop} (hr1 : HeapRel (inner C w G S.H) w' G1 H1 U1) {v : Value} {r x : AV}
    (hv : Rep (inner C w G S.H) w' G1 H1 U1 v r) {d dst j : Nat} (h : thawA H1 d dst S j r = some (x, S')) : Taken C w G U S w' v x S' := by
  unfold thawA at h
  split at h
  · rename_i ys
    split at h
    · rename_i y ds hy hds
      split at h
      · rename_i z S1 hz
        simp only [Option.some.injEq, Prod.mk.injEq] at h
        obtain ⟨rfl, rfl⟩ := h
        obtain ⟨vs, rfl, hl, hvs⟩ := rep_tup hv
        obtain ⟨u, hu, hrep⟩ := hvs j y hy
        obtain ⟨G', U', h1, h2, h3, h4, h5, h6⟩ := thawV_ok hr hfr hb hr1 hrep hz
        obtain ⟨h7, h8⟩ := toDs_ok _ ds hds
        refine ⟨G', U', h1, h2, h3, .tup vs _ (by simp at h7 ⊢; omega) (fun i y' hy' => ?_) (fun i u' y' hu' hy' => ?_)⟩
        · rw [List.getElem?_set] at hy'
          split at hy'
          · split at hy'
            · injection hy' with hy'; subst hy'; exact h5
            · cases hy'
          · simp only [List.getElem?_map, Option.map_eq_some_iff] at hy'
            obtain ⟨z', _, rfl⟩ := hy'
            rfl
        · rw [List.getElem?_set] at hy'
          by_cases hi : j = i
          · subst hi
            rw [if_pos rfl] at hy'
            split at hy'
            · injection hy' with hy'
              subst hy'
              rw [hu] at hu'
              injection hu' with hu'
              subst hu'
              exact h4
            · cases hy'
          · rw [if_neg hi] at hy'
            simp only [List.getElem?_map, Option.map_eq_some_iff] at hy'
            obtain ⟨z', hz', rfl⟩ := hy'
            obtain ⟨q, hq, hqz⟩ := h8 i z' hz'
            rw [List.getElem?_set, if_neg hi] at hq
            obtain ⟨u'', hu'', hrep'⟩ := hvs i q hq
            rw [hu'] at hu''
            injection hu'' with hu''
            subst hu''
            exact .d _ _ ((toD_ok hrep' hqz).weak h6)
      · cases h
    · cases h
  · obtain ⟨G', U', h1, h2, h3, h4, _⟩ := thawV_ok hr hfr hb hr1 hv h
    exact ⟨G', U', h1, h2, h3, h4⟩

theorem flat_any {w w' : World} {F F' : Nat → Nat → Prop} {v : Value} {y : DV} (h : RepD w F v y) (hy : y.flat = true) : RepD w' F' v y := by
  cases h with
  | int k n => exact .int k n
  | bool b => exact .bool b
  | str s => exact .str s
  | _ => simp [DV.flat] at hy
theorem flatB_any {w w' : World} {F F' : Nat → Nat → Prop} {v : Value} {y : DV} (h : RepD w F v y) (hy : y.flatB = true) : RepD w' F' v y := by
  cases h with
  | agg vs cs hl hf hh =>
    simp only [DV.flatB, List.all_eq_true] at hy
    exact .agg vs cs hl hf fun i v x hv hx => flat_any (hh i v x hv hx) (hy x (List.mem_of_getElem? hx))
  | int k n => exact .int k n
  | bool b => exact .bool b
  | str s => exact .str s
  | _ => simp [DV.flatB, DV.flat] at hy
theorem adoptF_ok (hr : HeapRel C w G S.H U) (hfr : Fr U S.g) (hb : Below w.heap.size w w') {G1 : Gh} {H1 : Heap} {U1 : Id → Prop} (hr1 : HeapRel (inner C w G []) w' G1 H1 U1) {v : Value} {r x : AV}
    (hv : Rep (inner C w G []) w' G1 H1 U1 v r) {f d dst : Nat} (h : adoptF T f d dst H1 S r = some (x, S')) : Taken C w G U S w' v x S' := by
  have e1 := Ext.grown hr hb
  have hr2 := hr.grown hb
  unfold adoptF at h
  split at h
  · unfold thawF at h
    split at h
    · rename_i id n sz
      split at h
      · rename_i cs hcs
        split at h
        · rename_i ds hds
          split at h
          · rename_i hfl
            simp only [Option.some.injEq, Prod.mk.injEq] at h
            obtain ⟨rfl, rfl⟩ := h
            obtain ⟨b, c, arr, te, zz, hG, hUid, hkm, hkc, rfl, hcl, hca, hblk, hfree, hcl2, hold⟩ := arr_inv (S := ⟨[], H1, []⟩) hr1 hv hcs
            have hb0 : w.heap.size ≤ b := (hr1.blkLt hcs hG).1
            obtain ⟨hl1, hl2⟩ := allD_ok _ _ hds
            have hid := hfr.not d dst
            have ea := Ext.adopt hr hb hid (.box (ds.map .d)) b hb0
            refine ⟨_, _, ea, hr.adopt hb hid _ b hb0 ⟨arr, te, zz, hblk, hfree, by simp; omega, fun j y hy => ?_⟩, ⟨rfl, hfr.add d dst, fun i hi => ?_⟩, .arr _ _ _ _ _ rfl (.inr rfl) hkm (fun cs' hc => ⟨b, c, by simp [setG], hkc, rfl, ?_, arr, te, zz, hblk, by omega⟩)⟩
            · simp only [List.getElem?_map, Option.map_eq_some_iff] at hy
              obtain ⟨z, hz, rfl⟩ := hy
              obtain ⟨y, hy, hyd⟩ := hl2 j z hz
              obtain ⟨h1, u, h2, h3⟩ := hold j y hy
              exact ⟨toDc_leaf h1 hyd, u, h2, .d _ _ (flat_any (toDc_ok h3 hyd) (List.all_eq_true.1 hfl z (List.mem_of_getElem? hz)))⟩
            · rcases hi with hi | rfl
              · exact .inl hi
              · exact .inr (List.suffix_cons 0 S.g)
            · simp only [Heap.get, if_true, Option.some.injEq, Place.box.injEq] at hc
              subst hc
              simp; omega
          · cases h
        · cases h
      · cases h
    · simp only [Option.some.injEq, Prod.mk.injEq] at h
      obtain ⟨rfl, rfl⟩ := h
      cases hv with
      | own A n c sz xs tok hx ht =>
        have hn := (repD_sl_inv hx).1
        simp only [List.length_nil] at hn
        subst hn
        exact ⟨G, U, e1, hr2, ⟨rfl, hfr, fun i h => .inl h⟩, .own _ _ _ _ _ _ (.sl _ _ _ _ _ (fun _ => undef) rfl (Nat.zero_le _) (by omega) (fun i x hx => by simp at hx) (fun i x hx => by simp at hx)) ht⟩
    · cases h
  · split at h
    · rename_i xs
      split at h
      · rename_i ds hds
        split at h
        · rename_i hfl
          simp only [Option.some.injEq, Prod.mk.injEq] at h
          obtain ⟨rfl, rfl⟩ := h
          obtain ⟨vs, rfl, hl, hvs⟩ := rep_tup hv
          obtain ⟨h1, h2⟩ := toDs_ok xs ds hds
          refine ⟨G, U, e1, hr2, ⟨rfl, hfr, fun i h => .inl h⟩, .tup vs _ (by simp; omega) (fun i y hy => by simp only [List.getElem?_map, Option.map_eq_some_iff] at hy; obtain ⟨z, _, rfl⟩ := hy; rfl) (fun i u y hu hy => ?_)⟩
          simp only [List.getElem?_map, Option.map_eq_some_iff] at hy
          obtain ⟨z, hz, rfl⟩ := hy
          obtain ⟨q, hq, hqz⟩ := h2 i z hz
          obtain ⟨u', hu', hrep⟩ := hvs i q hq
          rw [hu] at hu'
          injection hu' with hu'
          subst hu'
          exact .d _ _ (flatB_any (toD_ok hrep hqz) (List.all_eq_true.1 hfl z (List.mem_of_getElem? hz)))
        · cases h
      · cases h
    · split at h
      · rename_i y hy
        split at h
        · rename_i hfl
          simp only [Option.some.injEq, Prod.mk.injEq] at h
          obtain ⟨rfl, rfl⟩ := h
          exact ⟨G, U, e1, hr2, ⟨rfl, hfr, fun i h => .inl h⟩, .d _ _ (flatB_any (toD_ok hv hy) hfl)⟩
        · cases h
      · cases h
theorem adopt_ok (hr : HeapRel C w G S.H U) (hfr : Fr U S.g) (hb : Below w.heap.size w w') {G1 : Gh} {H1 : Heap} {U1 : Id → Prop} (hr1 : HeapRel (inner C w G S.H) w' G1 H1 U1) {v : Value} {r x : AV}
    (hv : Rep (inner C w G S.H) w' G1 H1 U1 v r) {f d dst : Nat} (h : adopt T f d dst H1 S r = some (x, S')) : Taken C w G U S w' v x S' := by
  unfold adopt at h
  split at h
  · exact thawA_ok hr hfr hb hr1 hv h
  · split at h
    · rename_i hres
      refine adoptO_ok hr hfr hb hr1.none (frz_ok hr1 hv) (T := T) (f := f) (d := d) (dst := dst) ?_
      unfold adoptO at h ⊢
      rw [hres] at h ⊢
      exact h
    · exact adoptO_ok hr hfr hb hr1 hv h
end
end Go.Proofs.Ytfcfifohflgboaa.Am
