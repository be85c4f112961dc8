/- Calls: what comes back from a call that is closed in itself. -/
import Derived.Test.YthnlmhibbmogeaaAmOpA
set_option linter.unusedVariables false
set_option linter.unusedSimpArgs false
namespace Go.Proofs.Ythnlmhibbmogeaa.Am
open Go Go.RowKit

section
variable {C : Ctx} {w w' : World} {G G' : Gh} {P : Program} {T : Tab} {S S' : St} {a : Act} {H : Heap} {U : Id → Prop}

/-- The context of a closed call. -/
def inner (C : Ctx) (w : World) (G : Gh) (H : Heap) : Ctx := ⟨w.heap.size, Fz C G H, fun _ _ => False, fun _ => False⟩

theorem inner_start (hr : HeapRel C w G H U) : HeapRel (inner C w G H) w (fun _ => none) [] (fun _ => False) where
  base := Nat.le_refl _
  exlt := fun k h => h.elim
  exb := fun k o h => h
  exo := fun id p b h _ => by simp [Heap.get] at h
  keys := fun id p h => by simp [Heap.get] at h
  box := fun id cs h => by simp [Heap.get] at h
  grow := fun id n b h _ => by simp [Heap.get] at h
  sep := fun id id' p p' b h _ _ _ => by simp [Heap.get] at h
theorem inner_rep {v : Value} {x : DV} (h : RepD w (Fz C G H) v x) : Rep (inner C w G H) w (fun _ => none) [] (fun _ => False) v (.d x) :=
  .d _ _ (h.mono fun b o u hf hc => ⟨hc, .inl hf, fun h => h, fun id p hp _ => by simp [Heap.get] at hp⟩)

theorem inner_fz (hr : HeapRel C w G H U) {G1 : Gh} {H1 : Heap} {b o : Nat} (h : Fz (inner C w G H) G1 H1 b o) : Fz C G H b o := by
  rcases h.1 with h1 | h1
  · exact h1
  · have h1 : w.heap.size ≤ b := h1
    refine ⟨.inr (Nat.le_trans hr.base h1), hr.nex h1, fun id p hp hG => ?_⟩
    have := (hr.blkLt hp hG).2
    omega

theorem toDs_ok : ∀ (xs : List AV) (ds : List DV), toDs xs = some ds → xs.length = ds.length ∧ ∀ (i : Nat) y, ds[i]? = some y → ∃ x, xs[i]? = some x ∧ toD x = some y
  | [], ds, h => by simp only [toDs, Option.some.injEq] at h; subst h; exact ⟨rfl, fun i y hy => by simp at hy⟩
  | x :: r, ds, h => by
    simp only [toDs] at h
    cases h1 : toD x with
    | none => rw [h1] at h; simp at h
    | some y =>
      cases h2 : toDs r with
      | none => rw [h1, h2] at h; simp at h
      | some s =>
        rw [h1, h2] at h
        injection h with h
        subst h
        obtain ⟨h3, h4⟩ := toDs_ok r s h2
        refine ⟨by simp [h3], fun i z hz => ?_⟩
        cases i with
        | zero =>
          have : y = z := by simpa using hz
          subst this
          exact ⟨x, rfl, h1⟩
        | succ i => exact h4 i z (by simpa using hz)

/-- What is taken over from a closed call. -/
def Taken (C : Ctx) (w : World) (G : Gh) (U : Id → Prop) (S : St) (w' : World) (v : Value) (x : AV) (S' : St) : Prop :=
  ∃ G' U', Ext C w G S.H U w' G' S'.H U' ∧ HeapRel C w' G' S'.H U' ∧ (S'.T = S.T ∧ Fr U' S'.g ∧ ∀ i, U' i → U i ∨ S.g <:+ i.g) ∧ Rep C w' G' S'.H U' v x

/-- The list that grows on: its block is taken over, or it has none. -/
theorem take_own (hr : HeapRel C w G S.H U) (hb : Below w.heap.size w w') {G1 : Gh} {H1 : Heap} {U1 : Id → Prop} (hr1 : HeapRel (inner C w G S.H) w' G1 H1 U1) {A : Option Addr} {n c sz : Nat} {xs : List DV} {tok : Option Id}
    (hx : RepD w' (Fz (inner C w G S.H) G1 H1) (.slice A n c) (.sl sz xs)) (ht : TokOk w' G1 H1 U1 A n c sz tok) (h0 : 0 < sz) (hl : tokLive H1 (xs.length * sz) tok = true) (id : Id) (hid : ¬ U id) :
    ∃ ob : Option Nat, Ext C w G S.H U w' (setG G id ob) ((id, .grow (xs.length * sz)) :: S.H) (addU U id) ∧ HeapRel C w' (setG G id ob) ((id, .grow (xs.length * sz)) :: S.H) (addU U id) ∧
      (∀ b o, Fz (inner C w G S.H) G1 H1 b o → Fz C (setG G id ob) ((id, .grow (xs.length * sz)) :: S.H) b o) ∧
      Rep C w' (setG G id ob) ((id, .grow (xs.length * sz)) :: S.H) (addU U id) (.slice A n c) (.own sz xs (some id)) := by
  have hxl : xs.length = n := (repD_sl_inv hx).1
  have hold : ∀ i p, Heap.get ((id, Place.grow (xs.length * sz)) :: S.H) i = some p → i ≠ id → S.H.get i = some p := fun i p hp hi => by
    simpa only [Heap.get, if_neg (Ne.symm hi)] using hp
  have hdet : c = n → ∃ ob : Option Nat, Ext C w G S.H U w' (setG G id ob) ((id, .grow (xs.length * sz)) :: S.H) (addU U id) ∧ HeapRel C w' (setG G id ob) ((id, .grow (xs.length * sz)) :: S.H) (addU U id) ∧
      (∀ b o, Fz (inner C w G S.H) G1 H1 b o → Fz C (setG G id ob) ((id, .grow (xs.length * sz)) :: S.H) b o) ∧
      Rep C w' (setG G id ob) ((id, .grow (xs.length * sz)) :: S.H) (addU U id) (.slice A n c) (.own sz xs (some id)) := fun hc => by
    have e1 := Ext.grown hr hb
    have hr2 := hr.grown hb
    have e2 := Ext.token hr2 hid (xs.length * sz) none (fun _ h => by cases h)
    have hfz : ∀ b o, Fz (inner C w G S.H) G1 H1 b o → Fz C (setG G id none) ((id, .grow (xs.length * sz)) :: S.H) b o := fun b o hf => by
      have h1 := inner_fz hr hf
      refine ⟨h1.1, h1.2.1, fun i p hp hG => ?_⟩
      by_cases hi : i = id
      · subst hi; simp [setG] at hG
      · exact h1.2.2 i p (hold i p hp hi) (by simpa [setG, hi] using hG)
    refine ⟨none, e1.trans e2, hr2.token hid _, hfz, .own _ _ _ _ _ _ (hx.mono fun b o u hf hc => ⟨hc, hfz b o hf⟩) ⟨.inr rfl, h0, fun fr hfr => ?_⟩⟩
    simp only [Heap.get, if_true, Option.some.injEq, Place.grow.injEq] at hfr
    subst hfr
    rw [hxl]
    exact ⟨Nat.le_refl _, fun _ => .inl hc⟩
  cases tok with
  | none => exact hdet ht
  | some id0 =>
    simp only [tokLive] at hl
    split at hl
    · rename_i m hm
      have hm' : m = xs.length * sz := by simpa using hl
      subst hm'
      obtain ⟨_, _, h2⟩ := ht
      obtain ⟨_, h4⟩ := h2 _ hm
      rcases h4 (by rw [hxl]) with h4 | ⟨b, arr, te, z, hA, hG, hblk, hcs⟩
      · exact hdet h4
      · obtain ⟨hb0, arr1, te1, z1, hblk1, hfr1, hn1⟩ := hr1.grow id0 _ b hm hG
        have hb0 : w.heap.size ≤ b := hb0
        have e1 := Ext.adopt hr hb hid (xs.length * sz) b hb0
        have hfz : ∀ b' o, Fz (inner C w G S.H) G1 H1 b' o → Fz C (setG G id (some b)) ((id, .grow (xs.length * sz)) :: S.H) b' o := fun b' o hf => by
          have h1 := inner_fz hr hf
          refine ⟨h1.1, h1.2.1, fun i p hp hG' => ?_⟩
          by_cases hi : i = id
          · subst hi
            have hbb : b = b' := by simpa [setG] using hG'
            subst hbb
            have hp' : Place.grow (xs.length * sz) = p := by simpa [Heap.get] using hp
            subst hp'
            exact hf.2.2 id0 _ hm hG
          · exact h1.2.2 i p (hold i p hp hi) (by simpa [setG, hi] using hG')
        refine ⟨some b, e1, hr.adopt hb hid _ b hb0 ⟨arr1, te1, z1, hblk1, hfr1, hn1⟩, hfz, .own _ _ _ _ _ _ (hx.mono fun b o u hf hc => ⟨hc, hfz b o hf⟩) ⟨.inr rfl, h0, fun fr hfr => ?_⟩⟩
        simp only [Heap.get, if_true, Option.some.injEq, Place.grow.injEq] at hfr
        subst hfr
        rw [hxl]
        exact ⟨Nat.le_refl _, fun _ => .inr ⟨b, arr, te, z, hA, by simp [setG], hblk, hcs⟩⟩
    · cases hl

theorem adopt_ok (hr : HeapRel C w G S.H U) (hfr : Fr U S.g) (hb : Below w.heap.size w w') {G1 : Gh} {H1 : Heap} {U1 : Id → Prop} (hr1 : HeapRel (inner C w G S.H) w' G1 H1 U1) {v : Value} {r x : AV}
    (hv : Rep (inner C w G S.H) w' G1 H1 U1 v r) {f d dst : Nat} (h : adopt T f d dst H1 S r = some (x, S')) : Taken C w G U S w' v x S' := by
  have e1 := Ext.grown hr hb
  have hr2 := hr.grown hb
  have hdeep : ∀ {u : Value} {y : AV} {z : DV}, Rep (inner C w G S.H) w' G1 H1 U1 u y → toD y = some z → Rep C w' G S.H U u (.d z) := fun hu hz =>
    .d _ _ ((toD_ok hu hz).mono fun b o u hf hc => ⟨hc, inner_fz hr hf⟩)
  unfold adopt at h
  cases hres : T.res f with
  | none =>
    rw [hres] at h
    simp only at h
    split at h
    · rename_i xs
      cases hd : toDs xs with
      | none => rw [hd] at h; cases h
      | some ds =>
        rw [hd] at h
        simp only [Option.some.injEq, Prod.mk.injEq] at h
        obtain ⟨rfl, rfl⟩ := h
        obtain ⟨vs, rfl, hl, hvs⟩ := rep_tup hv
        obtain ⟨h1, h2⟩ := toDs_ok xs ds hd
        refine ⟨G, U, e1, hr2, ⟨rfl, hfr, fun i h => .inl h⟩, .tup vs _ (by simp; omega) (fun i y hy => by simp only [List.getElem?_map, Option.map_eq_some_iff] at hy; obtain ⟨z, _, rfl⟩ := hy; rfl) (fun i u y hu hy => ?_)⟩
        simp only [List.getElem?_map, Option.map_eq_some_iff] at hy
        obtain ⟨z, hz, rfl⟩ := hy
        obtain ⟨q, hq, hqz⟩ := h2 i z hz
        obtain ⟨u', hu', hrep⟩ := hvs i q hq
        rw [hu] at hu'
        injection hu' with hu'
        subst hu'
        exact hdeep hrep hqz
    · cases hd : toD r with
      | none => rw [hd] at h; cases h
      | some y =>
        rw [hd] at h
        simp only [Option.some.injEq, Prod.mk.injEq] at h
        obtain ⟨rfl, rfl⟩ := h
        exact ⟨G, U, e1, hr2, ⟨rfl, hfr, fun i h => .inl h⟩, hdeep hv hd⟩
  | some j =>
    rw [hres] at h
    simp only at h
    split at h
    · rename_i sz xs tok
      split at h
      · rename_i hc
        simp only [Option.some.injEq, Prod.mk.injEq] at h
        obtain ⟨rfl, rfl⟩ := h
        cases hv with
        | own A n c sz xs tok hx ht =>
          obtain ⟨ob, h1, h2, _, h3⟩ := take_own hr hb hr1 hx ht hc.1 hc.2 ⟨d, dst, 0 :: S.g⟩ (hfr.not d dst)
          exact ⟨_, _, h1, h2, ⟨rfl, hfr.add d dst, fun i hi => by rcases hi with hi | rfl; exact .inl hi; exact .inr (List.suffix_cons 0 S.g)⟩, h3⟩
      · cases h
    · rename_i ys
      split at h
      · rename_i sz xs tok ds hj hds
        split at h
        · rename_i hc
          simp only [Option.some.injEq, Prod.mk.injEq] at h
          obtain ⟨rfl, rfl⟩ := h
          obtain ⟨vs, rfl, hl, hvs⟩ := rep_tup hv
          obtain ⟨h1, h2⟩ := toDs_ok ys ds hds
          obtain ⟨u, hu, hrep⟩ := hvs j _ hj
          cases hrep with
          | own A n c sz xs tok hx ht =>
            obtain ⟨ob, h3, h4, h5, h6⟩ := take_own hr hb hr1 hx ht hc.1 hc.2 ⟨d, dst, 0 :: S.g⟩ (hfr.not d dst)
            refine ⟨_, _, h3, h4, ⟨rfl, hfr.add d dst, fun i hi => by rcases hi with hi | rfl; exact .inl hi; exact .inr (List.suffix_cons 0 S.g)⟩, .tup vs _ (by simp; omega) (fun i y hy => ?_) (fun i u' y hu' hy => ?_)⟩
            · rw [List.getElem?_set] at hy
              split at hy
              · split at hy
                · injection hy with hy; subst hy; rfl
                · cases hy
              · simp only [List.getElem?_map, Option.map_eq_some_iff] at hy
                obtain ⟨z, _, rfl⟩ := hy
                rfl
            rw [List.getElem?_set] at hy
            by_cases hi : j = i
            · subst hi
              rw [if_pos rfl] at hy
              split at hy
              · injection hy with hy
                subst hy
                rw [hu] at hu'
                injection hu' with hu'
                subst hu'
                exact h6
              · cases hy
            · rw [if_neg hi] at hy
              simp only [List.getElem?_map, Option.map_eq_some_iff] at hy
              obtain ⟨z, hz, rfl⟩ := hy
              obtain ⟨q, hq, hqz⟩ := h2 i z hz
              obtain ⟨u'', hu'', hrep⟩ := hvs i q hq
              rw [hu'] at hu''
              injection hu'' with hu''
              subst hu''
              exact .d _ _ ((toD_ok hrep hqz).mono fun b o u hf hc => ⟨hc, h5 b o hf⟩)
        · cases h
      · cases h
    · cases h
end
end Go.Proofs.Ythnlmhibbmogeaa.Am
