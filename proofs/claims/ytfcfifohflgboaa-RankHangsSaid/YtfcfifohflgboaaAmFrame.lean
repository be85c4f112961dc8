/- What an operation looks at and changes. -/
import Derived.Test.YtfcfifohflgboaaAmSound
set_option linter.unusedVariables false
set_option linter.unusedSimpArgs false
namespace Go.Proofs.Ytfcfifohflgboaa.Am
open Go Go.RowKit

def Foot.acc (F : Foot) (g : List Nat) (id : Id) : Prop := id ∈ F.rd ∨ id ∈ F.wr ∨ (F.al = true ∧ g <:+ id.g)
def Foot.wrt (F : Foot) (g : List Nat) (id : Id) : Prop := id ∈ F.wr ∨ (F.al = true ∧ g <:+ id.g)
theorem Foot.wrt_acc {F : Foot} {g : List Nat} {id : Id} (h : F.wrt g id) : F.acc g id := h.elim (fun h => .inr (.inl h)) fun h => .inr (.inr h)

def Fr3 (F : Foot) (S S1 S2 S3 : St) : Prop := S3.T = S2.T ∧ S1.T = S.T ∧ (∀ id, F.wrt S.g id → S3.H.get id = S1.H.get id) ∧ ∀ id, ¬ F.wrt S.g id → S3.H.get id = S2.H.get id ∧ S1.H.get id = S.H.get id

section
variable {T : Tab} {S S1 S2 : St} {call : Call} {F : Foot}

theorem Fr3.quiet (hH : ∀ id, F.acc S.g id → S2.H.get id = S.H.get id) : Fr3 F S S S2 S2 :=
  ⟨rfl, rfl, fun id h => hH id (Foot.wrt_acc h), fun id _ => ⟨rfl, rfl⟩⟩
theorem Fr3.new (hH : ∀ id, F.acc S.g id → S2.H.get id = S.H.get id) (ha : F.al = true) (d t : Nat) (p : Place) (g1 g2 : List Nat) :
    Fr3 F S { S with H := (⟨d, t, 0 :: S.g⟩, p) :: S.H, g := g1 } S2 { S2 with H := (⟨d, t, 0 :: S.g⟩, p) :: S2.H, g := g2 } := by
  refine ⟨rfl, rfl, fun id h => ?_, fun id h => ?_⟩
  · simp only [Heap.get]
    split
    · rfl
    · exact hH id (Foot.wrt_acc h)
  · have hne : ¬ (⟨d, t, 0 :: S.g⟩ : Id) = id := fun e => h (.inr ⟨ha, by rw [← e]; exact List.suffix_cons _ _⟩)
    simp [Heap.get, hne]
theorem Fr3.put (hH : ∀ id, F.acc S.g id → S2.H.get id = S.H.get id) {id : Id} (hid : id ∈ F.wr) (p : Place) : Fr3 F S { S with H := S.H.put id p } S2 { S2 with H := S2.H.put id p } := by
  refine ⟨rfl, rfl, fun i h => ?_, fun i h => ?_⟩
  · simp only [get_put, hH id (.inr (.inl hid)), hH i (Foot.wrt_acc h)]
  · have hne : ¬ id = i := fun e => h (.inl (e ▸ hid))
    simp only [get_put, if_neg hne]
    exact ⟨trivial, trivial⟩

theorem Fr3.move (hH : ∀ id, F.acc S.g id → S2.H.get id = S.H.get id) (ha : F.al = true) {id : Id} (hid : id ∈ F.wr) (d t : Nat) (p : Place) (g1 g2 : List Nat) :
    Fr3 F S { S with H := (⟨d, t, 0 :: S.g⟩, p) :: S.H.erase id, g := g1 } S2 { S2 with H := (⟨d, t, 0 :: S.g⟩, p) :: S2.H.erase id, g := g2 } := by
  refine ⟨rfl, rfl, fun i h => ?_, fun i h => ?_⟩
  · simp only [Heap.get, get_erase, hH i (Foot.wrt_acc h)]
  · have hne : ¬ (⟨d, t, 0 :: S.g⟩ : Id) = i := fun e => h (.inr ⟨ha, by rw [← e]; exact List.suffix_cons _ _⟩)
    have hne2 : ¬ id = i := fun e => h (.inl (e ▸ hid))
    simp [Heap.get, hne, get_erase, hne2]
theorem ev_congr {y : Operand} (h : ∀ t, y = .tmp t → S2.T.get t = S.T.get t) (t : Nat) : ev T S2 t y = ev T S t y := by
  cases y with
  | tmp i => exact h i rfl
  | _ => rfl
theorem evs_congr : ∀ (ys : List Operand) (ts : List Nat), (∀ y ∈ ys, ∀ t, ev T S2 t y = ev T S t y) → evs T S2 ys ts = evs T S ys ts
  | [], ts, h => rfl
  | y :: r, ts, h => by simp only [evs, h y (by simp), evs_congr r ts.tail fun z hz => h z (by simp [hz])]
theorem parts_congr (ty : Nat → Nat) : ∀ (ps : List (Nat × Operand)), (∀ p ∈ ps, ∀ t, ev T S2 t p.2 = ev T S t p.2) → partsA T S2 ty ps = partsA T S ty ps
  | [], h => rfl
  | (i, y) :: r, h => by simp only [partsA, h (i, y) (by simp), parts_congr ty r fun z hz => h z (by simp [hz])]
theorem evO_congr (y : Option Operand) (h : ∀ z, y = some z → ∀ t, ev T S2 t z = ev T S t z) : evO T S2 y = evO T S y := by
  cases y with
  | none => rfl
  | some z => simp only [evO, h z rfl]
theorem behind_congr {p : AV} (h : ∀ id ∈ ids1 p, S2.H.get id = S.H.get id) : behind S2 p = behind S p := by
  cases p with
  | ptr id off => simp only [behind, h id (by simp [ids1])]
  | d x => cases x <;> rfl
  | _ => rfl
theorem lenA_congr {t : Nat} {x : AV} (h : ∀ id ∈ ids1 x, S2.H.get id = S.H.get id) : lenA T S2 t x = lenA T S t x := by
  cases x with
  | arr id off n sz => simp only [lenA, h id (by simp [ids1])]
  | d x => cases x <;> (unfold lenA; cases T.und t with | none => rfl | some d => cases d <;> rfl)
  | _ => unfold lenA; cases T.und t with | none => rfl | some d => cases d <;> rfl
theorem listC_congr {x : AV} (h : ∀ id ∈ ids1 x, S2.H.get id = S.H.get id) : listC S2 x = listC S x := by
  cases x with
  | arr id off n sz => simp only [listC, h id (by simp [ids1])]
  | d x => cases x <;> rfl
  | _ => rfl
theorem mapOf_congr {x : AV} (h : ∀ id ∈ ids1 x, S2.H.get id = S.H.get id) : mapOf S2 x = mapOf S x := by
  cases x with
  | mp id => simp only [mapOf, h id (by simp [ids1])]
  | d x => cases x <;> rfl
  | _ => rfl
theorem within_congr {H H2 : Heap} : ∀ (l : List Id), (∀ id ∈ l, H2.get id = H.get id) → within l H2 = within l H
  | [], h => rfl
  | i :: r, h => by simp only [within, h i (by simp), within_congr r fun j hj => h j (by simp [hj])]
theorem reach_congr {H H2 : Heap} : ∀ (k : Nat) (l : List Id), (∀ id ∈ reach H k l, H2.get id = H.get id) → reach H2 k l = reach H k l
  | 0, l, h => rfl
  | k + 1, l, h => by
    have hw : within l H2 = within l H := within_congr l fun id hid => h id (sub_reach H (k + 1) l id hid)
    unfold reach at h ⊢
    rw [hw]
    split
    · rfl
    · rename_i hc
      rw [if_neg hc] at h
      exact reach_congr k _ h

theorem adoptO_frame (hg : S2.g = S.g) (hH : ∀ id, F.acc S.g id → S2.H.get id = S.H.get id) (ha : F.al = true) {f d dst : Nat} {H : Heap} {r x : AV} (h : adoptO T f d dst H S r = some (x, S1)) :
    ∃ S3, adoptO T f d dst H S2 r = some (x, S3) ∧ Fr3 F S S1 S2 S3 := by
  unfold adoptO at h ⊢
  cases hres : T.res f with
  | none =>
    rw [hres] at h
    simp only at h ⊢
    split at h
    · rename_i xs
      cases hd : toDs xs with
      | none => rw [hd] at h; cases h
      | some ds =>
        rw [hd] at h
        simp only [Option.some.injEq, Prod.mk.injEq] at h
        obtain ⟨rfl, rfl⟩ := h
        exact ⟨S2, by simp only [hd], Fr3.quiet hH⟩
    · cases hd : toD r with
      | none => rw [hd] at h; cases h
      | some y =>
        rw [hd] at h
        simp only [Option.some.injEq, Prod.mk.injEq] at h
        obtain ⟨rfl, rfl⟩ := h
        exact ⟨S2, by simp only [hd], Fr3.quiet hH⟩
  | some j =>
    rw [hres] at h
    simp only at h ⊢
    split at h
    · rename_i sz xs tok
      split at h
      · rename_i hc
        simp only [Option.some.injEq, Prod.mk.injEq] at h
        obtain ⟨rfl, rfl⟩ := h
        simp only [if_pos hc, hg]
        exact ⟨_, rfl, Fr3.new hH ha _ _ _ _ _⟩
      · cases h
    · rename_i ys
      split at h
      · rename_i sz xs tok ds hj hds
        split at h
        · rename_i hc
          simp only [Option.some.injEq, Prod.mk.injEq] at h
          obtain ⟨rfl, rfl⟩ := h
          simp only [hj, hds, if_pos hc, hg]
          exact ⟨_, rfl, Fr3.new hH ha _ _ _ _ _⟩
        · cases h
      · cases h
    · cases h
theorem thawV_frame (hg : S2.g = S.g) (hH : ∀ id, F.acc S.g id → S2.H.get id = S.H.get id) (ha : F.al = true) {d dst : Nat} {H : Heap} {r x : AV} (h : thawV H d dst S r = some (x, S1)) :
    ∃ S3, thawV H d dst S2 r = some (x, S3) ∧ Fr3 F S S1 S2 S3 := by
  unfold thawV at h ⊢
  split at h
  · split at h
    · split at h
      · rename_i ds hds
        simp only [Option.some.injEq, Prod.mk.injEq] at h
        obtain ⟨rfl, rfl⟩ := h
        simp only [hds, hg]
        exact ⟨_, rfl, Fr3.new hH ha _ _ _ _ _⟩
      · cases h
    · cases h
  · split at h
    · simp only [Option.some.injEq, Prod.mk.injEq] at h
      obtain ⟨rfl, rfl⟩ := h
      simp only [hg]
      exact ⟨_, rfl, Fr3.new hH ha _ _ _ _ _⟩
    · cases h
  · simp only [Option.some.injEq, Prod.mk.injEq] at h
    obtain ⟨rfl, rfl⟩ := h
    exact ⟨S2, rfl, Fr3.quiet hH⟩
  · cases h
theorem adopt_frame (hg : S2.g = S.g) (hH : ∀ id, F.acc S.g id → S2.H.get id = S.H.get id) (ha : F.al = true) {f d dst : Nat} {H : Heap} {r x : AV} (h : adopt T f d dst H S r = some (x, S1)) :
    ∃ S3, adopt T f d dst H S2 r = some (x, S3) ∧ Fr3 F S S1 S2 S3 := by
  unfold adopt at h ⊢
  split at h
  · rename_i j hj
    unfold thawA at h ⊢
    split at h
    · rename_i ys
      split at h
      · rename_i y ds hy hds
        split at h
        · rename_i z S4 hz
          simp only [Option.some.injEq, Prod.mk.injEq] at h
          obtain ⟨rfl, rfl⟩ := h
          obtain ⟨S3, h1, h2⟩ := thawV_frame hg hH ha hz
          simp only [hy, hds, h1]
          exact ⟨S3, rfl, h2⟩
        · cases h
      · cases h
    · exact thawV_frame hg hH ha h
  · split at h
    · exact adoptO_frame hg hH ha h
    · exact adoptO_frame hg hH ha h

theorem sfx_iff (q g : List Nat) : sfx q g = true ↔ q <:+ g := by
  unfold sfx
  rw [List.suffix_iff_eq_drop, beq_iff_eq]
  exact eq_comm

theorem callO_frame (hg : S2.g = S.g) {d dst f : Nat} {args : List AV} (hH : ∀ id, (footO T f args S).acc S.g id → S2.H.get id = S.H.get id) {x : AV} (h : callO T call d dst f args S = some (x, S1)) :
    ∃ S3, callO T call d dst f args S2 = some (x, S3) ∧ Fr3 (footO T f args S) S S1 S2 S3 := by
  unfold callO at h ⊢
  unfold footO at hH ⊢
  cases hds : (if T.opn f then none else toDs args) with
  | some ds =>
    rw [hds] at h hH
    simp only at h hH ⊢
    split at h
    · rename_i p hp
      split at h
      · rename_i r H1 hr
        exact adopt_frame hg hH rfl h
      · cases h
    · split at h
      · rename_i r H1 hr
        exact adopt_frame hg hH rfl h
      · cases h
  | none =>
    rw [hds] at h hH
    simp only at h hH ⊢
    have hR : reach S2.H 8 (addIds [] (idsL args)) = reach S.H 8 (addIds [] (idsL args)) := reach_congr 8 _ fun id hid => hH id (.inr (.inl hid))
    rw [hR]
    generalize reach S.H 8 (addIds [] (idsL args)) = R at h hH ⊢
    have hW : within R S2.H = within R S.H := within_congr R fun id hid => hH id (.inr (.inl hid))
    rw [hW, hg]
    split at h
    · rename_i hcl
      rw [if_pos hcl]
      split at h
      · rename_i r H' hcall
        simp only [Option.some.injEq, Prod.mk.injEq] at h
        obtain ⟨rfl, rfl⟩ := h
        refine ⟨_, rfl, rfl, rfl, fun id hw => ?_, fun id hw => ?_⟩
        · rw [get_weaveH, get_weaveH, get_append, get_append, get_without, get_without]
          split
          · rfl
          · split
            · rfl
            · exact hH id (Foot.wrt_acc hw)
        · have h1 : ¬ id ∈ R := fun h => hw (.inl h)
          have h2 : ¬ S.g <:+ id.g := fun h => hw (.inr ⟨rfl, h⟩)
          have h3 : Heap.get ((within (reach H' 8 (addIds R (idsA (soft T f r)))) H').filter fun e => R.contains e.1 || sfx (0 :: S.g) e.1.g) id = none := by
            rw [get_filter (fun i => R.contains i || sfx (0 :: S.g) i.g), if_neg]
            intro h
            rcases Bool.or_eq_true _ _ ▸ h with h | h
            · exact h1 (by simpa using h)
            · exact h2 ((List.suffix_cons 0 S.g).trans ((sfx_iff _ _).1 h))
          simp only [get_weaveH, get_append, h3, get_without, if_neg h1]
          exact ⟨trivial, trivial⟩
      · cases h
    · cases h
theorem frzV_congr {H H2 : Heap} {x : AV} (h : ∀ id ∈ ids1 x, H2.get id = H.get id) : frzV H2 x = frzV H x := by
  cases x with
  | arr id off n sz => simp only [frzV, h id (by simp [ids1])]
  | mp id => simp only [frzV, h id (by simp [ids1])]
  | _ => rfl
theorem frzB_congr {H H2 : Heap} {x : AV} (h : ∀ id ∈ idsA x, H2.get id = H.get id) : frzB H2 x = frzB H x := by
  cases x with
  | agg cs =>
    simp only [frzB]
    congr 1
    refine List.map_congr_left fun c hc => frzV_congr fun id hid => h id ?_
    refine List.mem_flatMap.2 ⟨c, hc, ?_⟩
    cases c <;> first | exact hid | (simp [ids1] at hid)
  | tup xs => rfl
  | d v => rfl
  | own sz xs tok => rfl
  | ptr id off => rfl
  | fn f cs => rfl
  | arr id off n sz => exact frzV_congr (x := .arr id off n sz) fun i hi => h i hi
  | mp id => exact frzV_congr (x := .mp id) fun i hi => h i hi
theorem lentA_congr {f : Nat} {args : List AV} (h : ∀ id ∈ idsL args, S2.H.get id = S.H.get id) : lentA T S2 f args = lentA T S f args := by
  have : args.map (frzB S2.H) = args.map (frzB S.H) := List.map_congr_left fun x hx => frzB_congr fun id hid => h id (List.mem_flatMap.2 ⟨x, hx, hid⟩)
  simp only [lentA, this]
theorem adoptF_frame (hg : S2.g = S.g) (hH : ∀ id, F.acc S.g id → S2.H.get id = S.H.get id) (ha : F.al = true) {f d dst : Nat} {H : Heap} {r x : AV} (h : adoptF T f d dst H S r = some (x, S1)) :
    ∃ S3, adoptF T f d dst H S2 r = some (x, S3) ∧ Fr3 F S S1 S2 S3 := by
  unfold adoptF at h ⊢
  split at h
  · unfold thawF at h ⊢
    split at h
    · split at h
      · split at h
        · rename_i ds hds
          split at h
          · rename_i hfl
            simp only [Option.some.injEq, Prod.mk.injEq] at h
            obtain ⟨rfl, rfl⟩ := h
            simp only [hds, if_pos hfl, hg]
            exact ⟨_, rfl, Fr3.new hH ha _ _ _ _ _⟩
          · cases h
        · cases h
      · cases h
    · simp only [Option.some.injEq, Prod.mk.injEq] at h
      obtain ⟨rfl, rfl⟩ := h
      exact ⟨S2, rfl, Fr3.quiet hH⟩
    · cases h
  · split at h
    · split at h
      · rename_i ds hds
        split at h
        · rename_i hfl
          simp only [Option.some.injEq, Prod.mk.injEq] at h
          obtain ⟨rfl, rfl⟩ := h
          simp only [hds, if_pos hfl]
          exact ⟨S2, rfl, Fr3.quiet hH⟩
        · cases h
      · cases h
    · split at h
      · rename_i y hy
        split at h
        · rename_i hfl
          simp only [Option.some.injEq, Prod.mk.injEq] at h
          obtain ⟨rfl, rfl⟩ := h
          simp only [hy, if_pos hfl]
          exact ⟨S2, rfl, Fr3.quiet hH⟩
        · cases h
      · cases h
theorem callA_frame (hg : S2.g = S.g) {d dst f : Nat} {args : List AV} (hH : ∀ id, (footC T f args S).acc S.g id → S2.H.get id = S.H.get id) {x : AV} (h : callA T call d dst f args S = some (x, S1)) :
    ∃ S3, callA T call d dst f args S2 = some (x, S3) ∧ Fr3 (footC T f args S) S S1 S2 S3 := by
  have key : lentA T S2 f args = lentA T S f args := by
    cases hl : lentA T S f args with
    | some ds =>
      rw [← hl]
      exact lentA_congr fun id hid => hH id (.inl (by simp only [footC, hl, Option.isSome_some, if_true]; exact hid))
    | none =>
      unfold lentA at hl ⊢
      by_cases hlend : T.lend f = true
      · rw [if_pos hlend] at hl ⊢
        cases ht : toDs args with
        | some _ => rfl
        | none =>
          rw [ht] at hl
          simp only at hl ⊢
          have hids : ∀ id ∈ idsL args, S2.H.get id = S.H.get id := fun id hid => by
            refine hH id (.inr (.inl ?_))
            have hfo : footC T f args S = footO T f args S := by
              unfold footC
              rw [if_neg]
              unfold lentA
              rw [if_pos hlend, ht]
              simp only [hl]
              simp
            rw [hfo]
            unfold footO
            have hn : (if T.opn f then none else toDs args) = none := by
              split
              · rfl
              · exact ht
            rw [hn]
            exact sub_reach _ _ _ _ (mem_addIds _ _ _ hid)
          have : args.map (frzB S2.H) = args.map (frzB S.H) := List.map_congr_left fun x hx => frzB_congr fun id hid => hids id (List.mem_flatMap.2 ⟨x, hx, hid⟩)
          rw [this]
          exact hl
      · rw [if_neg hlend]
  unfold callA at h ⊢
  rw [key]
  cases hl : lentA T S f args with
  | some ds =>
    rw [hl] at h
    simp only at h ⊢
    have hF : footC T f args S = ⟨idsL args, [], true⟩ := by simp only [footC, hl, Option.isSome_some, if_true]
    split at h
    · exact adoptF_frame hg hH (by rw [hF]) h
    · cases h
  | none =>
    rw [hl] at h
    simp only at h ⊢
    have hF : footC T f args S = footO T f args S := by simp only [footC, hl, Option.isSome_none, Bool.false_eq_true, if_false]
    rw [hF] at hH ⊢
    exact callO_frame hg hH h
theorem appendO_frame (hg : S2.g = S.g) {d dst : Nat} {ts : List Nat} {s x y : AV} (ha : F.al = true) (hs : ∀ id ∈ ids1 s, id ∈ F.wr) (hH : ∀ id, F.acc S.g id → S2.H.get id = S.H.get id)
    (h : appendO T d dst S ts s x = some (y, S1)) : ∃ S3, appendO T d dst S2 ts s x = some (y, S3) ∧ Fr3 F S S1 S2 S3 := by
  unfold appendO at h ⊢
  split at h
  case h_2 => cases h
  rename_i t0 t1
  split at h
  case h_2 => cases h
  rename_i e e' hu0 hu1
  split at h
  case h_2 => cases h
  split at h
  case isFalse => cases h
  rename_i hc
  rw [if_pos hc]
  split at h
  · simp only [Option.some.injEq, Prod.mk.injEq] at h
    obtain ⟨rfl, rfl⟩ := h
    simp only [hg]
    exact ⟨_, rfl, Fr3.new hH ha _ _ _ _ _⟩
  · rename_i id
    have hid : id ∈ F.wr := hs id (by simp [ids1])
    split at h
    · rename_i fr hfr
      split at h
      · rename_i hfe
        simp only [Option.some.injEq, Prod.mk.injEq] at h
        obtain ⟨rfl, rfl⟩ := h
        simp only [hH id (.inr (.inl hid)), hfr, if_pos hfe]
        exact ⟨_, rfl, Fr3.put hH hid _⟩
      · cases h
    · cases h
theorem append_frame (hg : S2.g = S.g) {d dst : Nat} {ts : List Nat} {s x y : AV} (ha : F.al = true) (hs : ∀ id ∈ ids1 s, id ∈ F.wr) (hx : ∀ id ∈ ids1 x, id ∈ F.wr) (hH : ∀ id, F.acc S.g id → S2.H.get id = S.H.get id)
    (h : appendA T d dst S ts s x = some (y, S1)) : ∃ S3, appendA T d dst S2 ts s x = some (y, S3) ∧ Fr3 F S S1 S2 S3 := by
  have hl : listC S2 x = listC S x := listC_congr fun id hid => hH id (.inr (.inl (hx id hid)))
  unfold appendA at h ⊢
  split at h
  · rename_i id off k sz
    have hid : id ∈ F.wr := hs id (by simp [ids1])
    unfold appendB at h ⊢
    rw [hl]
    simp only [hH id (.inr (.inl hid))]
    split at h
    · split at h
      · rename_i hc
        simp only [if_pos hc]
        split at h
        · rename_i hc2
          simp only [if_pos hc2]
          simp only [Option.some.injEq, Prod.mk.injEq] at h
          obtain ⟨rfl, rfl⟩ := h
          exact ⟨_, rfl, Fr3.put hH hid _⟩
        · rename_i hc2
          simp only [if_neg hc2]
          split at h
          · rename_i hc3
            simp only [if_pos hc3, hg]
            simp only [Option.some.injEq, Prod.mk.injEq] at h
            obtain ⟨rfl, rfl⟩ := h
            exact ⟨_, rfl, Fr3.move hH ha hid _ _ _ _ _⟩
          · cases h
      · cases h
    · cases h
  · split at h
    · rename_i hm
      simp only [if_pos hm]
      split at h
      · split at h
        · rename_i hz
          simp only [hz, if_true]
          unfold appendZ at h ⊢
          split at h
          · split at h
            · split at h
              · split at h
                · rename_i hc
                  simp only [if_pos hc]
                  split at h
                  · rename_i hc2
                    simp only [if_pos hc2]
                    simp only [Option.some.injEq, Prod.mk.injEq] at h
                    obtain ⟨rfl, rfl⟩ := h
                    exact ⟨S2, rfl, Fr3.quiet hH⟩
                  · rename_i hc2
                    simp only [if_neg hc2, hg]
                    simp only [Option.some.injEq, Prod.mk.injEq] at h
                    obtain ⟨rfl, rfl⟩ := h
                    exact ⟨_, rfl, Fr3.new hH ha _ _ _ _ _⟩
                · cases h
              · cases h
            · cases h
          · cases h
        rename_i hz
        simp only [hz, Bool.false_eq_true, if_false]
        unfold appendM at h ⊢
        rw [hl]
        split at h
        · split at h
          · rename_i hc
            simp only [if_pos hc]
            split at h
            · rename_i hc2
              simp only [if_pos hc2]
              simp only [Option.some.injEq, Prod.mk.injEq] at h
              obtain ⟨rfl, rfl⟩ := h
              exact ⟨S2, rfl, Fr3.quiet hH⟩
            · rename_i hc2
              simp only [if_neg hc2, hg]
              simp only [Option.some.injEq, Prod.mk.injEq] at h
              obtain ⟨rfl, rfl⟩ := h
              exact ⟨_, rfl, Fr3.new hH ha _ _ _ _ _⟩
          · cases h
        · cases h
      · cases h
    · rename_i hm
      simp only [if_neg hm]
      exact appendO_frame hg ha hs hH h
  · cases h
theorem copyA_frame {ts : List Nat} {x z y : AV} (hs : ∀ id ∈ ids1 x, id ∈ F.wr) (hz : ∀ id ∈ ids1 z, id ∈ F.wr) (hH : ∀ id, F.acc S.g id → S2.H.get id = S.H.get id)
    (h : copyA T S ts x z = some (y, S1)) : ∃ S3, copyA T S2 ts x z = some (y, S3) ∧ Fr3 F S S1 S2 S3 := by
  have hl : listC S2 z = listC S z := listC_congr fun id hid => hH id (.inr (.inl (hz id hid)))
  unfold copyA at h ⊢
  rw [hl]
  split at h
  · rename_i n b id off k sz he
    have hid : id ∈ F.wr := hs id (by simp [ids1])
    simp only [hH id (.inr (.inl hid))]
    split at h
    · split at h
      · rename_i hc
        simp only [if_pos hc]
        simp only [Option.some.injEq, Prod.mk.injEq] at h
        obtain ⟨rfl, rfl⟩ := h
        exact ⟨_, rfl, Fr3.put hH hid _⟩
      · cases h
    · cases h
  · cases h
theorem clearA_frame {ts : List Nat} {x y : AV} (hs : ∀ id ∈ ids1 x, id ∈ F.wr) (hH : ∀ id, F.acc S.g id → S2.H.get id = S.H.get id)
    (h : clearA T S ts x = some (y, S1)) : ∃ S3, clearA T S2 ts x = some (y, S3) ∧ Fr3 F S S1 S2 S3 := by
  unfold clearA at h ⊢
  split at h
  · split at h
    · split at h
      · rename_i id off k sz hi
        have hid : id ∈ F.wr := hs id (by simp [ids1])
        simp only [hH id (.inr (.inl hid))]
        split at h
        · split at h
          · rename_i hc
            simp only [if_pos hc]
            simp only [Option.some.injEq, Prod.mk.injEq] at h
            obtain ⟨rfl, rfl⟩ := h
            exact ⟨_, rfl, Fr3.put hH hid _⟩
          · cases h
        · cases h
      · simp only [Option.some.injEq, Prod.mk.injEq] at h
        obtain ⟨rfl, rfl⟩ := h
        exact ⟨S2, rfl, Fr3.quiet hH⟩
      · cases h
    · cases h
  · cases h
theorem capA_frame {ts : List Nat} {x y : AV} (hH : ∀ id, F.acc S.g id → S2.H.get id = S.H.get id)
    (h : capA T S ts x = some (y, S1)) : ∃ S3, capA T S2 ts x = some (y, S3) ∧ Fr3 F S S1 S2 S3 := by
  unfold capA at h ⊢
  split at h
  · split at h
    · simp only [Option.some.injEq, Prod.mk.injEq] at h
      obtain ⟨rfl, rfl⟩ := h
      exact ⟨S2, rfl, Fr3.quiet hH⟩
    · cases h
  · cases h

theorem updA_frame {kt : Nat} {m k x : AV} (hs : ∀ id ∈ ids1 m, id ∈ F.wr) (hH : ∀ id, F.acc S.g id → S2.H.get id = S.H.get id)
    (h : updA T S kt m k x = some S1) : ∃ S3, updA T S2 kt m k x = some S3 ∧ Fr3 F S S1 S2 S3 := by
  unfold updA at h ⊢
  split at h
  · rename_i kd id q d hk hd
    have hid : id ∈ F.wr := hs id (by simp [ids1])
    simp only [hH id (.inr (.inl hid))]
    split at h
    · split at h
      · simp only [Option.some.injEq] at h
        subst h
        exact ⟨_, rfl, Fr3.put hH hid _⟩
      · cases h
    · cases h
  · cases h

theorem v_frame (hH : ∀ id, F.acc S.g id → S2.H.get id = S.H.get id) {y : Option AV} {x : Option AV} (h : (match y with | some y => some (some y, S) | none => none) = some (x, S1)) :
    ∃ S3, (match y with | some y => some (some y, S2) | none => none) = some (x, S3) ∧ Fr3 F S S1 S2 S3 := by
  cases y with
  | none => cases h
  | some y =>
    simp only [Option.some.injEq, Prod.mk.injEq] at h
    obtain ⟨rfl, rfl⟩ := h
    exact ⟨S2, rfl, Fr3.quiet hH⟩
theorem c_frame (hH : ∀ id, F.acc S.g id → S2.H.get id = S.H.get id) {y : AV} {x : Option AV} (h : some (some y, S) = some (x, S1)) :
    ∃ S3, some (some y, S2) = some (x, S3) ∧ Fr3 F S S1 S2 S3 := by
  simp only [Option.some.injEq, Prod.mk.injEq] at h
  obtain ⟨rfl, rfl⟩ := h
  exact ⟨S2, rfl, Fr3.quiet hH⟩

theorem strA_congr {y : AV} (h : ∀ id ∈ ids1 y, S2.H.get id = S.H.get id) : strA S2 y = strA S y := by
  cases y with
  | arr id off n sz => simp only [strA, h id (by simp [ids1])]
  | _ => rfl
theorem opA_frame {d : Nat} {o : Oper} {x : Option AV} (hT : ∀ t, .tmp t ∈ o.op.operands → S2.T.get t = S.T.get t) (hg : S2.g = S.g) (hH : ∀ id, (footA T o S).acc S.g id → S2.H.get id = S.H.get id) (h : opA T call d o S = some (x, S1)) :
    ∃ S3, opA T call d o S2 = some (x, S3) ∧ Fr3 (footA T o S) S S1 S2 S3 := by
  have hev : ∀ y ∈ o.op.operands, ∀ t, ev T S2 t y = ev T S t y := fun y hy t => ev_congr (fun i hi => hT i (hi ▸ hy)) t
  clear hT
  unfold opA at h ⊢
  cases ho : o.op <;> simp only [ho] at h hev ⊢
  case move y => rw [hev y (by simp [Op.operands])]; exact v_frame hH h
  case assign y => rw [hev y (by simp [Op.operands])]; exact v_frame hH h
  case pick c y z =>
    simp only [hev c (by simp [Op.operands]), hev y (by simp [Op.operands]), hev z (by simp [Op.operands])]
    split at h
    · split at h
      · rename_i hc
        rw [if_pos hc]
        exact v_frame hH h
      · rename_i hc
        rw [if_neg hc]
        exact v_frame hH h
    · cases h
  case alloc e =>
    split at h
    · simp only [newBox, Option.some.injEq, Prod.mk.injEq] at h ⊢
      obtain ⟨rfl, rfl⟩ := h
      simp only [hg]
      exact ⟨_, ⟨trivial, rfl⟩, Fr3.new hH (by simp only [footA, ho]) _ _ _ _ _⟩
    · cases h
  case box e y =>
    simp only [hev y (by simp [Op.operands])]
    split at h
    · split at h
      · rename_i hc
        simp only [if_pos hc]
        split at h
        · rename_i hro
          simp only [if_pos hro]
          split at h
          · rename_i ds hds
            exact c_frame hH h
          · cases h
        rename_i hro
        simp only [if_neg hro]
        simp only [newBox, Option.some.injEq, Prod.mk.injEq] at h ⊢
        obtain ⟨rfl, rfl⟩ := h
        simp only [hg]
        exact ⟨_, ⟨trivial, rfl⟩, Fr3.new hH (by simp only [footA, ho]) _ _ _ _ _⟩
      · cases h
    · cases h
  case build t parts =>
    rw [parts_congr (S := S) (S2 := S2) _ _ fun p hp => hev p.2 (by simp [Op.operands]; exact ⟨p.1, by simpa using hp⟩)]
    split at h
    · split at h
      · rename_i hc
        rw [if_pos hc]
        exact v_frame hH h
      · cases h
    · cases h
  case buildSlice t len parts =>
    rw [parts_congr (S := S) (S2 := S2) _ _ fun p hp => hev p.2 (by simp [Op.operands]; exact ⟨p.1, by simpa using hp⟩)]
    split at h
    · split at h
      · split at h
        · rename_i hc
          rw [if_pos hc]
          exact c_frame hH h
        rename_i h0
        rw [if_neg h0]
        split at h
        · rename_i hc
          rw [if_pos hc]
          split at h
          · split at h
            · exact c_frame hH h
            · cases h
          · cases h
        · cases h
      · cases h
    · cases h
  case load t y =>
    simp only [hev y (by simp [Op.operands])]
    cases hy : ev T S 0 y with
    | none => rw [hy] at h; cases h
    | some p =>
      rw [hy] at h
      simp only at h ⊢
      rw [behind_congr (S := S) (S2 := S2) fun id hid => hH id (.inl (by simpa only [footA, ho, hy, footV] using hid))]
      split at h
      · exact v_frame hH h
      · cases h
  case store t y z =>
    simp only [hev y (by simp [Op.operands]), hev z (by simp [Op.operands])]
    split at h
    · rename_i id off v n hy hz hn
      have hid : id ∈ (footA T o S).wr := by simp [footA, ho, hy, footV, ids1]
      simp only [hH id (.inr (.inl hid))]
      split at h
      · split at h
        · rename_i hc
          rw [if_pos hc]
          simp only [Option.some.injEq, Prod.mk.injEq] at h ⊢
          obtain ⟨rfl, rfl⟩ := h
          exact ⟨_, ⟨rfl, rfl⟩, Fr3.put hH hid _⟩
        · cases h
      · cases h
    · cases h
  case nilCheck y =>
    simp only [hev y (by simp [Op.operands])]
    split at h
    · rename_i id off hy
      simp only [hH id (.inl (by simp [footA, ho, hy, footV, ids1]))]
      split at h
      · exact c_frame hH h
      · cases h
    · exact c_frame hH h
    · cases h
  case fieldAddr t y i =>
    simp only [hev y (by simp [Op.operands])]
    split at h
    · rename_i id off fs hy hfs
      simp only [hH id (.inl (by simp [footA, ho, hy, footV, ids1]))]
      split at h
      · split at h
        · split at h
          · cases h
          · rename_i hc
            rw [if_neg hc]
            exact c_frame hH h
        · cases h
      · cases h
    · split at h
      · split at h
        · split at h
          · cases h
          · rename_i hc
            rw [if_neg hc]
            exact c_frame hH h
        · cases h
      · cases h
    · cases h
  case indexAddr t y z =>
    simp only [hev y (by simp [Op.operands]), hev z (by simp [Op.operands])]
    split at h
    · rename_i e p k i hu hy hz
      split at h
      · rename_i id off n sz
        simp only [hH id (.inl (by simp [footA, ho, hy, footV, ids1]))]
        split at h
        · split at h
          · rename_i hc
            rw [if_pos hc]
            exact c_frame hH h
          · cases h
        · cases h
      · split at h
        · split at h
          · rename_i hc
            rw [if_pos hc]
            split at h
            · exact c_frame hH h
            · cases h
          · cases h
        · cases h
    · rename_i n e p k i hu hy hz
      split at h
      · split at h
        · rename_i hc
          rw [if_pos hc]
          split at h
          · rename_i id off
            simp only [hH id (.inl (by simp [footA, ho, hy, footV, ids1]))]
            split at h
            · exact c_frame hH h
            · cases h
          · exact c_frame hH h
          · cases h
        · cases h
      · cases h
    · cases h
  case index t y z =>
    simp only [hev y (by simp [Op.operands]), hev z (by simp [Op.operands])]
    split at h
    · split at h
      · rename_i hc
        rw [if_pos hc]
        split at h
        · exact c_frame hH h
        · cases h
      · cases h
    · split at h
      · split at h
        · split at h
          · rename_i hc
            rw [if_pos hc]
            exact v_frame hH h
          · cases h
        · cases h
      · cases h
    · cases h
  case field t y i =>
    simp only [hev y (by simp [Op.operands])]
    split at h
    · split at h
      · exact v_frame hH h
      · cases h
    · cases h
  case binOp op t y z t' =>
    simp only [hev y (by simp [Op.operands]), hev z (by simp [Op.operands])]
    by_cases hn : isNilC op z = true
    · rw [if_pos hn] at h ⊢
      split at h
      · rename_i e p hu hp
        have hl : nilB S2 p = nilB S p := by
          cases p with
          | arr id off n sz => simp only [nilB, hH id (.inl (by simp [footA, ho, hn, footV, hp, ids1]))]
          | d x => cases x <;> first | rfl | (rename_i l; cases l <;> rfl)
          | own sz xs tok => cases xs <;> rfl
          | _ => rfl
        simp only [hl]
        exact v_frame hH h
      · cases h
    rw [if_neg hn] at h ⊢
    split at h
    · exact v_frame hH h
    · cases h
  case unOp op t y =>
    simp only [hev y (by simp [Op.operands])]
    split at h
    · exact c_frame hH h
    · exact c_frame hH h
    · cases h
  case convert s t y =>
    simp only [hev y (by simp [Op.operands])]
    split at h
    · exact c_frame hH h
    · exact c_frame hH h
    · rename_i e x hs1 ht hy
      unfold convS at h ⊢
      split at h
      · rename_i q hq
        split at hq
        · split at hq
          · rename_i hlen
            injection hq with hq
            simp only [newArr, Prod.mk.injEq] at hq
            obtain ⟨rfl, rfl⟩ := hq
            simp only [Option.some.injEq, Prod.mk.injEq] at h ⊢
            obtain ⟨rfl, rfl⟩ := h
            simp only [if_pos hlen, hg, newArr]
            exact ⟨_, rfl, Fr3.new hH (by simp only [footA, ho, hs1, ht]) _ _ _ _ _⟩
          · cases hq
        · cases hq
      · cases h
    · rename_i e x hs1 ht hy
      have hst : strA S2 x = strA S x := strA_congr fun id hid => hH id (.inl (by simpa only [footA, ho, hs1, ht, hy, footV] using hid))
      have hcb : convB T S2 e x = convB T S e x := by simp only [convB, hst]
      rw [hcb]
      exact v_frame hH h
    · cases h
  case makeSlice t y z =>
    simp only [hev y (by simp [Op.operands]), hev z (by simp [Op.operands])]
    split at h
    · unfold makeA at h ⊢
      split at h
      · rename_i q hq
        split at hq
        · split at hq
          · split at hq
            · rename_i hc
              injection hq with hq
              simp only [newArr, Prod.mk.injEq] at hq
              obtain ⟨rfl, rfl⟩ := hq
              simp only [Option.some.injEq, Prod.mk.injEq] at h ⊢
              obtain ⟨rfl, rfl⟩ := h
              simp only [if_pos hc, hg, newArr]
              exact ⟨_, rfl, Fr3.new hH (by simp only [footA, ho]) _ _ _ _ _⟩
            · cases hq
          · cases hq
        · cases hq
      · cases h
    · cases h
  case makeFunc fn first caps =>
    cases fn with
    | func f =>
      simp only at h ⊢
      rw [evs_congr (S := S) (S2 := S2) _ _ fun y hy => hev y (by simp [Op.operands]; exact .inr (by simpa using hy))]
      split at h
      · rename_i hc
        rw [if_pos hc]
        split at h
        · split at h
          · rename_i hc
            rw [if_pos hc]
            exact c_frame hH h
          · cases h
        · cases h
      · cases h
    | _ => cases h
  case slice t y lo hi mx =>
    rw [evO_congr (S := S) (S2 := S2) lo fun z hz => hev z (by simp [Op.operands, hz]), evO_congr (S := S) (S2 := S2) hi fun z hz => hev z (by simp [Op.operands, hz])]
    simp only [hev y (by simp [Op.operands])]
    have hid : ∀ id off n sz, ev T S 0 y = some (.arr id off n sz) → S2.H.get id = S.H.get id := fun id off n sz hy => hH id (.inl (by simp [footA, ho, footV, hy, ids1]))
    cases mx with
    | none =>
      split at h
      · split at h
        · exact c_frame hH h
        · cases h
      · rename_i hy _
        simp only [hid _ _ _ _ hy]
        split at h
        · split at h
          · rename_i hc
            simp only [if_pos hc]
            exact v_frame hH h
          · cases h
        · cases h
      · rename_i hm _ _ _ _
        cases hm
      · split at h
        · split at h
          · rename_i hc
            rw [if_pos hc]
            split at h
            · exact c_frame hH h
            · cases h
          · cases h
        · cases h
      · simp_all
      · cases h
    | some mx =>
      have hm : ev T S2 0 mx = ev T S 0 mx := hev mx (by simp [Op.operands]) 0
      split at h
      · simp_all
      · simp_all
      · rename_i hmx _ _ hy _
        injection hmx with hmx
        subst hmx
        simp only [hid _ _ _ _ hy, hm]
        split at h
        · split at h
          · rename_i hc
            simp only [if_pos hc]
            exact v_frame hH h
          · cases h
        · cases h
      · simp_all
      · rename_i m' _ _ _ _ _ hmx _ _ _ _
        injection hmx with hmx
        subst hmx
        simp only [hm]
        split at h
        · split at h
          · rename_i hc
            simp only [if_pos hc]
            split at h
            · exact c_frame hH h
            · cases h
          · cases h
        · cases h
      · cases h
  case makeMap t r =>
    cases r with
    | none =>
      simp only [Option.some.injEq, Prod.mk.injEq] at h
      obtain ⟨rfl, rfl⟩ := h
      simp only [hg]
      exact ⟨_, rfl, Fr3.new hH (by simp only [footA, ho]) _ _ _ _ _⟩
    | some r => cases h
  case lookup t m k cok =>
    simp only [hev m (by simp [Op.operands]), hev k (by simp [Op.operands])]
    split at h
    · rename_i kt et y hu hm
      split at h
      · rename_i q hk
        have hl : lookA T S2 kt et y q cok = lookA T S kt et y q cok := by
          simp only [lookA, mapOf_congr (S := S) (S2 := S2) (x := y) fun id hid => hH id (.inl (by simp [footA, ho, footV, hm, hid]))]
        simp only [hl]
        exact v_frame hH h
      · cases h
    · cases h
  case mapUpdate t m k x1 =>
    simp only [hev m (by simp [Op.operands]), hev k (by simp [Op.operands]), hev x1 (by simp [Op.operands])]
    split at h
    · rename_i kt et y hu hm
      split at h
      · rename_i q z hk hz
        split at h
        · rename_i S4 hS
          simp only [Option.some.injEq, Prod.mk.injEq] at h
          obtain ⟨rfl, rfl⟩ := h
          obtain ⟨S3, h1, h2⟩ := updA_frame (S2 := S2) (F := footA T o S) (fun id hid => by simp [footA, ho, footV, hm, hid]) hH hS
          simp only [h1]
          exact ⟨S3, rfl, h2⟩
        · cases h
      · cases h
    · cases h
  case insert t m k x1 =>
    simp only [hev m (by simp [Op.operands]), hev k (by simp [Op.operands]), hev x1 (by simp [Op.operands])]
    split at h
    · rename_i kt et y hu hm
      split at h
      · rename_i q z hk hz
        split at h
        · rename_i S4 hS
          simp only [Option.some.injEq, Prod.mk.injEq] at h
          obtain ⟨rfl, rfl⟩ := h
          obtain ⟨S3, h1, h2⟩ := updA_frame (S2 := S2) (F := footA T o S) (fun id hid => by simp [footA, ho, footV, hm, hid]) hH hS
          simp only [h1]
          exact ⟨S3, rfl, h2⟩
        · cases h
      · cases h
    · cases h
  case extract y i =>
    simp only [hev y (by simp [Op.operands])]
    split at h
    · exact v_frame hH h
    · cases h
  case call c =>
    obtain ⟨callee, args, ts⟩ := c
    have hargs : evs T S2 args.toList ts.toList = evs T S args.toList ts.toList := evs_congr _ _ fun y hy => hev y (by simp [Op.operands, Call.operands]; exact .inr (by simpa using hy))
    simp only at h ⊢
    rw [hargs]
    split at h
    · rename_i b xs hxs
      cases hb : builtinA T d (o.dst.getD 0) S b ts.toList xs with
      | none => rw [hb] at h; cases h
      | some q =>
        obtain ⟨y, S4⟩ := q
        rw [hb] at h
        simp only [Option.some.injEq, Prod.mk.injEq] at h
        obtain ⟨rfl, rfl⟩ := h
        suffices hk : ∃ S3, builtinA T d (o.dst.getD 0) S2 b ts.toList xs = some (y, S3) ∧ Fr3 (footA T o S) S S4 S2 S3 by
          obtain ⟨S3, h1, h2⟩ := hk
          exact ⟨S3, by rw [h1], h2⟩
        unfold builtinA at hb ⊢
        split at hb
        · rename_i x'
          split at hb
          · rename_i t hts
            have hl : lenA T S2 t x' = lenA T S t x' := lenA_congr fun id hid => hH id (.inl (by simp [footA, ho, hxs, hid]))
            simp only [hl]
            split at hb
            · simp only [Option.some.injEq, Prod.mk.injEq] at hb
              obtain ⟨rfl, rfl⟩ := hb
              exact ⟨S2, rfl, Fr3.quiet hH⟩
            · cases hb
          · cases hb
        · split at hb
          · simp only [Option.some.injEq, Prod.mk.injEq] at hb
            obtain ⟨rfl, rfl⟩ := hb
            exact ⟨S2, rfl, Fr3.quiet hH⟩
          · cases hb
        · split at hb
          · simp only [Option.some.injEq, Prod.mk.injEq] at hb
            obtain ⟨rfl, rfl⟩ := hb
            exact ⟨S2, rfl, Fr3.quiet hH⟩
          · cases hb
        · exact append_frame hg (by simp [footA, ho, hxs]) (fun id hid => by simp [footA, ho, hxs, hid]) (fun id hid => by simp [footA, ho, hxs, hid]) hH hb
        · exact copyA_frame (fun id hid => by simp [footA, ho, hxs, hid]) (fun id hid => by simp [footA, ho, hxs, hid]) hH hb
        · exact clearA_frame (fun id hid => by simp [footA, ho, hxs, hid]) hH hb
        · exact capA_frame hH hb
        · cases hb
    · rename_i f0 xs hxs
      simp only [hev f0 (by simp [Op.operands, Call.operands])]
      split at h
      · rename_i f caps hf
        have hF : footA T o S = footC T f (xs ++ caps.map .d) S := by simp [footA, ho, hxs, hf]
        rw [hF] at hH ⊢
        split at h
        · rename_i y S4 hca
          injection h with h
          injection h with h1 h2
          subst h1; subst h2
          obtain ⟨S3, h3, h4⟩ := callA_frame hg hH hca
          exact ⟨S3, by rw [h3], h4⟩
        · cases h
      · rename_i f caps hf
        have hF : footA T o S = footC T f (xs ++ caps) S := by simp [footA, ho, hxs, hf]
        rw [hF] at hH ⊢
        split at h
        · rename_i y S4 hca
          injection h with h
          injection h with h1 h2
          subst h1; subst h2
          obtain ⟨S3, h3, h4⟩ := callA_frame hg hH hca
          exact ⟨S3, by rw [h3], h4⟩
        · cases h
      · cases h
    · cases h
  all_goals cases h
end
end Go.Proofs.Ytfcfifohflgboaa.Am
