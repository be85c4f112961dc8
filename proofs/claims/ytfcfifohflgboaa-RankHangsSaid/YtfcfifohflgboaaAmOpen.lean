/- Calls that are handed variables of the caller's: they see those alone. -/
import Derived.Test.YtfcfifohflgboaaAmCall
set_option linter.unusedVariables false
set_option linter.unusedSimpArgs false
namespace Go.Proofs.Ytfcfifohflgboaa.Am
open Go Go.RowKit

section
variable {C : Ctx} {w w' : World} {G G' : Gh} {P : Program} {T : Tab} {S S' : St} {a : Act} {H : Heap} {U : Id → Prop}

def part (C : Ctx) (G : Gh) (H : Heap) (R : List Id) : Ctx := ⟨C.base, C.fz0, fun b o => C.ex b o ∨ ∃ id p, H.get id = some p ∧ id ∉ R ∧ G id = some b ∧ ¬ p.upto o,
  fun b => C.exb b ∨ ∃ id p, H.get id = some p ∧ id ∉ R ∧ G id = some b⟩
def partU (U : Id → Prop) (H : Heap) (R : List Id) : Id → Prop := fun id => U id ∧ (id ∈ R ∨ H.get id = none)

theorem get_within (R : List Id) (H : Heap) (id : Id) : Heap.get (within R H) id = if id ∈ R then H.get id else none := by
  induction R with
  | nil => rfl
  | cons i r ih =>
    cases h : H.get i with
    | some p =>
      simp only [within, h, Heap.get]
      by_cases hi : i = id
      · subst hi; simp [h]
      · rw [if_neg hi, ih]; simp [Ne.symm hi]
    | none =>
      simp only [within, h]
      rw [ih]
      by_cases hi : id = i
      · subst hi; simp [h]
      · simp [hi]
theorem get_without (R : List Id) (H : Heap) (id : Id) : Heap.get (without R H) id = if id ∈ R then none else H.get id := by
  unfold without
  rw [get_filter (fun i => !R.contains i) id H]
  by_cases h : id ∈ R <;> simp [h]
theorem get_append (A B : Heap) (id : Id) : Heap.get (A ++ B) id = match A.get id with | some p => some p | none => B.get id := by
  induction A with
  | nil => rfl
  | cons e r ih =>
    obtain ⟨i, p⟩ := e
    simp only [List.cons_append, Heap.get]
    by_cases h : i = id
    · rw [if_pos h, if_pos h]
    · rw [if_neg h, if_neg h]; exact ih
theorem ids_of_get : ∀ (H : Heap) (id : Id) (p : Place), H.get id = some p → ∀ i ∈ idsP p, i ∈ idsH H
  | [], id, p, h, i, hi => by simp [Heap.get] at h
  | (j, q) :: r, id, p, h, i, hi => by
    simp only [Heap.get] at h
    simp only [idsH, List.mem_append]
    by_cases hj : j = id
    · rw [if_pos hj] at h
      injection h with h
      subst h
      exact .inl hi
    · rw [if_neg hj] at h
      exact .inr (ids_of_get r id p h i hi)

theorem part_fz {R : List Id} {b o : Nat} (h : Fz C G H b o) : Fz (part C G H R) G (within R H) b o := by
  refine ⟨h.1, fun hx => ?_, fun id p hp hG => ?_⟩
  · rcases hx with hx | ⟨id, p, h1, _, h2, h3⟩
    · exact h.2.1 hx
    · exact h3 (h.2.2 id p h1 h2)
  · rw [get_within] at hp
    split at hp
    · exact h.2.2 id p hp hG
    · cases hp

theorem idsA_leaf {x : AV} (h : x.leaf = true) : idsA x = idsC x := by cases x <;> first | rfl | simp [AV.leaf] at h
theorem idsA_ntup {x : AV} (h : noTup x = true) : idsA x = idsB x := by cases x <;> first | rfl | simp [noTup] at h
theorem idsA_cap {x : AV} (h : x.cap = true) : idsA x = ids1 x := by cases x <;> first | rfl | simp [AV.cap, AV.leaf] at h

theorem part_rep {R : List Id} {v : Value} {x : AV} (h : Rep C w G H U v x) : (∀ i ∈ idsA x, i ∈ R) → Rep (part C G H R) w G (within R H) (partU U H R) v x := by
  induction h with
  | d v x h => exact fun _ => .d v x (h.weak fun b o hf => part_fz hf)
  | own A n c sz xs tok h ht =>
    intro hi
    refine .own A n c sz xs tok (h.weak fun b o hf => part_fz hf) ?_
    cases tok with
    | none => exact ht
    | some id =>
      have hm : id ∈ R := hi id (by simp [idsA, idsB, idsC, ids1])
      obtain ⟨h1, h2, h3⟩ := ht
      refine ⟨⟨h1, .inl hm⟩, h2, fun fr hfr => ?_⟩
      rw [get_within, if_pos hm] at hfr
      exact h3 fr hfr
  | ptr v id off hv hg h =>
    intro hi
    have hm : id ∈ R := hi id (by simp [idsA, idsB, idsC, ids1])
    refine .ptr v id off hv ⟨hg, .inl hm⟩ fun cs hcs => ?_
    rw [get_within, if_pos hm] at hcs
    exact h cs hcs
  | arr v id off n sz hv hg hm0 h =>
    intro hi
    have hm : id ∈ R := hi id (by simp [idsA, idsB, idsC, ids1])
    refine .arr v id off n sz hv ⟨hg, .inl hm⟩ hm0 fun cs hcs => ?_
    rw [get_within, if_pos hm] at hcs
    exact h cs hcs
  | mp v id hv hg h =>
    intro hi
    have hm : id ∈ R := hi id (by simp [idsA, idsB, idsC, ids1])
    refine .mp v id hv ⟨hg, .inl hm⟩ fun es hes => ?_
    rw [get_within, if_pos hm] at hes
    exact h es hes
  | fn f vs cs hl hf _ ih =>
    intro hi
    refine .fn f vs cs hl hf fun i v x hv hx => ih i v x hv hx fun j hj => hi j ?_
    rw [idsA_cap (hf i x hx)] at hj
    exact List.mem_flatMap.2 ⟨x, List.mem_of_getElem? hx, hj⟩
  | agg vs cs hl hf _ ih =>
    intro hi
    refine .agg vs cs hl hf fun i v x hv hx => ih i v x hv hx fun j hj => hi j ?_
    rw [idsA_leaf (hf i x hx)] at hj
    exact List.mem_flatMap.2 ⟨x, List.mem_of_getElem? hx, hj⟩
  | tup vs xs hl hf _ ih =>
    intro hi
    refine .tup vs xs hl hf fun i v x hv hx => ih i v x hv hx fun j hj => hi j ?_
    rw [idsA_ntup (hf i x hx)] at hj
    exact List.mem_flatMap.2 ⟨x, List.mem_of_getElem? hx, hj⟩

theorem part_heap (hr : HeapRel C w G H U) {R : List Id} (hcl : ∀ i ∈ idsH (within R H), i ∈ R) : HeapRel (part C G H R) w G (within R H) (partU U H R) := by
  have hsub : ∀ id p, Heap.get (within R H) id = some p → id ∈ R ∧ H.get id = some p := fun id p hp => by
    rw [get_within] at hp
    split at hp
    · exact ⟨by assumption, hp⟩
    · cases hp
  refine ⟨hr.base, fun k hk => ?_, fun k o hx => ?_, fun id p b hp hG hx => ?_, fun id p hp => ?_, fun id cs hp => ?_, fun id n b hp hG => ?_, fun id id' p p' b h1 h2 h3 h4 => ?_, fun id es hp => ?_⟩
  · rcases hk with hk | ⟨id, p, h1, _, h2⟩
    · exact hr.exlt k hk
    · exact (hr.blkLt h1 h2).2
  · rcases hx with hx | ⟨id, p, h1, h2, h3, _⟩
    · exact .inl (hr.exb k o hx)
    · exact .inr ⟨id, p, h1, h2, h3⟩
  · obtain ⟨hm, hp'⟩ := hsub id p hp
    rcases hx with hx | ⟨id', p', h1, h2, h3⟩
    · exact hr.exo id p b hp' hG hx
    · have := hr.sep id id' p p' b hp' h1 hG h3
      subst this
      exact h2 hm
  · obtain ⟨hm, hp'⟩ := hsub id p hp
    exact ⟨hr.keys id p hp', .inl hm⟩
  · obtain ⟨hm, hp'⟩ := hsub id _ hp
    obtain ⟨b, arr, te, z, h1, h2, h3, h4, h5, h6⟩ := hr.box id cs hp'
    refine ⟨b, arr, te, z, h1, h2, h3, h4, h5, fun j y hy => ?_⟩
    obtain ⟨h7, u, h8, h9⟩ := h6 j y hy
    refine ⟨h7, u, h8, part_rep h9 fun i hi => hcl i (ids_of_get _ id _ hp i ?_)⟩
    exact List.mem_flatMap.2 ⟨y, List.mem_of_getElem? hy, hi⟩
  · obtain ⟨hm, hp'⟩ := hsub id _ hp
    exact hr.grow id n b hp' hG
  · exact hr.sep id id' p p' b (hsub id p h1).2 (hsub id' p' h2).2 h3 h4
  · obtain ⟨hm, hp'⟩ := hsub id _ hp
    obtain ⟨b, ents, clock, h1, h2, h3, h4, h5⟩ := hr.mpl id es hp'
    exact ⟨b, ents, clock, h1, h2, h3, h4, fun j e p he hp => ⟨(h5 j e p he hp).1.weak fun b o hf => part_fz hf, (h5 j e p he hp).2.weak fun b o hf => part_fz hf⟩⟩

theorem get_fresh (R : List Id) (H : Heap) (id : Id) : ∀ (H1 : Heap), Heap.get (fresh R H H1) id = if (H.get id).isNone || !R.contains id then H1.get id else none
  | [] => by simp [fresh, Heap.get]
  | (j, p) :: r => by
    have ih := get_fresh R H id r
    simp only [fresh]
    by_cases hj : ((H.get j).isNone || !R.contains j) = true
    · rw [if_pos hj]
      simp only [Heap.get]
      by_cases e : j = id
      · subst e; rw [if_pos rfl, if_pos rfl, if_pos hj]
      · rw [if_neg e, if_neg e, ih]
    · rw [if_neg hj, ih]
      simp only [Heap.get]
      by_cases e : j = id
      · subst e; rw [if_neg hj, if_neg hj]
      · rw [if_neg e]
theorem get_hcons (j : Id) (p : Place) (r : Heap) (id : Id) : Heap.get ((j, p) :: r) id = if j = id then some p else r.get id := rfl
theorem get_weave (R : List Id) (H1 : Heap) (id : Id) : ∀ (H : Heap), Heap.get (weave R H1 H) id = if id ∈ R then (if (H.get id).isSome then H1.get id else none) else H.get id
  | [] => by simp [weave, Heap.get]
  | (j, p) :: r => by
    have ih := get_weave R H1 id r
    simp only [weave, List.contains_iff_mem]
    by_cases e : j = id
    · subst e
      by_cases hj : j ∈ R
      · rw [if_pos hj] at ih
        rw [if_pos hj, if_pos hj]
        cases h1 : H1.get j with
        | none =>
          simp only [get_hcons, if_true, Option.isSome_some]
          rw [ih, h1]
          simp
        | some q => simp only [get_hcons, if_true, Option.isSome_some]
      · rw [if_neg hj, if_neg hj]
        simp only [get_hcons, if_true]
    · have h2 : Heap.get ((j, p) :: r) id = Heap.get r id := by rw [get_hcons, if_neg e]
      rw [h2, ← ih]
      by_cases hj : j ∈ R
      · rw [if_pos hj]
        cases h1 : H1.get j with
        | none => rfl
        | some q => simp only [get_hcons, if_neg e]
      · rw [if_neg hj, get_hcons, if_neg e]
theorem get_weaveH (R : List Id) (H1 H : Heap) (id : Id) : Heap.get (weaveH R H1 H) id = Heap.get (H1 ++ without R H) id := by
  unfold weaveH
  rw [get_append, get_append, get_fresh, get_weave, get_without]
  by_cases hR : id ∈ R
  · have hc : R.contains id = true := by simpa using hR
    rw [if_pos hR, if_pos hR, hc]
    cases hg : H.get id with
    | none => cases H1.get id <;> simp
    | some q => cases H1.get id <;> simp
  · have hc : R.contains id = false := by simpa using hR
    rw [if_neg hR, if_neg hR, hc]
    simp
theorem open_ok (hr : HeapRel C w G H U) {p : List Nat} (hfr : Fr U p) {R : List Id} {G1 : Gh} {H1 : Heap} {U1 : Id → Prop} (he : Ext (part C G H R) w G (within R H) (partU U H R) w' G1 H1 U1)
    (hr1 : HeapRel (part C G H R) w' G1 H1 U1) (hnew : ∀ i, U1 i → partU U H R i ∨ (0 :: p) <:+ i.g) {v : Value} {x : AV} (hv : Rep (part C G H R) w' G1 H1 U1 v x) :
    ∃ G2 U2, Ext C w G H U w' G2 (weaveH R H1 H) U2 ∧ HeapRel C w' G2 (weaveH R H1 H) U2 ∧ Rep C w' G2 (weaveH R H1 H) U2 v x ∧ Fr U2 (1 :: p) ∧ ∀ i, U2 i → U i ∨ p <:+ i.g := by
  have hlive : ∀ id, U1 id → id ∈ R ∨ H.get id = none := fun id hid => by
    rcases hnew id hid with h | h
    · exact h.2
    · right
      cases hg : H.get id with
      | none => rfl
      | some q => exact absurd ((List.suffix_cons 0 p).trans h) (hfr id (hr.keys id q hg))
  have hget : ∀ id q, Heap.get (weaveH R H1 H) id = some q → (H1.get id = some q ∧ U1 id) ∨ (H1.get id = none ∧ id ∉ R ∧ H.get id = some q) := fun id q hq => by
    rw [get_weaveH, get_append] at hq
    cases h1 : H1.get id with
    | some q' =>
      rw [h1] at hq
      injection hq with hq
      subst hq
      exact .inl ⟨rfl, hr1.keys id _ h1⟩
    | none =>
      rw [h1] at hq
      simp only [get_without] at hq
      split at hq
      · cases hq
      · exact .inr ⟨rfl, by assumption, hq⟩
  let G2 : Gh := fun id => if (H1.get id).isSome then G1 id else G id
  let U2 : Id → Prop := fun i => U i ∨ U1 i
  have hG1 : ∀ id q, H1.get id = some q → G2 id = G1 id := fun id q h => by simp [G2, h]
  have hG0 : ∀ id, H1.get id = none → G2 id = G id := fun id h => by simp [G2, h]
  have hfz : ∀ b o, Fz (part C G H R) G1 H1 b o → Fz C G2 (weaveH R H1 H) b o := fun b o h => by
    refine ⟨h.1, fun hx => h.2.1 (.inl hx), fun id q hq hG => ?_⟩
    rcases hget id q hq with ⟨h1, _⟩ | ⟨h1, h2, h3⟩
    · rw [hG1 id q h1] at hG
      exact h.2.2 id q h1 hG
    · rw [hG0 id h1] at hG
      exact Classical.byContradiction fun hu => h.2.1 (.inr ⟨id, q, h3, h2, hG, hu⟩)
  have hsub : ∀ id q, Heap.get (within R H) id = some q → H.get id = some q := fun id q hq => by
    rw [get_within] at hq
    split at hq
    · exact hq
    · cases hq
  have hU : ∀ id, U id → U1 id → partU U H R id := fun id h1 h2 => ⟨h1, hlive id h2⟩
  have e : Ext C w G H U w' G2 (weaveH R H1 H) U2 := by
    refine ⟨fun i hi => .inl hi, fun b o u hf hc => ?_, fun id cs' hid hh => ?_, fun id n' hid hh => ?_, he.blk, ⟨he.keep.os, he.keep.tape, he.keep.output, he.keep.size, fun k hk => he.keep.block k ?_⟩, fun b es k hf hc => ?_, fun id es' hid hh => ?_⟩
    · obtain ⟨h1, h2⟩ := he.cell b o u (part_fz hf) hc
      exact ⟨h1, hfz b o h2⟩
    · rcases hget id _ hh with ⟨h1, h2⟩ | ⟨h1, h2, h3⟩
      · obtain ⟨⟨cs, h4, hl⟩, h5⟩ := he.box id cs' (hU id hid h2) h1
        exact ⟨⟨cs, hsub _ _ h4, hl⟩, (hG1 id _ h1).trans h5⟩
      · exact ⟨⟨cs', h3, rfl⟩, hG0 id h1⟩
    · rcases hget id _ hh with ⟨h1, h2⟩ | ⟨h1, h2, h3⟩
      · obtain ⟨n, h4, h5, h6⟩ := he.grow id n' (hU id hid h2) h1
        exact ⟨n, hsub _ _ h4, h5, fun hn => (hG1 id _ h1).trans (h6 hn)⟩
      · exact ⟨n', h3, Nat.le_refl _, fun _ => hG0 id h1⟩
    · rcases hk with hk | hk
      · exact .inl hk
      · exact .inr (.inl hk)
    · obtain ⟨h1, h2⟩ := he.mpb b es k (part_fz hf) hc
      exact ⟨h1, hfz b 0 h2⟩
    · rcases hget id _ hh with ⟨h1, h2⟩ | ⟨h1, h2, h3⟩
      · obtain ⟨⟨es, h4⟩, h5⟩ := he.mpl id es' (hU id hid h2) h1
        exact ⟨⟨es, hsub _ _ h4⟩, (hG1 id _ h1).trans h5⟩
      · exact ⟨⟨es', h3⟩, hG0 id h1⟩
  have hmv : Mv (part C G H R) w' G1 H1 U1 C w' G2 (weaveH R H1 H) U2 := by
    refine ⟨fun i hi => .inr hi, fun b o u hf hc => ⟨hc, hfz b o hf⟩, fun id cs' hid hh => ?_, fun id n' hid hh => ?_, fun b arr te z hb => ⟨arr, z, hb, rfl⟩, fun b es k hf hc => ⟨hc, hfz b 0 hf⟩, fun id es' hid hh => ?_⟩
    · rcases hget id _ hh with ⟨h1, _⟩ | ⟨h1, h2, h3⟩
      · exact ⟨⟨cs', h1, rfl⟩, hG1 id _ h1⟩
      · rcases hlive id hid with h | h
        · exact (h2 h).elim
        · rw [h] at h3; cases h3
    · rcases hget id _ hh with ⟨h1, _⟩ | ⟨h1, h2, h3⟩
      · exact ⟨n', h1, Nat.le_refl _, fun _ => hG1 id _ h1⟩
      · rcases hlive id hid with h | h
        · exact (h2 h).elim
        · rw [h] at h3; cases h3
    · rcases hget id _ hh with ⟨h1, _⟩ | ⟨h1, h2, h3⟩
      · exact ⟨⟨es', h1⟩, hG1 id _ h1⟩
      · rcases hlive id hid with h | h
        · exact (h2 h).elim
        · rw [h] at h3; cases h3
  have hkeep : ∀ id q b, id ∉ R → H.get id = some q → G id = some b → w'.heap[b]? = w.heap[b]? := fun id q b h1 h2 h3 => he.keep.block b (.inr (.inr ⟨id, q, h2, h1, h3⟩))
  refine ⟨G2, U2, e, ⟨hr1.base, fun k hk => hr1.exlt k (.inl hk), hr.exb, fun id q b hq hG hx => ?_, fun id q hq => ?_, fun id cs hq => ?_, fun id n b hq hG => ?_, fun id id' q q' b h1 h2 h3 h4 => ?_, fun id es hq => ?_⟩, hv.mv hmv, fun i hi hs => ?_, fun i hi => ?_⟩
  · rcases hget id q hq with ⟨h1, _⟩ | ⟨h1, h2, h3⟩
    · rw [hG1 id q h1] at hG
      exact hr1.exo id q b h1 hG (.inl hx)
    · rw [hG0 id h1] at hG
      exact hr.exo id q b h3 hG hx
  · rcases hget id q hq with ⟨h1, h2⟩ | ⟨h1, h2, h3⟩
    · exact .inr h2
    · exact .inl (hr.keys id q h3)
  · rcases hget id _ hq with ⟨h1, _⟩ | ⟨h1, h2, h3⟩
    · obtain ⟨b, arr, te, z, h4, h5, h6, h7, h8, h9⟩ := hr1.box id cs h1
      refine ⟨b, arr, te, z, (hG1 id _ h1).trans h4, h5, h6, h7, h8, fun j y hy => ?_⟩
      obtain ⟨h10, u, h11, h12⟩ := h9 j y hy
      exact ⟨h10, u, h11, h12.mv hmv⟩
    · obtain ⟨b, arr, te, z, h4, h5, h6, h7, h8, h9⟩ := hr.box id cs h3
      have hk := hkeep id _ b h2 h3 h4
      refine ⟨b, arr, te, z, (hG0 id h1).trans h4, h5, hk.trans h6, fun o ho => ?_, h8, fun j y hy => ?_⟩
      · rw [World.frozen?_of_block (w := w) hk]; exact h7 o ho
      · obtain ⟨h10, u, h11, h12⟩ := h9 j y hy
        exact ⟨h10, u, h11, h12.ext e⟩
  · rcases hget id _ hq with ⟨h1, _⟩ | ⟨h1, h2, h3⟩
    · rw [hG1 id _ h1] at hG
      exact hr1.grow id n b h1 hG
    · rw [hG0 id h1] at hG
      obtain ⟨h4, arr, te, z, h5, h6, h7⟩ := hr.grow id n b h3 hG
      have hk := hkeep id _ b h2 h3 hG
      refine ⟨h4, arr, te, z, hk.trans h5, fun o ho => ?_, h7⟩
      rw [World.frozen?_of_block (w := w) hk]; exact h6 o ho
  · rcases hget id q h1 with ⟨h5, _⟩ | ⟨h5, h6, h7⟩ <;> rcases hget id' q' h2 with ⟨h8, _⟩ | ⟨h8, h9, h10⟩
    · rw [hG1 id q h5] at h3
      rw [hG1 id' q' h8] at h4
      exact hr1.sep id id' q q' b h5 h8 h3 h4
    · rw [hG1 id q h5] at h3
      rw [hG0 id' h8] at h4
      exact (hr1.exo id q b h5 h3 (.inr ⟨id', q', h10, h9, h4⟩)).elim
    · rw [hG0 id h5] at h3
      rw [hG1 id' q' h8] at h4
      exact (hr1.exo id' q' b h8 h4 (.inr ⟨id, q, h7, h6, h3⟩)).elim
    · rw [hG0 id h5] at h3
      rw [hG0 id' h8] at h4
      exact hr.sep id id' q q' b h7 h10 h3 h4
  · rcases hget id _ hq with ⟨h1, _⟩ | ⟨h1, h2, h3⟩
    · obtain ⟨b, ents, clock, h4, h5, h6, h7, h8⟩ := hr1.mpl id es h1
      exact ⟨b, ents, clock, (hG1 id _ h1).trans h4, h5, h6, h7, fun j e p he hp => ⟨(h8 j e p he hp).1.weak hfz, (h8 j e p he hp).2.weak hfz⟩⟩
    · obtain ⟨b, ents, clock, h4, h5, h6, h7, h8⟩ := hr.mpl id es h3
      have hk := hkeep id _ b h2 h3 h4
      exact ⟨b, ents, clock, (hG0 id h1).trans h4, h5, hk.trans h6, h7, fun j x p hx hp => ⟨(h8 j x p hx hp).1.mono e.cell e.mpb, (h8 j x p hx hp).2.mono e.cell e.mpb⟩⟩
  · rcases hi with hi | hi
    · exact hfr i hi ((List.suffix_cons 1 p).trans hs)
    · rcases hnew i hi with h | h
      · exact hfr i h.1 ((List.suffix_cons 1 p).trans hs)
      · have h1 := List.suffix_of_suffix_length_le h hs (by simp)
        have h2 := h1.eq_of_length rfl
        injection h2 with h2 _
        omega
  · rcases hi with hi | hi
    · exact .inl hi
    · rcases hnew i hi with h | h
      · exact .inl h.1
      · exact .inr ((List.suffix_cons 0 p).trans h)
end
end Go.Proofs.Ytfcfifohflgboaa.Am
