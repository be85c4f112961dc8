/- Maps: made, asked, written to. -/
import Derived.Test.YtfcfifohflgboaaAmOpC
import Derived.Test.YtfcfifohflgboaaAmOp9
import Derived.MapKept
import Derived.Carry
set_option linter.unusedVariables false
set_option linter.unusedSimpArgs false
namespace Go.Proofs.Ytfcfifohflgboaa.Am
open Go Go.RowKit

section
variable {C : Ctx} {w w' : World} {G G' : Gh} {P : Program} {T : Tab} {S S' : St} {a : Act} {H : Heap} {U : Id → Prop}

theorem Ext.wmap (hr : HeapRel C w G H U) {id : Id} {es es' : List (DV × DV)} {b : Nat} {ents ents' : Array MapEntry} {k k' : Nat} (hp : H.get id = some (.mpl es)) (hG : G id = some b) (hb : w.heap[b]? = some (.map ents k)) :
    Ext C w G H U { w with heap := w.heap.setIfInBounds b (.map ents' k') } G (H.put id (.mpl es')) U := by
  have hoth : ∀ i, i ≠ b → ({ w with heap := w.heap.setIfInBounds b (.map ents' k') } : World).heap[i]? = w.heap[i]? := fun i hi => by
    simp [Array.getElem?_setIfInBounds, Ne.symm hi]
  have hfz : ∀ b' o, Fz C G H b' o → Fz C G (H.put id (.mpl es')) b' o := fun b' o hf => ⟨hf.1, hf.2.1, fun i q hq hGi => by
    rw [get_put] at hq
    by_cases hi : id = i
    · subst hi
      exact (hf.2.2 id _ hp hGi).elim
    · rw [if_neg hi] at hq
      exact hf.2.2 i q hq hGi⟩
  have hnb : ∀ o, ¬ Fz C G H b o := fun o hf => hf.2.2 id _ hp hG
  refine ⟨fun _ h => h, fun b' o u hf hc => ⟨?_, hfz b' o hf⟩, fun i cs' hi hh => ⟨?_, rfl⟩, fun i n' hi hh => ?_, fun b' arr te z hh => ?_, ⟨rfl, rfl, rfl, by simp, fun i hi => hoth i ?_⟩, fun b' es1 k1 hf hc => ⟨?_, hfz b' 0 hf⟩, fun i es1 hi hh => ⟨?_, rfl⟩⟩
  · have hbb : b' ≠ b := fun e => by subst e; exact hnb o hf
    rw [World.cell?_of_block (w := w) (hoth b' hbb)]; exact hc
  · rw [get_put] at hh
    by_cases he : id = i
    · subst he; rw [if_pos rfl, hp] at hh; simp at hh
    · rw [if_neg he] at hh; exact ⟨cs', hh, rfl⟩
  · rw [get_put] at hh
    by_cases he : id = i
    · subst he; rw [if_pos rfl, hp] at hh; simp at hh
    · rw [if_neg he] at hh; exact ⟨n', hh, Nat.le_refl _, fun _ => rfl⟩
  · have hbb : b' ≠ b := fun e => by subst e; rw [hb] at hh; injection hh with hh; cases hh
    exact ⟨arr, z, (hoth b' hbb).trans hh, rfl⟩
  · rintro rfl
    rcases hi with hi | hi
    · have := (hr.blkLt hp hG).1; omega
    · exact hr.exo id _ _ hp hG hi
  · have hbb : b' ≠ b := fun e => by subst e; exact hnb 0 hf
    exact (hoth b' hbb).trans hc
  · rw [get_put] at hh
    by_cases he : id = i
    · subst he; exact ⟨es, hp⟩
    · rw [if_neg he] at hh; exact ⟨es1, hh⟩
theorem HeapRel.wmap (hr : HeapRel C w G H U) {id : Id} {es es' : List (DV × DV)} {b : Nat} {ents ents' : Array MapEntry} {k k' : Nat} (hp : H.get id = some (.mpl es)) (hG : G id = some b) (hb : w.heap[b]? = some (.map ents k))
    (hl : ents'.size = es'.length) (hme : ∀ (j : Nat) e p, ents'[j]? = some e → es'[j]? = some p → RepD w (Fz C G H) e.key p.1 ∧ RepD w (Fz C G H) e.val p.2) :
    HeapRel C { w with heap := w.heap.setIfInBounds b (.map ents' k') } G (H.put id (.mpl es')) U := by
  have e : Ext C w G H U { w with heap := w.heap.setIfInBounds b (.map ents' k') } G (H.put id (.mpl es')) U := Ext.wmap hr hp hG hb
  have hlt := blk_lt hb
  have hoth : ∀ i, i ≠ b → ({ w with heap := w.heap.setIfInBounds b (.map ents' k') } : World).heap[i]? = w.heap[i]? := fun i hi => by
    simp [Array.getElem?_setIfInBounds, Ne.symm hi]
  have hat : ({ w with heap := w.heap.setIfInBounds b (.map ents' k') } : World).heap[b]? = some (.map ents' k') := by simp [Array.getElem?_setIfInBounds, hlt]
  have hne : ∀ i q, Heap.get (H.put id (.mpl es')) i = some q → i ≠ id → H.get i = some q := fun i q hq hi => by
    rw [get_put, if_neg (Ne.symm hi)] at hq; exact hq
  have hid : ∀ q, Heap.get (H.put id (.mpl es')) id = some q → q = .mpl es' := fun q hq => by
    rw [get_put, if_pos rfl, hp] at hq
    simpa using hq.symm
  have hblk : ∀ i q, Heap.get (H.put id (.mpl es')) i = some q → i ≠ id → ∀ b', G i = some b' → b' ≠ b := fun i q hq hi b' hb' hbb => by
    subst hbb
    exact hi (hr.sep i id q _ b' (hne i q hq hi) hp hb' hG)
  refine ⟨by simpa using hr.base, fun i hi => by simpa using hr.exlt i hi, hr.exb, fun i q b' hq hb' => ?_, fun i q hq => ?_, fun i cs hq => ?_, fun i n b' hq hb' => ?_, fun i i' q q' b' h1 h2 h3 h4 => ?_, fun i es1 hq => ?_⟩
  · by_cases hi : i = id
    · subst hi; exact hr.exo i _ b' hp hb'
    · exact hr.exo i q b' (hne i q hq hi) hb'
  · by_cases hi : i = id
    · subst hi; exact hr.keys i _ hp
    · exact hr.keys i q (hne i q hq hi)
  · by_cases hi : i = id
    · subst hi; have := hid _ hq; cases this
    · obtain ⟨b', arr, te, z, h1, h2, h3, h4, h5, h6⟩ := hr.box i cs (hne i _ hq hi)
      have hbb := hblk i _ hq hi b' h1
      refine ⟨b', arr, te, z, h1, h2, (hoth b' hbb).trans h3, fun o' ho => ?_, h5, fun j y hy => ?_⟩
      · rw [World.frozen?_of_block (w := w) (hoth b' hbb)]; exact h4 o' ho
      · obtain ⟨h7, u, h8, h9⟩ := h6 j y hy
        exact ⟨h7, u, h8, h9.ext e⟩
  · by_cases hi : i = id
    · subst hi; have := hid _ hq; cases this
    · obtain ⟨h2, arr, te, z, h3, h4, h5⟩ := hr.grow i n b' (hne i _ hq hi) hb'
      have hbb := hblk i _ hq hi b' hb'
      exact ⟨h2, arr, te, z, (hoth b' hbb).trans h3, fun o' ho => by rw [World.frozen?_of_block (w := w) (hoth b' hbb)]; exact h4 o' ho, h5⟩
  · by_cases hi : i = id <;> by_cases hi' : i' = id
    · rw [hi, hi']
    · subst hi
      exact hr.sep i i' _ q' b' hp (hne i' q' h2 hi') h3 h4
    · subst hi'
      exact hr.sep i i' q _ b' (hne i q h1 hi) hp h3 h4
    · exact hr.sep i i' q q' b' (hne i q h1 hi) (hne i' q' h2 hi') h3 h4
  · by_cases hi : i = id
    · subst hi
      have := hid _ hq
      injection this with this
      subst this
      exact ⟨b, ents', k', hG, (hr.blkLt hp hG).1, hat, hl, fun j x p hx hp => ⟨(hme j x p hx hp).1.mono e.cell e.mpb, (hme j x p hx hp).2.mono e.cell e.mpb⟩⟩
    · obtain ⟨b', ents1, clock, h1, h2, h3, h4, h5⟩ := hr.mpl i es1 (hne i _ hq hi)
      have hbb := hblk i _ hq hi b' h1
      exact ⟨b', ents1, clock, h1, h2, (hoth b' hbb).trans h3, h4, fun j x p hx hp => ⟨(h5 j x p hx hp).1.mono e.cell e.mpb, (h5 j x p hx hp).2.mono e.cell e.mpb⟩⟩

theorem same_ok {F : Nat → Nat → Prop} {kd : TypeDesc} {u v : Value} {p q : DV} (hu : RepD w F u p) (hv : RepD w F v q) {b : Bool} (h : sameK kd p q = some b) : Instr.sameNow kd u v = some b ∧ (b = true → u = v) := by
  unfold sameK at h
  split at h
  · split at h
    · rename_i hk
      injection h with h
      subst hk; subst h
      cases hu; cases hv
      exact ⟨by simp [Instr.sameNow], fun h => by simp at h; rw [h]⟩
    · cases h
  · rename_i a b'
    injection h with h
    subst h
    cases hu with
    | str s => cases hv with
      | str t =>
        refine ⟨?_, fun h => ?_⟩
        · simp only [Instr.sameNow, Option.some.injEq]
          rw [Bool.eq_iff_iff, MapKept.bytes_beq, beq_iff_eq]
          exact ⟨fun h => by rw [h], fun h => by cases s; cases t; simp_all⟩
        · simp only [beq_iff_eq] at h
          cases s; cases t; simp_all
  · injection h with h
    subst h
    cases hu; cases hv
    exact ⟨by simp [Instr.sameNow], fun h => by simp at h; rw [h]⟩
  · cases h
theorem sameK_key {kd : TypeDesc} {q : DV} (h : sameK kd q q = some true) : (∃ k, kd = .int k) ∨ kd = .string ∨ kd = .bool := by
  unfold sameK at h
  split at h
  · exact .inl ⟨_, rfl⟩
  · exact .inr (.inl rfl)
  · exact .inr (.inr rfl)
  · cases h
theorem find_ok {F : Nat → Nat → Prop} {kd : TypeDesc} {kv : Value} {q : DV} (hq : RepD w F kv q) : ∀ (ents : List MapEntry) (es : List (DV × DV)) (n : Nat), ents.length = es.length →
    (∀ (j : Nat) e p, ents[j]? = some e → es[j]? = some p → RepD w F e.key p.1 ∧ RepD w F e.val p.2) →
    (findK kd q es = some none → Instr.findNow kd kv ents n = some none ∧ ∀ y, setK kd q y es = es ++ [(q, y)]) ∧
    ∀ x, findK kd q es = some (some x) → ∃ j e p, Instr.findNow kd kv ents n = some (some (n + j, e.val)) ∧ ents[j]? = some e ∧ es[j]? = some p ∧ RepD w F e.val x ∧ e.key = kv ∧ ∀ y, setK kd q y es = es.set j (q, y)
  | [], [], n, hl, hr => ⟨fun _ => ⟨rfl, fun _ => rfl⟩, fun x h => by simp [findK] at h⟩
  | [], _ :: _, n, hl, hr => by simp at hl
  | _ :: _, [], n, hl, hr => by simp at hl
  | e :: ents, (k, x0) :: es, n, hl, hr => by
    obtain ⟨h1, h2⟩ := hr 0 e (k, x0) rfl rfl
    obtain ⟨i1, i2⟩ := find_ok hq ents es (n + 1) (by simpa using hl) (fun j a b ha hb => hr (j + 1) a b (by simpa using ha) (by simpa using hb))
    simp only [findK]
    cases hs : sameK kd q k with
    | none => exact ⟨fun h => by simp at h, fun x h => by simp at h⟩
    | some b =>
      obtain ⟨h3, h4⟩ := same_ok hq h1 hs
      cases b with
      | true =>
        refine ⟨fun h => by simp at h, fun x h => ?_⟩
        simp only [Option.some.injEq] at h
        subst h
        exact ⟨0, e, _, by simp [Instr.findNow, h3], rfl, rfl, h2, (h4 rfl).symm, fun y => by simp [setK, hs]⟩
      | false =>
        refine ⟨fun h => ?_, fun x h => ?_⟩
        · obtain ⟨h5, h6⟩ := i1 h
          exact ⟨by simp [Instr.findNow, h3, h5], fun y => by simp [setK, hs, h6]⟩
        · obtain ⟨j, e', p', h5, h6, h7, h8, h9, h10⟩ := i2 x h
          exact ⟨j + 1, e', p', by simp [Instr.findNow, h3, h5]; omega, by simpa using h6, by simpa using h7, h8, h9, fun y => by simp [setK, hs, h10]⟩

theorem sameBits_self {kd : TypeDesc} {F : Nat → Nat → Prop} {v : Value} {q : DV} (hq : RepD w F v q) (h : sameK kd q q = some true) : Instr.sameBits 10000 v v = true := by
  unfold sameK at h
  split at h
  · cases hq; simp [Instr.sameBits]
  · cases hq; simp [Instr.sameBits, MapKept.bytes_beq]
  · cases hq; simp [Instr.sameBits]
  · cases h

theorem key_ok {kt : Nat} {kd : TypeDesc} (hd : P.underlying kt = some kd) {q : DV} {v : Value} (h : sameK kd q q = some true) (b : Bool) (n : Nat) : (Instr.checkKey b (n + 1) kt v).run P w = .ok () w := by
  rcases sameK_key h with ⟨k, rfl⟩ | rfl | rfl <;> simp [Instr.checkKey, run_underlying hd]

theorem find_run {kt : Nat} {kd : TypeDesc} (hd : P.underlying kt = some kd) {v : Value} {es : List MapEntry} {r : Option (Nat × Value)} (h : Instr.findNow kd v es 0 = some r) : (Instr.findKey kt v es).run P w = .ok r w := by
  simp [Instr.findKey, run_underlying hd, h]

theorem mapOf_ok (hr : HeapRel C w G S.H U) {v : Value} {x : AV} (h : Rep C w G S.H U v x) {es : List (DV × DV)} (hm : mapOf S x = some es) : ∃ (b : Nat) (ents : Array MapEntry) (k : Nat) (es' : List (DV × DV)), v = .map (some b) ∧ w.heap[b]? = some (.map ents k) ∧ ents.size = es'.length ∧
    (∀ (j : Nat) e p, ents[j]? = some e → es'[j]? = some p → RepD w (Fz C G S.H) e.key p.1 ∧ RepD w (Fz C G S.H) e.val p.2) ∧ ∀ kd q x, findK kd q es = some x → findK kd q es' = some x := by
  unfold mapOf at hm
  split at hm
  · rename_i id
    split at hm
    · rename_i es' hid
      injection hm with hm
      subst hm
      cases h with
      | mp v id hv hg h =>
        obtain ⟨b, h1, rfl⟩ := h _ hid
        obtain ⟨b', ents, k, h2, _, h3, h4, h5⟩ := hr.mpl id _ hid
        rw [h1] at h2; injection h2 with h2; subst h2
        exact ⟨b, ents, k, _, rfl, h3, h4, h5, fun _ _ _ h => h⟩
    · cases hm
  · injection hm with hm
    subst hm
    have hd := h.dinv
    cases hd with
    | mp r ents k es hb hf hl hk hv => exact ⟨r, ents, k, _, rfl, hb, hl, fun j e p he hp => ⟨hk j e p he hp, hv j e p he hp⟩, fun _ _ _ h => h⟩
  · injection hm with hm
    subst hm
    have hd := h.dinv
    cases hd with
    | ump r ents k es es' hb hf hl hfd hk hv => exact ⟨r, ents, k, es', rfl, hb, hl, fun j e p he hp => ⟨hk j e p he hp, hv j e p he hp⟩, hfd⟩
  · cases hm

theorem zero_ok (ok : T.Ok P) {t n b : Nat} {z : List AV} (h : T.inf t = some (n, b, z)) {x : AV} (hx : mkVar T t z = some x) : ∃ v, (zeroValue t).run P w = .ok v w ∧ Rep C w G H U v x ∧ ∀ xs, x ≠ .tup xs := by
  obtain ⟨i, zv, h1, h2, h3, h4, h5, h6, h7⟩ := ok.inf t n b z h
  have hs : size T t = some n := by simp [size, h]
  unfold mkVar at hx
  rw [hs] at hx
  have hrep : ∀ (j : Nat) y, z[j]? = some y → y.leaf = true ∧ ∃ u, zv.cells[j]? = some u ∧ Rep C w G H U u y := fun j y hy => by
    obtain ⟨u, hu, hc⟩ := h7 j y hy
    exact ⟨hc.leaf, u, hu, hc.rep⟩
  refine ⟨zv, by simp [zeroValue, typeInfo, h1, h4], ?_⟩
  cases ha : isAgg T t with
  | none => rw [ha] at hx; cases hx
  | some q =>
    rw [ha] at hx
    cases q with
    | true =>
      simp only at hx
      rw [if_pos (by omega), List.take_of_length_le (by omega)] at hx
      injection hx with hx
      subst hx
      cases zv with
      | agg cs => exact ⟨rep_mkAgg (by simpa [Value.cells, h6] using h5) (by simpa [Value.cells] using hrep), fun xs h => by unfold mkAgg at h; split at h <;> cases h⟩
      | _ =>
        obtain ⟨cs, hcs⟩ := (ok.zag t n b z i _ h h1 h4 true ha).1 rfl
        cases hcs
    | false =>
      simp only at hx
      split at hx
      case isFalse => cases hx
      rename_i hn
      subst hn
      cases z with
      | nil => simp at hx
      | cons y r =>
        simp only [List.head?_cons, Option.some.injEq] at hx
        subst hx
        obtain ⟨hl, u, hu, hr⟩ := hrep 0 y rfl
        have hz : zv = u := by
          have hlf := (ok.zag t 1 b (y :: r) i zv h h1 h4 false ha).2 rfl
          rw [cells_leaf hlf] at hu; simpa using hu
        subst hz
        exact ⟨hr, fun xs h => by subst h; simp [AV.leaf] at hl⟩

theorem good_makeMap (hs : Sim C w G U S a) {o : Oper} {t : Nat} (ho : o.op = .makeMap t none) (d dst : Nat) :
    Good C P w G U S ((execOp a.eval o).run P w) (some (.mp ⟨d, dst, 0 :: S.g⟩)) { S with H := (⟨d, dst, 0 :: S.g⟩, .mpl []) :: S.H, g := 1 :: S.g } := by
  have hr := hs.heap
  have hid := hs.fr.not d dst
  have e : Ext C w G S.H U (w.alloc (.map #[] 0)) (setG G ⟨d, dst, 0 :: S.g⟩ (some w.heap.size)) ((⟨d, dst, 0 :: S.g⟩, .mpl []) :: S.H) (addU U ⟨d, dst, 0 :: S.g⟩) := Ext.newObj hr hid _
  have hb : Below w.heap.size w (w.alloc (.map #[] 0)) := (Below.refl _ _).alloc (Nat.le_refl _) _
  refine ⟨.value (.map (some w.heap.size)), _, _, _, by simp only [execOp, ho]; simp [run_makeMap], e, hr.adopt hb hid _ _ (Nat.le_refl _) ⟨#[], 0, heap_alloc_new w _, rfl, fun j x p hx hp => by simp at hp⟩, ⟨rfl, hs.fr.add d dst, fun i hi => ?_⟩, Rep.mp _ _ rfl (.inr rfl) (fun es h => ⟨w.heap.size, by simp [setG], rfl⟩)⟩
  rcases hi with hi | rfl
  · exact .inl hi
  · exact .inr (List.suffix_cons 0 S.g)

theorem good_lookup (ok : T.Ok P) (hs : Sim C w G U S a) {o : Oper} {t kt et t1 t2 : Nat} {y z : Operand} {cok : Bool} (ho : o.op = .lookup t y z cok) (hu : T.und t = some (.map kt et)) {m k q : AV} (hm : ev T S t1 y = some m) (hk : ev T S t2 z = some k)
    (h : lookA T S kt et m k cok = some q) : Good C P w G U S ((execOp a.eval o).run P w) (some q) S := by
  have hr := hs.heap
  unfold lookA at h
  split at h
  · rename_i kd es kq hkd hmo
    obtain ⟨b, ents, clock, es2, hv, hblk, hl, hrep, hfd⟩ := mapOf_ok hr (ev_ok ok hs hm) hmo
    have hkr := (ev_ok ok hs hk).dinv
    have hund := ok.und _ _ hkd
    have hget := MapKept.run_getObj_map (P := P) hblk
    have hbool : ∀ b, Rep C w G S.H U (.bool b) (.d (.bool b)) := fun b => .d _ _ (.bool b)
    split at h
    · rename_i x hs1 hf
      injection h with h
      subst h
      obtain ⟨_, h2⟩ := find_ok hkr ents.toList es2 0 (by simpa using hl) (fun j e p he hp => hrep j e p (by simpa using he) hp)
      obtain ⟨j, e, p, h3, h4, h5, h6, h7, h8⟩ := h2 x (hfd _ _ _ hf)
      have hfk := find_run (P := P) (w := w) hund h3
      have hck := key_ok (P := P) (w := w) hund (v := a.eval z) hs1 ents.isEmpty 9999
      cases cok with
      | true =>
        refine Good.quiet hs (v := .tuple #[e.val, .bool true]) ?_ (.tup _ _ rfl (fun i x hx => ?_) (fun i v x hv hx => ?_))
        · simp [execOp, ho, hv, Instr.lookup, run_underlying (ok.und _ _ hu), hget, hck, hfk]
        · match i, hx with
          | 0, hx => simp at hx; subst hx; rfl
          | 1, hx => simp at hx; subst hx; rfl
          | i + 2, hx => simp at hx
        · match i, hv, hx with
          | 0, hv, hx => simp at hv hx; subst hv; subst hx; exact .d _ _ h6
          | 1, hv, hx => simp at hv hx; subst hv; subst hx; exact hbool _
          | i + 2, hv, hx => simp at hx
      | false =>
        refine Good.quiet hs (v := e.val) ?_ (.d _ _ h6)
        simp [execOp, ho, hv, Instr.lookup, run_underlying (ok.und _ _ hu), hget, hck, hfk]
    · rename_i hs1 hf
      split at h
      · rename_i n bb zero hz
        split at h
        · rename_i z' hz'
          injection h with h
          subst h
          obtain ⟨zv, h9, h10, h11⟩ := zero_ok (C := C) (w := w) (G := G) (H := S.H) (U := U) ok hz hz'
          obtain ⟨h2, _⟩ := find_ok hkr ents.toList es2 0 (by simpa using hl) (fun j e p he hp => hrep j e p (by simpa using he) hp)
          obtain ⟨h3, _⟩ := h2 (hfd _ _ _ hf)
          have hfk := find_run (P := P) (w := w) hund h3
          have hck := key_ok (P := P) (w := w) hund (v := a.eval z) hs1 ents.isEmpty 9999
          cases cok with
          | true =>
            refine Good.quiet hs (v := .tuple #[zv, .bool false]) ?_ (.tup _ _ rfl (fun i x hx => ?_) (fun i v x hv hx => ?_))
            · simp [execOp, ho, hv, Instr.lookup, run_underlying (ok.und _ _ hu), hget, hck, hfk, h9]
            · match i, hx with
              | 0, hx => simp at hx; subst hx; cases z' <;> first | rfl | exact (h11 _ rfl).elim
              | 1, hx => simp at hx; subst hx; rfl
              | i + 2, hx => simp at hx
            · match i, hv, hx with
              | 0, hv, hx => simp at hv hx; subst hv; subst hx; exact h10
              | 1, hv, hx => simp at hv hx; subst hv; subst hx; exact hbool _
              | i + 2, hv, hx => simp at hx
          | false =>
            refine Good.quiet hs (v := zv) ?_ h10
            simp [execOp, ho, hv, Instr.lookup, run_underlying (ok.und _ _ hu), hget, hck, hfk, h9]
        · cases h
      · cases h
    · cases h
  · cases h

theorem good_update (ok : T.Ok P) (hs : Sim C w G U S a) {o : Oper} {t kt et t1 t2 t3 : Nat} {y z u : Operand} (ho : o.op = .mapUpdate t y z u ∨ o.op = .insert t y z u) (hu : T.und t = some (.map kt et)) {m k x : AV} (hm : ev T S t1 y = some m) (hk : ev T S t2 z = some k)
    (hx : ev T S t3 u = some x) (h : updA T S kt m k x = some S') : Good C P w G U S ((execOp a.eval o).run P w) none S' := by
  have hr := hs.heap
  unfold updA at h
  split at h
  · rename_i kd id q d hkd hd
    split at h
    · rename_i es hid
      split at h
      · rename_i r hs1 hf
        injection h with h
        subst h
        have hmr := ev_ok ok hs hm
        obtain ⟨b, hG, hv⟩ : ∃ b, G id = some b ∧ a.eval y = .map (some b) := by
          generalize a.eval y = v at hmr
          cases hmr with
          | mp v id hv hg h => exact h _ hid
        obtain ⟨b', ents, clock, h1, h2, hblk, hl, hrep⟩ := hr.mpl id es hid
        rw [hG] at h1; injection h1 with h1; subst h1
        have hkr := (ev_ok ok hs hk).dinv
        have hxr := toD_ok (ev_ok ok hs hx) hd
        have hund := ok.und _ _ hkd
        have hget := MapKept.run_getObj_map (P := P) hblk
        have hck := key_ok (P := P) (w := w) hund (v := a.eval z) hs1 false 9999
        have hop : (execOp a.eval o).run P w = ((Instr.mapUpdate t (a.eval y) (a.eval z) (a.eval u)).run P w).andThen fun _ w' => .ok .skip w' := by
          rcases ho with ho | ho <;> simp only [execOp, ho, Sem.run_bind] <;> rfl
        have hset := fun o => MapKept.run_setObj_map (P := P) o hblk
        cases r with
        | none =>
          obtain ⟨h3, _⟩ := find_ok hkr ents.toList es 0 (by simpa using hl) (fun j e p he hp => hrep j e p (by simpa using he) hp)
          obtain ⟨h4, h5⟩ := h3 hf
          have hfk := find_run (P := P) (w := w) hund h4
          rw [h5]
          have hme : ∀ (j : Nat) e p, (ents.push { key := a.eval z, val := a.eval u, born := clock })[j]? = some e → (es ++ [(q, d)])[j]? = some p → RepD w (Fz C G S.H) e.key p.1 ∧ RepD w (Fz C G S.H) e.val p.2 := fun j e p he hp => by
            by_cases hj : j < es.length
            · rw [List.getElem?_append_left hj] at hp
              rw [Array.getElem?_push, if_neg (by omega)] at he
              exact hrep j e p he hp
            · rw [List.getElem?_append_right (by omega)] at hp
              have hj0 : j - es.length = 0 := by
                have := (List.getElem?_eq_some_iff.1 hp).1
                simp at this; omega
              rw [hj0] at hp
              rw [Array.getElem?_push, if_pos (by omega)] at he
              simp at hp he
              subst hp; subst he
              exact ⟨hkr, hxr⟩
          refine ⟨.skip, _, G, U, ?_, Ext.wmap hr hid hG hblk (k' := clock + 1) (ents' := ents.push { key := a.eval z, val := a.eval u, born := clock }), hr.wmap hid hG hblk (k' := clock + 1) (by simp [hl]) hme, ⟨rfl, hs.fr, fun i h => .inl h⟩, trivial⟩
          · rw [hop, hv]
            simp [Instr.mapUpdate, run_underlying (ok.und _ _ hu), hget, hck, hfk, hset]
        | some x0 =>
          obtain ⟨_, h3⟩ := find_ok hkr ents.toList es 0 (by simpa using hl) (fun j e p he hp => hrep j e p (by simpa using he) hp)
          obtain ⟨j, e, p, h4, h5, h6, h7, h8, h9⟩ := h3 x0 hf
          have hfk := find_run (P := P) (w := w) hund h4
          simp only [Nat.zero_add] at hfk
          rw [h9]
          have h5' : ents[j]? = some e := by simpa using h5
          have hjl : j < ents.size := (Array.getElem?_eq_some_iff.1 h5').1
          have hme : ∀ (i : Nat) e' p, (ents.modify j fun e => { e with key := a.eval z, val := a.eval u })[i]? = some e' → (es.set j (q, d))[i]? = some p → RepD w (Fz C G S.H) e'.key p.1 ∧ RepD w (Fz C G S.H) e'.val p.2 := fun i e' p he hp => by
            rw [Array.getElem?_modify] at he
            rw [List.getElem?_set] at hp
            by_cases hij : j = i
            · subst hij
              rw [if_pos rfl] at he
              rw [if_pos rfl, if_pos (by omega)] at hp
              rw [h5'] at he
              simp at he hp
              subst he; subst hp
              exact ⟨hkr, hxr⟩
            · rw [if_neg hij] at he
              rw [if_neg hij] at hp
              exact hrep i e' p he hp
          refine ⟨.skip, _, G, U, ?_, Ext.wmap hr hid hG hblk (k' := clock) (ents' := ents.modify j fun e => { e with key := a.eval z, val := a.eval u }), hr.wmap hid hG hblk (k' := clock) (by simp [hl]) hme, ⟨rfl, hs.fr, fun i h => .inl h⟩, trivial⟩
          · rw [hop, hv]
            have hsb := sameBits_self hkr hs1
            simp [Instr.mapUpdate, run_underlying (ok.und _ _ hu), hget, hck, hfk, h5', h8, Instr.keyThatStays, hsb, hset]
      · cases h
    · cases h
  · cases h
end
end Go.Proofs.Ytfcfifohflgboaa.Am
