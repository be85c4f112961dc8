/- names.Of, by the model's own steps: which names a formula asks for, each once, rising. -/
import Derived.Maps.OwnIn
import Derived.RangeFuncNested
import Derived.Test.YtfcfifohflgboaaPrm
import Derived.Test.YtfcfifohflgboaaSrt
set_option linter.unusedVariables false
set_option linter.unusedSimpArgs false
namespace Go.Proofs.Ytfcfifohflgboaa.Am
open Go Go.RowKit Go.Shelf Go.Proofs Go.Maps
attribute [local go_sem] Oper.semAt_some
set_option maxRecDepth 100000
set_option maxHeartbeats 4000000
def setD : List (List UInt8) → DataW Unit
  | [] => .map []
  | x :: r => (setD r).put (.string x) (.lit (.bool true))
def revD (pre : List (List UInt8)) : DataW Unit := setD pre.reverse
theorem revD_end (pre : List (List UInt8)) (x : List UInt8) : revD (pre ++ [x]) = (revD pre).put (.string x) (.lit (.bool true)) := by simp [revD, setD]
theorem key_str {s : List UInt8} (h : s.length ≤ 1000) : keyOf Try.prog 9 (.string ⟨s.toArray⟩) = some (.string s) := by
  have h1 : (⟨s.toArray⟩ : ByteArray).size ≤ maxLen := by
    show s.toArray.size ≤ maxLen
    simp only [List.size_toArray, maxLen]
    omega
  unfold keyOf
  rw [Try.underlying9]
  simp [mapKey, Try.underlying9, h1]
theorem size_insert {x : Lit × DataW Unit} : ∀ l : List (Lit × DataW Unit), (DataW.insert x l).length = l.length + 1
  | [] => rfl
  | y :: r => by
    unfold DataW.insert
    split
    · rfl
    · simp [size_insert r]
theorem size_set : ∀ l, Maps.size (setD l) ≤ l.length ∧ ∃ es, setD l = .map es
  | [] => ⟨Nat.le_refl _, _, rfl⟩
  | x :: r => by
    obtain ⟨h, es, he⟩ := size_set r
    rw [he] at h
    refine ⟨?_, ?_⟩
    · simp only [setD, he, DataW.put, Maps.size, size_insert, List.length_cons] at h ⊢
      have := List.length_filter_le (fun p : Lit × DataW Unit => !p.1.sameKey (.string x)) es
      omega
    · simp only [setD, he, DataW.put]
      exact ⟨_, rfl⟩
theorem of_in (X : Ex) (v : Value) (w : World) (hv : RepD w (fun b _ => b < w.heap.size) v X.dv) (hs : ∀ s ∈ X.refs, s.length ≤ 1000) (hlen : X.refs.length ≤ 1048576)
    (hchk : ∀ W, RepD W (fun b _ => b < W.heap.size) v X.dv → Calls Try.prog 59 #[v] W fun e w' => e = .returned (.int .i64 0) ∧ Below W.heap.size W w') :
    CallsIn Fence.wide 6 Try.prog 29 #[v] w fun e w' => ∃ (u : Value) (ss : List (List UInt8)), e = .returned (.tuple #[u, .int .i64 0]) ∧ ss.Perm (strKeys (revD X.refs)) ∧
      w'.ownsRow w.heap.size 9 1 u ss.length ((ss.mergeSort (fun x y => decide (x ≤ y))).map encStr) ∧ Below w.heap.size w w' := by
  have hro : Fence.wide.round = none := rfl
  have hmm := @run_makeMap Try.prog
  have hf1 : Fence.wide.fn 59 := trivial
  have hf2 : Fence.wide.fn 53 := trivial
  have hf3 : Fence.wide.fn 61 := trivial
  have hf4 : Fence.wide.fn 60 := trivial
  obtain ⟨op, vk, vn, vs, nm, args⟩ := X
  obtain ⟨A, c, fv, rfl, hc, hm, hargs⟩ := repd_node hv
  clear hargs
  generalize hX : Ex.mk op vk vn vs nm args = X at *
  generalize hx : (Value.agg #[.int .i64 op, .int .i64 vk, .int .i64 vn, .string ⟨vs.toArray⟩, .string ⟨nm.toArray⟩, .slice A args.length c] : Value) = x at *
  have hvA : RepD (w.alloc (.cells #[.int .i64 op, .int .i64 vk, .int .i64 vn, .string ⟨vs.toArray⟩, .string ⟨nm.toArray⟩, .slice A args.length c] 36)) (fun b _ => b < w.heap.size) x X.dv :=
    hv.mono (fun b o u hf hc => ⟨(((Below.refl _ w).alloc (Nat.le_refl _) _).cell (p := ⟨b, o, none⟩) hf).trans hc, hf⟩) (fun b es k hf hb => ⟨(((Below.refl _ w).alloc (Nat.le_refl _) _).block b hf).trans hb, hf⟩)
  have hck := (callsIn_wide (n := 5)).2 (hchk _ (repd_lt hvA))
  have hcell : ∀ w1, Below (w.alloc (.cells #[.int .i64 op, .int .i64 vk, .int .i64 vn, .string ⟨vs.toArray⟩, .string ⟨nm.toArray⟩, .slice A args.length c] 36)).heap.size (w.alloc (.cells #[.int .i64 op, .int .i64 vk, .int .i64 vn, .string ⟨vs.toArray⟩, .string ⟨nm.toArray⟩, .slice A args.length c] 36)) w1 →
      w1.cell? ⟨w.heap.size, 0, none⟩ = some (.int .i64 op) ∧ w1.cell? ⟨w.heap.size, 1, none⟩ = some (.int .i64 vk) ∧ w1.cell? ⟨w.heap.size, 2, none⟩ = some (.int .i64 vn) ∧ w1.cell? ⟨w.heap.size, 3, none⟩ = some (.string ⟨vs.toArray⟩) ∧
      w1.cell? ⟨w.heap.size, 4, none⟩ = some (.string ⟨nm.toArray⟩) ∧ w1.cell? ⟨w.heap.size, 5, none⟩ = some (.slice A args.length c) := fun w1 hb => by
    have h := World.alloc_heap_new w (.cells #[.int .i64 op, .int .i64 vk, .int .i64 vn, .string ⟨vs.toArray⟩, .string ⟨nm.toArray⟩, .slice A args.length c] 36)
    have h := (hb.block w.heap.size (by simp)).trans h
    refine ⟨?_, ?_, ?_, ?_, ?_, ?_⟩ <;> (unfold World.cell?; rw [h]; rfl)
  refine callsIn_of_wp_marks Try.func29 rfl trivial ?_ hro
  simp only [Try.f29, List.size_toArray, List.length_cons, List.length_nil, Nat.reduceAdd, Nat.reduceSub, Array.replicate_succ, Array.replicate_zero, List.push_toArray, List.append_toArray, List.nil_append, List.cons_append]
  subst hx
  gi_wp2_with (first
    | (gi_at_call 59; refine hck.mono ?_; rintro e w1 ⟨rfl, hb1⟩; obtain ⟨e0, e1, e2, e3, e4, e5⟩ := hcell _ hb1; have d0 := fun o o' => (grown_two w1 o o').cell e0 (by simp); have d1 := fun o o' => (grown_two w1 o o').cell e1 (by simp); have d2 := fun o o' => (grown_two w1 o o').cell e2 (by simp); have d3 := fun o o' => (grown_two w1 o o').cell e3 (by simp); have d4 := fun o o' => (grown_two w1 o o').cell e4 (by simp); have d5 := fun o o' => (grown_two w1 o o').cell e5 (by simp))
    | (gi_at_call 53; refine (refs_in trivial hro 5 _ _ _ _ _ _ _).mono ?_; rintro e w' ⟨rfl, rfl⟩))
  obtain ⟨W0, hW0⟩ : ∃ W0, (((w1.alloc (.map #[] 0)).alloc (.cells #[.map (some w1.heap.size)] 99)).alloc (.cells #[.int .i64 op, .int .i64 vk, .int .i64 vn, .string ⟨vs.toArray⟩, .string ⟨nm.toArray⟩, .slice A args.length c] 36)) = W0 := ⟨_, rfl⟩
  have hsw : w.heap.size + 1 ≤ w1.heap.size := by have := hb1.size; simpa using this
  have hs0 : W0.heap.size = w1.heap.size + 3 := by rw [← hW0]; simp
  have hB1 : Below w.heap.size w w1 := ((Below.refl _ w).alloc (Nat.le_refl _) _).trans (hb1.mono (by simp))
  have hB0 : Below w.heap.size w W0 := by rw [← hW0]; exact ((hB1.alloc (by omega) _).alloc (by simp; omega) _).alloc (by simp; omega) _
  have m0 : W0.ownsMap Try.prog 9 (plainElem Try.prog 4) w1.heap.size 0 (revD []) := by
    rw [← hW0]
    exact ((World.ownsMap_made w1 Try.prog 9 (plainElem Try.prog 4)).alloc _).alloc _
  have c1 : W0.cell? ⟨w1.heap.size + 1, 0, none⟩ = some (.map (some w1.heap.size)) := by
    have h := (new_cell (w1.alloc (.map #[] 0)) (.map (some w1.heap.size)) 99).1
    rw [World.size_alloc] at h
    rw [← hW0]
    exact (World.grownBy_alloc _ _ none).cell h (by simp)
  have cx : ∀ (j : Nat) u, (Value.agg #[.int .i64 op, .int .i64 vk, .int .i64 vn, .string ⟨vs.toArray⟩, .string ⟨nm.toArray⟩, .slice A args.length c]).cells[j]? = some u → W0.cell? ⟨w1.heap.size + 1 + 1, j, none⟩ = some u := by
    intro j u hu
    have h := World.alloc_heap_new ((w1.alloc (.map #[] 0)).alloc (.cells #[.map (some w1.heap.size)] 99)) (.cells #[.int .i64 op, .int .i64 vk, .int .i64 vn, .string ⟨vs.toArray⟩, .string ⟨nm.toArray⟩, .slice A args.length c] 36)
    rw [World.size_alloc, World.size_alloc, hW0] at h
    unfold World.cell?
    rw [h]
    exact hu
  have hv0 : RepD W0 (fun b _ => b < w.heap.size) (Value.agg #[.int .i64 op, .int .i64 vk, .int .i64 vn, .string ⟨vs.toArray⟩, .string ⟨nm.toArray⟩, .slice A args.length c]) X.dv :=
    hv.mono (fun b o u hf hc => ⟨(hB0.cell (p := ⟨b, o, none⟩) hf).trans hc, hf⟩) (fun b es k hf hb => ⟨(hB0.block b hf).trans hb, hf⟩)
  have hstr := @string_keyed Try.prog 9 Try.underlying9
  rw [hW0]
  clear hck hcell e0 e1 e2 e3 e4 e5 d0 d1 d2 d3 d4 d5 hW0 hvA hv
  refine wpIn_rangeFunc_ownH hro (by omega) (gf := 75) (lb := #[.pointer (some ⟨w1.heap.size + 1 + 1, 0, none⟩)]) rfl trivial (enters_of Try.func75 (by kernel_rfl) rfl)
    (refs_stopsG rfl trivial trivial hro 5 (n₀ := w.heap.size) X _ W0 (by omega) cx hv0 (by omega) (fun s => s.length ≤ 1000) hs) KC.trans (KC.put (by omega)) (Below.refl _ _) (fun _ => rfl)
    (fun pre W => (W.cell? ⟨w1.heap.size + 1, 0, none⟩ = some (.map (some w1.heap.size)) ∧ W.ownsMap Try.prog 9 (plainElem Try.prog 4) w1.heap.size pre.length (revD (pre.map Subtype.val))) ∧ Below w.heap.size w W)
    (fun _ _ _ => False)
    (OwnFrom.and (fun s A B row hs hg hr => ⟨cell_kept hs.1 hg (fun r e => (hr r e).2), hs.2.kept hg (fun e => by have := (hr _ e.symm).1; omega)⟩) (ownFrom_below (Nat.le_refl _) (by omega)))
    (fun _ _ _ _ _ hs _ _ => hs)
    ⟨⟨c1, m0⟩, hB0⟩
    (fun y a' _ => a' = { tmps := #[.agg #[.int .i64 op, .int .i64 vk, .int .i64 vn, .string ⟨vs.toArray⟩, .string ⟨nm.toArray⟩, .slice A args.length c], .pointer (some ⟨w.heap.size, 0, none⟩), .slice none 0 0, .int .i64 0, .int .i64 0, .pointer (some ⟨w1.heap.size + 1, 0, none⟩), .string ⟨y.1.toArray⟩, .agg #[.int .i64 op, .int .i64 vk, .int .i64 vn, .string ⟨vs.toArray⟩, .string ⟨nm.toArray⟩, .slice A args.length c], .int .i64 0, .int .i64 0, .bool false, undef, .map (some w1.heap.size), .agg #[.int .i64 op, .int .i64 vk, .int .i64 vn, .string ⟨vs.toArray⟩, .string ⟨nm.toArray⟩, .slice A args.length c], .func (.func 75) #[] #[.pointer (some ⟨w1.heap.size + 1 + 1, 0, none⟩)], .string ⟨y.1.toArray⟩, undef, undef, undef, undef, undef], defers := [] })
    (fun x a' _ _ _ _ hs _ _ => hs)
    ?assign ?body ?done ?stop
  case assign =>
    rintro l pre x W K ⟨⟨b1, b2⟩, b3⟩ hK
    gi_wp2
    exact hK _ _ (KeepsFrom.refl _ _) (KC.refl _ _) ⟨⟨b1, b2⟩, b3⟩ rfl
  case body =>
    rintro l pre x a' W hl ⟨r, hr⟩ ⟨⟨b1, b2⟩, b3⟩ rfl hlt
    have hkx := key_str x.2
    gi_wp2_with (gi_at_mapUpdate; refine wpListIn_mapUpdate_own _ rfl _ _ _ 99 rfl 9 4 hstr Try.underlying99 _ w1.heap.size _ _ rfl b2 (by simp only [maxLen]; omega) _ _ (.string x.1) rfl rfl hkx (.lit (.bool true)) [] (plainElem_bool Try.underlying4 true) ?_; intro w2 hown1 hgrow1)
    have hgK : KC w.heap.size W w2 := ⟨(Below.refl _ W).grown hgrow1 b3.size (fun k e => by cases e; omega), fun k arr te z e => (hgrow1.block k (Array.getElem?_eq_some_iff.1 e).1 (fun e' => by
      injection e' with e'
      subst e'
      obtain ⟨es, clock, hb, _⟩ := b2
      rw [hb] at e
      cases e)).trans e⟩
    refine ⟨KeepsFrom.of_grownBy hgrow1 (fun j e => by cases e; omega), hgK, ⟨hgK.cell b1, ?_⟩, b3.trans hgK.1⟩
    rw [List.map_append, List.map_cons, List.map_nil, revD_end, List.length_append]
    exact hown1
  case done =>
    rintro D ys W hD hys ⟨⟨b1, b2⟩, b3⟩ hK
    rw [hys] at b2
    have hsz := (size_set X.refs.reverse).1
    rw [List.length_reverse] at hsz
    have cS := sorted_c w1.heap.size _ (revD X.refs) (plainElem Try.prog 4) W b2 (by simp only [maxLen, revD]; omega) (by simp only [revD]; omega)
    have hDW : D < W.heap.size := (Array.getElem?_eq_some_iff.1 hK).1
    gi_wp2_with (first
      | (gi_at_call 61; refine (keys_c _ _).mono ?_; rintro e w' ⟨rfl, rfl⟩)
      | (gi_at_call 60; refine cS.mono ?_; rintro e w' ⟨u, ss, rfl, hS, hrow, hnil, hb⟩))
    have hK' : w'.heap[D]? = some (.deferred (some [])) := (hb.block D (by simp; omega)).trans ((Below.heap_alloc _ _ D hDW).trans hK)
    refine ⟨by simp, .inl ⟨_, _, rfl, run_takeDeferred hK', ?_⟩⟩
    refine ⟨.tuple #[u, .int .i64 0], ?_, u, ss, rfl, hS, ?_, ?_⟩
    · simp [results, Try.f29, go_sem]
    · refine ⟨hrow.1, hrow.2.imp id ?_⟩
      rintro ⟨g, cap, cur, r1, r2, r3, r4⟩
      have hgD : D ≠ g := by simp at r2; omega
      exact ⟨g, cap, cur, r1, by simp at r2; have := b3.size; omega, ((grownBy_putObj' w' D (.deferred none)).block g (Array.getElem?_eq_some_iff.1 r3).1 (fun e => hgD (by injection e with e; exact e.symm))).trans r3, r4⟩
    · exact ((b3.alloc b3.size _).trans (hb.mono (by have := b3.size; simp; omega))).trans (belowK_b (w := w) (Nat.le_refl _) w' D _ _ (by omega) hK' rfl rfl)
  case stop =>
    rintro D c pre W _ _ h _
    exact h.elim
end Go.Proofs.Ytfcfifohflgboaa.Am
