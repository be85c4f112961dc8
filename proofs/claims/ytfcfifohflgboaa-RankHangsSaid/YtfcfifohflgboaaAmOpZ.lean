/- Every operation that the evaluator carries out. -/
import Derived.Test.YtfcfifohflgboaaAmOpen
set_option linter.unusedVariables false
set_option linter.unusedSimpArgs false
namespace Go.Proofs.Ytfcfifohflgboaa.Am
open Go Go.RowKit

def PrimOk (P : Program) (T : Tab) : Prop := ∀ f p, T.prim f = some p → (∃ F, T.fn f = some F) ∧ ∀ ds r H1, p ds = some (r, H1) → ∀ (fz0 : Nat → Nat → Prop) (w : World) (vs : Array Value), vs.size = ds.length →
  (∀ (i : Nat) y, ds[i]? = some y → ∃ v, vs[i]? = some v ∧ RepD w fz0 v y) →
  Calls P f vs w fun e w' => ∃ v G1 U1, e = .returned v ∧ Below w.heap.size w w' ∧ HeapRel ⟨w.heap.size, fz0, fun _ _ => False, fun _ => False⟩ w' G1 H1 U1 ∧
    Rep ⟨w.heap.size, fz0, fun _ _ => False, fun _ => False⟩ w' G1 H1 U1 v r

def RunsOk (P : Program) (T : Tab) (f : Nat) (args : List AV) (H : Heap) (p : List Nat) (r : AV) (H' : Heap) : Prop := (∃ F, T.fn f = some F) ∧ ∀ (C : Ctx) (w : World) (G : Gh) (U : Id → Prop) (vs : Array Value), HeapRel C w G H U → Fr U p → vs.size = args.length →
  (∀ (i : Nat) x, args[i]? = some x → ∃ v, vs[i]? = some v ∧ Rep C w G H U v x) →
  Calls P f vs w fun e w' => ∃ v G' U', e = .returned v ∧ Ext C w G H U w' G' H' U' ∧ HeapRel C w' G' H' U' ∧ Rep C w' G' H' U' v r ∧ ∀ i, U' i → U i ∨ p <:+ i.g
def CallOk (P : Program) (T : Tab) (call : Call) : Prop := ∀ d f args H p r H', call d f args H p = some (r, H') → RunsOk P T f args H p r H'

section
variable {C : Ctx} {w w' : World} {G G' : Gh} {P : Program} {T : Tab} {S S' : St} {a : Act} {H : Heap} {U : Id → Prop} {call : Call}

theorem run_callFunc (ok : T.Ok P) {f : Nat} (hf : ∃ F, T.fn f = some F) (args : Array Value) : (callFunc f args).run P w = .ok (.enter f args) w := by
  obtain ⟨F, hF⟩ := hf
  obtain ⟨h1, h2, c, h3, _⟩ := ok.fn f F hF
  have h2' : ¬ F.name = "runtime.NumGoroutine" := by simpa using h2
  simp [callFunc, h1, h2', h3]

theorem sub_addIds : ∀ (m l : List Id) i, i ∈ l → i ∈ addIds l m
  | [], l, i, h => h
  | j :: r, l, i, h => by
    unfold addIds
    split
    · exact sub_addIds r l i h
    · exact sub_addIds r _ i (List.mem_append_left _ h)
theorem mem_addIds : ∀ (m l : List Id) i, i ∈ m → i ∈ addIds l m
  | [], l, i, h => by cases h
  | j :: r, l, i, h => by
    unfold addIds
    rcases List.mem_cons.1 h with rfl | h
    · split
      · rename_i hc
        exact sub_addIds r l i (by simpa using hc)
      · exact sub_addIds r _ i (by simp)
    · split
      · exact mem_addIds r l i h
      · exact mem_addIds r _ i h
theorem sub_reach (H : Heap) : ∀ (k : Nat) (l : List Id) i, i ∈ l → i ∈ reach H k l
  | 0, l, i, h => h
  | k + 1, l, i, h => by
    unfold reach
    split
    · exact h
    · exact sub_reach H k _ i (sub_addIds _ _ _ h)

theorem Keep.below_inner {G0 : Gh} {H0 : Heap} (h : Keep (inner C w G0 H0) w w') : Below w.heap.size w w' :=
  ⟨h.os, h.tape, h.output, h.size, fun k hk => h.block k (.inl hk)⟩

theorem softV_ok {v : Value} {x : AV} (h : Rep C w G H U v x) : Rep C w G H U v (softV x) := by
  unfold softV
  cases hd : toD x with
  | none => exact h
  | some y => exact .d _ _ (toD_ok h hd)
theorem softV_noTup {x : AV} (h : noTup x = true) : noTup (softV x) = true := by
  unfold softV
  split
  · rfl
  · exact h
theorem soft_ok {v : Value} {f : Nat} {x : AV} (h : Rep C w G H U v x) : Rep C w G H U v (soft T f x) := by
  unfold soft
  split
  · exact h
  · split
    · rename_i xs
      cases h with
      | tup vs _ hl hf hh =>
        refine .tup vs _ (by simp; omega) (fun i y hy => ?_) (fun i u y hu hy => ?_)
        · simp only [List.getElem?_map, Option.map_eq_some_iff] at hy
          obtain ⟨z, hz, rfl⟩ := hy
          exact softV_noTup (hf i z hz)
        · simp only [List.getElem?_map, Option.map_eq_some_iff] at hy
          obtain ⟨z, hz, rfl⟩ := hy
          exact softV_ok (hh i u z hu hz)
    · exact softV_ok h

theorem callO_ok (ok : T.Ok P) (hp : PrimOk P T) (hc : CallOk P T call) (hr : HeapRel C w G S.H U) (hfr : Fr U S.g) {d dst f : Nat} {args : List AV} {x : AV} (h : callO T call d dst f args S = some (x, S')) {vs : Array Value} (hl : vs.size = args.length)
    (hv : ∀ (i : Nat) x, args[i]? = some x → ∃ v, vs[i]? = some v ∧ Rep C w G S.H U v x) :
    (∃ F, T.fn f = some F) ∧ Calls P f vs w fun e w' => ∃ v, e = .returned v ∧ Taken C w G U S w' v x S' := by
  unfold callO at h
  split at h
  · rename_i ds hds
    have hds : toDs args = some ds := by
      split at hds
      · cases hds
      · exact hds
    obtain ⟨h1, h2⟩ := toDs_ok args ds hds
    have hvd : ∀ (i : Nat) y, ds[i]? = some y → ∃ v, vs[i]? = some v ∧ RepD w (Fz C G S.H) v y := fun i y hy => by
      obtain ⟨q, h3, h4⟩ := h2 i y hy
      obtain ⟨v, h5, h6⟩ := hv i q h3
      exact ⟨v, h5, toD_ok h6 h4⟩
    split at h
    · rename_i p hpf
      split at h
      · rename_i r H1 hpr
        obtain ⟨h3, h4⟩ := hp f p hpf
        refine ⟨h3, (h4 ds r H1 hpr (Fz C G S.H) w vs (by omega) hvd).mono fun e w' ⟨v, G1, U1, he, hb, hr1, hrep⟩ => ⟨v, he, ?_⟩⟩
        exact adopt_ok hr hfr hb hr1 hrep h
      · cases h
    · split at h
      · rename_i r H1 hcall
        obtain ⟨h3, h4⟩ := hc 0 f (ds.map .d) [] [] r H1 hcall
        refine ⟨h3, (h4 (inner C w G S.H) w (fun _ => none) (fun _ => False) vs (inner_start hr) (fun i h _ => h) (by simp; omega) (fun i q hq => ?_)).mono fun e w' ⟨v, G1, U1, he, hext, hr1, hrep, _⟩ => ⟨v, he, ?_⟩⟩
        · simp only [List.getElem?_map, Option.map_eq_some_iff] at hq
          obtain ⟨y, hy, rfl⟩ := hq
          obtain ⟨v, h5, h6⟩ := hvd i y hy
          exact ⟨v, h5, inner_rep h6⟩
        · exact adopt_ok hr hfr hext.keep.below_inner hr1 hrep h
      · cases h
  · simp only at h
    split at h
    · rename_i hcl
      split at h
      · rename_i r H1 hcall
        simp only [Option.some.injEq, Prod.mk.injEq] at h
        obtain ⟨rfl, rfl⟩ := h
        generalize hR : reach S.H 8 (addIds [] (idsL args)) = R at hcl hcall ⊢
        have hcl' : ∀ i ∈ idsH (within R S.H), i ∈ R := fun i hi => by simpa using List.all_eq_true.1 hcl i hi
        obtain ⟨h3, h4⟩ := hc (d + 1) f args _ _ r H1 hcall
        refine ⟨h3, (h4 (part C G S.H R) w G (partU U S.H R) vs (part_heap hr hcl') (hfr.sub (List.suffix_cons 0 S.g) fun i hi => hi.1) hl (fun i x hx => ?_)).mono fun e w' ⟨v, G1, U1, he, hext, hr1, hrep, hnew⟩ => ⟨v, he, ?_⟩⟩
        · obtain ⟨v, h5, h6⟩ := hv i x hx
          refine ⟨v, h5, part_rep h6 fun j hj => ?_⟩
          rw [← hR]
          exact sub_reach _ _ _ _ (mem_addIds _ _ _ (List.mem_flatMap.2 ⟨x, List.mem_of_getElem? hx, hj⟩))
        · have hsub : ∀ id q, Heap.get ((within (reach H1 8 (addIds R (idsA (soft T f r)))) H1).filter fun e => R.contains e.1 || sfx (0 :: S.g) e.1.g) id = some q → H1.get id = some q := fun id q hq => by
            rw [get_filter (fun i => R.contains i || sfx (0 :: S.g) i.g)] at hq
            split at hq
            case isFalse => cases hq
            rw [get_within] at hq
            split at hq
            · exact hq
            · cases hq
          have ed := Ext.drop (C := part C G S.H R) (w := w') (G := G1) (U := U1) (U' := U1) hsub (fun _ h => h)
          obtain ⟨G2, U2, k1, k2, k3, k4, k5⟩ := open_ok hr hfr (hext.trans ed) (hr1.drop hsub fun _ h => h) hnew (soft_ok (hrep.ext ed))
          exact ⟨G2, U2, k1, k2, ⟨rfl, k4, k5⟩, k3⟩
      · cases h
    · cases h
theorem callA_ok (ok : T.Ok P) (hp : PrimOk P T) (hc : CallOk P T call) (hr : HeapRel C w G S.H U) (hfr : Fr U S.g) {d dst f : Nat} {args : List AV} {x : AV} (h : callA T call d dst f args S = some (x, S')) {vs : Array Value} (hl : vs.size = args.length)
    (hv : ∀ (i : Nat) x, args[i]? = some x → ∃ v, vs[i]? = some v ∧ Rep C w G S.H U v x) :
    (∃ F, T.fn f = some F) ∧ Calls P f vs w fun e w' => ∃ v, e = .returned v ∧ Taken C w G U S w' v x S' := by
  unfold callA at h
  split at h
  · rename_i ds hds
    have hds : toDs (args.map (frzB S.H)) = some ds := by
      unfold lentA at hds
      split at hds
      · split at hds
        · cases hds
        · exact hds
      · cases hds
    obtain ⟨h1, h2⟩ := toDs_ok _ ds hds
    simp only [List.length_map] at h1
    split at h
    · rename_i r H1 hcall
      obtain ⟨h3, h4⟩ := hc 0 f (ds.map .d) [] [] r H1 hcall
      refine ⟨h3, (h4 (inner C w G []) w (fun _ => none) (fun _ => False) vs (inner_start hr.none) (fun i h _ => h) (by simp; omega) (fun i q hq => ?_)).mono fun e w' ⟨v, G1, U1, he, hext, hr1, hrep, _⟩ => ⟨v, he, ?_⟩⟩
      · simp only [List.getElem?_map, Option.map_eq_some_iff] at hq
        obtain ⟨y, hy, rfl⟩ := hq
        obtain ⟨q, h5, h6⟩ := h2 i y hy
        simp only [List.getElem?_map, Option.map_eq_some_iff] at h5
        obtain ⟨q, h5, rfl⟩ := h5
        obtain ⟨v, h7, h8⟩ := hv i q h5
        exact ⟨v, h7, inner_rep (toD_ok (frzB_ok hr h8) h6)⟩
      · exact adoptF_ok hr hfr hext.keep.below_inner hr1 hrep h
    · cases h
  · exact callO_ok ok hp hc hr hfr h hl hv

def OpOk (C : Ctx) (P : Program) (w : World) (G : Gh) (U : Id → Prop) (S : St) (r : Result Next) (x : Option AV) (S' : St) : Prop :=
  Good C P w G U S r x S' ∨ ∃ f vs y, x = some y ∧ r = .ok (.enter f vs) w ∧ Calls P f vs w fun e w' => ∃ v, e = .returned v ∧ Taken C w G U S w' v y S'

theorem call_ok (ok : T.Ok P) (hp : PrimOk P T) (hc : CallOk P T call) (hs : Sim C w G U S a) {d dst : Nat} {o : Oper} {f0 : Operand} {args : Array Operand} {ts : Array Nat} (ho : o.op = .call { callee := .value f0, args := args, argTypes := ts })
    {xs : List AV} (hxs : evs T S args.toList ts.toList = some xs) {f : Nat} {caps : List AV} {q : AV} (hf : ev T S 0 f0 = some q) (hq : q = .fn f caps ∨ ∃ ds, q = .d (.fn f ds) ∧ caps = ds.map .d) {x : AV}
    (h : callA T call d dst f (xs ++ caps) S = some (x, S')) : OpOk C P w G U S ((execOp a.eval o).run P w) (some x) S' := by
  obtain ⟨h1, h2⟩ := evs_ok ok hs _ _ _ hxs
  have hrf := ev_ok ok hs hf
  obtain ⟨us, he, hul, huc⟩ : ∃ us : Array Value, a.eval f0 = .func (.func f) #[] us ∧ us.size = caps.length ∧ ∀ (i : Nat) x, caps[i]? = some x → ∃ v, us[i]? = some v ∧ Rep C w G S.H U v x := by
    generalize a.eval f0 = u0 at hrf
    rcases hq with rfl | ⟨ds, rfl, rfl⟩
    · cases hrf with
      | fn f vs cs hl hf h =>
        refine ⟨vs, rfl, hl, fun i x hx => ?_⟩
        have hi : i < vs.size := by
          have := (List.getElem?_eq_some_iff.1 hx).1
          omega
        exact ⟨vs[i], Array.getElem?_eq_getElem hi, h i _ x (Array.getElem?_eq_getElem hi) hx⟩
    · cases hrf.dinv with
      | fn f vs cs hl hf h =>
        refine ⟨vs, rfl, by simpa using hl, fun i x hx => ?_⟩
        simp only [List.getElem?_map, Option.map_eq_some_iff] at hx
        obtain ⟨y, hy, rfl⟩ := hx
        have hi : i < vs.size := by
          have := (List.getElem?_eq_some_iff.1 hy).1
          omega
        exact ⟨vs[i], Array.getElem?_eq_getElem hi, .d _ _ (h i _ y (Array.getElem?_eq_getElem hi) hy)⟩
  have hl2 : (args.map a.eval ++ us).size = (xs ++ caps).length := by simp at h1 ⊢; omega
  obtain ⟨h3, h4⟩ := callA_ok ok hp hc hs.heap hs.fr h hl2 (fun i x hx => by
    by_cases hi : i < xs.length
    · rw [List.getElem?_append_left hi] at hx
      have hia : i < args.size := by simp at h1; omega
      obtain ⟨x', h5, h6⟩ := h2 i args[i] (by simp [hia])
      rw [hx] at h5
      injection h5 with h5
      subst h5
      exact ⟨_, by rw [Array.getElem?_append_left (by simpa using hia)]; simp [hia], h6⟩
    · rw [List.getElem?_append_right (by omega)] at hx
      obtain ⟨v, h5, h6⟩ := huc _ x hx
      simp at h1
      exact ⟨v, by rw [Array.getElem?_append_right (by simp; omega)]; simpa [← h1] using h5, h6⟩)
  refine .inr ⟨f, _, x, rfl, ?_, h4⟩
  simp [execOp, ho, resolve, he, Deferred.ofValue, invoke, run_callFunc ok h3]

theorem builtin_ok (ok : T.Ok P) (hs : Sim C w G U S a) {d dst : Nat} {o : Oper} {b : Builtin} {args : Array Operand} {ts : Array Nat} (ho : o.op = .call { callee := .builtin b, args := args, argTypes := ts }) {xs : List AV}
    (hsz : (args.map a.eval).size = xs.length) (hv : ∀ (i : Nat) x, xs[i]? = some x → ∃ v, (args.map a.eval)[i]? = some v ∧ Rep C w G S.H U v x) {x : Option AV}
    (h : (match builtinA T d dst S b ts.toList xs with | some (y, S1) => some (some y, S1) | none => none) = some (x, S')) : Good C P w G U S ((execOp a.eval o).run P w) x S' := by
  have hrun : (execOp a.eval o).run P w = (builtin b ts o.type (args.map fun | .const _ => true | _ => false) (args.map a.eval)).run P w := by
    simp [execOp, ho, resolve, invoke]
    rfl
  generalize args.map a.eval = vs at hsz hv hrun
  rw [hrun]
  cases hb : builtinA T d dst S b ts.toList xs with
  | none => rw [hb] at h; cases h
  | some q =>
    obtain ⟨y, S1⟩ := q
    rw [hb] at h
    injection h with h
    injection h with h1 h2
    subst h1; subst h2
    unfold builtinA at hb
    split at hb
    · rename_i x'
      split at hb
      · rename_i t hts
        split at hb
        · rename_i n hn
          injection hb with hb
          injection hb with h1 h2
          subst h1; subst h2
          obtain ⟨v, h3, h4⟩ := hv 0 x' rfl
          have hvs : vs = #[v] := by
            have : vs.size = 1 := hsz
            apply Array.ext
            · simpa using this
            · intro i hi hi'
              have : i = 0 := by omega
              subst this
              have := (Array.getElem?_eq_some_iff.1 h3).2
              simpa using this
          have hts' : ts = #[t] := by rw [← Array.toArray_toList (xs := ts), hts]
          subst hvs
          subst hts'
          exact Good.quiet hs (v := .int .i64 n) (by simp [builtin, len_ok ok h4 hn]) (.d _ _ (.int _ _))
        · cases hb
      · cases hb
    · split at hb
      · rename_i r hr
        injection hb with hb
        injection hb with h1 h2
        subst h1; subst h2
        match xs, hr with
        | [p, q], hr =>
          obtain ⟨u, h3, h4⟩ := hv 0 p rfl
          obtain ⟨v, h5, h6⟩ := hv 1 q rfl
          have hvs : vs = #[u, v] := by
            have h7 : vs.size = 2 := hsz
            apply Array.ext
            · simpa using h7
            · intro i hi hi'
              have : i = 0 ∨ i = 1 := by omega
              rcases this with rfl | rfl
              · simpa using (Array.getElem?_eq_some_iff.1 h3).2
              · simpa using (Array.getElem?_eq_some_iff.1 h5).2
          subst hvs
          obtain ⟨k, n, rfl, h8⟩ := minMax_ok (P := P) (w := w) hr h4 h6 ts o.type
          simp only [Bool.false_eq_true, if_false] at h8
          exact Good.quiet hs (v := .int k n) (by simp [builtin, h8]) (.d _ _ (.int _ _))
        | [], hr | [_], hr | _ :: _ :: _ :: _, hr => simp [minMax] at hr
      · cases hb
    · split at hb
      · rename_i r hr
        injection hb with hb
        injection hb with h1 h2
        subst h1; subst h2
        match xs, hr with
        | [p, q], hr =>
          obtain ⟨u, h3, h4⟩ := hv 0 p rfl
          obtain ⟨v, h5, h6⟩ := hv 1 q rfl
          have hvs : vs = #[u, v] := by
            have h7 : vs.size = 2 := hsz
            apply Array.ext
            · simpa using h7
            · intro i hi hi'
              have : i = 0 ∨ i = 1 := by omega
              rcases this with rfl | rfl
              · simpa using (Array.getElem?_eq_some_iff.1 h3).2
              · simpa using (Array.getElem?_eq_some_iff.1 h5).2
          subst hvs
          obtain ⟨k, n, rfl, h8⟩ := minMax_ok (P := P) (w := w) hr h4 h6 ts o.type
          simp only [if_true] at h8
          exact Good.quiet hs (v := .int k n) (by simp [builtin, h8]) (.d _ _ (.int _ _))
        | [], hr | [_], hr | _ :: _ :: _ :: _, hr => simp [minMax] at hr
      · cases hb
    · rename_i p q
      obtain ⟨u, h3, h4⟩ := hv 0 p rfl
      obtain ⟨v, h5, h6⟩ := hv 1 q rfl
      have hvs : vs = #[u, v] := by
        have h7 : vs.size = 2 := hsz
        apply Array.ext
        · simpa using h7
        · intro i hi hi'
          have : i = 0 ∨ i = 1 := by omega
          rcases this with rfl | rfl
          · simpa using (Array.getElem?_eq_some_iff.1 h3).2
          · simpa using (Array.getElem?_eq_some_iff.1 h5).2
      subst hvs
      obtain ⟨r, w1, G1, U1, h7, h8, h9, h10, h11⟩ := appendAll_ok ok hs.heap hs.fr h4 h6 hb o.type
      exact ⟨.value r, w1, G1, U1, by rw [← Array.toArray_toList (xs := ts)]; simp [builtin]; simp only [Array.toArray_toList] at h7 ⊢; rw [h7]; rfl, h8, h9, h10, h11⟩
    · rename_i p q
      obtain ⟨u, h3, h4⟩ := hv 0 p rfl
      obtain ⟨v, h5, h6⟩ := hv 1 q rfl
      have hvs : vs = #[u, v] := by
        have h7 : vs.size = 2 := hsz
        apply Array.ext
        · simpa using h7
        · intro i hi hi'
          have : i = 0 ∨ i = 1 := by omega
          rcases this with rfl | rfl
          · simpa using (Array.getElem?_eq_some_iff.1 h3).2
          · simpa using (Array.getElem?_eq_some_iff.1 h5).2
      subst hvs
      obtain ⟨r, w1, G1, U1, h7, h8, h9, h10, h11⟩ := good_copyA ok hs h4 h6 hb o.type
      exact ⟨.value r, w1, G1, U1, by rw [← Array.toArray_toList (xs := ts)]; simp [builtin]; simp only [Array.toArray_toList] at h7 ⊢; rw [h7]; rfl, h8, h9, h10, h11⟩
    · rename_i p
      obtain ⟨u, h3, h4⟩ := hv 0 p rfl
      have hvs : vs = #[u] := by
        have h7 : vs.size = 1 := hsz
        apply Array.ext
        · simpa using h7
        · intro i hi hi'
          have : i = 0 := by omega
          subst this
          simpa using (Array.getElem?_eq_some_iff.1 h3).2
      subst hvs
      obtain ⟨r, w1, G1, U1, h7, h8, h9, h10, h11⟩ := good_clearA ok hs h4 hb o.type
      exact ⟨.value r, w1, G1, U1, by rw [← Array.toArray_toList (xs := ts)]; simp [builtin]; simp only [Array.toArray_toList] at h7 ⊢; rw [h7]; rfl, h8, h9, h10, h11⟩
    · rename_i p
      obtain ⟨u, h3, h4⟩ := hv 0 p rfl
      have hvs : vs = #[u] := by
        have h7 : vs.size = 1 := hsz
        apply Array.ext
        · simpa using h7
        · intro i hi hi'
          have : i = 0 := by omega
          subst this
          simpa using (Array.getElem?_eq_some_iff.1 h3).2
      subst hvs
      obtain ⟨r, w1, G1, U1, h7, h8, h9, h10, h11⟩ := good_capA ok hs h4 hb o.type
      exact ⟨.value r, w1, G1, U1, by rw [← Array.toArray_toList (xs := ts)]; simp [builtin]; simp only [Array.toArray_toList] at h7 ⊢; rw [h7]; rfl, h8, h9, h10, h11⟩
    · cases hb

theorem v_inv {S : St} {x : Option AV} {r : Option AV × St} (h : (match x with | some y => some (some y, S) | none => none) = some r) : ∃ y, x = some y ∧ r = (some y, S) := by
  cases x with
  | none => cases h
  | some y => injection h with h; exact ⟨y, rfl, h.symm⟩

theorem opA_ok (ok : T.Ok P) (hp : PrimOk P T) (hc : CallOk P T call) (hs : Sim C w G U S a) {d : Nat} {o : Oper} {x : Option AV} (h : opA T call d o S = some (x, S')) : OpOk C P w G U S ((execOp a.eval o).run P w) x S' := by
  unfold opA at h
  cases ho : o.op with
  | move y =>
    simp only [ho] at h
    obtain ⟨z, h1, h2⟩ := v_inv h
    injection h2 with h2 h3; subst h2; subst h3
    exact .inl (good_move ok hs (.inl ho) h1)
  | assign y =>
    simp only [ho] at h
    obtain ⟨z, h1, h2⟩ := v_inv h
    injection h2 with h2 h3; subst h2; subst h3
    exact .inl (good_move ok hs (.inr ho) h1)
  | pick c y z =>
    simp only [ho] at h
    split at h
    · rename_i t hct
      split at h
      · rename_i ht
        obtain ⟨q, h1, h2⟩ := v_inv h
        injection h2 with h2 h3; subst h2; subst h3
        subst ht
        exact .inl (good_pick ok hs ho hct (by simpa using h1))
      · rename_i ht
        obtain ⟨q, h1, h2⟩ := v_inv h
        injection h2 with h2 h3; subst h2; subst h3
        have ht : t = false := by simpa using ht
        subst ht
        exact .inl (good_pick ok hs ho hct (by simpa using h1))
    · cases h
  | alloc e =>
    simp only [ho] at h
    split at h
    · rename_i n b z hz
      injection h with h
      injection h with h1 h2
      subst h1; subst h2
      exact .inl (good_alloc ok hs ho hz d _)
    · cases h
  | box e y =>
    simp only [ho] at h
    split at h
    · rename_i n z hn hz
      split at h
      · rename_i hcond
        split at h
        · split at h
          · rename_i ds hds
            injection h with h
            injection h with h1 h2
            subst h1; subst h2
            exact .inl (good_boxRo ok hs ho hz (noTup_ne hcond.1) hds)
          · cases h
        injection h with h
        injection h with h1 h2
        subst h1; subst h2
        exact .inl (good_box ok hs ho hz (noTup_ne hcond.1) d _)
      · cases h
    · cases h
  | build t parts =>
    simp only [ho] at h
    split at h
    · rename_i n b z ps hz hps
      split at h
      · rename_i hn
        obtain ⟨q, h1, h2⟩ := v_inv h
        injection h2 with h2 h3; subst h2; subst h3
        simp only [Option.map_eq_some_iff] at h1
        obtain ⟨cs, h3, rfl⟩ := h1
        exact .inl (good_build ok hs ho hz hps hn h3)
      · cases h
    · cases h
  | buildSlice t len parts =>
    simp only [ho] at h
    split at h
    · rename_i e hu
      split at h
      · rename_i n b z ps hz hps
        split at h
        · rename_i h0
          injection h with h
          injection h with h1 h2
          subst h1; subst h2
          exact .inl (good_buildSlice0 ok hs ho hu hz h0.1 h0.2)
        split at h
        · rename_i hcond
          split at h
          · rename_i cs hcs
            split at h
            · rename_i ds hds
              injection h with h
              injection h with h1 h2
              subst h1; subst h2
              exact .inl (good_buildSlice ok hs ho hu hz hps hcond.2.2.2 hcond.1 hcond.2.1 hcond.2.2.1 hcs hds)
            · cases h
          · cases h
        · cases h
      · cases h
    · cases h
  | load t y =>
    simp only [ho] at h
    split at h
    · rename_i p hp'
      split at h
      · rename_i cs hcs
        obtain ⟨q, h1, h2⟩ := v_inv h
        injection h2 with h2 h3; subst h2; subst h3
        exact .inl (good_load ok hs ho hp' hcs h1)
      · cases h
    · cases h
  | store t y z =>
    simp only [ho] at h
    split at h
    · rename_i id off x' n hy hz hn
      split at h
      · rename_i cs hcs
        split at h
        · rename_i hcond
          injection h with h
          injection h with h1 h2
          subst h1; subst h2
          exact .inl (good_store ok hs ho hy hz (noTup_ne hcond.1) hn hcs hcond.2.1 hcond.2.2)
        · cases h
      · cases h
    · cases h
  | nilCheck y =>
    simp only [ho] at h
    split at h
    · rename_i id off hy
      split at h
      · rename_i cs hcs
        injection h with h
        injection h with h1 h2
        subst h1; subst h2
        exact .inl (good_nilCheck_ptr ok hs ho hy hcs)
      · cases h
    · rename_i cs hy
      injection h with h
      injection h with h1 h2
      subst h1; subst h2
      exact .inl (good_nilCheck_rp ok hs ho hy)
    · cases h
  | fieldAddr t y i =>
    simp only [ho] at h
    split at h
    · rename_i id off fs hy hfs
      split at h
      · rename_i f cs hf hcs
        split at h
        · rename_i n hn
          split at h
          · cases h
          · rename_i h0
            injection h with h
            injection h with h1 h2
            subst h1; subst h2
            exact .inl (good_fieldAddr_ptr ok hs ho hfs hf hn h0 hy hcs)
        · cases h
      · cases h
    · rename_i cs fs hy hfs
      split at h
      · rename_i f hf
        split at h
        · rename_i n hn
          split at h
          · cases h
          · rename_i h0
            injection h with h
            injection h with h1 h2
            subst h1; subst h2
            exact .inl (good_fieldAddr_rp ok hs ho hfs hf hn h0 hy)
        · cases h
      · cases h
    · cases h
  | indexAddr t y z =>
    simp only [ho] at h
    split at h
    · rename_i e p k i hu hy hz
      split at h
      · rename_i id off n sz
        split at h
        · rename_i cs hcs
          split at h
          · rename_i hcond
            injection h with h
            injection h with h1 h2
            subst h1; subst h2
            exact .inl (good_indexAddr_arr ok hs ho hu hcond.2.2 hy hz hcond.1 hcond.2.1 hcs)
          · cases h
        · cases h
      · split at h
        · rename_i sz xs hxs
          split at h
          · rename_i hcond
            split at h
            · rename_i u hu'
              injection h with h
              injection h with h1 h2
              subst h1; subst h2
              exact .inl (good_indexAddr_sl ok hs ho hu hcond.2 hy hxs hz hcond.1 hu')
            · cases h
          · cases h
        · cases h
    · rename_i n e p k i hu hy hz
      split at h
      · rename_i sz hsz
        split at h
        · rename_i hcond
          split at h
          · rename_i id off
            split at h
            · rename_i cs hcs
              injection h with h
              injection h with h1 h2
              subst h1; subst h2
              exact .inl (good_indexAddr_ptr ok hs ho hu hsz hy hz hcond.1 hcond.2 hcs)
            · cases h
          · rename_i cs
            injection h with h
            injection h with h1 h2
            subst h1; subst h2
            exact .inl (good_indexAddr_rp ok hs ho hu hsz hy hz hcond.1 hcond.2)
          · cases h
        · cases h
      · cases h
    · cases h
  | index t y z =>
    simp only [ho] at h
    split at h
    · rename_i s k i hu hy hz
      split at h
      · rename_i h0
        split at h
        · rename_i b hb
          injection h with h
          injection h with h1 h2
          subst h1; subst h2
          exact .inl (good_index_str ok hs ho hu hy hz h0 hb)
        · cases h
      · cases h
    · rename_i n e p k i hu hy hz
      split at h
      · rename_i sz hsz
        split at h
        · rename_i cs hcs
          split at h
          · rename_i hcond
            obtain ⟨q, h1, h2⟩ := v_inv h
            injection h2 with h2 h3; subst h2; subst h3
            exact .inl (good_index_agg ok hs ho hu hsz hy hcs hz hcond.1 hcond.2 h1)
          · cases h
        · cases h
      · cases h
    · cases h
  | field t y i =>
    simp only [ho] at h
    split at h
    · rename_i p fs hy hfs
      split at h
      · rename_i f cs hf hcs
        obtain ⟨q, h1, h2⟩ := v_inv h
        injection h2 with h2 h3; subst h2; subst h3
        exact .inl (good_field ok hs ho hfs hf hy hcs h1)
      · cases h
    · cases h
  | binOp op t y z t' =>
    simp only [ho] at h
    by_cases hn : isNilC op z = true
    · rw [if_pos hn] at h
      split at h
      · rename_i e p hu hy
        obtain ⟨r, h1, h2⟩ := v_inv h
        injection h2 with h2 h3; subst h2; subst h3
        simp only [Option.map_eq_some_iff] at h1
        obtain ⟨b, h3, rfl⟩ := h1
        exact .inl (good_nilCmp ok hs ho hn hu hy h3)
      · cases h
    rw [if_neg hn] at h
    split at h
    · rename_i p q hy hz
      obtain ⟨r, h1, h2⟩ := v_inv h
      injection h2 with h2 h3; subst h2; subst h3
      simp only [Option.map_eq_some_iff] at h1
      obtain ⟨b, h3, rfl⟩ := h1
      exact .inl (good_binOp ok hs ho hy hz h3)
    · cases h
  | unOp op t y =>
    simp only [ho] at h
    split at h
    · rename_i k n hy
      injection h with h
      injection h with h1 h2
      subst h1; subst h2
      exact .inl (good_neg ok hs ho hy)
    · rename_i b hy
      injection h with h
      injection h with h1 h2
      subst h1; subst h2
      exact .inl (good_not ok hs ho hy)
    · cases h
  | convert s t y =>
    simp only [ho] at h
    split at h
    · rename_i j k k' n hs1 ht hy
      injection h with h
      injection h with h1 h2
      subst h1; subst h2
      exact .inl (good_convInt ok hs ho hs1 ht hy)
    · rename_i x' hs1 ht hy
      injection h with h
      injection h with h1 h2
      subst h1; subst h2
      exact .inl (good_convStr ok hs ho hs1 ht hy)
    · rename_i hs1 ht hy
      split at h
      · rename_i hq
        injection h with h
        injection h with h1 h2
        subst h1; subst h2
        exact .inl (good_convBytes ok hs ho hs1 ht d _ hy hq)
      · cases h
    · rename_i hs1 ht hy
      split at h
      · rename_i hq
        injection h with h
        injection h with h1 h2
        subst h1; subst h2
        exact .inl (good_convBack ok hs ho hs1 ht hy hq)
      · cases h
    · cases h
  | makeSlice t y z =>
    simp only [ho] at h
    split at h
    · rename_i hy hz
      split at h
      · rename_i hq
        injection h with h
        injection h with h1 h2
        subst h1; subst h2
        exact .inl (good_make ok hs ho hy hz d _ hq)
      · cases h
    · cases h
  | makeFunc fn first caps =>
    simp only [ho] at h
    cases fn with
    | func f =>
      simp only at h
      split at h
      · rename_i h0
        split at h
        · rename_i cs hcs
          split at h
          · rename_i hl
            injection h with h
            injection h with h1 h2
            subst h1; subst h2
            exact .inl (good_makeFunc ok hs ho h0 hcs (fun i x hx => List.all_eq_true.1 hl x (List.mem_of_getElem? hx)))
          · cases h
        · cases h
      · cases h
    | _ => cases h
  | slice t y lo hi mx =>
    simp only [ho] at h
    split at h
    · rename_i l u s hl hh hy hu
      split at h
      · rename_i i j hb
        injection h with h
        injection h with h1 h2
        subst h1; subst h2
        exact .inl (good_slice_str ok hs ho hu hy hl hh hb)
      · cases h
    · rename_i hl hh hy hu
      split at h
      · rename_i cs hid
        split at h
        · rename_i hsz
          obtain ⟨r, h1, h2⟩ := v_inv h
          injection h2 with h2 h3; subst h2; subst h3
          exact .inl (good_cutB ok hs ho hu hy hl hh hid hsz h1)
        · cases h
      · cases h
    · rename_i hl hh hy hu
      split at h
      · rename_i cs b hid hm
        split at h
        · rename_i hsz
          obtain ⟨r, h1, h2⟩ := v_inv h
          injection h2 with h2 h3; subst h2; subst h3
          exact .inl (good_cutM ok hs ho hu hy hl hh hm hid hsz h1)
        · cases h
      · cases h
    · rename_i l u p e hl hh hy hu
      split at h
      · rename_i sz xs hxs
        split at h
        · rename_i hsz
          split at h
          · rename_i i j hb
            injection h with h
            injection h with h1 h2
            subst h1; subst h2
            exact .inl (good_cutO ok hs ho hu hy hxs hsz hl hh hb _)
          · cases h
        · cases h
      · cases h
    · rename_i hl hh hy hu
      split at h
      · rename_i hm hxs
        split at h
        · rename_i hc
          obtain ⟨rfl, hsz⟩ := hc
          split at h
          · rename_i hb
            injection h with h
            injection h with h1 h2
            subst h1; subst h2
            exact .inl (good_slice_max ok hs ho hu hy hxs hsz hl hh hm hb)
          · cases h
        · cases h
      · cases h
    · cases h
  | makeMap t r =>
    cases r with
    | some r => simp [ho] at h
    | none =>
      simp only [ho] at h
      injection h with h
      injection h with h1 h2
      subst h1; subst h2
      exact .inl (good_makeMap hs ho d _)
  | lookup t y z cok =>
    simp only [ho] at h
    split at h
    · rename_i kt et m hu hm
      split at h
      · rename_i q hk
        obtain ⟨r, h1, h2⟩ := v_inv h
        injection h2 with h2 h3; subst h2; subst h3
        exact .inl (good_lookup ok hs ho hu hm hk h1)
      · cases h
    · cases h
  | mapUpdate t y z u =>
    simp only [ho] at h
    split at h
    · rename_i kt et m hu hm
      split at h
      · rename_i q x1 hk hx1
        split at h
        · rename_i S1 hS
          injection h with h
          injection h with h1 h2
          subst h1; subst h2
          exact .inl (good_update ok hs (.inl ho) hu hm hk hx1 hS)
        · cases h
      · cases h
    · cases h
  | insert t y z u =>
    simp only [ho] at h
    split at h
    · rename_i kt et m hu hm
      split at h
      · rename_i q x1 hk hx1
        split at h
        · rename_i S1 hS
          injection h with h
          injection h with h1 h2
          subst h1; subst h2
          exact .inl (good_update ok hs (.inr ho) hu hm hk hx1 hS)
        · cases h
      · cases h
    · cases h
  | extract y i =>
    simp only [ho] at h
    split at h
    · rename_i xs hy
      obtain ⟨r, h1, h2⟩ := v_inv h
      injection h2 with h2 h3; subst h2; subst h3
      exact .inl (good_extract ok hs ho hy h1)
    · cases h
  | call c =>
    obtain ⟨callee, args, ts⟩ := c
    simp only [ho] at h
    split at h
    · rename_i b xs hxs
      obtain ⟨h1, h2⟩ := evs_ok ok hs _ _ _ hxs
      have hargs : ∀ (i : Nat) x, xs[i]? = some x → ∃ v, (args.map a.eval)[i]? = some v ∧ Rep C w G S.H U v x := fun i x hx => by
        have hi : i < args.size := by
          have := (List.getElem?_eq_some_iff.1 hx).1
          simp at h1; omega
        obtain ⟨x', h5, h6⟩ := h2 i args[i] (by simp [hi])
        rw [hx] at h5
        injection h5 with h5
        subst h5
        exact ⟨_, by simp [hi], h6⟩
      have hsz : (args.map a.eval).size = xs.length := by simp at h1 ⊢; omega
      exact .inl (builtin_ok ok hs ho hsz hargs h)
    · rename_i f0 xs hxs
      split at h
      · rename_i f caps hf
        split at h
        · rename_i y S1 hca
          injection h with h
          injection h with h1 h2
          subst h1; subst h2
          exact call_ok ok hp hc hs ho hxs hf (.inr ⟨caps, rfl, rfl⟩) hca
        · cases h
      · rename_i f caps hf
        split at h
        · rename_i y S1 hca
          injection h with h
          injection h with h1 h2
          subst h1; subst h2
          exact call_ok ok hp hc hs ho hxs hf (.inl rfl) hca
        · cases h
      · cases h
    · cases h
  | _ => simp [ho] at h
end
end Go.Proofs.Ytfcfifohflgboaa.Am
