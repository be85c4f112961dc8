/- The evaluator is right about whole functions. -/
import Derived.Test.YtfcfifohflgboaaAmDraw
set_option linter.unusedVariables false
set_option linter.unusedSimpArgs false
namespace Go.Proofs.Ytfcfifohflgboaa.Am
open Go Go.RowKit

section
variable {C : Ctx} {w w' : World} {G G' : Gh} {P : Program} {T : Tab} {S S' : St} {a : Act} {H : Heap} {U : Id → Prop} {call : Call}

def exitOf : Out → Exit
  | .nrm => .normal
  | .ret => .ret
  | .exit i => .exit i

theorem getT_filter (q : Nat → Bool) (j : Nat) : ∀ t : Tm, Tm.get (t.filter fun e => q e.1) j = if q j = true then t.get j else none
  | [] => by simp [Tm.get]
  | (k, y) :: r => by
    have ih := getT_filter q j r
    by_cases hq : q k = true
    · simp only [List.filter_cons, hq, if_true, Tm.get]
      by_cases hj : k = j
      · subst hj; simp [hq]
      · simp only [hj, if_false]; exact ih
    · simp only [List.filter_cons, hq, Tm.get]
      by_cases hj : k = j
      · subst hj; simpa [hq] using ih
      · simp only [hj, if_false]
        simpa using ih

theorem keep_ok (hs : Sim C w G U S a) (d : Nat) (k : Option (List Nat × List Nat)) : Post C w G U S a (keepA d k S) a w := by
  cases k with
  | none => exact Post.refl hs
  | some q =>
    obtain ⟨ts, us⟩ := q
    have hsub : ∀ id p, Heap.get (S.H.filter fun e => decide (e.1.d < d) || us.contains e.1.t) id = some p → S.H.get id = some p := fun id p hp => by
      rw [get_filter (fun i => decide (i.d < d) || us.contains i.t) id S.H] at hp
      split at hp
      · exact hp
      · cases hp
    have e := Ext.drop (C := C) (w := w) (G := G) (U := U) (U' := U) hsub (fun _ h => h)
    refine ⟨⟨G, U, e, ⟨fun t x hx => ?_, hs.heap.drop hsub (fun _ h => h), hs.fr, hs.defers⟩, fun i h => .inl h⟩, rfl, List.suffix_refl _⟩
    simp only [keepA] at hx
    rw [getT_filter (fun i => ts.contains i) t S.T] at hx
    split at hx
    · obtain ⟨h1, h2⟩ := hs.T t x hx
      exact ⟨h1, h2.ext e⟩
    · cases hx

theorem fg_get (m i : Nat) : ∀ (Q : Tm), (fgT m Q).get i = if (m >>> i) % 2 = 1 then Q.get i else none
  | [] => by simp [fgT, Tm.get]
  | (j, x) :: r => by
    have ih := fg_get m i r
    simp only [fgT]
    by_cases hj : (m >>> j) % 2 = 1
    · rw [if_pos hj]
      simp only [Tm.get]
      by_cases e : j = i
      · subst e; simp [hj]
      · rw [if_neg e, if_neg e, ih]
    · rw [if_neg hj, ih]
      simp only [Tm.get]
      by_cases e : j = i
      · subst e; simp [hj]
      · rw [if_neg e]
theorem fg_sub {m i : Nat} {Q : Tm} {x : AV} (h : (fgT m Q).get i = some x) : Q.get i = some x := by
  rw [fg_get] at h
  split at h
  · exact h
  · cases h
theorem post_fg {S1 : St} {a1 : Act} {w1 : World} (k : Option Nat) (h : Post C w G U S a S1 a1 w1) : Post C w G U S a (fgA k S1) a1 w1 := by
  cases k with
  | none => exact h
  | some m =>
    obtain ⟨⟨G1, U1, e, hs, hU⟩, h2, h3⟩ := h
    exact ⟨⟨G1, U1, e, ⟨fun t x hx => hs.T t x (fg_sub hx), hs.heap, hs.fr, hs.defers⟩, hU⟩, h2, h3⟩

theorem rounds_mono {P : Program} {c : Code} {Q Q' : Exit → Act → World → Prop} {k : Nat} {a : Act} {w : World} (h : Code.rounds P c Q k a w) (hq : ∀ e a w, Q e a w → Q' e a w) : Code.rounds P c Q' k a w := by
  induction k generalizing a w with
  | zero => exact h.elim
  | succ k ih =>
    rw [rounds_succ] at h ⊢
    refine wp_mono h fun e a w he => ?_
    cases e with
    | normal => exact ih he
    | _ => exact hq _ _ _ he

theorem codeA_ok (ok : T.Ok P) (hp : PrimOk P T) (hc : CallOk P T call) {rounds f d n : Nat} : ∀ (c : Code) (S S' : St) (a : Act) (w : World) (G : Gh) (U : Id → Prop) (out : Out), dstsOk n c = true → drawsOk (T.drw f) c = true → Sim C w G U S a → n ≤ a.tmps.size →
    codeA T call rounds f d c S = some (out, S') → c.wp P (fun e a' w' => e = exitOf out ∧ Post C w G U S a S' a' w') a w
  | .skip, S, S', a, w, G, U, out, h1, h2, hs, hn, h => by
    simp only [codeA, Option.some.injEq, Prod.mk.injEq] at h
    obtain ⟨rfl, rfl⟩ := h
    exact wp_skip ⟨rfl, Post.refl hs⟩
  | .exit id, S, S', a, w, G, U, out, h1, h2, hs, hn, h => by
    simp only [codeA, Option.some.injEq, Prod.mk.injEq] at h
    obtain ⟨rfl, rfl⟩ := h
    exact wp_exit ⟨rfl, Post.refl hs⟩
  | .ret, S, S', a, w, G, U, out, h1, h2, hs, hn, h => by
    simp only [codeA, Option.some.injEq, Prod.mk.injEq] at h
    obtain ⟨rfl, rfl⟩ := h
    exact wp_ret ⟨rfl, Post.refl hs⟩
  | .region id ops false, S, S', a, w, G, U, out, h1, h2, hs, hn, h => by
    simp only [codeA] at h
    split at h
    · rename_i S1 hop
      simp only [Option.some.injEq, Prod.mk.injEq] at h
      obtain ⟨rfl, rfl⟩ := h
      refine wp_region ?_
      rw [List.range_eq_range', show ops.size = ops.toList.length by simp]
      refine opsA_ok ok hp hc (n := n) (fun o ho t ht => ?_) ops.toList 0 S a w G U rfl hs hn hop fun a' w' hpost => ⟨rfl, post_fg _ hpost⟩
      have := List.all_eq_true.1 (by simpa only [dstsOk] using h1) o ho
      rw [ht] at this
      simpa using this
    · cases h
  | .region id ops true, S, S', a, w, G, U, out, h1, h2, hs, hn, h => by
    simp only [codeA] at h
    split at h
    · rename_i L hL
      split at h
      · rename_i S1 hop
        simp only [Option.some.injEq, Prod.mk.injEq] at h
        obtain ⟨rfl, rfl⟩ := h
        refine drawA_ok ok hp hc (L := L) (n := n) (by simpa only [drawsOk, hL] using h2) (fun o ho t ht => ?_) hn hs hop fun a' w' hpost => ⟨rfl, post_fg _ hpost⟩
        have := List.all_eq_true.1 (by simpa only [dstsOk] using h1) o ho
        rw [ht] at this
        simpa using this
      · cases h
    · cases h
  | .seq x y, S, S', a, w, G, U, out, h1, h2, hs, hn, h => by
    simp only [dstsOk, Bool.and_eq_true] at h1
    simp only [drawsOk, Bool.and_eq_true] at h2
    simp only [codeA] at h
    refine wp_seq ?_
    split at h
    · rename_i S1 hx
      refine wp_mono (codeA_ok ok hp hc x S S1 a w G U .nrm h1.1 h2.1 hs hn hx) fun e a' w' ⟨he, hpost⟩ => ?_
      subst he
      obtain ⟨⟨G1, U1, k1, k2, k3⟩, k4, k5⟩ := hpost
      exact wp_mono (codeA_ok ok hp hc y S1 S' a' w' G1 U1 out h1.2 h2.2 k2 (by omega) h) fun e a2 w2 ⟨he, hpost⟩ => ⟨he, Post.after k1 k3 k4 k5 hpost⟩
    · rename_i hne
      refine wp_mono (codeA_ok ok hp hc x S S' a w G U out h1.1 h2.1 hs hn h) fun e a' w' ⟨he, hpost⟩ => ?_
      subst he
      cases out with
      | nrm => exact (hne S' h).elim
      | ret => exact ⟨rfl, hpost⟩
      | exit i => exact ⟨rfl, hpost⟩
  | .cond c x y, S, S', a, w, G, U, out, h1, h2, hs, hn, h => by
    simp only [dstsOk, Bool.and_eq_true] at h1
    simp only [drawsOk, Bool.and_eq_true] at h2
    simp only [codeA] at h
    split at h
    · rename_i t ht
      have hct := rep_bool (ev_ok ok hs ht)
      refine wp_cond hct ?_
      cases t with
      | true => simp only [if_true] at h ⊢; exact codeA_ok ok hp hc x S S' a w G U out h1.1 h2.1 hs hn h
      | false => simp only [Bool.false_eq_true, if_false] at h ⊢; exact codeA_ok ok hp hc y S S' a w G U out h1.2 h2.2 hs hn h
    · cases h
  | .block id b, S, S', a, w, G, U, out, h1, h2, hs, hn, h => by
    simp only [codeA] at h
    refine wp_block ?_
    split at h
    · rename_i i S1 hx
      refine wp_mono (codeA_ok ok hp hc b S S1 a w G U (.exit i) (by simpa only [dstsOk] using h1) (by simpa only [drawsOk] using h2) hs hn hx) fun e a' w' ⟨he, hpost⟩ => ?_
      subst he
      simp only [exitOf, Exit.inBlock]
      split at h <;> rename_i hi
      · simp only [Option.some.injEq, Prod.mk.injEq] at h
        obtain ⟨rfl, rfl⟩ := h
        rw [if_pos hi]
        exact ⟨rfl, hpost⟩
      · simp only [Option.some.injEq, Prod.mk.injEq] at h
        obtain ⟨rfl, rfl⟩ := h
        rw [if_neg hi]
        exact ⟨rfl, hpost⟩
    · rename_i hne
      refine wp_mono (codeA_ok ok hp hc (rounds := rounds) (d := d) b S S' a w G U out (by simpa only [dstsOk] using h1) (by simpa only [drawsOk] using h2) hs hn h) fun e a' w' ⟨he, hpost⟩ => ?_
      subst he
      cases out with
      | nrm => exact ⟨rfl, hpost⟩
      | ret => exact ⟨rfl, hpost⟩
      | exit i => exact (hne i S' h).elim
  | .loop b, S, S', a, w, G, U, out, h1, h2, hs, hn, h => by
    simp only [codeA] at h
    generalize (nameOf b).bind (T.keep f) = kp at h
    have hb := fun S S' a w G U out => codeA_ok ok hp hc (rounds := rounds) (d := d) b S S' a w G U out (by simpa only [dstsOk] using h1) (by simpa only [drawsOk] using h2)
    suffices hk : ∀ (k : Nat) (S S' : St) (a : Act) (w : World) (G : Gh) (U : Id → Prop), Sim C w G U S a → n ≤ a.tmps.size → loopA (fun S => codeA T call rounds f d b S) (keepA d kp) k S = some (out, S') →
        Code.rounds P b (fun e a' w' => e = exitOf out ∧ Post C w G U S a S' a' w') k a w from wp_loop_rounds rounds (hk rounds S S' a w G U hs hn h)
    intro k
    induction k with
    | zero => intro S S' a w G U hs hn h; simp [loopA] at h
    | succ k ih =>
      intro S S' a w G U hs hn h
      rw [rounds_succ]
      simp only [loopA] at h
      obtain ⟨⟨G0, U0, j1, j2, j3⟩, j4, j5⟩ := keep_ok hs d kp
      split at h
      · rename_i S1 hx
        refine wp_mono (hb (keepA d kp S) S1 a w G0 U0 .nrm j2 (by omega) hx) fun e a' w' ⟨he, hpost⟩ => ?_
        subst he
        obtain ⟨⟨G1, U1, k1, k2, k3⟩, k4, k5⟩ := Post.after j1 j3 j4 j5 hpost
        have := ih S1 S' a' w' G1 U1 k2 (by omega) h
        simp only [exitOf, Exit.then]
        refine rounds_mono this fun e a2 w2 ⟨he, hp2⟩ => ⟨he, Post.after k1 k3 k4 k5 hp2⟩
      · rename_i hne
        refine wp_mono (hb (keepA d kp S) S' a w G0 U0 out j2 (by omega) h) fun e a' w' ⟨he, hpost⟩ => ?_
        subst he
        cases out with
        | nrm => exact (hne S' h).elim
        | ret => exact ⟨rfl, Post.after j1 j3 j4 j5 hpost⟩
        | exit i => exact ⟨rfl, Post.after j1 j3 j4 j5 hpost⟩

/-! ### what a function hands back -/
theorem res_ok (ok : T.Ok P) (hs : Sim C w G U S a) {f : ResultVar → Sem Value} (hf : ∀ u, f (.tmp u) = pure (a.tmps.getD u undef)) (hcl : ∀ p t, f (.cell p t) = (do loadVar t (← asAddr (a.tmps.getD p undef)))) :
    ∀ (rs : List ResultVar) (xs : List AV), resA T S rs = some xs → ∃ vs : List Value, (rs.mapM f).run P w = .ok vs w ∧ vs.length = xs.length ∧ ∀ (i : Nat) x, xs[i]? = some x → ∃ v, vs[i]? = some v ∧ Rep C w G S.H U v x
  | [], xs, h => by
    simp only [resA, Option.some.injEq] at h
    subst h
    exact ⟨[], by simp, rfl, fun i x hx => by simp at hx⟩
  | .tmp t :: r, xs, h => by
    simp only [resA] at h
    split at h
    · rename_i x s hx hr
      injection h with h
      subst h
      obtain ⟨vs, h1, h2, h3⟩ := res_ok ok hs hf hcl r s hr
      refine ⟨a.tmps.getD t undef :: vs, by rw [List.mapM_cons, hf]; simp [h1], by simp [h2], fun i y hy => ?_⟩
      cases i with
      | zero =>
        have : x = y := by simpa using hy
        subst this
        exact ⟨_, rfl, (hs.T t x hx).2⟩
      | succ i => exact h3 i y (by simpa using hy)
    · cases h
  | .cell p t :: r, xs, h => by
    simp only [resA] at h
    split at h
    · rename_i q hq
      split at h
      · rename_i cs hb
        split at h
        · rename_i x s hx hr
          injection h with h
          subst h
          obtain ⟨vs, h1, h2, h3⟩ := res_ok ok hs hf hcl r s hr
          obtain ⟨b, off, he, hcs⟩ := behind_ok hs.heap (hs.T p q hq).2 hb
          obtain ⟨v, hv, hrep, _⟩ := loadVar_ok ok (C := C) (w := w) (G := G) (H := S.H) (U := U) ⟨b, off, rfl, hcs⟩ hx
          refine ⟨v :: vs, by rw [List.mapM_cons, hcl, he]; simp [asAddr, hv, h1], by simp [h2], fun i y hy => ?_⟩
          cases i with
          | zero =>
            have : x = y := by simpa using hy
            subst this
            exact ⟨_, rfl, hrep⟩
          | succ i => exact h3 i y (by simpa using hy)
        · cases h
      · cases h
    · cases h

def resF (a : Act) : ResultVar → Sem Value
  | .tmp t => pure (a.tmps.getD t undef)
  | .cell p t => do loadVar t (← asAddr (a.tmps.getD p undef))
theorem results_eq (F : Func) (a : Act) : results F a.tmps = (do let vs ← F.results.mapM (resF a); pure (if h : vs.size = 1 then vs[0] else .tuple vs)) := by
  unfold results
  congr
theorem results_ok (ok : T.Ok P) (hs : Sim C w G U S a) {F : Func} {xs : List AV} (h : resA T S F.results.toList = some xs) {r : AV} {H' : Heap} (hr : (match some xs with | some [x] => some (x, S.H) | some xs => if xs.all noTup then some (.tup xs, S.H) else none | none => none) = some (r, H')) :
    H' = S.H ∧ ∃ v, (results F a.tmps).run P w = .ok v w ∧ Rep C w G S.H U v r := by
  obtain ⟨vs, h1, h2, h3⟩ := res_ok ok hs (f := resF a) (fun _ => rfl) (fun _ _ => rfl) _ _ h
  have hrun : (results F a.tmps).run P w = .ok (if h : vs.toArray.size = 1 then vs.toArray[0] else .tuple vs.toArray) w := by
    rw [results_eq, ← Array.toArray_toList (xs := F.results), List.mapM_toArray]
    simp only [Sem.run_bind, Sem.run_map]
    rw [h1]
    simp
  match xs, h2, h3, hr with
  | [x], h2, h3, hr =>
    simp only [Option.some.injEq, Prod.mk.injEq] at hr
    obtain ⟨rfl, rfl⟩ := hr
    match vs, h2, h3, hrun with
    | [v], _, h3, hrun =>
      refine ⟨rfl, v, by rw [hrun]; rfl, ?_⟩
      obtain ⟨v', h4, h5⟩ := h3 0 x rfl
      have : v = v' := by simpa using h4
      subst this
      exact h5
  | [], h2, h3, hr =>
    simp at hr
    obtain ⟨rfl, rfl⟩ := hr
    have : vs = [] := List.eq_nil_of_length_eq_zero h2
    subst this
    exact ⟨rfl, .tuple #[], by rw [hrun]; rfl, .tup _ _ rfl (fun i x hx => by simp at hx) (fun i v x _ hx => by simp at hx)⟩
  | x :: y :: r', h2, h3, hr =>
    simp only at hr
    split at hr
    · rename_i hall
      simp only [Option.some.injEq, Prod.mk.injEq] at hr
      obtain ⟨rfl, rfl⟩ := hr
      have hsz : vs.toArray.size ≠ 1 := by simp [h2]
      refine ⟨rfl, .tuple vs.toArray, by rw [hrun]; simp [h2], .tup _ _ (by simpa using h2) (fun i z hz => List.all_eq_true.1 hall z (List.mem_of_getElem? hz)) (fun i v z hv hz => ?_)⟩
      obtain ⟨v', h4, h5⟩ := h3 i z hz
      simp only [List.getElem?_toArray] at hv
      rw [hv] at h4
      injection h4 with h4
      subst h4
      exact h5
    · cases hr

theorem args_get : ∀ (args : List AV) (i t : Nat) (x : AV), Tm.get (argsT i args) t = some x → ∃ j, t = i + j ∧ args[j]? = some x
  | [], i, t, x, h => by simp [argsT, Tm.get] at h
  | y :: r, i, t, x, h => by
    simp only [argsT, Tm.get] at h
    split at h
    · rename_i hi
      injection h with h
      subst h
      exact ⟨0, by omega, rfl⟩
    · obtain ⟨j, h1, h2⟩ := args_get r (i + 1) t x h
      exact ⟨j + 1, by omega, by simpa using h2⟩

theorem step_ok (ok : T.Ok P) (hp : PrimOk P T) (hc : CallOk P T call) (k : Nat) : CallOk P T (stepA T call k) := fun d f args H p r H' h => by
    simp only [stepA] at h
    split at h
    · rename_i F hF
      refine ⟨⟨F, hF⟩, fun C w G U vs hr hfr hl hv => ?_⟩
      obtain ⟨hPF, _, c, hbody, hdst⟩ := ok.fn f F hF
      rw [hbody] at h
      simp only at h
      split at h
      · rename_i hlen
        have hs : Sim C w G U { T := argsT 0 args, H := H, g := p } { tmps := vs ++ Array.replicate (F.ntmps - vs.size) undef, defers := [] } := by
          refine ⟨fun t x hx => ?_, hr, hfr, rfl⟩
          obtain ⟨j, rfl, hj⟩ := args_get args 0 t x hx
          obtain ⟨v, h1, h2⟩ := hv j x hj
          have hjs : j < vs.size := (Array.getElem?_eq_some_iff.1 h1).1
          rw [Nat.zero_add]
          refine ⟨by simp; omega, ?_⟩
          rw [Array.getD_eq_getD_getElem?, Array.getElem?_append_left hjs, h1]
          exact h2
        have hsz : F.ntmps ≤ (vs ++ Array.replicate (F.ntmps - vs.size) undef).size := by simp; omega
        have hdone : ∀ (out : Out) (S' : St), codeA T call k f d c { T := argsT 0 args, H := H, g := p } = some (out, S') → (∀ i, out ≠ .exit i) → (match resA T S' F.results.toList with
            | some [x] => some (x, S'.H)
            | some xs => if xs.all noTup then some (.tup xs, S'.H) else none
            | none => none) = some (r, H') → Calls P f vs w fun e w' => ∃ v G' U', e = .returned v ∧ Ext C w G H U w' G' H' U' ∧ HeapRel C w' G' H' U' ∧ Rep C w' G' H' U' v r ∧ ∀ i, U' i → U i ∨ p <:+ i.g := by
          intro out S' hcode hout hres
          refine calls_of_wp hPF hbody (wp_mono (codeA_ok ok hp hc c _ S' _ w G U out hdst (ok.drw f F c hF hbody) hs hsz hcode) fun e a' w' ⟨he, hpost⟩ => ?_)
          obtain ⟨⟨G1, U1, k1, k2, k3⟩, k4, k5⟩ := hpost
          cases hx : resA T S' F.results.toList with
          | none => rw [hx] at hres; cases hres
          | some xs =>
            rw [hx] at hres
            obtain ⟨rfl, v, h1, h2⟩ := results_ok ok k2 hx hres
            subst he
            cases out with
            | nrm => exact ⟨k2.defers, v, h1, v, G1, U1, rfl, k1, k2.heap, h2, k3⟩
            | ret => exact ⟨k2.defers, v, h1, v, G1, U1, rfl, k1, k2.heap, h2, k3⟩
            | exit i => exact (hout i rfl).elim
        split at h
        · cases h
        · rename_i out S' hne hcode
          exact hdone _ _ hcode (fun i hi => by subst hi; exact hne _ rfl) h
        · cases h
      · cases h
    · cases h

end
end Go.Proofs.Ytfcfifohflgboaa.Am
