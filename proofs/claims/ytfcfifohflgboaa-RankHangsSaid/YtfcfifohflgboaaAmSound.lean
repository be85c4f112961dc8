/- The evaluator is right: what it answers is what the machine's call answers. -/
import Derived.Test.YtfcfifohflgboaaAmOpZ
import Derived.LoopN
import Derived.Orders
set_option linter.unusedVariables false
set_option linter.unusedSimpArgs false
namespace Go.Proofs.Ytfcfifohflgboaa.Am
open Go Go.RowKit

section
variable {C : Ctx} {w w' : World} {G G' : Gh} {P : Program} {T : Tab} {S S' : St} {a : Act} {H : Heap} {U : Id → Prop} {call : Call}

theorem getT_set (x : AV) (i : Nat) : ∀ (t : Tm) (j : Nat), Tm.get (t.set i x) j = if i = j then some x else t.get j
  | [], j => by simp [Tm.set, Tm.get]
  | (k, y) :: r, j => by
    unfold Tm.set
    by_cases h1 : k = i
    · subst h1
      rw [if_pos rfl]
      simp only [Tm.get]
      by_cases h2 : k = j <;> simp [h2]
    · rw [if_neg h1]
      by_cases h2 : i < k
      · rw [if_pos h2]
        simp only [Tm.get]
      · rw [if_neg h2]
        simp only [Tm.get, getT_set x i r j]
        by_cases h3 : k = j
        · subst h3; simp [Ne.symm h1]
        · simp [h3]
/-! ### the supply goes on -/
theorem adoptO_g {f d dst : Nat} {r x : AV} (h : adoptO T f d dst H S r = some (x, S')) : S.g <:+ S'.g := by
  unfold adoptO at h
  repeat' split at h
  all_goals first
    | cases h; done
    | (simp only [Option.some.injEq, Prod.mk.injEq] at h; obtain ⟨_, rfl⟩ := h; first | exact List.suffix_refl _ | exact List.suffix_cons _ _)
theorem thawV_g {d dst : Nat} {r x : AV} (h : thawV H d dst S r = some (x, S')) : S.g <:+ S'.g := by
  unfold thawV at h
  repeat' split at h
  all_goals first
    | cases h; done
    | (simp only [Option.some.injEq, Prod.mk.injEq] at h; obtain ⟨_, rfl⟩ := h; first | exact List.suffix_refl _ | exact List.suffix_cons _ _)
theorem thawA_g {d dst j : Nat} {r x : AV} (h : thawA H d dst S j r = some (x, S')) : S.g <:+ S'.g := by
  unfold thawA at h
  split at h
  · split at h
    · split at h
      · rename_i hz
        simp only [Option.some.injEq, Prod.mk.injEq] at h
        obtain ⟨_, rfl⟩ := h
        exact thawV_g hz
      · cases h
    · cases h
  · exact thawV_g h
theorem adopt_g {f d dst : Nat} {r x : AV} (h : adopt T f d dst H S r = some (x, S')) : S.g <:+ S'.g := by
  unfold adopt at h
  split at h
  · exact thawA_g h
  · split at h
    · exact adoptO_g h
    · exact adoptO_g h
theorem callO_g {f d dst : Nat} {args : List AV} {x : AV} (h : callO T call d dst f args S = some (x, S')) : S.g <:+ S'.g := by
  unfold callO at h
  simp only at h
  repeat' split at h
  all_goals first
    | cases h; done
    | exact adopt_g h
    | (simp only [Option.some.injEq, Prod.mk.injEq] at h; obtain ⟨_, rfl⟩ := h; first | exact List.suffix_refl _ | exact List.suffix_cons _ _)
theorem adoptF_g {f d dst : Nat} {r x : AV} (h : adoptF T f d dst H S r = some (x, S')) : S.g <:+ S'.g := by
  unfold adoptF thawF at h
  repeat' split at h
  all_goals first
    | cases h; done
    | (simp only [Option.some.injEq, Prod.mk.injEq] at h; obtain ⟨_, rfl⟩ := h; first | exact List.suffix_refl _ | exact List.suffix_cons _ _)
theorem callA_g {f d dst : Nat} {args : List AV} {x : AV} (h : callA T call d dst f args S = some (x, S')) : S.g <:+ S'.g := by
  unfold callA at h
  split at h
  · split at h
    · exact adoptF_g h
    · cases h
  · exact callO_g h
theorem appendO_g {d dst : Nat} {ts : List Nat} {s x y : AV} (h : appendO T d dst S ts s x = some (y, S')) : S.g <:+ S'.g := by
  unfold appendO at h
  repeat' split at h
  all_goals first
    | cases h; done
    | (simp only [Option.some.injEq, Prod.mk.injEq] at h; obtain ⟨_, rfl⟩ := h; first | exact List.suffix_refl _ | exact List.suffix_cons _ _)
theorem appendM_g {d dst : Nat} {ts : List Nat} {sz : Nat} {x y : AV} (h : appendM T d dst S ts sz x = some (y, S')) : S.g <:+ S'.g := by
  unfold appendM at h
  repeat' split at h
  all_goals first
    | cases h; done
    | (simp only [Option.some.injEq, Prod.mk.injEq] at h; obtain ⟨_, rfl⟩ := h; first | exact List.suffix_refl _ | exact List.suffix_cons _ _)
theorem appendZ_g {d dst : Nat} {ts : List Nat} {sz : Nat} {x y : AV} (h : appendZ T d dst S ts sz x = some (y, S')) : S.g <:+ S'.g := by
  unfold appendZ at h
  repeat' split at h
  all_goals first
    | cases h; done
    | (simp only [Option.some.injEq, Prod.mk.injEq] at h; obtain ⟨_, rfl⟩ := h; first | exact List.suffix_refl _ | exact List.suffix_cons _ _)
theorem appendB_g {d dst : Nat} {ts : List Nat} {id : Id} {off k sz : Nat} {x y : AV} (h : appendB T d dst S ts id off k sz x = some (y, S')) : S.g <:+ S'.g := by
  unfold appendB at h
  repeat' split at h
  all_goals first
    | cases h; done
    | (simp only [Option.some.injEq, Prod.mk.injEq] at h; obtain ⟨_, rfl⟩ := h; first | exact List.suffix_refl _ | exact List.suffix_cons _ _)
theorem appendA_g {d dst : Nat} {ts : List Nat} {s x y : AV} (h : appendA T d dst S ts s x = some (y, S')) : S.g <:+ S'.g := by
  unfold appendA at h
  repeat' split at h
  all_goals first
    | cases h; done
    | exact appendB_g h
    | exact appendM_g h
    | exact appendZ_g h
    | exact appendO_g h
theorem copyA_g {ts : List Nat} {x y z : AV} (h : copyA T S ts x y = some (z, S')) : S.g <:+ S'.g := by
  unfold copyA at h
  repeat' split at h
  all_goals first
    | cases h; done
    | (simp only [Option.some.injEq, Prod.mk.injEq] at h; obtain ⟨_, rfl⟩ := h; first | exact List.suffix_refl _ | exact List.suffix_cons _ _)
theorem clearA_g {ts : List Nat} {x z : AV} (h : clearA T S ts x = some (z, S')) : S.g <:+ S'.g := by
  unfold clearA at h
  repeat' split at h
  all_goals first
    | cases h; done
    | (simp only [Option.some.injEq, Prod.mk.injEq] at h; obtain ⟨_, rfl⟩ := h; first | exact List.suffix_refl _ | exact List.suffix_cons _ _)
theorem capA_g {ts : List Nat} {x z : AV} (h : capA T S ts x = some (z, S')) : S.g <:+ S'.g := by
  unfold capA at h
  repeat' split at h
  all_goals first
    | cases h; done
    | (simp only [Option.some.injEq, Prod.mk.injEq] at h; obtain ⟨_, rfl⟩ := h; first | exact List.suffix_refl _ | exact List.suffix_cons _ _)
theorem updA_g {kt : Nat} {m k x : AV} (h : updA T S kt m k x = some S') : S.g <:+ S'.g := by
  unfold updA at h
  repeat' split at h
  all_goals first
    | cases h; done
    | (simp only [Option.some.injEq] at h; subst h; exact List.suffix_refl _)
theorem builtinA_g {d dst : Nat} {b : Builtin} {ts : List Nat} {args : List AV} {y : AV} (h : builtinA T d dst S b ts args = some (y, S')) : S.g <:+ S'.g := by
  unfold builtinA at h
  repeat' split at h
  all_goals first
    | cases h; done
    | exact appendA_g h
    | exact copyA_g h
    | exact clearA_g h
    | exact capA_g h
    | (simp only [Option.some.injEq, Prod.mk.injEq] at h; obtain ⟨_, rfl⟩ := h; exact List.suffix_refl _)
theorem v_g {x : Option AV} {r : Option AV} (h : (match x with | some y => some (some y, S) | none => none) = some (r, S')) : S.g <:+ S'.g := by
  cases x with
  | none => cases h
  | some y => injection h with h; injection h with _ h; subst h; exact List.suffix_refl _
theorem convS_g {d dst e : Nat} {s : List UInt8} {y : AV} (h : convS T d dst S e s = some (y, S')) : S.g <:+ S'.g := by
  unfold convS at h
  split at h
  · split at h
    · simp only [newArr, Option.some.injEq, Prod.mk.injEq] at h
      obtain ⟨_, rfl⟩ := h
      exact List.suffix_cons _ _
    · cases h
  · cases h
theorem makeA_g {d dst t : Nat} {n m : Int} {y : AV} (h : makeA T d dst S t n m = some (y, S')) : S.g <:+ S'.g := by
  unfold makeA at h
  split at h
  · split at h
    · split at h
      · simp only [newArr, Option.some.injEq, Prod.mk.injEq] at h
        obtain ⟨_, rfl⟩ := h
        exact List.suffix_cons _ _
      · cases h
    · cases h
  · cases h
theorem opA_g {d : Nat} {o : Oper} {x : Option AV} (h : opA T call d o S = some (x, S')) : S.g <:+ S'.g := by
  unfold opA at h
  cases ho : o.op <;> simp only [ho] at h
  case call c =>
    split at h
    · split at h
      · rename_i hb
        injection h with h
        injection h with _ h
        subst h
        exact builtinA_g hb
      · cases h
    · split at h
      · split at h
        · rename_i hb
          injection h with h
          injection h with _ h
          subst h
          exact callA_g hb
        · cases h
      · split at h
        · rename_i hb
          injection h with h
          injection h with _ h
          subst h
          exact callA_g hb
        · cases h
      · cases h
    · cases h
  case makeFunc fn _ _ =>
    cases fn <;> simp only at h
    case func =>
      repeat' split at h
      all_goals first
        | cases h; done
        | (simp only [Option.some.injEq, Prod.mk.injEq] at h; obtain ⟨_, rfl⟩ := h; exact List.suffix_refl _)
    all_goals cases h
  case makeMap t r =>
    cases r with
    | none =>
      simp only [Option.some.injEq, Prod.mk.injEq] at h
      obtain ⟨_, rfl⟩ := h
      exact List.suffix_cons _ _
    | some r => simp at h
  case mapUpdate =>
    repeat' split at h
    all_goals first
      | cases h; done
      | (simp only [Option.some.injEq, Prod.mk.injEq] at h; obtain ⟨_, rfl⟩ := h; exact updA_g ‹_›)
  case insert =>
    repeat' split at h
    all_goals first
      | cases h; done
      | (simp only [Option.some.injEq, Prod.mk.injEq] at h; obtain ⟨_, rfl⟩ := h; exact updA_g ‹_›)
  all_goals first
    | cases h; done
    | exact v_g h
    | (repeat' split at h
       all_goals first
        | cases h; done
        | exact v_g h
        | (simp only [Option.some.injEq, Prod.mk.injEq] at h; obtain ⟨_, rfl⟩ := h; first | exact convS_g ‹_› | exact makeA_g ‹_›)
        | (simp only [Option.some.injEq, Prod.mk.injEq] at h; obtain ⟨_, rfl⟩ := h; first | exact List.suffix_refl _ | exact List.suffix_cons _ _)
        | (injection h with h; injection h with _ h; subst h; rename_i hx; injection hx with hx; injection hx with _ hx; subst hx; exact List.suffix_cons _ _)
        | (injection h with _ h; subst h; rename_i hx; injection hx with hx; injection hx with _ hx; subst hx; exact List.suffix_cons _ _)
        | (injection h with _ h; subst h; rename_i hx; injection hx with _ hx; subst hx; exact List.suffix_cons _ _))

/-! ### what a stretch of code comes to -/
structure Post (C : Ctx) (w : World) (G : Gh) (U : Id → Prop) (S : St) (a : Act) (S' : St) (a' : Act) (w' : World) : Prop where
  ex : ∃ G' U', Ext C w G S.H U w' G' S'.H U' ∧ Sim C w' G' U' S' a' ∧ ∀ i, U' i → U i ∨ S.g <:+ i.g
  size : a'.tmps.size = a.tmps.size
  g : S.g <:+ S'.g

theorem Post.refl (hs : Sim C w G U S a) : Post C w G U S a S a w := ⟨⟨G, U, Ext.refl _ _ _ _ _, hs, fun i h => .inl h⟩, rfl, List.suffix_refl _⟩
theorem Post.after {S1 S2 : St} {a1 a2 : Act} {w1 w2 : World} {G1 : Gh} {U1 : Id → Prop} (h1 : Ext C w G S.H U w1 G1 S1.H U1) (h3 : ∀ i, U1 i → U i ∨ S.g <:+ i.g) (h4 : a1.tmps.size = a.tmps.size) (h5 : S.g <:+ S1.g)
    (k : Post C w1 G1 U1 S1 a1 S2 a2 w2) : Post C w G U S a S2 a2 w2 := by
  obtain ⟨⟨G2, U2, k1, k2, k3⟩, k4, k5⟩ := k
  exact ⟨⟨G2, U2, h1.trans k1, k2, fun i hi => (k3 i hi).elim (h3 i) fun h => .inr (h5.trans h)⟩, k4.trans h4, h5.trans k5⟩

theorem size_put (a : Act) (t : Option Tmp) (v : Value) : (a.put t v).tmps.size = a.tmps.size := by cases t <;> simp [Act.put]
theorem defers_put (a : Act) (t : Option Tmp) (v : Value) : (a.put t v).defers = a.defers := by cases t <;> simp [Act.put]
theorem getD_put (a : Act) (t j : Nat) (v : Value) : (a.put (some t) v).tmps.getD j undef = if t = j ∧ t < a.tmps.size then v else a.tmps.getD j undef := by
  simp only [Act.put, Array.getD_eq_getD_getElem?, Array.getElem?_setIfInBounds]
  by_cases h : t = j
  · subst h
    by_cases h2 : t < a.tmps.size
    · simp [h2]
    · simp [h2]
  · simp [h]

theorem putA_H (S : St) (t : Option Nat) (x : Option AV) : (putA S t x).H = S.H ∧ (putA S t x).g = S.g := by cases t <;> cases x <;> exact ⟨rfl, rfl⟩

theorem sim_put {U' : Id → Prop} (hs : Sim C w G U S a) (e : Ext C w G S.H U w' G' S'.H U') (hr : HeapRel C w' G' S'.H U') (hT : S'.T = S.T) (hfr : Fr U' S'.g) {t : Option Tmp} (ht : ∀ d, t = some d → d < a.tmps.size) {v : Value} {x : Option AV}
    (hx : ∀ y, x = some y → Rep C w' G' S'.H U' v y) (hn : x = none → v = undef) : Sim C w' G' U' (putA S' t x) (a.put t v) := by
  obtain ⟨h1, h2⟩ := putA_H S' t x
  refine ⟨fun j y hy => ?_, by rw [h1]; exact hr, by rw [h2]; exact hfr, by rw [defers_put]; exact hs.defers⟩
  rw [size_put, h1]
  have hold : S.T.get j = some y → j < a.tmps.size ∧ Rep C w' G' S'.H U' (a.tmps.getD j undef) y := fun h => ⟨(hs.T j y h).1, (hs.T j y h).2.ext e⟩
  cases t with
  | none =>
    have : (putA S' none x).T = S'.T := by cases x <;> rfl
    rw [this, hT] at hy
    exact hold hy
  | some d =>
    rw [getD_put]
    have hd := ht d rfl
    by_cases hdj : d = j
    · subst hdj
      rw [if_pos ⟨rfl, hd⟩]
      refine ⟨hd, ?_⟩
      cases x with
      | none =>
        simp only [putA, getT_set, if_true, Option.some.injEq] at hy
        subst hy
        rw [hn rfl]
        exact .tup #[] [] rfl (fun i x hx => by simp at hx) (fun i v x _ hx => by simp at hx)
      | some z =>
        simp only [putA, getT_set, if_true, Option.some.injEq] at hy
        subst hy
        exact hx z rfl
    · rw [if_neg (fun h => hdj h.1)]
      cases x with
      | none =>
        simp only [putA, getT_set, if_neg hdj] at hy
        rw [hT] at hy; exact hold hy
      | some z =>
        simp only [putA, getT_set, if_neg hdj] at hy
        rw [hT] at hy; exact hold hy

theorem wantedA_ok (hs : Sim C w G U S a) {ops : Array Oper} {o : Oper} {b : Bool} (h : wantedA ops.toList o S = some b) : Region.wanted o (yielded ops a.tmps) = b := by
  unfold wantedA at h
  unfold Region.wanted
  split at h
  · rename_i hg
    rw [hg]
    injection h
  · rename_i j want hg
    rw [hg]
    split at h
    · rename_i t ht
      split at h
      · rename_i q hq
        injection h with h
        subst h
        obtain ⟨h1, h2⟩ := hs.T t _ hq
        have h3 := rep_bool h2
        have h4 : a.tmps[t]? = some (.bool q) := by
          rw [Array.getElem?_eq_getElem h1]
          rw [Array.getD_eq_getD_getElem?, Array.getElem?_eq_getElem h1] at h3
          exact congrArg some h3
        rw [Array.getElem?_toList] at ht
        simp only [yielded, ht, Option.bind_some, h4]
        cases q <;> cases want <;> rfl
      · rename_i hq
        injection h with h
        subst h
        obtain ⟨h1, h2⟩ := hs.T t _ hq
        obtain ⟨vs, h3, h4, _⟩ := rep_tup h2
        have h5 : a.tmps[t]? = some (.tuple vs) := by
          rw [Array.getElem?_eq_getElem h1]
          rw [Array.getD_eq_getD_getElem?, Array.getElem?_eq_getElem h1] at h3
          exact congrArg some h3
        rw [Array.getElem?_toList] at ht
        simp only [yielded, ht, Option.bind_some, h5]
        rfl
      · cases h
    · cases h

theorem op_step (ok : T.Ok P) (hp : PrimOk P T) (hc : CallOk P T call) (hs : Sim C w G U S a) {ops : Array Oper} {d : Nat} {o : Oper} (hd : ∀ t, o.dst = some t → t < a.tmps.size) (hw : wantedA ops.toList o S = some true) {x : Option AV} {S1 : St}
    (h : opA T call d o S = some (x, S1)) {K : Act → World → Prop} {Q : Exit → Act → World → Prop} (hK : ∀ a' w', Post C w G U S a (putA S1 o.dst x) a' w' → K a' w') : o.wp P a w K Q := by
  have hg := opA_g h
  have hput : ∀ (w' : World) (G' : Gh) (U' : Id → Prop) (v : Value), Ext C w G S.H U w' G' S1.H U' → HeapRel C w' G' S1.H U' → (S1.T = S.T ∧ Fr U' S1.g ∧ ∀ i, U' i → U i ∨ S.g <:+ i.g) →
      (∀ y, x = some y → Rep C w' G' S1.H U' v y) → (x = none → v = undef) → K (a.put o.dst v) w' := fun w' G' U' v h1 h2 h3 h4 h4' => by
    obtain ⟨e1, e2⟩ := putA_H S1 o.dst x
    exact hK _ _ ⟨⟨G', U', by rw [e1]; exact h1, sim_put hs h1 h2 h3.1 h3.2.1 hd h4 h4', h3.2.2⟩, size_put _ _ _, by rw [e2]; exact hg⟩
  unfold Oper.wp
  rcases opA_ok ok hp hc hs h with ⟨nx, w', G', U', h1, h2, h3, h4, h5⟩ | ⟨f, vs, y, rfl, h1, h2⟩
  · rw [h1]
    cases x with
    | none =>
      cases nx <;> simp only at h5 <;> try exact h5.elim
      exact hput w' G' U' undef h2 h3 h4 (fun y hy => by cases hy) (fun _ => rfl)
    | some y =>
      cases nx <;> simp only at h5 <;> try exact h5.elim
      rename_i v
      exact hput w' G' U' v h2 h3 h4 (fun z hz => by injection hz with hz; subst hz; exact h5) (fun h => by cases h)
  · rw [h1]
    refine Calls.mono h2 fun e w' ⟨v, he, G', U', k1, k2, k3, k4⟩ => ?_
    subst he
    exact hput w' G' U' v k1 k2 k3 (fun z hz => by injection hz with hz; subst hz; exact k4) (fun h => by cases h)

theorem post_skip (hs : Sim C w G U S a) {t : Option Tmp} (ht : ∀ d, t = some d → d < a.tmps.size) : Post C w G U S a (putA S t none) (a.put t undef) w := by
  obtain ⟨e1, e2⟩ := putA_H S t none
  exact ⟨⟨G, U, by rw [e1]; exact Ext.refl _ _ _ _ _, sim_put (x := none) hs (Ext.refl _ _ _ _ _) hs.heap rfl hs.fr ht (fun y hy => by cases hy) (fun _ => rfl), fun i h => .inl h⟩, size_put _ _ _, by rw [e2]; exact List.suffix_refl _⟩

theorem opsA_ok (ok : T.Ok P) (hp : PrimOk P T) (hc : CallOk P T call) {ops : Array Oper} {d n : Nat} (hd : ∀ o ∈ ops.toList, ∀ t, o.dst = some t → t < n) {Q : Exit → Act → World → Prop} :
    ∀ (r : List Oper) (k : Nat) (S : St) (a : Act) (w : World) (G : Gh) (U : Id → Prop), ops.toList.drop k = r → Sim C w G U S a → n ≤ a.tmps.size → opsA T call d ops.toList r S = some S' →
      (∀ a' w', Post C w G U S a S' a' w' → Q .normal a' w') → wpOps P ops Q (List.range' k r.length) a w
  | [], k, S, a, w, G, U, hr, hs, hn, h, hQ => by
    simp only [opsA, Option.some.injEq] at h
    subst h
    exact hQ a w (Post.refl hs)
  | o :: r, k, S, a, w, G, U, hr, hs, hn, h, hQ => by
    have hk : ops[k]? = some o := by
      rw [← Array.getElem?_toList]
      have := congrArg (·[0]?) hr
      simpa using this
    have hr' : ops.toList.drop (k + 1) = r := by
      rw [← List.drop_drop, hr]; rfl
    have hod : ∀ t, o.dst = some t → t < a.tmps.size := fun t ht => by
      exact Nat.lt_of_lt_of_le (hd o (by rw [← Array.getElem?_toList] at hk; exact List.mem_of_getElem? hk) t ht) hn
    simp only [opsA] at h
    simp only [List.length_cons, List.range'_succ, wpOps, hk]
    split at h
    · rename_i hw
      rw [wantedA_ok hs hw]
      simp only [if_true]
      split at h
      · rename_i x S1 hop
        refine .inl (op_step ok hp hc hs hod hw hop fun a' w' hpost => ?_)
        obtain ⟨⟨G1, U1, h1, h2, h3⟩, h4, h5⟩ := hpost
        exact opsA_ok ok hp hc hd r (k + 1) _ a' w' G1 U1 hr' h2 (by omega) h fun a2 w2 h6 => hQ a2 w2 (Post.after h1 h3 h4 h5 h6)
      · cases h
    · rename_i hw
      rw [wantedA_ok hs hw]
      simp only [Bool.false_eq_true, if_false]
      obtain ⟨⟨G1, U1, h1, h2, h3⟩, h4, h5⟩ := post_skip hs hod
      exact opsA_ok ok hp hc hd r (k + 1) _ _ w G1 U1 hr' h2 (by omega) h fun a2 w2 h6 => hQ a2 w2 (Post.after h1 h3 h4 h5 h6)
    · cases h
end
end Go.Proofs.Ytfcfifohflgboaa.Am
