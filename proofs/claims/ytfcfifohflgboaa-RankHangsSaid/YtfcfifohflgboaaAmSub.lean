/- More temporaries never hurt: what is evaluated with some is evaluated alike with more. -/
import Derived.Test.YtfcfifohflgboaaAmLim
set_option linter.unusedVariables false
set_option linter.unusedSimpArgs false
namespace Go.Proofs.Ytfcfifohflgboaa.Am
open Go Go.RowKit

def SubT (Q Q' : Tm) : Prop := ∀ t x, Q.get t = some x → Q'.get t = some x
structure Sub (S S' : St) : Prop where
  T : SubT S.T S'.T
  H : S.H = S'.H
  g : S.g = S'.g
theorem SubT.refl (Q : Tm) : SubT Q Q := fun _ _ h => h
theorem Sub.refl (S : St) : Sub S S := ⟨SubT.refl _, rfl, rfl⟩
theorem Sub.trans {S S1 S2 : St} (h : Sub S S1) (k : Sub S1 S2) : Sub S S2 := ⟨fun t x hx => k.T t x (h.T t x hx), h.H.trans k.H, h.g.trans k.g⟩
theorem subT_nil {Q : Tm} : SubT [] Q := fun t x h => by simp [Tm.get] at h
theorem subT_cons {Q Q' : Tm} {t : Nat} {x : AV} (h : Q'.get t = some x) (k : SubT Q Q') : SubT ((t, x) :: Q) Q' := fun i y hy => by
  simp only [Tm.get] at hy
  split at hy
  · rename_i e
    subst e
    injection hy with hy
    subst hy
    exact h
  · exact k i y hy
theorem subT_set {Q Q' : Tm} (h : SubT Q Q') (t : Nat) (x : AV) : SubT (Q.set t x) (Q'.set t x) := fun i y hy => by
  rw [getT_set] at hy ⊢
  split at hy
  · rename_i e
    rw [if_pos e]
    exact hy
  · rename_i e
    rw [if_neg e]
    exact h i y hy
theorem sub_keep {S S' : St} (h : Sub S S') (d : Nat) (k : Option (List Nat × List Nat)) : Sub (keepA d k S) (keepA d k S') := by
  obtain ⟨Q, H, g⟩ := S
  obtain ⟨Q', H', g'⟩ := S'
  obtain ⟨hT, rfl, rfl⟩ := h
  cases k with
  | none => exact ⟨hT, rfl, rfl⟩
  | some k =>
    refine ⟨fun i y hy => ?_, rfl, rfl⟩
    simp only [keepA] at hy ⊢
    rw [getT_filter] at hy ⊢
    split at hy
    · rename_i e
      rw [if_pos e]
      exact hT i y hy
    · cases hy

theorem sub_fg {S S' : St} (h : Sub S S') (k : Option Nat) : Sub (fgA k S) (fgA k S') := by
  cases k with
  | none => exact h
  | some m =>
    refine ⟨fun t x hx => ?_, h.H, h.g⟩
    simp only [fgA] at hx ⊢
    rw [fg_get] at hx ⊢
    split at hx
    · rename_i e
      rw [if_pos e]
      exact h.T t x hx
    · cases hx
section
variable {T : Tab} {call : Call} {Q Q' : Tm} {H : Heap} {g : List Nat} {S1 : St}
theorem ev_sub (h : SubT Q Q') {t : Nat} {y : Operand} {v : AV} (e : ev T ⟨Q, H, g⟩ t y = some v) : ev T ⟨Q', H, g⟩ t y = some v := by
  cases y <;> first | exact h _ _ e | exact e
theorem evs_sub (h : SubT Q Q') : ∀ (ys : List Operand) (ts : List Nat) (vs : List AV), evs T ⟨Q, H, g⟩ ys ts = some vs → evs T ⟨Q', H, g⟩ ys ts = some vs
  | [], ts, vs, e => e
  | y :: r, ts, vs, e => by
    simp only [evs] at e ⊢
    split at e
    · rename_i h1 h2
      rw [ev_sub h h1, evs_sub h r _ _ h2]
      exact e
    · cases e
theorem parts_sub (h : SubT Q Q') (ty : Nat → Nat) : ∀ (ys : List (Nat × Operand)) (vs : List (Nat × AV)), partsA T ⟨Q, H, g⟩ ty ys = some vs → partsA T ⟨Q', H, g⟩ ty ys = some vs
  | [], vs, e => e
  | (i, y) :: r, vs, e => by
    simp only [partsA] at e ⊢
    split at e
    · rename_i h1 h2
      rw [ev_sub h h1, parts_sub h ty r _ h2]
      exact e
    · cases e
theorem evO_sub (h : SubT Q Q') {y : Option Operand} {v : Option AV} (e : evO T ⟨Q, H, g⟩ y = some v) : evO T ⟨Q', H, g⟩ y = some v := by
  cases y with
  | none => exact e
  | some y =>
    simp only [evO] at e ⊢
    split at e
    · rename_i h1
      rw [ev_sub h h1]
      exact e
    · cases e
theorem behind_T (p : AV) : behind ⟨Q', H, g⟩ p = behind ⟨Q, H, g⟩ p := by cases p <;> rfl
theorem lenA_T (t : Nat) (x : AV) : lenA T ⟨Q', H, g⟩ t x = lenA T ⟨Q, H, g⟩ t x := rfl
theorem listC_T (x : AV) : listC ⟨Q', H, g⟩ x = listC ⟨Q, H, g⟩ x := rfl
theorem lookA_T {kt et : Nat} {m k : AV} {b : Bool} : lookA T ⟨Q', H, g⟩ kt et m k b = lookA T ⟨Q, H, g⟩ kt et m k b := rfl
theorem adoptO_sub {f d dst : Nat} {H1 : Heap} {r x : AV} (e : adoptO T f d dst H1 ⟨Q, H, g⟩ r = some (x, S1)) : adoptO T f d dst H1 ⟨Q', H, g⟩ r = some (x, ⟨Q', S1.H, S1.g⟩) ∧ S1.T = Q := by
  unfold adoptO at e ⊢
  repeat' split at e
  all_goals first
    | (cases e; done)
    | (injection e with e; injection e with e1 e2; subst e1; subst e2; simp_all; done)
theorem thawV_sub {d dst : Nat} {H1 : Heap} {r x : AV} (e : thawV H1 d dst ⟨Q, H, g⟩ r = some (x, S1)) : thawV H1 d dst ⟨Q', H, g⟩ r = some (x, ⟨Q', S1.H, S1.g⟩) ∧ S1.T = Q := by
  unfold thawV at e ⊢
  repeat' split at e
  all_goals first
    | (cases e; done)
    | (injection e with e; injection e with e1 e2; subst e1; subst e2; simp_all; done)
theorem adopt_sub {f d dst : Nat} {H1 : Heap} {r x : AV} (e : adopt T f d dst H1 ⟨Q, H, g⟩ r = some (x, S1)) : adopt T f d dst H1 ⟨Q', H, g⟩ r = some (x, ⟨Q', S1.H, S1.g⟩) ∧ S1.T = Q := by
  unfold adopt at e ⊢
  split at e
  · unfold thawA at e ⊢
    split at e
    · split at e
      · rename_i y ds hy hds
        split at e
        · rename_i z S4 hz
          obtain ⟨h1, h2⟩ := thawV_sub (Q' := Q') hz
          injection e with e
          injection e with e1 e2
          subst e1; subst e2
          simp only [hy, hds, h1]
          exact ⟨trivial, h2⟩
        · cases e
      · cases e
    · exact thawV_sub e
  · split at e
    · exact adoptO_sub e
    · exact adoptO_sub e
theorem appendO_sub {d dst : Nat} {ts : List Nat} {s y x : AV} (e : appendO T d dst ⟨Q, H, g⟩ ts s y = some (x, S1)) : appendO T d dst ⟨Q', H, g⟩ ts s y = some (x, ⟨Q', S1.H, S1.g⟩) ∧ S1.T = Q := by
  unfold appendO at e ⊢
  repeat' split at e
  all_goals first
    | (cases e; done)
    | (injection e with e; injection e with e1 e2; subst e1; subst e2; simp_all; done)
theorem appendM_sub {d dst : Nat} {ts : List Nat} {sz : Nat} {y x : AV} (e : appendM T d dst ⟨Q, H, g⟩ ts sz y = some (x, S1)) : appendM T d dst ⟨Q', H, g⟩ ts sz y = some (x, ⟨Q', S1.H, S1.g⟩) ∧ S1.T = Q := by
  unfold appendM at e ⊢
  rw [listC_T (Q := Q)]
  repeat' split at e
  all_goals first
    | (cases e; done)
    | (injection e with e; injection e with e1 e2; subst e1; subst e2; simp_all; done)
theorem appendZ_sub {d dst : Nat} {ts : List Nat} {sz : Nat} {y x : AV} (e : appendZ T d dst ⟨Q, H, g⟩ ts sz y = some (x, S1)) : appendZ T d dst ⟨Q', H, g⟩ ts sz y = some (x, ⟨Q', S1.H, S1.g⟩) ∧ S1.T = Q := by
  unfold appendZ at e ⊢
  split at e
  · split at e
    · rename_i h1
      split at e
      · rename_i h2
        split at e
        · rename_i hc
          split at e
          · rename_i hm
            injection e with e; injection e with e1 e2; subst e1; subst e2
            simp only [h1, h2, if_pos hc, if_pos hm, and_self]
          · rename_i hm
            injection e with e; injection e with e1 e2; subst e1; subst e2
            simp only [h1, h2, if_pos hc, if_neg hm, and_self]
        · cases e
      · cases e
    · cases e
  · cases e
theorem appendB_sub {d dst : Nat} {ts : List Nat} {id : Id} {off k sz : Nat} {y x : AV} (e : appendB T d dst ⟨Q, H, g⟩ ts id off k sz y = some (x, S1)) : appendB T d dst ⟨Q', H, g⟩ ts id off k sz y = some (x, ⟨Q', S1.H, S1.g⟩) ∧ S1.T = Q := by
  unfold appendB at e ⊢
  rw [listC_T (Q := Q)]
  repeat' split at e
  all_goals first
    | (cases e; done)
    | (injection e with e; injection e with e1 e2; subst e1; subst e2; simp_all; done)
theorem copyA_sub {ts : List Nat} {x y z : AV} (e : copyA T ⟨Q, H, g⟩ ts x y = some (z, S1)) : copyA T ⟨Q', H, g⟩ ts x y = some (z, ⟨Q', S1.H, S1.g⟩) ∧ S1.T = Q := by
  unfold copyA at e ⊢
  rw [listC_T (Q := Q)]
  split at e
  · split at e
    · rename_i h1 h2
      split at e
      · rename_i hc
        injection e with e
        injection e with e1 e2
        subst e1; subst e2
        simp only [h1, h2, if_pos hc]
        exact ⟨trivial, trivial⟩
      · cases e
    · cases e
  · cases e
theorem clearA_sub {ts : List Nat} {x z : AV} (e : clearA T ⟨Q, H, g⟩ ts x = some (z, S1)) : clearA T ⟨Q', H, g⟩ ts x = some (z, ⟨Q', S1.H, S1.g⟩) ∧ S1.T = Q := by
  unfold clearA at e ⊢
  split at e
  · split at e
    · rename_i hu
      split at e
      · rename_i hi
        split at e
        · rename_i hb
          split at e
          · rename_i hc
            injection e with e
            injection e with e1 e2
            subst e1; subst e2
            simp only [hu, hi, hb, if_pos hc]
            exact ⟨trivial, trivial⟩
          · cases e
        · cases e
      · rename_i hi
        injection e with e
        injection e with e1 e2
        subst e1; subst e2
        simp only [hu]
        exact ⟨trivial, trivial⟩
      · cases e
    · cases e
  · cases e
theorem capA_sub {ts : List Nat} {x z : AV} (e : capA T ⟨Q, H, g⟩ ts x = some (z, S1)) : capA T ⟨Q', H, g⟩ ts x = some (z, ⟨Q', S1.H, S1.g⟩) ∧ S1.T = Q := by
  unfold capA at e ⊢
  repeat' split at e
  all_goals first
    | (cases e; done)
    | (injection e with e; injection e with e1 e2; subst e1; subst e2; simp_all; done)
theorem updA_sub {kt : Nat} {m k x : AV} (e : updA T ⟨Q, H, g⟩ kt m k x = some S1) : updA T ⟨Q', H, g⟩ kt m k x = some ⟨Q', S1.H, S1.g⟩ ∧ S1.T = Q := by
  unfold updA at e ⊢
  repeat' split at e
  all_goals first
    | (cases e; done)
    | (injection e with e; subst e; simp_all; done)
theorem callO_sub {d dst f : Nat} {args : List AV} {x : AV} (e : callO T call d dst f args ⟨Q, H, g⟩ = some (x, S1)) : callO T call d dst f args ⟨Q', H, g⟩ = some (x, ⟨Q', S1.H, S1.g⟩) ∧ S1.T = Q := by
  unfold callO at e ⊢
  split at e
  · split at e
    · split at e
      · exact adopt_sub e
      · cases e
    · split at e
      · exact adopt_sub e
      · cases e
  · simp only at e ⊢
    split at e
    · rename_i hc
      rw [if_pos hc]
      split at e
      · rename_i h1
        injection e with e
        injection e with e1 e2
        subst e1; subst e2
        exact ⟨rfl, rfl⟩
      · cases e
    · cases e
theorem lentA_T {f : Nat} {args : List AV} : lentA T ⟨Q', H, g⟩ f args = lentA T ⟨Q, H, g⟩ f args := rfl
theorem adoptF_sub {f d dst : Nat} {H1 : Heap} {r x : AV} (e : adoptF T f d dst H1 ⟨Q, H, g⟩ r = some (x, S1)) : adoptF T f d dst H1 ⟨Q', H, g⟩ r = some (x, ⟨Q', S1.H, S1.g⟩) ∧ S1.T = Q := by
  unfold adoptF at e ⊢
  split at e
  · unfold thawF at e ⊢
    repeat' split at e
    all_goals first
      | (cases e; done)
      | (injection e with e; injection e with e1 e2; subst e1; subst e2; simp_all; done)
  · repeat' split at e
    all_goals first
      | (cases e; done)
      | (injection e with e; injection e with e1 e2; subst e1; subst e2; simp_all; done)
theorem callA_sub {d dst f : Nat} {args : List AV} {x : AV} (e : callA T call d dst f args ⟨Q, H, g⟩ = some (x, S1)) : callA T call d dst f args ⟨Q', H, g⟩ = some (x, ⟨Q', S1.H, S1.g⟩) ∧ S1.T = Q := by
  unfold callA at e ⊢
  rw [lentA_T (Q := Q)]
  split at e
  · split at e
    · exact adoptF_sub e
    · cases e
  · exact callO_sub e
theorem builtin_sub {d dst : Nat} {b : Builtin} {ts : List Nat} {args : List AV} {x : AV} (e : builtinA T d dst ⟨Q, H, g⟩ b ts args = some (x, S1)) : builtinA T d dst ⟨Q', H, g⟩ b ts args = some (x, ⟨Q', S1.H, S1.g⟩) ∧ S1.T = Q := by
  unfold builtinA at e ⊢
  split at e
  · split at e
    · split at e
      · rename_i h1
        rw [lenA_T (Q := Q), h1]
        injection e with e
        injection e with e1 e2
        subst e1; subst e2
        exact ⟨rfl, rfl⟩
      · cases e
    · cases e
  · split at e
    · injection e with e
      injection e with e1 e2
      subst e1; subst e2
      exact ⟨rfl, rfl⟩
    · cases e
  · split at e
    · injection e with e
      injection e with e1 e2
      subst e1; subst e2
      exact ⟨rfl, rfl⟩
    · cases e
  · unfold appendA at e ⊢
    split at e
    · exact appendB_sub e
    · split at e
      · rename_i hm
        rw [if_pos hm]
        split at e
        · split at e
          · rename_i hz
            rw [if_pos hz]
            exact appendZ_sub e
          · rename_i hz
            rw [if_neg hz]
            exact appendM_sub e
        · cases e
      · rename_i hm
        rw [if_neg hm]
        exact appendO_sub e
    · cases e
  · exact copyA_sub e
  · exact clearA_sub e
  · exact capA_sub e
  · cases e
theorem v_sub {y : Option AV} {x : Option AV} (e : (match y with | some y => some (some y, (⟨Q, H, g⟩ : St)) | none => none) = some (x, S1)) :
    (match y with | some y => some (some y, (⟨Q', H, g⟩ : St)) | none => none) = some (x, ⟨Q', S1.H, S1.g⟩) ∧ S1.T = Q := by
  cases y with
  | none => cases e
  | some y =>
    injection e with e
    injection e with e1 e2
    subst e1; subst e2
    exact ⟨rfl, rfl⟩
theorem convS_sub {d dst z : Nat} {s : List UInt8} {x : AV} (e : convS T d dst ⟨Q, H, g⟩ z s = some (x, S1)) : convS T d dst ⟨Q', H, g⟩ z s = some (x, ⟨Q', S1.H, S1.g⟩) ∧ S1.T = Q := by
  unfold convS at e ⊢
  cases hz : T.und z with
  | none => rw [hz] at e; cases e
  | some u =>
    rw [hz] at e
    split at e
    · rename_i hu
      injection hu with hu
      subst hu
      split at e
      · rename_i hc
        injection e with e
        simp only [newArr, Prod.mk.injEq] at e
        obtain ⟨rfl, rfl⟩ := e
        simp only [if_pos hc, newArr]
        exact ⟨trivial, trivial⟩
      · cases e
    · cases e
theorem makeA_sub {d dst z : Nat} {n m : Int} {x : AV} (e : makeA T d dst ⟨Q, H, g⟩ z n m = some (x, S1)) : makeA T d dst ⟨Q', H, g⟩ z n m = some (x, ⟨Q', S1.H, S1.g⟩) ∧ S1.T = Q := by
  unfold makeA at e ⊢
  cases hz : T.und z with
  | none => rw [hz] at e; cases e
  | some u =>
    rw [hz] at e
    cases u with
    | slice el =>
      simp only at e ⊢
      cases hi : T.inf el with
      | none => rw [hi] at e; cases e
      | some q =>
        rw [hi] at e
        simp only at e ⊢
        split at e
        · rename_i hc
          rw [if_pos hc]
          injection e with e
          simp only [newArr, Prod.mk.injEq] at e
          obtain ⟨rfl, rfl⟩ := e
          exact ⟨rfl, rfl⟩
        · cases e
    | _ => cases e

theorem opA_sub (h : SubT Q Q') {d : Nat} {o : Oper} {x : Option AV} (e : opA T call d o ⟨Q, H, g⟩ = some (x, S1)) :
    opA T call d o ⟨Q', H, g⟩ = some (x, ⟨Q', S1.H, S1.g⟩) ∧ S1.T = Q := by
  unfold opA at e ⊢
  cases ho : o.op <;> simp only [ho] at e ⊢
  case move y =>
    cases he : ev T ⟨Q, H, g⟩ o.type y with
    | none => rw [he] at e; cases e
    | some p => rw [he] at e; rw [ev_sub h he]; exact v_sub (y := some p) e
  case assign y =>
    cases he : ev T ⟨Q, H, g⟩ o.type y with
    | none => rw [he] at e; cases e
    | some p => rw [he] at e; rw [ev_sub h he]; exact v_sub (y := some p) e
  case pick c a b =>
    split at e
    · rename_i t he
      rw [ev_sub h he]
      simp only
      cases t with
      | true =>
        simp only [if_true] at e ⊢
        cases he : ev T ⟨Q, H, g⟩ o.type a with
        | none => rw [he] at e; cases e
        | some p => rw [he] at e; rw [ev_sub h he]; exact v_sub (y := some p) e
      | false =>
        simp only [Bool.false_eq_true, if_false] at e ⊢
        cases he : ev T ⟨Q, H, g⟩ o.type b with
        | none => rw [he] at e; cases e
        | some p => rw [he] at e; rw [ev_sub h he]; exact v_sub (y := some p) e
    · cases e
  case alloc t =>
    split at e
    · injection e with e
      injection e with e1 e2
      subst e1; subst e2
      exact ⟨rfl, rfl⟩
    · cases e
  case box t y =>
    split at e
    · rename_i h1 he
      rw [ev_sub h he]
      simp only [h1]
      split at e
      · rename_i hc
        rw [if_pos hc]
        split at e
        · rename_i hro
          rw [if_pos hro]
          split at e
          · exact v_sub (y := some _) e
          · cases e
        rename_i hro
        rw [if_neg hro]
        injection e with e
        injection e with e1 e2
        subst e1; subst e2
        exact ⟨rfl, rfl⟩
      · cases e
    · cases e
  case build t ps =>
    split at e
    · rename_i h1 he
      rw [parts_sub h _ _ _ he]
      simp only [h1]
      split at e
      · rename_i hc
        rw [if_pos hc]
        exact v_sub e
      · cases e
    · cases e
  case buildSlice t n ps =>
    split at e
    · split at e
      · rename_i h1 he
        rw [parts_sub h _ _ _ he]
        simp only [h1]
        split at e
        · rename_i hc
          rw [if_pos hc]
          exact v_sub (y := some _) e
        rename_i h0
        rw [if_neg h0]
        split at e
        · rename_i hc
          rw [if_pos hc]
          split at e
          · split at e
            · exact v_sub (y := some _) e
            · cases e
          · cases e
        · cases e
      · cases e
    · cases e
  case load t a =>
    cases he : ev T ⟨Q, H, g⟩ 0 a with
    | none => rw [he] at e; cases e
    | some p =>
      rw [he] at e; rw [ev_sub h he]
      simp only at e ⊢
      rw [behind_T (Q := Q)]
      split at e
      · exact v_sub e
      · cases e
  case store t a y =>
    split at e
    · rename_i h1 h2 h3
      rw [ev_sub h h1, ev_sub h h2, h3]
      simp only
      split at e
      · split at e
        · rename_i hc
          rw [if_pos hc]
          injection e with e
          injection e with e1 e2
          subst e1; subst e2
          exact ⟨rfl, rfl⟩
        · cases e
      · cases e
    · cases e
  case nilCheck a =>
    split at e
    · rename_i h1
      rw [ev_sub h h1]
      simp only
      split at e
      · exact v_sub (y := some _) e
      · cases e
    · rename_i h1
      rw [ev_sub h h1]
      exact v_sub (y := some _) e
    · cases e
  case fieldAddr t a i =>
    split at e
    · rename_i h1 h2
      rw [ev_sub h h1, h2]
      simp only
      split at e
      · split at e
        · split at e
          · cases e
          · rename_i hn
            rw [if_neg hn]
            exact v_sub (y := some _) e
        · cases e
      · cases e
    · rename_i h1 h2
      rw [ev_sub h h1, h2]
      simp only
      split at e
      · split at e
        · split at e
          · cases e
          · rename_i hn
            rw [if_neg hn]
            exact v_sub (y := some _) e
        · cases e
      · cases e
    · cases e
  case indexAddr t a i =>
    split at e
    · rename_i h1 h2 h3
      rw [h1, ev_sub h h2, ev_sub h h3]
      simp only
      split at e
      · split at e
        · split at e
          · rename_i hc
            rw [if_pos hc]
            exact v_sub (y := some _) e
          · cases e
        · cases e
      · split at e
        · split at e
          · rename_i hc
            simp only [if_pos hc]
            split at e
            · exact v_sub (y := some _) e
            · cases e
          · cases e
        · cases e
    · rename_i h1 h2 h3
      rw [h1, ev_sub h h2, ev_sub h h3]
      simp only
      split at e
      · split at e
        · rename_i hc
          rw [if_pos hc]
          split at e
          · split at e
            · exact v_sub (y := some _) e
            · cases e
          · exact v_sub (y := some _) e
          · cases e
        · cases e
      · cases e
    · cases e
  case index t a i =>
    split at e
    · rename_i h1 h2 h3
      rw [h1, ev_sub h h2, ev_sub h h3]
      simp only
      split at e
      · rename_i hc
        rw [if_pos hc]
        split at e
        · exact v_sub (y := some _) e
        · cases e
      · cases e
    · rename_i h1 h2 h3
      rw [h1, ev_sub h h2, ev_sub h h3]
      simp only
      split at e
      · split at e
        · split at e
          · rename_i hc
            rw [if_pos hc]
            exact v_sub e
          · cases e
        · cases e
      · cases e
    · cases e
  case field t a i =>
    split at e
    · rename_i h1 h2
      rw [ev_sub h h1, h2]
      simp only
      split at e
      · exact v_sub e
      · cases e
    · cases e
  case binOp op t y z t' =>
    by_cases hn : isNilC op z = true
    · rw [if_pos hn] at e ⊢
      split at e
      · rename_i h1 h2
        rw [h1, ev_sub h h2]
        exact v_sub e
      · cases e
    rw [if_neg hn] at e ⊢
    split at e
    · rename_i h1 h2
      rw [ev_sub h h1, ev_sub h h2]
      exact v_sub e
    · cases e
  case unOp =>
    split at e
    · rename_i h1
      rw [ev_sub h h1]
      exact v_sub (y := some _) e
    · rename_i h1
      rw [ev_sub h h1]
      exact v_sub (y := some _) e
    · cases e
  case convert =>
    split at e
    · rename_i h1 h2 h3
      rw [h1, h2, ev_sub h h3]
      exact v_sub (y := some _) e
    · rename_i h1 h2 h3
      rw [h1, h2, ev_sub h h3]
      exact v_sub (y := some _) e
    · rename_i h1 h2 h3
      rw [h1, h2, ev_sub h h3]
      cases hb : convS T d (o.dst.getD 0) ⟨Q, H, g⟩ _ _ with
      | none => rw [hb] at e; cases e
      | some q =>
        obtain ⟨z, S2⟩ := q
        rw [hb] at e
        simp only [(convS_sub (Q' := Q') hb).1]
        injection e with e
        injection e with e1 e2
        subst e1; subst e2
        exact ⟨rfl, (convS_sub (Q' := Q') hb).2⟩
    · rename_i y h1 h2 h3
      rw [h1, h2, ev_sub h h3]
      have hst : strA ⟨Q', H, g⟩ y = strA ⟨Q, H, g⟩ y := by cases y <;> rfl
      have hcb : ∀ z, convB T ⟨Q', H, g⟩ z y = convB T ⟨Q, H, g⟩ z y := fun z => by simp only [convB, hst]
      simp only [hcb]
      exact v_sub e
    · cases e
  case makeSlice =>
    split at e
    · rename_i h1 h2
      rw [ev_sub h h1, ev_sub h h2]
      simp only
      cases hb : makeA T d (o.dst.getD 0) ⟨Q, H, g⟩ _ _ _ with
      | none => rw [hb] at e; cases e
      | some q =>
        obtain ⟨z, S2⟩ := q
        rw [hb] at e
        rw [(makeA_sub (Q' := Q') hb).1]
        injection e with e
        injection e with e1 e2
        subst e1; subst e2
        exact ⟨rfl, (makeA_sub (Q' := Q') hb).2⟩
    · cases e
  case makeFunc f n cs =>
    cases f <;> simp only at e ⊢
    case func k =>
      split at e
      · rename_i hc
        rw [if_pos hc]
        split at e
        · rename_i h1
          rw [evs_sub h _ _ _ h1]
          simp only
          split at e
          · rename_i hc2
            rw [if_pos hc2]
            exact v_sub (y := some _) e
          · cases e
        · cases e
      · cases e
    all_goals cases e
  case slice t y lo hi mx =>
    cases mx with
    | some mx =>
      split at e
      · simp_all
      · simp_all
      · rename_i h0 h1 h2 h3 h4
        injection h0 with h0
        subst h0
        rw [evO_sub h h1, evO_sub h h2, ev_sub h h3, h4]
        simp only
        split at e
        · rename_i h5 h6
          rw [h5, ev_sub h h6]
          simp only
          split at e
          · rename_i hc
            rw [if_pos hc]
            exact v_sub e
          · cases e
        · cases e
      · simp_all
      · rename_i hna h0 h1 h2 h3 h4
        injection h0 with h0
        subst h0
        rw [evO_sub h h1, evO_sub h h2, ev_sub h h3, h4]
        simp only
        split at e
        · rename_i h5 h6
          rw [ev_sub h h5]
          simp only [h6]
          split at e
          · rename_i hc
            rw [if_pos hc]
            split at e
            · exact v_sub (y := some _) e
            · cases e
          · cases e
        · cases e
      · cases e
    | none =>
      cases h1 : evO T ⟨Q, H, g⟩ lo with
      | none => rw [h1] at e; simp only at e; cases e
      | some l =>
        cases h2 : evO T ⟨Q, H, g⟩ hi with
        | none => rw [h1, h2] at e; simp only at e; cases e
        | some hh =>
          cases h3 : ev T ⟨Q, H, g⟩ 0 y with
          | none => rw [h1, h2, h3] at e; simp only at e; cases e
          | some z =>
            rw [h1, h2, h3] at e
            rw [evO_sub h h1, evO_sub h h2, ev_sub h h3]
            try simp only at e ⊢
            split at e
            · split at e
              · exact v_sub (y := some _) e
              · cases e
            · split at e
              · rename_i h5
                split at e
                · rename_i hc
                  simp only [h5, if_pos hc]
                  exact v_sub e
                · cases e
              · cases e
            · simp_all
            · split at e
              · split at e
                · rename_i hc
                  rw [if_pos hc]
                  split at e
                  · exact v_sub (y := some _) e
                  · cases e
                · cases e
              · cases e
            · simp_all
            · cases e
  case makeMap t r =>
    cases r with
    | none =>
      injection e with e
      injection e with e1 e2
      subst e1; subst e2
      exact ⟨rfl, rfl⟩
    | some r => cases e
  case lookup =>
    split at e
    · rename_i h1 h2
      rw [h1, ev_sub h h2]
      simp only
      split at e
      · rename_i h3
        rw [ev_sub h h3]
        simp only [lookA_T (Q := Q)]
        exact v_sub e
      · cases e
    · cases e
  case mapUpdate =>
    split at e
    · rename_i h1 h2
      rw [h1, ev_sub h h2]
      simp only
      split at e
      · rename_i h3 h4
        rw [ev_sub h h3, ev_sub h h4]
        simp only
        split at e
        · rename_i h5
          obtain ⟨h6, h7⟩ := updA_sub (Q' := Q') h5
          rw [h6]
          injection e with e
          injection e with e1 e2
          subst e1; subst e2
          exact ⟨rfl, h7⟩
        · cases e
      · cases e
    · cases e
  case insert =>
    split at e
    · rename_i h1 h2
      rw [h1, ev_sub h h2]
      simp only
      split at e
      · rename_i h3 h4
        rw [ev_sub h h3, ev_sub h h4]
        simp only
        split at e
        · rename_i h5
          obtain ⟨h6, h7⟩ := updA_sub (Q' := Q') h5
          rw [h6]
          injection e with e
          injection e with e1 e2
          subst e1; subst e2
          exact ⟨rfl, h7⟩
        · cases e
      · cases e
    · cases e
  case extract =>
    split at e
    · rename_i h1
      rw [ev_sub h h1]
      exact v_sub e
    · cases e
  case call c =>
    split at e
    · rename_i h1 h2
      simp only [h1, evs_sub h _ _ _ h2]
      cases hb : builtinA T d (o.dst.getD 0) ⟨Q, H, g⟩ _ c.argTypes.toList _ with
      | none => rw [hb] at e; cases e
      | some q =>
        obtain ⟨z, S2⟩ := q
        rw [hb] at e
        rw [(builtin_sub hb).1]
        injection e with e
        injection e with e1 e2
        subst e1; subst e2
        exact ⟨rfl, (builtin_sub (Q' := Q') hb).2⟩
    · rename_i h1 h2
      simp only [h1, evs_sub h _ _ _ h2]
      split at e
      · rename_i h3
        rw [ev_sub h h3]
        simp only
        cases hb : callA T call d (o.dst.getD 0) _ _ ⟨Q, H, g⟩ with
        | none => rw [hb] at e; cases e
        | some q =>
          obtain ⟨z, S2⟩ := q
          rw [hb] at e
          rw [(callA_sub hb).1]
          injection e with e
          injection e with e1 e2
          subst e1; subst e2
          exact ⟨rfl, (callA_sub (Q' := Q') hb).2⟩
      · rename_i h3
        rw [ev_sub h h3]
        simp only
        cases hb : callA T call d (o.dst.getD 0) _ _ ⟨Q, H, g⟩ with
        | none => rw [hb] at e; cases e
        | some q =>
          obtain ⟨z, S2⟩ := q
          rw [hb] at e
          rw [(callA_sub hb).1]
          injection e with e
          injection e with e1 e2
          subst e1; subst e2
          exact ⟨rfl, (callA_sub (Q' := Q') hb).2⟩
      · cases e
    · cases e
  all_goals cases e
theorem footA_sub (h : SubT Q Q') {d : Nat} {o : Oper} {x : Option AV} (e : opA T call d o ⟨Q, H, g⟩ = some (x, S1)) : footA T o ⟨Q', H, g⟩ = footA T o ⟨Q, H, g⟩ := by
  unfold opA at e
  unfold footA
  cases ho : o.op <;> simp only [ho] at e ⊢
  case load t a =>
    cases he : ev T ⟨Q, H, g⟩ 0 a with
    | none => rw [he] at e; cases e
    | some p => rw [ev_sub h he]
  case store t a y =>
    cases he : ev T ⟨Q, H, g⟩ 0 a with
    | none => rw [he] at e; cases e
    | some p => rw [ev_sub h he]
  case nilCheck a =>
    cases he : ev T ⟨Q, H, g⟩ 0 a with
    | none => rw [he] at e; cases e
    | some p => rw [ev_sub h he]
  case fieldAddr t a i =>
    cases he : ev T ⟨Q, H, g⟩ 0 a with
    | none => rw [he] at e; cases e
    | some p => rw [ev_sub h he]
  case indexAddr t a i =>
    cases he : ev T ⟨Q, H, g⟩ 0 a with
    | none => rw [he] at e; split at e <;> first | (cases e; done) | simp_all
    | some p => rw [ev_sub h he]
  case slice t a lo hi mx =>
    cases he : ev T ⟨Q, H, g⟩ 0 a with
    | none => rw [he] at e; split at e <;> first | (cases e; done) | simp_all
    | some p => rw [ev_sub h he]
  case lookup t a k c =>
    cases he : ev T ⟨Q, H, g⟩ 0 a with
    | none => rw [he] at e; split at e <;> first | (cases e; done) | simp_all
    | some p => rw [ev_sub h he]
  case mapUpdate t a k y =>
    cases he : ev T ⟨Q, H, g⟩ 0 a with
    | none => rw [he] at e; split at e <;> first | (cases e; done) | simp_all
    | some p => rw [ev_sub h he]
  case insert t a k y =>
    cases he : ev T ⟨Q, H, g⟩ 0 a with
    | none => rw [he] at e; split at e <;> first | (cases e; done) | simp_all
    | some p => rw [ev_sub h he]
  case binOp op t y z t' =>
    by_cases hn : isNilC op z = true
    · rw [if_pos hn] at e ⊢
      rw [if_pos hn]
      cases he : ev T ⟨Q, H, g⟩ t y with
      | none => rw [he] at e; split at e <;> first | (cases e; done) | simp_all
      | some p => rw [ev_sub h he]
    · rw [if_neg hn, if_neg hn]
  case convert s t y =>
    cases he : ev T ⟨Q, H, g⟩ 0 y with
    | none => rw [he] at e; split at e <;> first | (cases e; done) | simp_all
    | some p => rw [ev_sub h he]
  case call c =>
    cases h2 : evs T ⟨Q, H, g⟩ c.args.toList c.argTypes.toList with
    | none => rw [h2] at e; split at e <;> first | (cases e; done) | simp_all
    | some xs =>
      rw [h2] at e
      rw [evs_sub h _ _ _ h2]
      cases hc : c.callee with
      | builtin b => cases b <;> rfl
      | value f =>
        rw [hc] at e
        simp only at e ⊢
        cases h3 : ev T ⟨Q, H, g⟩ 0 f with
        | none => rw [h3] at e; cases e
        | some y =>
          rw [ev_sub h h3]
          cases y <;> first | rfl | (rename_i y; cases y <;> rfl)
      | _ => rfl

theorem wanted_sub (h : SubT Q Q') {ops : List Oper} {o : Oper} {b : Bool} (e : wantedA ops o ⟨Q, H, g⟩ = some b) : wantedA ops o ⟨Q', H, g⟩ = some b := by
  unfold wantedA at e ⊢
  split at e
  · exact e
  · split at e
    · split at e
      · rename_i h1
        simp only [h _ _ h1]
        exact e
      · rename_i h1
        simp only [h _ _ h1]
        exact e
      · cases e
    · cases e
theorem put_sub {S S' : St} (h : Sub S S') (t : Option Nat) (x : Option AV) : Sub (putA S t x) (putA S' t x) := by
  obtain ⟨hT, hH, hg⟩ := h
  cases t with
  | none => cases x <;> exact ⟨hT, hH, hg⟩
  | some t => cases x <;> exact ⟨subT_set hT _ _, hH, hg⟩
theorem opA_sub' {S S' S1 : St} (h : Sub S S') {d : Nat} {o : Oper} {x : Option AV} (e : opA T call d o S = some (x, S1)) : ∃ S2, opA T call d o S' = some (x, S2) ∧ Sub S1 S2 := by
  obtain ⟨Q, H, g⟩ := S
  obtain ⟨Q', H', g'⟩ := S'
  obtain ⟨hT, rfl, rfl⟩ := h
  obtain ⟨h1, h2⟩ := opA_sub hT e
  exact ⟨_, h1, by rw [h2]; exact hT, rfl, rfl⟩
theorem wanted_sub' {S S' : St} (h : Sub S S') {ops : List Oper} {o : Oper} {b : Bool} (e : wantedA ops o S = some b) : wantedA ops o S' = some b := by
  obtain ⟨Q, H, g⟩ := S
  obtain ⟨Q', H', g'⟩ := S'
  obtain ⟨hT, rfl, rfl⟩ := h
  exact wanted_sub hT e
theorem opsA_sub {d : Nat} {ops : List Oper} : ∀ (r : List Oper) {S S' S1 : St}, Sub S S' → opsA T call d ops r S = some S1 → ∃ S2, opsA T call d ops r S' = some S2 ∧ Sub S1 S2
  | [], S, S', S1, h, e => by
    simp only [opsA] at e
    injection e with e
    subst e
    exact ⟨S', rfl, h⟩
  | o :: r, S, S', S1, h, e => by
    simp only [opsA] at e ⊢
    split at e
    · rename_i hw
      rw [wanted_sub' h hw]
      simp only
      split at e
      · rename_i x S2 he
        obtain ⟨S3, h3, h4⟩ := opA_sub' h he
        rw [h3]
        exact opsA_sub r (put_sub h4 _ _) e
      · cases e
    · rename_i hw
      rw [wanted_sub' h hw]
      exact opsA_sub r (put_sub h _ _) e
    · cases e
theorem opsD_sub {d : Nat} {p : List Nat} {ops : List Oper} : ∀ (r : List Oper) (i : Nat) {S S' S1 : St} {fs : List Foot}, Sub S S' → opsD T call d p ops i r S = some (S1, fs) → ∃ S2, opsD T call d p ops i r S' = some (S2, fs) ∧ Sub S1 S2
  | [], i, S, S', S1, fs, h, e => by
    simp only [opsD] at e
    injection e with e
    injection e with e1 e2
    subst e1; subst e2
    exact ⟨S', rfl, h⟩
  | o :: r, i, S, S', S1, fs, h, e => by
    simp only [opsD] at e ⊢
    split at e
    · rename_i S2 f hs
      have : ∃ S3, stepD T call d p ops i o S' = some (S3, f) ∧ Sub S2 S3 := by
        unfold stepD at hs ⊢
        split at hs
        · rename_i hw
          rw [wanted_sub' h hw]
          simp only
          split at hs
          · rename_i x S3 he
            injection hs with hs
            injection hs with e1 e2
            subst e1; subst e2
            have h5 : Sub { S with g := (i + 2) :: p } { S' with g := (i + 2) :: p } := ⟨h.T, h.H, rfl⟩
            obtain ⟨S4, h6, h7⟩ := opA_sub' h5 he
            rw [h6]
            refine ⟨_, ?_, put_sub h7 _ _⟩
            have : footA T o S' = footA T o S := by
              have := footA_sub (T := T) (call := call) h5.T he
              rw [← footA_g S' ((i + 2) :: p), ← footA_g S ((i + 2) :: p), ← this]
              obtain ⟨Q, H, g⟩ := S
              obtain ⟨Q', H', g'⟩ := S'
              obtain ⟨hT, rfl, rfl⟩ := h
              rfl
            simp only [this]
          · cases hs
        · rename_i hw
          rw [wanted_sub' h hw]
          injection hs with hs
          injection hs with e1 e2
          subst e1; subst e2
          exact ⟨_, rfl, put_sub h _ _⟩
        · cases hs
      obtain ⟨S3, h3, h4⟩ := this
      rw [h3]
      simp only
      split at e
      · rename_i S4 fs' he
        obtain ⟨S5, h5, h6⟩ := opsD_sub r _ h4 he
        rw [h5]
        injection e with e
        injection e with e1 e2
        subst e1; subst e2
        exact ⟨S5, rfl, h6⟩
      · cases e
    · cases e
theorem drawA_sub {d : Nat} {L : List (List Nat)} {ops : List Oper} {S S' S1 : St} (h : Sub S S') (e : drawA T call d L ops S = some S1) : ∃ S2, drawA T call d L ops S' = some S2 ∧ Sub S1 S2 := by
  unfold drawA at e ⊢
  rw [← h.g]
  split at e
  · rename_i S2 fs he
    obtain ⟨S3, h3, h4⟩ := opsD_sub _ _ h he
    rw [h3]
    simp only
    split at e
    · rename_i hc
      rw [if_pos hc]
      injection e with e
      subst e
      exact ⟨_, rfl, h4.T, h4.H, rfl⟩
    · cases e
  · cases e
theorem loopA_sub {step : St → Option (Out × St)} {keep : St → St} (hk : ∀ S S', Sub S S' → Sub (keep S) (keep S')) (hs : ∀ S S' o S1, Sub S S' → step S = some (o, S1) → ∃ S2, step S' = some (o, S2) ∧ Sub S1 S2) :
    ∀ (k : Nat) {S S' S1 : St} {o : Out}, Sub S S' → loopA step keep k S = some (o, S1) → ∃ S2, loopA step keep k S' = some (o, S2) ∧ Sub S1 S2
  | 0, S, S', S1, o, h, e => by simp [loopA] at e
  | k + 1, S, S', S1, o, h, e => by
    simp only [loopA] at e ⊢
    cases hst : step (keep S) with
    | none => rw [hst] at e; cases e
    | some q =>
      obtain ⟨o', S2⟩ := q
      rw [hst] at e
      obtain ⟨S3, h3, h4⟩ := hs _ _ _ _ (hk _ _ h) hst
      rw [h3]
      cases o' with
      | nrm => exact loopA_sub hk hs k h4 e
      | _ =>
        simp only at e ⊢
        injection e with e
        injection e with e1 e2
        subst e1; subst e2
        exact ⟨S3, rfl, h4⟩
theorem codeA_sub {n f d : Nat} : ∀ (c : Code) {S S' S1 : St} {o : Out}, Sub S S' → codeA T call n f d c S = some (o, S1) → ∃ S2, codeA T call n f d c S' = some (o, S2) ∧ Sub S1 S2
  | .region id ops false, S, S', S1, o, h, e => by
    simp only [codeA] at e ⊢
    split at e
    · rename_i he
      obtain ⟨S2, h2, h3⟩ := opsA_sub _ h he
      rw [h2]
      injection e with e
      injection e with e1 e2
      subst e1; subst e2
      exact ⟨_, rfl, sub_fg h3 _⟩
    · cases e
  | .region id ops true, S, S', S1, o, h, e => by
    simp only [codeA] at e ⊢
    split at e
    · split at e
      · rename_i he
        obtain ⟨S2, h2, h3⟩ := drawA_sub h he
        rw [h2]
        injection e with e
        injection e with e1 e2
        subst e1; subst e2
        exact ⟨_, rfl, sub_fg h3 _⟩
      · cases e
    · cases e
  | .seq a b, S, S', S1, o, h, e => by
    simp only [codeA] at e ⊢
    cases ha : codeA T call n f d a S with
    | none => rw [ha] at e; cases e
    | some q =>
      obtain ⟨o', S2⟩ := q
      rw [ha] at e
      obtain ⟨S3, h3, h4⟩ := codeA_sub a h ha
      rw [h3]
      cases o' with
      | nrm => exact codeA_sub b h4 e
      | _ =>
        simp only at e ⊢
        injection e with e
        injection e with e1 e2
        subst e1; subst e2
        exact ⟨S3, rfl, h4⟩
  | .cond c a b, S, S', S1, o, h, e => by
    simp only [codeA] at e ⊢
    have hev : ∀ {v}, ev T S 0 c = some v → ev T S' 0 c = some v := fun {v} he => by
      obtain ⟨Q, H, g⟩ := S
      obtain ⟨Q', H', g'⟩ := S'
      obtain ⟨hT, rfl, rfl⟩ := h
      exact ev_sub hT he
    split at e
    · rename_i t he
      rw [hev he]
      cases t with
      | true => simp only [if_true] at e ⊢; exact codeA_sub a h e
      | false => simp only [Bool.false_eq_true, if_false] at e ⊢; exact codeA_sub b h e
    · cases e
  | .block id b, S, S', S1, o, h, e => by
    simp only [codeA] at e ⊢
    cases hb : codeA T call n f d b S with
    | none => rw [hb] at e; cases e
    | some q =>
      obtain ⟨o', S2⟩ := q
      rw [hb] at e
      obtain ⟨S3, h3, h4⟩ := codeA_sub b h hb
      rw [h3]
      cases o' with
      | exit i =>
        simp only at e ⊢
        split at e
        · rename_i hi
          rw [if_pos hi]
          injection e with e
          injection e with e1 e2
          subst e1; subst e2
          exact ⟨S3, rfl, h4⟩
        · rename_i hi
          rw [if_neg hi]
          injection e with e
          injection e with e1 e2
          subst e1; subst e2
          exact ⟨S3, rfl, h4⟩
      | _ =>
        simp only at e ⊢
        injection e with e
        injection e with e1 e2
        subst e1; subst e2
        exact ⟨S3, rfl, h4⟩
  | .loop b, S, S', S1, o, h, e => by
    simp only [codeA] at e ⊢
    exact loopA_sub (fun S S' h => sub_keep h _ _) (fun S S' o S1 h e => codeA_sub b h e) _ h e
  | .skip, S, S', S1, o, h, e | .exit _, S, S', S1, o, h, e | .ret, S, S', S1, o, h, e => by
    simp only [codeA] at e ⊢
    injection e with e
    injection e with e1 e2
    subst e1; subst e2
    exact ⟨S', rfl, h⟩
  | .scope _, S, S', S1, o, h, e | .label _, S, S', S1, o, h, e | .goto _, S, S', S1, o, h, e | .rangeFunc .., S, S', S1, o, h, e | .refuse .., S, S', S1, o, h, e => by simp [codeA] at e
theorem resA_sub {S S' : St} (h : Sub S S') : ∀ (rs : List ResultVar) (xs : List AV), resA T S rs = some xs → resA T S' rs = some xs
  | [], xs, e => e
  | .tmp t :: r, xs, e => by
    simp only [resA] at e ⊢
    split at e
    · rename_i h1 h2
      rw [h.T _ _ h1, resA_sub h r _ h2]
      exact e
    · cases e
  | .cell a t :: r, xs, e => by
    simp only [resA] at e ⊢
    split at e
    · rename_i p h1
      rw [h.T _ _ h1]
      have hb : behind S' p = behind S p := by
        obtain ⟨Q, H, g⟩ := S
        obtain ⟨Q', H', g'⟩ := S'
        obtain ⟨hT, rfl, rfl⟩ := h
        exact behind_T p
      simp only [hb]
      split at e
      · split at e
        · rename_i h3 h4 h5
          simp only [h4, resA_sub h r _ h5]
          exact e
        · cases e
      · cases e
    · cases e
end
end Go.Proofs.Ytfcfifohflgboaa.Am
