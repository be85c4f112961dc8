/- What a piece of code comes to, as a predicate on its end: conditions, loops and forgetting. -/
import Derived.Test.YtfcfifohflgboaaAmEval
import Derived.Test.YtfcfifohflgboaaAmSub
set_option linter.unusedVariables false
set_option linter.unusedSimpArgs false
namespace Go.Proofs.Ytfcfifohflgboaa.Am
open Go Go.RowKit

def Gd (R : Out → St → Prop) : Option (Out × St) → Prop
  | some (o, S) => R o S
  | none => False
def Up (R : Out → St → Prop) : Prop := ∀ o S S', Sub S S' → R o S → R o S'
theorem good_mono {R R' : Out → St → Prop} (h : ∀ o S, R o S → R' o S) : ∀ {q}, Gd R q → Gd R' q
  | some (o, S), k => h o S k
def Ret (T : Tab) (f : Nat) (args : List AV) (r : AV) : Prop := ∃ H, callR T 0 f args [] [] = some (r, H)
section
variable {T : Tab} {call : Call} {n f d : Nat} {K : List It} {S S0 S' : St} {a b : Code} {R : Out → St → Prop} {all r : List Oper}
theorem good_ci {c : Bool} (h1 : c = true → Gd R (cx T call n f d K a S)) (h2 : c = false → Gd R (cx T call n f d K b S)) : Gd R (ci T call n f d K a b S (some (.d (.bool c)))) := by
  cases c with
  | true => exact h1 rfl
  | false => exact h2 rfl
theorem good_cgt {c : Bool} {o : Oper} (h1 : c = true → Gd R (co T call n f d K all (o :: r) S)) (h2 : c = false → Gd R (co T call n f d K all r (putA S o.dst none))) : Gd R (cg T call n f d K all o r true S (some (.d (.bool c)))) := by
  cases c with
  | true => exact h1 rfl
  | false => exact h2 rfl
theorem good_cgf {c : Bool} {o : Oper} (h1 : c = false → Gd R (co T call n f d K all (o :: r) S)) (h2 : c = true → Gd R (co T call n f d K all r (putA S o.dst none))) : Gd R (cg T call n f d K all o r false S (some (.d (.bool c)))) := by
  cases c with
  | true => exact h2 rfl
  | false => exact h1 rfl
theorem good_cqgt {c : Bool} {o : Oper} {p : List Nat} {L : List (List Nat)} {i : Nat} {fs : List Foot} (h1 : c = true → Gd R (cq T call n f d K p L all i (o :: r) fs S)) (h2 : c = false → Gd R (cq T call n f d K p L all (i + 1) r (fs ++ [⟨[], [], false⟩]) (putA S o.dst none))) :
    Gd R (cqg T call n f d K p L all i o r fs true S (some (.d (.bool c)))) := by
  cases c with
  | true => exact h1 rfl
  | false => exact h2 rfl
theorem good_cqgf {c : Bool} {o : Oper} {p : List Nat} {L : List (List Nat)} {i : Nat} {fs : List Foot} (h1 : c = false → Gd R (cq T call n f d K p L all i (o :: r) fs S)) (h2 : c = true → Gd R (cq T call n f d K p L all (i + 1) r (fs ++ [⟨[], [], false⟩]) (putA S o.dst none))) :
    Gd R (cqg T call n f d K p L all i o r fs false S (some (.d (.bool c)))) := by
  cases c with
  | true => exact h2 rfl
  | false => exact h1 rfl
theorem cr_sub : ∀ (K : List It) {o o' : Out} {S0 S S1 : St}, Sub S0 S → cr T call n f d K (some (o, S0)) = some (o', S1) → ∃ S2, cr T call n f d K (some (o, S)) = some (o', S2) ∧ Sub S1 S2
  | [], o, o', S0, S, S1, h, e => by
    simp only [cr] at e ⊢
    injection e with e
    injection e with e1 e2
    subst e1; subst e2
    exact ⟨S, rfl, h⟩
  | .seq c :: K, o, o', S0, S, S1, h, e => by
    simp only [cr] at e ⊢
    cases o with
    | nrm =>
      simp only [kC] at e ⊢
      cases hc : codeA T call n f d c S0 with
      | none => rw [hc, cr_none] at e; cases e
      | some q =>
        obtain ⟨o2, S2⟩ := q
        rw [hc] at e
        obtain ⟨S3, h3, h4⟩ := codeA_sub c h hc
        rw [h3]
        exact cr_sub K h4 e
    | _ => exact cr_sub K h e
  | .blk id :: K, o, o', S0, S, S1, h, e => by
    simp only [cr] at e ⊢
    cases o with
    | exit i =>
      simp only [kB] at e ⊢
      by_cases hi : i = id
      · rw [if_pos hi] at e ⊢; exact cr_sub K h e
      · rw [if_neg hi] at e ⊢; exact cr_sub K h e
    | _ => exact cr_sub K h e
  | .fg id :: K, o, o', S0, S, S1, h, e => by
    simp only [cr] at e ⊢
    cases o with
    | nrm => exact cr_sub K (sub_fg h _) e
    | _ => exact cr_sub K h e
  | .lp k b :: K, o, o', S0, S, S1, h, e => by
    simp only [cr] at e ⊢
    cases o with
    | nrm =>
      simp only [kL] at e ⊢
      cases hc : loopA (fun S => codeA T call n f d b S) (keepA d ((nameOf b).bind (T.keep f))) k S0 with
      | none => rw [hc, cr_none] at e; cases e
      | some q =>
        obtain ⟨o2, S2⟩ := q
        rw [hc] at e
        obtain ⟨S3, h3, h4⟩ := loopA_sub (fun S S' h => sub_keep h _ _) (fun S S' o S1 h e => codeA_sub b h e) k h hc
        rw [h3]
        exact cr_sub K h4 e
    | _ => exact cr_sub K h e
theorem good_sub_cr (hu : Up R) {o : Out} (hs : Sub S0 S) (h : Gd R (cr T call n f d K (some (o, S0)))) : Gd R (cr T call n f d K (some (o, S))) := by
  cases hr : cr T call n f d K (some (o, S0)) with
  | none => rw [hr] at h; exact h.elim
  | some q =>
    obtain ⟨o', S3⟩ := q
    obtain ⟨S4, h4, h5⟩ := cr_sub K hs hr
    rw [hr] at h
    rw [h4]
    exact hu _ _ _ h5 h
theorem good_loop {α : Type} (I : α → Prop) (mk : α → St) (m : α → Nat) (E : α → Out → St → Prop) (keep : St → St) (hkeep : keepA d ((nameOf b).bind (T.keep f)) = keep) (hE : ∀ x, Up (E x)) (hsub : ∀ S S', Sub S S' → Sub (keep S) (keep S'))
    (h : ∀ x, I x → Gd (fun o S' => (o ≠ .nrm ∧ E x o S') ∨ (o = .nrm ∧ ∃ y, I y ∧ m y < m x ∧ Sub (mk y) (keep S') ∧ ∀ o S, E y o S → E x o S)) (cx T call n f d [] b (mk x))) :
    ∀ (k : Nat) (x : α) (S : St), I x → m x < k → Sub (mk x) (keep S) → Gd (E x) (loopA (fun S => codeA T call n f d b S) keep k S)
  | 0, x, S, hI, hm, hs => by omega
  | k + 1, x, S, hI, hm, hs => by
    simp only [loopA]
    have h1 := h x hI
    unfold cx at h1
    rw [cr_nil] at h1
    cases hc : codeA T call n f d b (mk x) with
    | none => rw [hc] at h1; exact h1.elim
    | some q =>
      obtain ⟨o, S1⟩ := q
      rw [hc] at h1
      obtain ⟨S2, h2, h3⟩ := codeA_sub b hs hc
      rw [h2]
      rcases h1 with ⟨ho, he⟩ | ⟨ho, y, hy, hlt, hsy, himp⟩
      · cases o with
        | nrm => exact (ho rfl).elim
        | _ => exact hE x _ _ _ h3 he
      · subst ho
        simp only
        exact good_mono himp (good_loop I mk m E keep hkeep hE hsub h k y S2 hy (by omega) (hsy.trans (hsub _ _ h3)))
theorem good_cr_of {q : Option (Out × St)} {E : Out → St → Prop} (h : Gd E q) (hk : ∀ o S', E o S' → Gd R (cr T call n f d K (some (o, S')))) : Gd R (cr T call n f d K q) := by
  cases q with
  | none => exact h.elim
  | some q => exact hk _ _ h
theorem good_cx_loop {α : Type} (I : α → Prop) (mk : α → St) (m : α → Nat) (E : α → Out → St → Prop) (ts hs : List Nat) (hkeep : (nameOf b).bind (T.keep f) = some (ts, hs)) (x : α) (hE : ∀ x, Up (E x))
    (h : ∀ x, I x → Gd (fun o S' => (o ≠ .nrm ∧ E x o S') ∨ (o = .nrm ∧ ∃ y, I y ∧ m y < m x ∧ Sub (mk y) (keepA d (some (ts, hs)) S') ∧ ∀ o S, E y o S → E x o S)) (cx T call n f d [] b (mk x)))
    (hI : I x) (hm : m x < n) (hs : Sub (mk x) (keepA d (some (ts, hs)) S)) (hk : ∀ o S', E x o S' → Gd R (cr T call n f d K (some (o, S')))) : Gd R (cx T call n f d K (.loop b) S) := by
  unfold cx
  refine good_cr_of (E := E x) ?_ hk
  simp only [codeA]
  exact good_loop I mk m E _ rfl hE (fun S S' h => sub_keep h _ _) (by rw [hkeep]; exact h) n x S hI hm (by rw [hkeep]; exact hs)
end
/-! ### a loop's head and ends -/
def LoopR {α : Type} (I : α → Prop) (mk : α → St) (m : α → Nat) (E : α → Out → St → Prop) (d : Nat) (ts hs : List Nat) (x : α) : Out → St → Prop := fun o S' =>
  (o ≠ .nrm ∧ E x o S') ∨ (o = .nrm ∧ ∃ y, I y ∧ m y < m x ∧ Sub (mk y) (keepA d (some (ts, hs)) S') ∧ ∀ o S, E y o S → E x o S)
theorem loop_nrm {α : Type} {I : α → Prop} {mk : α → St} {m : α → Nat} {E : α → Out → St → Prop} {d : Nat} {ts hs : List Nat} {x : α} {S' : St} (y : α) (hI : I y) (hm : m y < m x) (he : ∀ o S, E y o S → E x o S) (h : Sub (mk y) (keepA d (some (ts, hs)) S')) :
    Gd (LoopR I mk m E d ts hs x) (some (.nrm, S')) := .inr ⟨rfl, y, hI, hm, h, he⟩
theorem loop_end {α : Type} {I : α → Prop} {mk : α → St} {m : α → Nat} {E : α → Out → St → Prop} {d : Nat} {ts hs : List Nat} {x : α} {o : Out} {S' : St} (ho : o ≠ .nrm) (h : E x o S') :
    Gd (LoopR I mk m E d ts hs x) (some (o, S')) := .inl ⟨ho, h⟩
def EX (k : Out) (S0 : St) : Out → St → Prop := fun o S => o = k ∧ Sub S0 S
theorem up_ex {k : Out} {S0 : St} : Up (EX k S0) := fun o S S' h ⟨h1, h2⟩ => ⟨h1, h2.trans h⟩
theorem up_or {R R' : Out → St → Prop} (h : Up R) (h' : Up R') : Up (fun o S => R o S ∨ R' o S) := fun o S S' hs hr => hr.elim (fun x => .inl (h o S S' hs x)) fun x => .inr (h' o S S' hs x)
theorem up_and {R : Out → St → Prop} {p : Prop} (h : Up R) : Up (fun o S => p ∧ R o S) := fun o S S' hs hr => ⟨hr.1, h o S S' hs hr.2⟩
theorem sub_mk {Q Q' : Tm} {H : Heap} {g : List Nat} (h : SubT Q Q') : Sub ⟨Q, H, g⟩ ⟨Q', H, g⟩ := ⟨h, rfl, rfl⟩
def kpT (ts : List Nat) : Tm → Tm
  | [] => []
  | (i, x) :: r => if ts.contains i = true then (i, x) :: kpT ts r else kpT ts r
def kpH (d : Nat) (hs : List Nat) : Heap → Heap
  | [] => []
  | (i, p) :: r => if (decide (i.d < d) || hs.contains i.t) = true then (i, p) :: kpH d hs r else kpH d hs r
theorem kpT_eq (ts : List Nat) : ∀ (Q : Tm), (Q.filter fun e => ts.contains e.1) = kpT ts Q
  | [] => rfl
  | (i, x) :: r => by simp only [List.filter_cons, kpT, kpT_eq ts r]
theorem kpH_eq (d : Nat) (hs : List Nat) : ∀ (H : Heap), (H.filter fun e => decide (e.1.d < d) || hs.contains e.1.t) = kpH d hs H
  | [] => rfl
  | (i, x) :: r => by simp only [List.filter_cons, kpH, kpH_eq d hs r]
theorem kp_some {d : Nat} {ts hs : List Nat} {Q : Tm} {H : Heap} {g : List Nat} : keepA d (some (ts, hs)) ⟨Q, H, g⟩ = ⟨kpT ts Q, kpH d hs H, g⟩ := by
  simp only [keepA, kpT_eq, kpH_eq]
theorem kpT_nil {ts : List Nat} : kpT ts [] = [] := rfl
theorem kpT_cons {ts : List Nat} {i : Nat} {x : AV} {Q : Tm} : kpT ts ((i, x) :: Q) = if ts.contains i = true then (i, x) :: kpT ts Q else kpT ts Q := rfl
theorem kpH_nil {d : Nat} {hs : List Nat} : kpH d hs [] = [] := rfl
theorem kpH_cons {d : Nat} {hs : List Nat} {i : Id} {p : Place} {H : Heap} : kpH d hs ((i, p) :: H) = if (decide (i.d < d) || hs.contains i.t) = true then (i, p) :: kpH d hs H else kpH d hs H := rfl
theorem good_loopR {α : Type} {T : Tab} {call : Call} {n f d : Nat} {K : List It} {S : St} {b : Code} {R : Out → St → Prop} (I : α → Prop) (mk : α → St) (m : α → Nat) (E : α → Out → St → Prop) (x : α) {ts hs : List Nat} (hkeep : (nameOf b).bind (T.keep f) = some (ts, hs)) (hE : ∀ x, Up (E x))
    (hI : I x) (hm : m x < n) (h : ∀ x, I x → Gd (LoopR I mk m E d ts hs x) (cx T call n f d [] b (mk x)))
    (hs : Sub (mk x) (keepA d (some (ts, hs)) S)) (hk : ∀ o S', E x o S' → Gd R (cr T call n f d K (some (o, S')))) : Gd R (cx T call n f d K (.loop b) S) :=
  good_cx_loop I mk m E ts _ hkeep x hE h hI hm hs hk
section
variable {T : Tab}
def Fin (T : Tab) (rs : List ResultVar) (r : AV) (P : Heap → Prop) : Out → St → Prop := fun o S => (∀ i, o ≠ .exit i) ∧ ∃ H, res1 T S rs = some (r, H) ∧ P H
theorem up_fin {rs : List ResultVar} {r : AV} {P : Heap → Prop} : Up (Fin T rs r P) := fun o S S' h ⟨h1, H, h2, h3⟩ => ⟨h1, H, by
  unfold res1 at h2 ⊢
  have hres : ∀ xs, resA T S rs = some xs → resA T S' rs = some xs := fun xs e => resA_sub h rs xs e
  cases hr : resA T S rs with
  | none => rw [hr] at h2; cases h2
  | some xs =>
    rw [hr] at h2
    rw [hres xs hr, ← h.H]
    exact h2, h3⟩
theorem ret_good {call : Call} (hcall : call = callR T) (n : Nat) {d f : Nat} {args : List AV} {H : Heap} {g : List Nat} {F : Func} {c : Code} {r : AV} {P : Heap → Prop} (h : T.fn f = some F) (hb : F.body = some c) (hl : args.length = F.params.size + F.nfree)
    (hg : Gd (Fin T F.results.toList r P) (cx T call n f d [] c ⟨argsT 0 args, H, g⟩)) (hna : isAlt T f args H = false := by first | exact isAlt_tab (by kernel_rfl) | assumption | rfl) : ∃ H', callR T d f args H g = some (r, H') ∧ P H' := by
  subst hcall
  cases hc : cx T (callR T) n f d [] c ⟨argsT 0 args, H, g⟩ with
  | none => rw [hc] at hg; exact hg.elim
  | some q =>
    obtain ⟨o, S⟩ := q
    rw [hc] at hg
    obtain ⟨h1, H', h2, h3⟩ := hg
    refine ⟨H', callR_step n hna ?_, h3⟩
    rw [step_eq h hb hl, hc]
    cases o with
    | exit i => exact (h1 i rfl).elim
    | nrm => exact h2
    | ret => exact h2
theorem ret_of (n : Nat) {f : Nat} {args : List AV} {F : Func} {c : Code} {r : AV} (h : T.fn f = some F) (hb : F.body = some c) (hl : args.length = F.params.size + F.nfree)
    (hg : Gd (Fin T F.results.toList r (fun _ => True)) (cx T (callR T) n f 0 [] c ⟨argsT 0 args, [], []⟩)) (hna : isAlt T f args [] = false := by first | exact isAlt_tab (by kernel_rfl) | assumption | rfl) : Ret T f args r := by
  obtain ⟨H, h1, _⟩ := ret_good rfl n h hb hl hg hna
  exact ⟨H, h1⟩
def FinR (T : Tab) (r : AV) (P : Heap → Prop) (S : St) (rs : List ResultVar) : Prop := ∃ H, res1 T S rs = some (r, H) ∧ P H
theorem fin_ret {rs : List ResultVar} {r : AV} {P : Heap → Prop} {S : St} : Gd (Fin T rs r P) (some (.ret, S)) = FinR T r P S rs := by
  apply propext
  exact ⟨fun h => h.2, fun h => ⟨(fun i h => by cases h), h⟩⟩
theorem fin_nrm {rs : List ResultVar} {r : AV} {P : Heap → Prop} {S : St} : Gd (Fin T rs r P) (some (.nrm, S)) = FinR T r P S rs := by
  apply propext
  exact ⟨fun h => h.2, fun h => ⟨(fun i h => by cases h), h⟩⟩
section
variable {Q : Tm} {H : Heap} {g : List Nat} {rs : List ResultVar} {r : AV} {P : Heap → Prop}
def FinL (r : AV) (P : Heap → Prop) (H : Heap) : Option (List AV) → Prop
  | some [x] => x = r ∧ P H
  | some xs => (xs.all noTup = true ∧ .tup xs = r) ∧ P H
  | none => False
theorem finR_eq : FinR T r P ⟨Q, H, g⟩ rs = FinL r P H (resA T ⟨Q, H, g⟩ rs) := by
  apply propext
  unfold FinR res1
  generalize resA T ⟨Q, H, g⟩ rs = q
  rcases q with _ | ⟨_ | ⟨x, _ | ⟨y, ys⟩⟩⟩
  · simp [FinL]
  · simp only [FinL, List.all_nil, if_true, true_and]
    exact ⟨fun ⟨H', h1, h2⟩ => by injection h1 with h1; injection h1 with h1 h3; subst h3; exact ⟨h1, h2⟩, fun ⟨h1, h2⟩ => ⟨H, by rw [h1], h2⟩⟩
  · simp only [FinL]
    exact ⟨fun ⟨H', h1, h2⟩ => by injection h1 with h1; injection h1 with h1 h3; subst h3; exact ⟨h1, h2⟩, fun ⟨h1, h2⟩ => ⟨H, by rw [h1], h2⟩⟩
  · by_cases h : (x :: y :: ys).all noTup = true
    · simp only [if_pos h, FinL, h, true_and]
      constructor
      · rintro ⟨H', h1, h2⟩
        injection h1 with h1
        injection h1 with h1 h3
        subst h3
        exact ⟨h1, h2⟩
      · rintro ⟨h1, h2⟩
        exact ⟨H, by rw [if_pos trivial, h1], h2⟩
    · simp only [if_neg h, FinL, h, false_and]
      simp
theorem finL_1 {x : AV} : FinL r P H (some [x]) = (x = r ∧ P H) := rfl
theorem finL_2 {x y : AV} {ys : List AV} : FinL r P H (some (x :: y :: ys)) = (((x :: y :: ys).all noTup = true ∧ .tup (x :: y :: ys) = r) ∧ P H) := rfl
theorem resA_nil : resA T ⟨Q, H, g⟩ [] = some [] := rfl
theorem resA_tmp {t : Nat} {rs : List ResultVar} : resA T ⟨Q, H, g⟩ (.tmp t :: rs) = cons1 (Q.get t) (resA T ⟨Q, H, g⟩ rs) := by
  simp only [resA]
  cases Q.get t <;> cases resA T ⟨Q, H, g⟩ rs <;> rfl
end
end
/-! ### answers told by a property: deep ones, wherever they lie -/
def FinQ (T : Tab) (rs : List ResultVar) (Pr : AV → Heap → Prop) : Out → St → Prop := fun o S => (∀ i, o ≠ .exit i) ∧ ∃ x H, res1 T S rs = some (x, H) ∧ Pr x H
theorem up_finq {T : Tab} {rs : List ResultVar} {Pr : AV → Heap → Prop} : Up (FinQ T rs Pr) := fun o S S' h ⟨h1, x, H, h2, h3⟩ => ⟨h1, x, H, by
  unfold res1 at h2 ⊢
  have hres : ∀ xs, resA T S rs = some xs → resA T S' rs = some xs := fun xs e => resA_sub h rs xs e
  cases hr : resA T S rs with
  | none => rw [hr] at h2; cases h2
  | some xs =>
    rw [hr] at h2
    rw [hres xs hr, ← h.H]
    exact h2, h3⟩
theorem retq_good {T : Tab} (n : Nat) {d f : Nat} {args : List AV} {H : Heap} {g : List Nat} {F : Func} {c : Code} {Pr : AV → Heap → Prop} (h : T.fn f = some F) (hb : F.body = some c) (hl : args.length = F.params.size + F.nfree)
    (hg : Gd (FinQ T F.results.toList Pr) (cx T (callR T) n f d [] c ⟨argsT 0 args, H, g⟩)) (hna : isAlt T f args H = false := by first | exact isAlt_tab (by kernel_rfl) | assumption | rfl) : ∃ x H', callR T d f args H g = some (x, H') ∧ Pr x H' := by
  cases hc : cx T (callR T) n f d [] c ⟨argsT 0 args, H, g⟩ with
  | none => rw [hc] at hg; exact hg.elim
  | some q =>
    obtain ⟨o, S⟩ := q
    rw [hc] at hg
    obtain ⟨h1, x, H', h2, h3⟩ := hg
    refine ⟨x, H', callR_step n hna ?_, h3⟩
    rw [step_eq h hb hl, hc]
    cases o with
    | exit i => exact (h1 i rfl).elim
    | nrm => exact h2
    | ret => exact h2
def FinQR (T : Tab) (Pr : AV → Heap → Prop) (S : St) (rs : List ResultVar) : Prop := ∃ x H, res1 T S rs = some (x, H) ∧ Pr x H
theorem finq_ret {T : Tab} {rs : List ResultVar} {Pr : AV → Heap → Prop} {S : St} : Gd (FinQ T rs Pr) (some (.ret, S)) = FinQR T Pr S rs := by
  apply propext
  exact ⟨fun h => h.2, fun h => ⟨(fun i h => by cases h), h⟩⟩
theorem finq_nrm {T : Tab} {rs : List ResultVar} {Pr : AV → Heap → Prop} {S : St} : Gd (FinQ T rs Pr) (some (.nrm, S)) = FinQR T Pr S rs := by
  apply propext
  exact ⟨fun h => h.2, fun h => ⟨(fun i h => by cases h), h⟩⟩
def FinQL (Pr : AV → Heap → Prop) (H : Heap) : Option (List AV) → Prop
  | some [x] => Pr x H
  | some xs => xs.all noTup = true ∧ Pr (.tup xs) H
  | none => False
theorem finqR_eq {T : Tab} {Pr : AV → Heap → Prop} {Q : Tm} {H : Heap} {g : List Nat} {rs : List ResultVar} : FinQR T Pr ⟨Q, H, g⟩ rs = FinQL Pr H (resA T ⟨Q, H, g⟩ rs) := by
  apply propext
  unfold FinQR res1
  generalize resA T ⟨Q, H, g⟩ rs = q
  have key : ∀ y : AV, (∃ x H', some (y, H) = some (x, H') ∧ Pr x H') ↔ Pr y H := fun y =>
    ⟨fun ⟨x, H', h1, h2⟩ => by injection h1 with h1; injection h1 with h1 h3; subst h1; subst h3; exact h2, fun h => ⟨y, H, rfl, h⟩⟩
  rcases q with _ | ⟨_ | ⟨x, _ | ⟨y, ys⟩⟩⟩
  · simp [FinQL]
  · simp only [FinQL, List.all_nil, if_true, true_and]
    exact key _
  · exact key _
  · by_cases h : (x :: y :: ys).all noTup = true
    · simp only [if_pos h, FinQL, h, true_and]
      exact key _
    · simp only [if_neg h, FinQL, h, false_and]
      simp
theorem finqL_1 {Pr : AV → Heap → Prop} {H : Heap} {x : AV} : FinQL Pr H (some [x]) = Pr x H := rfl
theorem finqL_2 {Pr : AV → Heap → Prop} {H : Heap} {x y : AV} {ys : List AV} : FinQL Pr H (some (x :: y :: ys)) = ((x :: y :: ys).all noTup = true ∧ Pr (.tup (x :: y :: ys)) H) := rfl
def Deep (y : DV) (x : AV) (H : Heap) : Prop := noTup x = true ∧ toD (frz H x) = some y
def DeepT (ys : List DV) (x : AV) (H : Heap) : Prop := match x with
  | .tup xs => toDs (xs.map (frzB H)) = some ys
  | _ => False
theorem deep_eq {y : DV} {x : AV} {H : Heap} : Deep y x H = (noTup x = true ∧ toD (frz H x) = some y) := rfl
theorem deepT_eq {ys : List DV} {xs : List AV} {H : Heap} : DeepT ys (.tup xs) H = (toDs (xs.map (frzB H)) = some ys) := rfl
section
variable {H : Heap} {v : DV} {sz n off : Nat} {xs : List DV} {tok : Option Id} {cs : List AV} {id : Id}
theorem fz_d : frz H (.d v) = .d v := rfl
theorem fz_o : frz H (.own sz xs tok) = .own sz xs tok := rfl
theorem fz_agg : frz H (.agg cs) = .agg (cs.map (frzV H)) := rfl
theorem fz_arr : frz H (.arr id off n sz) = frzV H (.arr id off n sz) := rfl
theorem fz_mp : frz H (.mp id) = frzV H (.mp id) := rfl
theorem fzb_d : frzB H (.d v) = .d v := rfl
theorem fzb_o : frzB H (.own sz xs tok) = .own sz xs tok := rfl
theorem fzb_agg : frzB H (.agg cs) = .agg (cs.map (frzV H)) := rfl
theorem fzb_arr : frzB H (.arr id off n sz) = frzV H (.arr id off n sz) := rfl
theorem fzb_mp : frzB H (.mp id) = frzV H (.mp id) := rfl
theorem fzv_d : frzV H (.d v) = .d v := rfl
theorem fzv_o : frzV H (.own sz xs tok) = .own sz xs tok := rfl
def fz2 (x : AV) : Option Place → AV
  | some (.mpl es) => .d (.mp es)
  | _ => x
theorem fzv_mp : frzV H (.mp id) = fz2 (.mp id) (H.get id) := by
  unfold frzV fz2
  simp only
  cases H.get id with
  | none => rfl
  | some p => cases p <;> rfl
theorem fz2_1 {x : AV} {es : List (DV × DV)} : fz2 x (some (.mpl es)) = .d (.mp es) := rfl
end
theorem toD_d {v : DV} : toD (.d v) = some v := rfl
theorem toD_own {sz : Nat} {xs : List DV} {tok : Option Id} : toD (.own sz xs tok) = some (.sl sz xs) := rfl
def ta1 : Option (List DV) → Option DV
  | some ds => some (.agg ds)
  | none => none
theorem toD_agg {cs : List AV} : toD (.agg cs) = ta1 (allD cs) := by
  simp only [toD, ta1]
  cases allD cs <;> rfl
theorem ta_some {ds : List DV} : ta1 (some ds) = some (.agg ds) := rfl
theorem allD_nil : allD [] = some [] := rfl
def al2 (v : DV) : Option (List DV) → Option (List DV)
  | some s => some (v :: s)
  | none => none
theorem allD_d {v : DV} {r : List AV} : allD (.d v :: r) = al2 v (allD r) := by
  simp only [allD, toDc, al2]
  cases allD r <;> rfl
theorem allD_o {sz : Nat} {xs : List DV} {tok : Option Id} {r : List AV} : allD (.own sz xs tok :: r) = al2 (.sl sz xs) (allD r) := by
  simp only [allD, toDc, al2]
  cases allD r <;> rfl
theorem al2_some {v : DV} {s : List DV} : al2 v (some s) = some (v :: s) := rfl
def RetD (T : Tab) (f : Nat) (args : List AV) (y : DV) : Prop := ∃ x H, callR T 0 f args [] [] = some (x, H) ∧ Deep y x H
def RetT (T : Tab) (f : Nat) (args : List AV) (ys : List DV) : Prop := ∃ x H, callR T 0 f args [] [] = some (x, H) ∧ DeepT ys x H
theorem toDs_map : ∀ ys : List DV, toDs (ys.map .d) = some ys
  | [] => rfl
  | y :: r => by simp [toDs, toD, toDs_map r]
/-! ### calls of what is known -/
section
variable {d dst : Nat} {S : St}
theorem ca_ret {args : List AV} {f : Nat} {ds : List DV} {y : DV} (h : Ret tab f (ds.map .d) (.d y)) (ha : toDs args = some ds) (ho : tab.opn f = false) (hr : Plain f) : callA tab (callR tab) d dst f args S = some (.d y, S) := by
  obtain ⟨H, h⟩ := h
  exact call_closed h ha rfl ho hr.1 (hr.2.1 _) rfl rfl hr.2.2
theorem ca_ret_tup {args : List AV} {f : Nat} {ds : List DV} {xs : List AV} {ys : List DV} (h : Ret tab f (ds.map .d) (.tup xs)) (ha : toDs args = some ds) (ho : tab.opn f = false) (hr : Plain f) (hx : xs = ys.map .d) : callA tab (callR tab) d dst f args S = some (.tup (ys.map .d), S) := by
  obtain ⟨H, h⟩ := h
  refine call_closed_tup h ha rfl ho hr.1 (hr.2.1 _) ?_ rfl hr.2.2
  subst hx
  have h1 : ((ys.map AV.d).map (frzB H)) = ys.map .d := by simp [frzB, frzV]
  rw [h1]
  exact toDs_map ys
theorem ca_retD {args : List AV} {f : Nat} {ds : List DV} {y : DV} (h : RetD tab f (ds.map .d) y) (ha : toDs args = some ds) (ho : tab.opn f = false) (hr : Plain f) : callA tab (callR tab) d dst f args S = some (.d y, S) := by
  obtain ⟨x, H, h, ht, hx⟩ := h
  exact call_closed h ha rfl ho hr.1 (hr.2.1 _) ht hx hr.2.2
theorem ca_retT {args : List AV} {f : Nat} {ds : List DV} {ys : List DV} (h : RetT tab f (ds.map .d) ys) (ha : toDs args = some ds) (ho : tab.opn f = false) (hr : Plain f) : callA tab (callR tab) d dst f args S = some (.tup (ys.map .d), S) := by
  obtain ⟨x, H, h, hx⟩ := h
  cases x with
  | tup xs => exact call_closed_tup h ha rfl ho hr.1 (hr.2.1 _) hx rfl hr.2.2
  | _ => exact hx.elim
end
end Go.Proofs.Ytfcfifohflgboaa.Am
