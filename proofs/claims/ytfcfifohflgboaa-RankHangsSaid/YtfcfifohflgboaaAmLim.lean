/- What calls come to, with no bound on depth or rounds. -/
import Derived.Test.YtfcfifohflgboaaAmCode
set_option linter.unusedVariables false
set_option linter.unusedSimpArgs false
namespace Go.Proofs.Ytfcfifohflgboaa.Am
open Go Go.RowKit

def Call.le (c c' : Call) : Prop := ∀ d f args H g r, c d f args H g = some r → c' d f args H g = some r

section
variable {T : Tab} {S S' : St} {call call' : Call}

theorem callO_mono (hc : call.le call') {d dst f : Nat} {args : List AV} {r : AV × St} (h : callO T call d dst f args S = some r) : callO T call' d dst f args S = some r := by
  unfold callO at h ⊢
  split at h
  · split at h
    · exact h
    · split at h
      · rename_i hcall
        rw [hc _ _ _ _ _ _ hcall]
        exact h
      · cases h
  · simp only at h ⊢
    split at h
    · rename_i hcl
      rw [if_pos hcl]
      split at h
      · rename_i hcall
        rw [hc _ _ _ _ _ _ hcall]
        exact h
      · cases h
    · cases h

theorem callA_mono (hc : call.le call') {d dst f : Nat} {args : List AV} {r : AV × St} (h : callA T call d dst f args S = some r) : callA T call' d dst f args S = some r := by
  unfold callA at h ⊢
  split at h
  · split at h
    · rename_i hcall
      rw [hc _ _ _ _ _ _ hcall]
      exact h
    · cases h
  · exact callO_mono hc h

theorem opA_mono (hc : call.le call') {d : Nat} {o : Oper} {r : Option AV × St} (h : opA T call d o S = some r) : opA T call' d o S = some r := by
  unfold opA at h ⊢
  cases ho : o.op <;> simp only [ho] at h ⊢ <;> try exact h
  case makeFunc fn _ _ => cases fn <;> simp only at h ⊢ <;> exact h
  case makeMap t r => cases r <;> exact h
  case call c =>
    split at h
    · exact h
    · split at h
      · cases hca : callA T call d (o.dst.getD 0) _ _ S with
        | none => rw [hca] at h; cases h
        | some q => rw [hca] at h; rw [callA_mono hc hca]; exact h
      · cases hca : callA T call d (o.dst.getD 0) _ _ S with
        | none => rw [hca] at h; cases h
        | some q => rw [hca] at h; rw [callA_mono hc hca]; exact h
      · cases h
    · cases h

theorem opsA_mono (hc : call.le call') {d : Nat} {ops : List Oper} : ∀ (r : List Oper) (S S' : St), opsA T call d ops r S = some S' → opsA T call' d ops r S = some S'
  | [], S, S', h => h
  | o :: r, S, S', h => by
    simp only [opsA] at h ⊢
    split at h
    · cases hop : opA T call d o S with
      | none => rw [hop] at h; cases h
      | some q => rw [hop] at h; rw [opA_mono hc hop]; exact opsA_mono hc r _ _ h
    · exact opsA_mono hc r _ _ h
    · cases h

theorem opsD_mono (hc : call.le call') {d : Nat} {p : List Nat} {ops : List Oper} : ∀ (r : List Oper) (i : Nat) (S : St) (q : St × List Foot), opsD T call d p ops i r S = some q → opsD T call' d p ops i r S = some q
  | [], i, S, q, h => h
  | o :: r, i, S, q, h => by
    simp only [opsD] at h ⊢
    split at h
    · rename_i S1 f hst
      have : stepD T call' d p ops i o S = some (S1, f) := by
        unfold stepD at hst ⊢
        split at hst
        · split at hst
          · rename_i hop
            rw [opA_mono hc hop]
            exact hst
          · cases hst
        · exact hst
        · cases hst
      rw [this]
      simp only
      split at h
      · rename_i hr
        rw [opsD_mono hc r _ _ _ hr]
        exact h
      · cases h
    · cases h
theorem drawA_mono (hc : call.le call') {d : Nat} {L : List (List Nat)} {ops : List Oper} (h : drawA T call d L ops S = some S') : drawA T call' d L ops S = some S' := by
  unfold drawA at h ⊢
  split at h
  · rename_i hr
    rw [opsD_mono hc _ _ _ _ hr]
    exact h
  · cases h

theorem loopA_mono {step step' : St → Option (Out × St)} {keep : St → St} (hs : ∀ S r, step S = some r → step' S = some r) : ∀ (k k' : Nat) (S : St) (r : Out × St), k ≤ k' → loopA step keep k S = some r → loopA step' keep k' S = some r
  | 0, k', S, r, hk, h => by simp [loopA] at h
  | k + 1, k', S, r, hk, h => by
    obtain ⟨m, rfl⟩ : ∃ m, k' = m + 1 := ⟨k' - 1, by omega⟩
    simp only [loopA] at h ⊢
    cases hst : step (keep S) with
    | none => rw [hst] at h; cases h
    | some q =>
      rw [hst] at h
      rw [hs _ _ hst]
      obtain ⟨o, S1⟩ := q
      cases o with
      | nrm => exact loopA_mono hs k m S1 r (by omega) h
      | _ => exact h

theorem codeA_mono (hc : call.le call') {n n' f d : Nat} (hn : n ≤ n') : ∀ (c : Code) (S : St) (r : Out × St), codeA T call n f d c S = some r → codeA T call' n' f d c S = some r
  | .region id ops false, S, r, h => by
    simp only [codeA] at h ⊢
    cases ho : opsA T call d ops.toList ops.toList S with
    | none => rw [ho] at h; cases h
    | some q => rw [ho] at h; rw [opsA_mono hc _ _ _ ho]; exact h
  | .region id ops true, S, r, h => by
    simp only [codeA] at h ⊢
    split at h
    · rename_i L hL
      cases ho : drawA T call d L ops.toList S with
      | none => rw [ho] at h; cases h
      | some q => rw [ho] at h; rw [drawA_mono hc ho]; exact h
    · cases h
  | .seq a b, S, r, h => by
    simp only [codeA] at h ⊢
    cases ha : codeA T call n f d a S with
    | none => rw [ha] at h; cases h
    | some q =>
      rw [ha] at h
      rw [codeA_mono hc hn a S q ha]
      obtain ⟨o, S1⟩ := q
      cases o with
      | nrm => exact codeA_mono hc hn b S1 r h
      | _ => exact h
  | .cond c a b, S, r, h => by
    simp only [codeA] at h ⊢
    split at h
    · rename_i t ht
      cases t with
      | true => simp only [if_true] at h ⊢; exact codeA_mono hc hn a S r h
      | false => simp only [Bool.false_eq_true, if_false] at h ⊢; exact codeA_mono hc hn b S r h
    · cases h
  | .block id b, S, r, h => by
    simp only [codeA] at h ⊢
    cases hb : codeA T call n f d b S with
    | none => rw [hb] at h; cases h
    | some q => rw [hb] at h; rw [codeA_mono hc hn b S q hb]; exact h
  | .loop b, S, r, h => by
    simp only [codeA] at h ⊢
    exact loopA_mono (fun S r h => codeA_mono hc hn b S r h) _ _ _ _ hn h
  | .skip, S, r, h | .exit _, S, r, h | .ret, S, r, h => h
  | .scope _, S, r, h | .label _, S, r, h | .goto _, S, r, h | .rangeFunc .., S, r, h | .refuse .., S, r, h => by simp [codeA] at h

theorem stepA_mono (hc : call.le call') {n n' : Nat} (hn : n ≤ n') : (stepA T call n).le (stepA T call' n') := fun d f args H g r h => by
  unfold stepA at h ⊢
  split at h
  · split at h
    · split at h
      · rename_i hl
        rw [if_pos hl]
        cases hcd : codeA T call n f d _ { T := argsT 0 args, H := H, g := g } with
        | none => rw [hcd] at h; cases h
        | some q => rw [hcd] at h; rw [codeA_mono hc hn _ _ _ hcd]; exact h
      · cases h
    · cases h
  · cases h
end

inductive Runs (T : Tab) : Nat → Nat → List AV → Heap → List Nat → AV × Heap → Prop where
  | mk (call : Call) (n : Nat) {d f : Nat} {args : List AV} {H : Heap} {g : List Nat} {r : AV × Heap} (hc : ∀ d f args H g r, call d f args H g = some r → Runs T d f args H g r) (hna : isAlt T f args H = false) (h : stepA T call n d f args H g = some r) : Runs T d f args H g r
  | alt {d f sz : Nat} {rest : List AV} {g : List Nat} {x : AV} {H1 H2 : Heap} (ha : T.alt f = true) (h1 : Runs T d f (.d (.nils sz) :: rest) [] g (x, H1)) (h2 : Runs T d f (.d (.emps sz) :: rest) [] g (x, H2)) : Runs T d f (.d (.sl sz []) :: rest) [] g (x, [])

theorem Runs.det {T : Tab} {d f : Nat} {args : List AV} {H : Heap} {g : List Nat} {r : AV × Heap} (h : Runs T d f args H g r) : ∀ r', Runs T d f args H g r' → r = r' := by
  induction h with
  | alt ha h1 h2 ih1 ih2 =>
    intro r' h'
    cases h' with
    | mk call' n' hc' hna' h' => simp [isAlt, ha] at hna'
    | alt ha' k1 k2 =>
      have := ih1 _ k1
      injection this with h3 h4
      rw [h3]
  | mk call n hc hna h ih =>
    intro r' h'
    cases h' with
    | alt ha' k1 k2 => simp [isAlt, ha'] at hna
    | mk call' n' hc' hna' h' =>
      let both : Call := fun d f args H g => match call d f args H g with
        | some r => some r
        | none => call' d f args H g
      have h1 : call.le both := fun d f args H g r hr => by simp only [both, hr]
      have h2 : call'.le both := fun d f args H g r hr => by
        simp only [both]
        cases hq : call d f args H g with
        | none => exact hr
        | some q => exact congrArg some (ih d f args H g q hq r (hc' d f args H g r hr))
      have k1 := stepA_mono (T := T) h1 (Nat.le_max_left n n') _ _ _ _ _ _ h
      have k2 := stepA_mono (T := T) h2 (Nat.le_max_right n n') _ _ _ _ _ _ h'
      rw [k1] at k2
      injection k2

open Classical in
noncomputable def callR (T : Tab) : Call := fun d f args H g => if h : ∃ r, Runs T d f args H g r then some (Classical.choose h) else none

theorem callR_runs {T : Tab} {d f : Nat} {args : List AV} {H : Heap} {g : List Nat} {r : AV × Heap} (h : callR T d f args H g = some r) : Runs T d f args H g r := by
  unfold callR at h
  split at h
  · rename_i hx
    injection h with h
    subst h
    exact Classical.choose_spec hx
  · cases h
theorem callR_eq {T : Tab} {d f : Nat} {args : List AV} {H : Heap} {g : List Nat} {r : AV × Heap} (h : Runs T d f args H g r) : callR T d f args H g = some r := by
  have hx : ∃ r, Runs T d f args H g r := ⟨r, h⟩
  unfold callR
  rw [dif_pos hx]
  exact congrArg some ((Classical.choose_spec hx).det r h)
theorem callR_step {T : Tab} (n : Nat) {d f : Nat} {args : List AV} {H : Heap} {g : List Nat} {r : AV × Heap} (hna : isAlt T f args H = false) (h : stepA T (callR T) n d f args H g = some r) : callR T d f args H g = some r :=
  callR_eq (.mk (callR T) n (fun _ _ _ _ _ _ h => callR_runs h) hna h)
section
variable {P : Program} {T : Tab} {w : World}
theorem runs_ok (ok : T.Ok P) (hp : PrimOk P T) {d f : Nat} {args : List AV} {H : Heap} {g : List Nat} {r : AV × Heap} (h : Runs T d f args H g r) : RunsOk P T f args H g r.1 r.2 := by
  induction h with
  | mk call n hc hna h ih => exact step_ok ok hp (fun d f args H p r H' h => ih d f args H p (r, H') h) n _ _ _ _ _ _ _ h
  | @alt d f sz rest g x H1 H2 ha h1 h2 ih1 ih2 =>
    refine ⟨ih1.1, fun C w G U vs hr hfr hsz hargs => ?_⟩
    have hdrop : ∀ {w' : World} {G' : Gh} {H' : Heap} {U' : Id → Prop}, Ext C w' G' H' U' w' G' [] U' := Ext.drop (fun id p hp => by simp [Heap.get] at hp) (fun i hi => hi)
    obtain ⟨v, hv, hrep⟩ := hargs 0 _ rfl
    have hd := hrep.dinv
    have hrest : ∀ (y : AV), Rep C w G [] U v y → ∀ (i : Nat) z, (y :: rest)[i]? = some z → ∃ v, vs[i]? = some v ∧ Rep C w G [] U v z := fun y hy i z hz => by
      cases i with
      | zero =>
        have : y = z := by simpa using hz
        subst this
        exact ⟨v, hv, hy⟩
      | succ i => exact hargs (i + 1) z (by simpa using hz)
    have fin : ∀ {H' : Heap}, Calls P f vs w (fun e w' => ∃ v G' U', e = .returned v ∧ Ext C w G [] U w' G' H' U' ∧ HeapRel C w' G' H' U' ∧ Rep C w' G' H' U' v x ∧ ∀ i, U' i → U i ∨ g <:+ i.g) →
        Calls P f vs w fun e w' => ∃ v G' U', e = .returned v ∧ Ext C w G [] U w' G' [] U' ∧ HeapRel C w' G' [] U' ∧ Rep C w' G' [] U' v x ∧ ∀ i, U' i → U i ∨ g <:+ i.g := fun h =>
      h.mono fun e w' ⟨v, G', U', k1, k2, k3, k4, k5⟩ => ⟨v, G', U', k1, k2.trans hdrop, k3.none, k4.ext hdrop, k5⟩
    cases hd with
    | sl A n c sz xs fv hl =>
      have hn : n = 0 := by simpa using hl.symm
      subst hn
      cases A with
      | none => exact fin (ih1.2 C w G U vs hr hfr (by simpa using hsz) (hrest _ (.d _ _ (.nils _ c sz rfl))))
      | some q => exact fin (ih2.2 C w G U vs hr hfr (by simpa using hsz) (hrest _ (.d _ _ (.emps _ q c sz rfl))))

theorem closed_ok (ok : T.Ok P) (hp : PrimOk P T) {f : Nat} {ds : List DV} {y : DV} {H' : Heap} (h : callR T 0 f (ds.map .d) [] [] = some (.d y, H')) {vs : Array Value} {F : Nat → Nat → Prop} (hl : vs.size = ds.length)
    (hv : ∀ (i : Nat) x, ds[i]? = some x → ∃ v, vs[i]? = some v ∧ RepD w F v x) : Calls P f vs w fun e w' => ∃ v F', e = .returned v ∧ Below w.heap.size w w' ∧ RepD w' F' v y := by
  obtain ⟨h1, h2⟩ := runs_ok ok hp (callR_runs h)
  have h3 := h2 ⟨w.heap.size, F, fun _ _ => False, fun _ => False⟩ w (fun _ => none) (fun _ => False) vs
    ⟨Nat.le_refl _, fun k h => h.elim, fun k o h => h, fun id p b h _ => by simp [Heap.get] at h, fun id p h => by simp [Heap.get] at h, fun id cs h => by simp [Heap.get] at h, fun id n b h _ => by simp [Heap.get] at h, fun id id' p p' b h _ _ _ => by simp [Heap.get] at h, fun id es h => by simp [Heap.get] at h⟩
    (fun i h _ => h) (by simpa using hl) (fun i q hq => by
      simp only [List.getElem?_map, Option.map_eq_some_iff] at hq
      obtain ⟨z, hz, rfl⟩ := hq
      obtain ⟨v, h5, h6⟩ := hv i z hz
      exact ⟨v, h5, .d _ _ (h6.weak fun b o hf => ⟨.inl hf, fun h => h, fun id p hp _ => by simp [Heap.get] at hp⟩)⟩)
  exact h3.mono fun e w' ⟨v, G', U', he, hext, _, hrep, _⟩ => ⟨v, _, he, ⟨hext.keep.os, hext.keep.tape, hext.keep.output, hext.keep.size, fun k hk => hext.keep.block k (.inl hk)⟩, hrep.dinv⟩
end
end Go.Proofs.Ytfcfifohflgboaa.Am
