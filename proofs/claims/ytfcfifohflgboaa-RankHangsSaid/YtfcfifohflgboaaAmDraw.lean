/- Regions whose operations may go in any order. -/
import Derived.Test.YtfcfifohflgboaaAmFrame
set_option linter.unusedVariables false
set_option linter.unusedSimpArgs false
namespace Go.Proofs.Ytfcfifohflgboaa.Am
open Go Go.RowKit

inductive Bef (ops : List Oper) : Nat → Nat → Prop where
  | edge {j : Nat} {o : Oper} {e : Edge} (ho : ops[j]? = some o) (he : e ∈ o.after.toList) (hb : Region.binds .any e = true) : Bef ops e.on j
  | step {i j : Nat} {o : Oper} {e : Edge} (ho : ops[j]? = some o) (he : e ∈ o.after.toList) (hb : Region.binds .any e = true) (h : Bef ops i e.on) : Bef ops i j

theorem maskOf_bit (acc : List Nat) (Q : Nat → Prop) : ∀ (es : List Edge) (s i : Nat), (maskOf acc es s).testBit i = true →
    (s.testBit i = true → Q i) → (∀ e ∈ es, Region.binds .any e = true → Q e.on) → (∀ e ∈ es, Region.binds .any e = true → ∀ m, acc[e.on]? = some m → m.testBit i = true → Q i) → Q i
  | [], s, i, h, h1, h2, h3 => h1 h
  | e :: r, s, i, h, h1, h2, h3 => by
    unfold maskOf at h
    split at h
    · rename_i hb
      refine maskOf_bit acc Q r _ i h (fun hs => ?_) (fun e' he' => h2 e' (by simp [he'])) (fun e' he' => h3 e' (by simp [he']))
      simp only [Nat.testBit_or, Bool.or_eq_true, Nat.testBit_two_pow, decide_eq_true_eq] at hs
      rcases hs with (hs | hs) | hs
      · exact h1 hs
      · exact hs ▸ h2 e (by simp) hb
      · cases hm : acc[e.on]? with
        | none => rw [hm] at hs; simp at hs
        | some m => rw [hm] at hs; exact h3 e (by simp) hb m hm hs
    · exact maskOf_bit acc Q r _ i h h1 (fun e' he' => h2 e' (by simp [he'])) (fun e' he' => h3 e' (by simp [he']))

theorem masks_bef (ops : List Oper) : ∀ (r : List Oper) (acc : List Nat), ops.drop acc.length = r → (∀ j m i, acc[j]? = some m → m.testBit i = true → Bef ops i j) → ∀ j m i, (masks r acc)[j]? = some m → m.testBit i = true → Bef ops i j
  | [], acc, hr, h, j, m, i, hm, hb => h j m i hm hb
  | o :: r, acc, hr, h, j, m, i, hm, hb => by
    unfold masks at hm
    have ho : ops[acc.length]? = some o := by
      have := congrArg (·[0]?) hr
      simpa using this
    have hr' : ops.drop (acc.length + 1) = r := by
      rw [← List.drop_drop, hr]; rfl
    refine masks_bef ops r _ (by simpa using hr') (fun j m i hj hi => ?_) j m i hm hb
    rcases Nat.lt_trichotomy j acc.length with hlt | rfl | hgt
    · rw [List.getElem?_append_left hlt] at hj
      exact h j m i hj hi
    · rw [List.getElem?_append_right (Nat.le_refl _)] at hj
      have hj : maskOf acc o.after.toList 0 = m := by simpa using hj
      subst hj
      refine maskOf_bit acc (fun i => Bef ops i acc.length) _ _ i hi (fun h0 => by simp at h0) (fun e he hb => .edge ho he hb) (fun e he hb m hm hbit => .step ho he hb (h e.on m i hm hbit))
    · rw [List.getElem?_eq_none (by simp; omega)] at hj
      cases hj

inductive Loc where
  | t (n : Nat)
  | h (id : Id)
def St.at (S : St) : Loc → Option (AV ⊕ Place)
  | .t n => (S.T.get n).map .inl
  | .h id => (S.H.get id).map .inr
theorem at_t {S S' : St} {n : Nat} : S.at (.t n) = S'.at (.t n) ↔ S.T.get n = S'.T.get n := by
  cases h1 : S.T.get n <;> cases h2 : S'.T.get n <;> simp [St.at, h1, h2]
theorem at_h {S S' : St} {id : Id} : S.at (.h id) = S'.at (.h id) ↔ S.H.get id = S'.H.get id := by
  cases h1 : S.H.get id <;> cases h2 : S'.H.get id <;> simp [St.at, h1, h2]

def AccL (ops : List Oper) (p : List Nat) (o : Oper) (f : Foot) (i : Nat) : Loc → Prop
  | .t n => n ∈ namesO ops o ∨ o.dst = some n
  | .h id => f.acc ((i + 2) :: p) id
def WrtL (p : List Nat) (o : Oper) (f : Foot) (i : Nat) : Loc → Prop
  | .t n => o.dst = some n
  | .h id => f.wrt ((i + 2) :: p) id

section
variable {C : Ctx} {w w' : World} {G G' : Gh} {P : Program} {T : Tab} {S S' S1 S2 : St} {a : Act} {H : Heap} {U : Id → Prop} {call : Call} {d : Nat} {p : List Nat} {ops : List Oper} {i : Nat} {o : Oper} {f : Foot}

theorem footA_g (S : St) (g : List Nat) : footA T o { S with g := g } = footA T o S := by
  have he : ∀ t y, ev T { S with g := g } t y = ev T S t y := fun t y => by cases y <;> rfl
  have hes : ∀ ys ts, evs T { S with g := g } ys ts = evs T S ys ts := fun ys ts => evs_congr ys ts fun y _ t => he t y
  unfold footA
  cases ho : o.op <;> simp only [he, hes] <;> rfl

theorem putT (S : St) (t : Option Nat) (x : Option AV) (n : Nat) : (putA S t x).T.get n = if t = some n then some (x.getD (.tup [])) else S.T.get n := by
  cases t with
  | none => cases x <;> simp [putA]
  | some k =>
    cases x with
    | none => simp only [putA, getT_set, Option.some.injEq, Option.getD_none]
    | some y => simp only [putA, getT_set, Option.some.injEq, Option.getD_some]

theorem wanted_congr (h : ∀ n ∈ namesO ops o, S2.T.get n = S.T.get n) : wantedA ops o S2 = wantedA ops o S := by
  unfold wantedA
  cases hg : o.guard with
  | none => rfl
  | some q =>
    obtain ⟨j, want⟩ := q
    simp only
    cases ht : (ops[j]?).bind (·.dst) with
    | none => rfl
    | some t =>
      simp only
      rw [h t (by simp [namesO, hg, ht])]

theorem stepD_frame (hA : ∀ l, AccL ops p o f i l → S2.at l = S.at l) (h : stepD T call d p ops i o S = some (S1, f)) :
    ∃ S3 f', stepD T call d p ops i o S2 = some (S3, f') ∧ (∀ l, WrtL p o f i l → S3.at l = S1.at l) ∧ ∀ l, ¬ WrtL p o f i l → S3.at l = S2.at l ∧ S1.at l = S.at l := by
  have hT : ∀ n, (n ∈ namesO ops o ∨ o.dst = some n) → S2.T.get n = S.T.get n := fun n hn => at_t.1 (hA (.t n) hn)
  have hH : ∀ id, f.acc ((i + 2) :: p) id → S2.H.get id = S.H.get id := fun id hid => at_h.1 (hA (.h id) hid)
  unfold stepD at h ⊢
  rw [wanted_congr fun n hn => hT n (.inl hn)]
  split at h
  · split at h
    · rename_i x S4 hop
      simp only [Option.some.injEq, Prod.mk.injEq] at h
      obtain ⟨rfl, rfl⟩ := h
      obtain ⟨S5, h1, h2, h3, h4, h5⟩ := opA_frame (S := { S with g := (i + 2) :: p }) (S2 := { S2 with g := (i + 2) :: p }) (fun t ht => hT t (.inl (by
          simp only [namesO, List.mem_append, List.mem_filterMap]
          exact .inl ⟨.tmp t, by simpa using ht, rfl⟩))) rfl (fun id hid => hH id (by rw [footA_g] at hid; exact hid)) hop
      rw [footA_g] at h4 h5
      simp only [h1]
      refine ⟨_, _, rfl, fun l hl => ?_, fun l hl => ?_⟩
      · cases l with
        | t n =>
          have hl : o.dst = some n := hl
          rw [at_t, putT, putT, if_pos hl, if_pos hl]
        | h id =>
          rw [at_h, (putA_H _ _ _).1, (putA_H _ _ _).1]
          exact h4 id hl
      · cases l with
        | t n =>
          have hl : ¬ o.dst = some n := hl
          rw [at_t, at_t, putT, putT, if_neg hl, if_neg hl, h2, h3]
          exact ⟨rfl, rfl⟩
        | h id =>
          rw [at_h, at_h, (putA_H _ _ _).1, (putA_H _ _ _).1]
          exact h5 id hl
    · cases h
  · simp only [Option.some.injEq, Prod.mk.injEq] at h
    obtain ⟨rfl, rfl⟩ := h
    refine ⟨_, _, rfl, fun l hl => ?_, fun l hl => ?_⟩
    · cases l with
      | t n =>
        have hl : o.dst = some n := hl
        rw [at_t, putT, putT, if_pos hl, if_pos hl]
      | h id =>
        rw [at_h, (putA_H _ _ _).1, (putA_H _ _ _).1]
        exact hH id (Foot.wrt_acc hl)
    · cases l with
      | t n =>
        have hl : ¬ o.dst = some n := hl
        rw [at_t, at_t, putT, putT, if_neg hl, if_neg hl]
        exact ⟨rfl, rfl⟩
      | h id =>
        rw [at_h, at_h, (putA_H _ _ _).1, (putA_H _ _ _).1]
        exact ⟨rfl, rfl⟩
  · cases h

theorem step_cls (h : stepD T call d p ops i o S = some (S1, f)) : (clsA o.op = 0 → f.rd = [] ∧ f.wr = [] ∧ f.al = false) ∧ (clsA o.op = 1 → f.wr = [] ∧ f.al = false) ∧ (clsA o.op = 2 → f.rd = [] ∧ f.wr = []) := by
  unfold stepD at h
  split at h
  · split at h
    · simp only [Option.some.injEq, Prod.mk.injEq] at h
      obtain ⟨_, rfl⟩ := h
      unfold footA clsA
      cases o.op <;> simp only <;> try (simp; done)
      · split <;> simp
      rename_i c
      obtain ⟨callee, args, ts⟩ := c
      cases callee with
      | builtin b => cases b <;> simp
      | _ => simp
    · cases h
  · simp only [Option.some.injEq, Prod.mk.injEq] at h
    obtain ⟨_, rfl⟩ := h
    simp
  · cases h

theorem opsD_trace : ∀ (r : List Oper) (i : Nat) (S S' : St) (fs : List Foot), opsD T call d p ops i r S = some (S', fs) → ∃ (st : Nat → St) (ft : Nat → Foot), st i = S ∧ st (i + r.length) = S' ∧
    (∀ j, j < r.length → fs[j]? = some (ft (i + j))) ∧ ∀ j o, r[j]? = some o → stepD T call d p ops (i + j) o (st (i + j)) = some (st (i + j + 1), ft (i + j))
  | [], i, S, S', fs, h => by
    simp only [opsD, Option.some.injEq, Prod.mk.injEq] at h
    obtain ⟨rfl, rfl⟩ := h
    exact ⟨fun _ => S, fun _ => default, rfl, rfl, fun j hj => by simp at hj, fun j o hj => by simp at hj⟩
  | o :: r, i, S, S', fs, h => by
    simp only [opsD] at h
    split at h
    · rename_i S1 f h1
      split at h
      · rename_i S2 fs2 h2
        simp only [Option.some.injEq, Prod.mk.injEq] at h
        obtain ⟨rfl, rfl⟩ := h
        obtain ⟨st, ft, k1, k2, k3, k4⟩ := opsD_trace r (i + 1) S1 _ _ h2
        refine ⟨fun k => if k ≤ i then S else st k, fun k => if k ≤ i then f else ft k, by simp, ?_, fun j hj => ?_, fun j o' hj => ?_⟩
        · simp only [List.length_cons]
          rw [if_neg (by omega), show i + (r.length + 1) = i + 1 + r.length by omega]; exact k2
        · cases j with
          | zero => simp
          | succ j =>
            simp only [List.getElem?_cons_succ]
            rw [if_neg (by omega), show i + (j + 1) = i + 1 + j by omega]
            exact k3 j (by simpa using hj)
        · cases j with
          | zero =>
            have : o = o' := by simpa using hj
            subst this
            simp only [Nat.add_zero, Nat.le_refl, if_true]
            rw [if_neg (by omega), k1]
            exact h1
          | succ j =>
            simp only
            rw [if_neg (by omega), if_neg (by omega), if_neg (by omega), show i + (j + 1) = i + 1 + j by omega]
            exact k4 j o' (by simpa using hj)
      · cases h
    · cases h

theorem clearD_spec (fs : List Foot) : ∀ (L : List (List Nat)) (r : List Foot) (k : Nat), clearD p fs k L r = true → ∀ j l fj, L[j]? = some l → r[j]? = some fj → ∀ i ∈ l, ∀ fi, fs[i]? = some fi → clash p i fi (k + j) fj = false
  | [], r, k, h, j, l, fj, hl, hf, i, hi, fi, hfi => by simp at hl
  | l0 :: L, [], k, h, j, l, fj, hl, hf, i, hi, fi, hfi => by simp at hf
  | l0 :: L, f0 :: r, k, h, j, l, fj, hl, hf, i, hi, fi, hfi => by
    simp only [clearD, Bool.and_eq_true] at h
    cases j with
    | zero =>
      have h1 : l0 = l := by simpa using hl
      have h2 : f0 = fj := by simpa using hf
      subst h1; subst h2
      have := List.all_eq_true.1 h.1 i hi
      rw [hfi] at this
      simpa using this
    | succ j =>
      have := clearD_spec fs L r (k + 1) h.2 j l fj (by simpa using hl) (by simpa using hf) i hi fi hfi
      rwa [show k + 1 + j = k + (j + 1) by omega] at this

theorem sfx_ne {i j : Nat} {g : List Nat} (h1 : ((i + 2) :: p) <:+ g) (h2 : ((j + 2) :: p) <:+ g) : i = j := by
  have h3 := List.suffix_of_suffix_length_le h1 h2 (by simp)
  have h4 := h3.eq_of_length rfl
  injection h4 with h4 _
  omega

theorem apart_of {fi fj : Foot} {j : Nat} {oi oj : Oper} (hij : i ≠ j) (hap : apartO ops oi oj = true) (hci : (clsA oi.op = 0 → fi.rd = [] ∧ fi.wr = [] ∧ fi.al = false) ∧ (clsA oi.op = 1 → fi.wr = [] ∧ fi.al = false) ∧ (clsA oi.op = 2 → fi.rd = [] ∧ fi.wr = []))
    (hcj : (clsA oj.op = 0 → fj.rd = [] ∧ fj.wr = [] ∧ fj.al = false) ∧ (clsA oj.op = 1 → fj.wr = [] ∧ fj.al = false) ∧ (clsA oj.op = 2 → fj.rd = [] ∧ fj.wr = [])) (hq : quietPair (clsA oi.op) (clsA oj.op) = true ∨ clash p i fi j fj = false) (l : Loc) :
    ¬ (WrtL p oi fi i l ∧ AccL ops p oj fj j l) ∧ ¬ (WrtL p oj fj j l ∧ AccL ops p oi fi i l) := by
  cases l with
  | t n =>
    simp only [apartO, Bool.and_eq_true] at hap
    obtain ⟨h1, h2⟩ := hap
    constructor
    · rintro ⟨hw, ha⟩
      have hw : oi.dst = some n := hw
      rw [hw] at h1
      simp only [Bool.and_eq_true, Bool.not_eq_true', bne_iff_ne, ne_eq] at h1
      rcases ha with ha | ha
      · have := h1.1
        simp [ha] at this
      · exact h1.2 ha
    · rintro ⟨hw, ha⟩
      have hw : oj.dst = some n := hw
      rw [hw] at h2
      rcases ha with ha | ha
      · simp [ha] at h2
      · rw [ha] at h1
        simp [hw] at h1
  | h id =>
    have hN : ((i + 2) :: p) <:+ id.g → ((j + 2) :: p) <:+ id.g → False := fun h1 h2 => hij (sfx_ne h1 h2)
    simp only [WrtL, AccL, Foot.wrt, Foot.acc]
    rcases hq with hq | hq
    · simp only [quietPair, Bool.or_eq_true, Bool.and_eq_true, beq_iff_eq] at hq
      rcases hq with ((hq | hq) | hq) | hq
      · obtain ⟨h1, h2, h3⟩ := hci.1 hq
        simp [h1, h2, h3]
      · obtain ⟨h1, h2, h3⟩ := hcj.1 hq
        simp [h1, h2, h3]
      · obtain ⟨h1, h2⟩ := hci.2.1 hq.1
        obtain ⟨h3, h4⟩ := hcj.2.1 hq.2
        simp [h1, h2, h3, h4]
      · obtain ⟨h1, h2⟩ := hci.2.2 hq.1
        obtain ⟨h3, h4⟩ := hcj.2.2 hq.2
        simp only [h1, h2, h3, h4, List.not_mem_nil, false_or]
        exact ⟨fun ⟨⟨_, a⟩, ⟨_, b⟩⟩ => hN a b, fun ⟨⟨_, a⟩, ⟨_, b⟩⟩ => hN b a⟩
    · simp only [clash, Bool.or_eq_false_iff] at hq
      obtain ⟨⟨⟨q1, q2⟩, q3⟩, q4⟩ := hq
      have c1 : id ∈ fi.wr → ¬ (id ∈ fj.rd ∨ id ∈ fj.wr) := fun hi h => by
        have := List.any_eq_false.1 q1 id hi
        simp at this
        exact h.elim this.1 this.2
      have c2 : id ∈ fj.wr → ¬ id ∈ fi.rd := fun hi h => by
        have := List.any_eq_false.1 q2 id hi
        simp at this
        exact this h
      have c3 : fi.al = true → ((i + 2) :: p) <:+ id.g → ¬ (id ∈ fj.rd ∨ id ∈ fj.wr) := fun ha hs h => by
        rw [ha, Bool.true_and] at q3
        exact List.any_eq_false.1 q3 id (List.mem_append.2 h) ((sfx_iff _ _).2 hs)
      have c4 : fj.al = true → ((j + 2) :: p) <:+ id.g → ¬ (id ∈ fi.rd ∨ id ∈ fi.wr) := fun ha hs h => by
        rw [ha, Bool.true_and] at q4
        exact List.any_eq_false.1 q4 id (List.mem_append.2 h) ((sfx_iff _ _).2 hs)
      constructor
      · rintro ⟨hw | ⟨a1, a2⟩, hr | hr | ⟨b1, b2⟩⟩
        · exact c1 hw (.inl hr)
        · exact c1 hw (.inr hr)
        · exact c4 b1 b2 (.inr hw)
        · exact c3 a1 a2 (.inl hr)
        · exact c3 a1 a2 (.inr hr)
        · exact hN a2 b2
      · rintro ⟨hw | ⟨a1, a2⟩, hr | hr | ⟨b1, b2⟩⟩
        · exact c2 hw hr
        · exact c1 hr (.inr hw)
        · exact c3 b1 b2 (.inr hw)
        · exact c4 a1 a2 (.inl hr)
        · exact c4 a1 a2 (.inr hr)
        · exact hN b2 a2

theorem sim_same (hs : Sim C w G U S a) (hT : ∀ n, S.T.get n = S'.T.get n) (hH : ∀ id, S.H.get id = S'.H.get id) (hfr : Fr U S'.g) : Sim C w G U S' a ∧ Ext C w G S.H U w G S'.H U := by
  have hsub : ∀ id q, S'.H.get id = some q → S.H.get id = some q := fun id q h => (hH id).trans h
  have e := Ext.drop (C := C) (w := w) (G := G) (U := U) (U' := U) hsub (fun _ h => h)
  exact ⟨⟨fun t x hx => let ⟨h1, h2⟩ := hs.T t x ((hT t).trans hx); ⟨h1, h2.ext e⟩, hs.heap.drop hsub (fun _ h => h), hfr, hs.defers⟩, e⟩

theorem unlisted_ready {ops : Array Oper} (hback : ∀ j o, ops[j]? = some o → ∀ e ∈ o.after.toList, Region.binds .any e = true → e.on < j) {listed : Array Bool} (hr : Region.ready .any ops listed = []) :
    ∀ j, j < ops.size → listed.getD j true = true ∨ ops.size ≤ j := by
  intro j
  induction j using Nat.strongRecOn with
  | _ j ih =>
    intro hj
    left
    refine Classical.byContradiction fun hc => ?_
    have hmem : j ∈ Region.ready .any ops listed := mem_ready.2 ⟨by simpa using hc, ops[j], Array.getElem?_eq_getElem hj, fun e he hb => by
      have hlt := hback j ops[j] (Array.getElem?_eq_getElem hj) e (by simpa using he) hb
      rcases ih e.on hlt (by omega) with h | h
      · rw [Array.getD_eq_getD_getElem?] at h ⊢
        cases hl : listed[e.on]? with
        | some b => rw [hl] at h; simpa using h
        | none =>
          exfalso
          have h1 : listed.getD j true = true := by
            have : listed.size ≤ e.on := Array.getElem?_eq_none_iff.1 hl
            rw [Array.getD_eq_getD_getElem?, Array.getElem?_eq_none (by omega)]; rfl
          exact hc h1
      · omega⟩
    rw [hr] at hmem
    cases hmem

theorem wrt_acc {l : Loc} (h : WrtL p o f i l) : AccL ops p o f i l := by
  cases l with
  | t n => exact .inr h
  | h id => exact Foot.wrt_acc h

theorem bef_listed {lst : Nat → Prop} (hcl : ∀ j o, ops[j]? = some o → lst j → ∀ e ∈ o.after.toList, Region.binds .any e = true → lst e.on) {i j : Nat} (h : Bef ops i j) :
    (∀ o, ops[j]? = some o → ∀ e ∈ o.after.toList, Region.binds .any e = true → lst e.on) → lst i := by
  induction h with
  | edge ho he hb => exact fun h => h _ ho _ he hb
  | step ho he hb _ ih => exact fun h => ih fun o' ho' e' he' hb' => hcl _ _ ho' (h _ ho _ he hb) e' he' hb'

theorem drawSt_spec {L : List (List Nat)} (h : drawSt ops L = true) {j : Nat} {oj : Oper} (hj : ops[j]? = some oj) :
    (∀ e ∈ oj.after.toList, Region.binds .any e = true → e.on < j) ∧ ∀ i oi, i < j → ops[i]? = some oi → Bef ops i j ∨ (apartO ops oi oj = true ∧ (quietPair (clsA oi.op) (clsA oj.op) = true ∨ ∃ l, L[j]? = some l ∧ i ∈ l)) := by
  have hlt : j < ops.length := (List.getElem?_eq_some_iff.1 hj).1
  have h1 := List.all_eq_true.1 h j (List.mem_range.2 hlt)
  rw [hj] at h1
  cases hm : (masks ops [])[j]? with
  | none => rw [hm] at h1; simp at h1
  | some m =>
    cases hL : L[j]? with
    | none => rw [hm, hL] at h1; simp at h1
    | some l =>
      rw [hm, hL] at h1
      simp only [Bool.and_eq_true] at h1
      obtain ⟨⟨h2, _⟩, h3⟩ := h1
      refine ⟨fun e he hb => ?_, fun i oi hij hoi => ?_⟩
      · have := List.all_eq_true.1 h2 e he
        rw [hb] at this
        simpa using this
      · have h4 := List.all_eq_true.1 h3 i (List.mem_range.2 hij)
        rw [hoi] at h4
        simp only [Bool.or_eq_true, Bool.and_eq_true] at h4
        rcases h4 with h4 | ⟨h4, h5⟩
        · exact .inl (masks_bef ops ops [] rfl (fun j m i hj => by simp at hj) j m i hm h4)
        · exact .inr ⟨h4, h5.imp id fun h => ⟨l, rfl, by simpa using h⟩⟩

theorem count_set {l : Array Bool} {i : Nat} (hi : i < l.size) (h : l.getD i true = false) : (l.setIfInBounds i true).toList.countP (· == false) + 1 = l.toList.countP (· == false) := by
  have hi' : i < l.toList.length := by simpa using hi
  have hl : l.toList[i] = false := by
    rw [Array.getD_eq_getD_getElem?, Array.getElem?_eq_getElem hi] at h
    simpa using h
  rw [Array.toList_setIfInBounds, List.countP_set hi']
  simp only [hl]
  have : 0 < l.toList.countP (· == false) := List.countP_pos_iff.2 ⟨l.toList[i], List.getElem_mem hi', by rw [hl]; rfl⟩
  simp only [beq_self_eq_true, if_true, show (true == false) = false from rfl, Bool.false_eq_true, if_false]
  omega

theorem drawA_ok (ok : T.Ok P) (hp : PrimOk P T) (hc : CallOk P T call) {ops : Array Oper} {L : List (List Nat)} (hst : drawSt ops.toList L = true) {n d : Nat} (hd : ∀ o ∈ ops.toList, ∀ t, o.dst = some t → t < n) (hn : n ≤ a.tmps.size)
    (hs : Sim C w G U S a) (h : drawA T call d L ops.toList S = some S') {id : Nat} {Q : Exit → Act → World → Prop} (hQ : ∀ a' w', Post C w G U S a S' a' w' → Q .normal a' w') : (Code.region id ops true).wp P Q a w := by
  unfold drawA at h
  split at h
  case h_2 => cases h
  rename_i S9 fs hops
  split at h
  case isFalse => cases h
  rename_i hclear
  injection h with h
  subst h
  obtain ⟨st, ft, t0, tn, tfs, tstep⟩ := opsD_trace ops.toList 0 S S9 fs hops
  simp only [Nat.zero_add, Array.length_toList] at tn tfs tstep
  generalize hpg : S.g = p at hclear tstep hops hQ
  have hlist : ∀ j, ops.toList[j]? = ops[j]? := fun j => Array.getElem?_toList
  have hlt : ∀ {j : Nat} {o : Oper}, ops[j]? = some o → j < ops.size := fun h => (Array.getElem?_eq_some_iff.1 h).1
  have hback : ∀ j o, ops[j]? = some o → ∀ e ∈ o.after.toList, Region.binds .any e = true → e.on < j := fun j o ho => (drawSt_spec hst (by rw [hlist]; exact ho)).1
  have hsep : ∀ i j oi oj, i < j → ops[i]? = some oi → ops[j]? = some oj → ¬ Bef ops.toList i j → ∀ l, ¬ (WrtL p oi (ft i) i l ∧ AccL ops.toList p oj (ft j) j l) ∧ ¬ (WrtL p oj (ft j) j l ∧ AccL ops.toList p oi (ft i) i l) := by
    intro i j oi oj hij hoi hoj hnb
    have h1 := ((drawSt_spec hst (by rw [hlist]; exact hoj)).2 i oi hij (by rw [hlist]; exact hoi)).resolve_left hnb
    refine apart_of (by omega) h1.1 (step_cls (tstep i oi (by rw [hlist]; exact hoi))) (step_cls (tstep j oj (by rw [hlist]; exact hoj))) (h1.2.imp (fun h => h) fun ⟨l, hl, hi⟩ => ?_)
    have := clearD_spec fs L fs 0 hclear j l (ft j) hl (tfs j (hlt hoj)) i hi (ft i) (tfs i (hlt hoi))
    simpa using this
  have hcanon : ∀ i o, ops[i]? = some o → ∀ l, ¬ WrtL p o (ft i) i l → (st (i + 1)).at l = (st i).at l := fun i o ho l hl => by
    obtain ⟨_, _, _, _, h3⟩ := stepD_frame (S2 := st i) (fun _ _ => rfl) (tstep i o (by rw [hlist]; exact ho))
    exact (h3 l hl).2
  have hchain : ∀ (l : Loc) (k m : Nat), k ≤ m → m ≤ ops.size → (∀ j oj, k ≤ j → j < m → ops[j]? = some oj → ¬ WrtL p oj (ft j) j l) → (st m).at l = (st k).at l := by
    intro l k m hkm
    induction m with
    | zero => intro _ _; rw [show k = 0 by omega]
    | succ m ih =>
      intro hm hno
      by_cases hk : k = m + 1
      · rw [hk]
      · have hms : m < ops.size := by omega
        rw [hcanon m ops[m] (Array.getElem?_eq_getElem hms) l (hno m _ (by omega) (by omega) (Array.getElem?_eq_getElem hms))]
        exact ih (by omega) (by omega) fun j oj h1 h2 => hno j oj h1 (by omega)
  -- any order
  have key : ∀ (fuel : Nat) (listed : Array Bool) (a1 : Act) (w1 : World) (G1 : Gh) (U1 : Id → Prop) (S1 : St), listed.size = ops.size → listed.toList.countP (· == false) ≤ fuel →
      (∀ j o, ops.toList[j]? = some o → listed.getD j false = true → ∀ e ∈ o.after.toList, Region.binds .any e = true → listed.getD e.on false = true) →
      Ext C w G S.H U w1 G1 S1.H U1 → Sim C w1 G1 U1 S1 a1 → S1.g = 1 :: p → (∀ i, i < ops.size → listed.getD i false = false → Fr U1 ((i + 2) :: p)) → (∀ i, U1 i → U i ∨ p <:+ i.g) → a1.tmps.size = a.tmps.size →
      (∀ l i, i ≤ ops.size → (∀ j oj, ops[j]? = some oj → WrtL p oj (ft j) j l → (listed.getD j false = true ↔ j < i)) → S1.at l = (st i).at l) →
      wpAny P .any ops Q fuel listed a1 w1 := by
    intro fuel
    have fin : ∀ (listed : Array Bool) (a1 : Act) (w1 : World) (G1 : Gh) (U1 : Id → Prop) (S1 : St), (∀ j, j < ops.size → listed.getD j false = true) →
        Ext C w G S.H U w1 G1 S1.H U1 → Sim C w1 G1 U1 S1 a1 → S1.g = 1 :: p → (∀ i, U1 i → U i ∨ p <:+ i.g) → a1.tmps.size = a.tmps.size →
        (∀ l i, i ≤ ops.size → (∀ j oj, ops[j]? = some oj → WrtL p oj (ft j) j l → (listed.getD j false = true ↔ j < i)) → S1.at l = (st i).at l) → Q .normal a1 w1 := by
      intro listed a1 w1 G1 U1 S1 hall hext hsim hg hlin hsz hval
      have hend : ∀ l, S1.at l = S9.at l := fun l => by
        rw [← tn]
        exact hval l ops.size (Nat.le_refl _) fun j oj hj _ => ⟨fun _ => hlt hj, fun h => hall j h⟩
      obtain ⟨h1, h2⟩ := sim_same (S' := { S9 with g := 1 :: p }) hsim (fun n => at_t.1 (hend (.t n))) (fun id => at_h.1 (hend (.h id))) (by rw [← hg]; exact hsim.fr)
      refine hQ a1 w1 ⟨⟨G1, U1, hext.trans h2, h1, ?_⟩, hsz, ?_⟩
      · rw [hpg]; exact hlin
      · rw [hpg]; exact List.suffix_cons _ _
    have hgd : ∀ (listed : Array Bool) (j : Nat), listed.size = ops.size → j < ops.size → listed.getD j true = listed.getD j false := fun listed j hsz hj => by
      rw [Array.getD_eq_getD_getElem?, Array.getD_eq_getD_getElem?, Array.getElem?_eq_getElem (by omega)]; rfl
    induction fuel with
    | zero =>
      intro listed a1 w1 G1 U1 S1 hls hcnt hcl hext hsim hg hfrs hlin hsz hval
      have hall : ∀ j, j < ops.size → listed.getD j false = true := fun j hj => by
        have h0 : listed.toList.countP (· == false) = 0 := by omega
        have h1 := List.countP_eq_zero.1 h0 (listed[j]'(by omega)) (by simp)
        rw [Array.getD_eq_getD_getElem?, Array.getElem?_eq_getElem (by omega)]
        simpa using h1
      refine ⟨?_, fin listed a1 w1 G1 U1 S1 hall hext hsim hg hlin hsz hval⟩
      cases hr : Region.ready .any ops listed with
      | nil => rfl
      | cons j r =>
        have hj : j ∈ Region.ready .any ops listed := by rw [hr]; simp
        obtain ⟨h1, o, ho, _⟩ := mem_ready.1 hj
        rw [hgd listed j hls (hlt ho), hall j (hlt ho)] at h1
        cases h1
    | succ fuel ih =>
      intro listed a1 w1 G1 U1 S1 hls hcnt hcl hext hsim hg hfrs hlin hsz hval
      refine ⟨fun hr => fin listed a1 w1 G1 U1 S1 (fun j hj => ?_) hext hsim hg hlin hsz hval, fun i hi => ?_⟩
      · rcases unlisted_ready hback hr j hj with h | h
        · rw [← hgd listed j hls hj]; exact h
        · omega
      obtain ⟨hun, o, ho, hedges⟩ := mem_ready.1 hi
      have hil := hlt ho
      have hun' : listed.getD i false = false := by rw [← hgd listed i hls hil]; exact hun
      have hbefi : ∀ j, Bef ops.toList j i → listed.getD j false = true := fun j hb => bef_listed (lst := fun j => listed.getD j false = true) hcl hb fun o' ho' e he hb => by
        rw [hlist, ho] at ho'
        injection ho' with ho'
        subst ho'
        exact hedges e (by simpa using he) hb
      have hibef : ∀ j oj, ops[j]? = some oj → Bef ops.toList i j → listed.getD j false = false := fun j oj hoj hb => by
        cases hlj : listed.getD j false with
        | false => rfl
        | true =>
          have := bef_listed (lst := fun j => listed.getD j false = true) hcl hb fun o' ho' e he hb' => hcl j o' ho' hlj e he hb'
          rw [hun'] at this
          cases this
      have hagree : ∀ l, AccL ops.toList p o (ft i) i l → S1.at l = (st i).at l := fun l hacc => hval l i (by omega) fun j oj hoj hwr => by
        rcases Nat.lt_trichotomy j i with hji | rfl | hij
        · refine ⟨fun _ => hji, fun _ => ?_⟩
          by_cases hb : Bef ops.toList j i
          · exact hbefi j hb
          · exact ((hsep j i oj o hji hoj ho hb l).1 ⟨hwr, hacc⟩).elim
        · exact ⟨fun h => absurd (hun'.symm.trans h) (by simp), fun h => by omega⟩
        · refine ⟨fun h => ?_, fun h => by omega⟩
          by_cases hb : Bef ops.toList i j
          · rw [hibef j oj hoj hb] at h; cases h
          · exact ((hsep i j o oj hij ho hoj hb l).2 ⟨hwr, hacc⟩).elim
      obtain ⟨S3, f', hstep, hW, hN⟩ := stepD_frame hagree (tstep i o (by rw [hlist]; exact ho))
      have hset : ∀ j, (listed.setIfInBounds i true).getD j false = if j = i then true else listed.getD j false := fun j => by
        by_cases hj : j = i
        · subst hj
          rw [if_pos rfl]
          simp [hls, hil]
        · rw [if_neg hj, getD_set_ne false (Ne.symm hj)]
      have next : ∀ (a2 : Act) (w2 : World) (G2 : Gh) (U2 : Id → Prop), Ext C w1 G1 S1.H U1 w2 G2 S3.H U2 → Sim C w2 G2 U2 { S3 with g := 1 :: p } a2 → (∀ k, U2 k → U1 k ∨ ((i + 2) :: p) <:+ k.g) → a2.tmps.size = a1.tmps.size →
          wpAny P .any ops Q fuel (listed.setIfInBounds i true) a2 w2 := by
        intro a2 w2 G2 U2 k1 k2 k3 k4
        refine ih _ a2 w2 G2 U2 { S3 with g := 1 :: p } (by simpa using hls) ?_ ?_ (hext.trans k1) k2 rfl (fun j hj hlj => ?_) (fun k hk => (k3 k hk).elim (hlin k) fun h => .inr ((List.suffix_cons _ _).trans h)) (k4.trans hsz) (fun l m hm hwr => ?_)
        · have := count_set (by omega) hun
          omega
        · intro j o' ho' hlj e he hb
          rw [hset] at hlj ⊢
          split
          · rfl
          · split at hlj
            · rename_i hji
              subst hji
              rw [hlist, ho] at ho'
              injection ho' with ho'
              subst ho'
              exact hedges e (by simpa using he) hb
            · exact hcl j o' ho' hlj e he hb
        · rw [hset] at hlj
          split at hlj
          · cases hlj
          · rename_i hji
            intro k hk hsk
            rcases k3 k hk with h | h
            · exact hfrs j hj hlj k h hsk
            · exact hji (sfx_ne hsk h)
        · show S3.at l = (st m).at l
          by_cases hw : WrtL p o (ft i) i l
          · rw [hW l hw]
            have him : i < m := (hwr i o ho hw).1 (by rw [hset, if_pos rfl])
            refine (hchain l (i + 1) m (by omega) hm fun j oj h1 h2 hoj hwj => ?_).symm
            have hlj := (hwr j oj hoj hwj).2 h2
            rw [hset, if_neg (by omega)] at hlj
            by_cases hb : Bef ops.toList i j
            · rw [hibef j oj hoj hb] at hlj; cases hlj
            · exact (hsep i j o oj (by omega) ho hoj hb l).2 ⟨hwj, wrt_acc hw⟩
          · rw [(hN l hw).1]
            refine hval l m hm fun j oj hoj hwj => ?_
            have hji : j ≠ i := fun e => by
              subst e
              rw [ho] at hoj
              injection hoj with hoj
              subst hoj
              exact hw hwj
            rw [← hwr j oj hoj hwj, hset, if_neg hji]
      have hfri := hfrs i hil hun'
      have hs1 : Sim C w1 G1 U1 { S1 with g := (i + 2) :: p } a1 := ⟨hsim.T, hsim.heap, hfri, hsim.defers⟩
      have hfr2 : ∀ (U2 : Id → Prop), (∀ k, U2 k → U1 k ∨ ((i + 2) :: p) <:+ k.g) → Fr U2 (1 :: p) := fun U2 h k hk hsk => by
        rcases h k hk with h | h
        · have := hsim.fr k h
          rw [hg] at this
          exact this hsk
        · have h3 := (List.suffix_of_suffix_length_le hsk h (by simp)).eq_of_length rfl
          injection h3 with h3 _
          omega
      have hod : ∀ t, o.dst = some t → t < a1.tmps.size := fun t ht => by
        have h1 : o ∈ ops.toList := by
          have := hlist i
          rw [ho] at this
          exact List.mem_of_getElem? this
        have := hd o h1 t ht
        exact Nat.lt_of_lt_of_le this (hsz ▸ hn)
      have hwant : ∀ {b : Bool}, wantedA ops.toList o S1 = some b → wantedA ops.toList o { S1 with g := (i + 2) :: p } = some b := fun h => by
        rw [← h]
        exact wanted_congr fun _ _ => rfl
      unfold wpOp
      rw [ho]
      simp only
      unfold stepD at hstep
      split at hstep
      · rename_i hwt
        split at hstep
        · rename_i x S4 hop
          simp only [Option.some.injEq, Prod.mk.injEq] at hstep
          obtain ⟨rfl, _⟩ := hstep
          rw [wantedA_ok hsim hwt]
          simp only [if_true]
          refine .inl (op_step ok hp hc hs1 hod (hwant hwt) hop fun a2 w2 hpost => ?_)
          obtain ⟨⟨G2, U2, k1, k2, k3⟩, k4, _⟩ := hpost
          exact next a2 w2 G2 U2 k1 ⟨k2.T, k2.heap, hfr2 U2 k3, k2.defers⟩ k3 k4
        · cases hstep
      · rename_i hwt
        simp only [Option.some.injEq, Prod.mk.injEq] at hstep
        obtain ⟨rfl, _⟩ := hstep
        rw [wantedA_ok hsim hwt]
        simp only [Bool.false_eq_true, if_false]
        obtain ⟨⟨G2, U2, k1, k2, k3⟩, k4, _⟩ := post_skip hs1 hod
        have e0 : (putA { S1 with g := (i + 2) :: p } o.dst none).H = (putA S1 o.dst none).H ∧ (putA { S1 with g := (i + 2) :: p } o.dst none).T = (putA S1 o.dst none).T := by cases o.dst <;> exact ⟨rfl, rfl⟩
        refine next _ _ G2 U2 (by rw [← e0.1]; exact k1) ⟨fun t x hx => ?_, ?_, hfr2 U2 k3, k2.defers⟩ k3 k4
        · have := k2.T t x (by rw [e0.2]; exact hx)
          rw [e0.1] at this
          exact this
        · have := k2.heap
          rw [e0.1] at this
          exact this
      · cases hstep
  have hbw : Below w.heap.size w { w with drawn := w.drawn + 1 } := ⟨rfl, rfl, rfl, Nat.le_refl _, fun _ _ => rfl⟩
  have e1 := Ext.grown hs.heap hbw
  refine wp_region_any ok.mix (key ops.size _ a _ G U { S with g := 1 :: p } (by simp) ?_ (fun j o ho h => ?_) e1 ⟨fun t x hx => ⟨(hs.T t x hx).1, (hs.T t x hx).2.ext e1⟩, hs.heap.grown hbw, ?_, hs.defers⟩ rfl (fun i _ _ => ?_) (fun i h => .inl h) rfl (fun l i hi hno => ?_))
  · have := List.countP_le_length (p := (· == false)) (l := (Array.replicate ops.size false).toList)
    simpa using this
  · exfalso
    revert h
    rw [Array.getD_eq_getD_getElem?]
    by_cases hj : j < ops.size
    · simp [hj]
    · simp [hj]
  · exact hs.fr.sub (by rw [hpg]; exact List.suffix_cons _ _) fun _ h => h
  · exact hs.fr.sub (by rw [hpg]; exact List.suffix_cons _ _) fun _ h => h
  · show S.at l = (st i).at l
    rw [hchain l 0 i (by omega) hi fun j oj _ hji hoj hwr => ?_, t0]
    have := (hno j oj hoj hwr).2 hji
    revert this
    rw [Array.getD_eq_getD_getElem?]
    simp [hlt hoj]
end
end Go.Proofs.Ytfcfifohflgboaa.Am
