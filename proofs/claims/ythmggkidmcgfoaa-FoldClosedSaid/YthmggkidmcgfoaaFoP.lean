/- A formula, folded: what it is to the law alone. -/
import Derived.Test.YthmggkidmcgfoaaEvLy
import Derived.Test.YthmggkidmcgfoaaNmH
set_option linter.unusedVariables false
set_option linter.unusedSimpArgs false
namespace Go.Proofs.Ythmggkidmcgfoaa.Am
open Go Go.RowKit
set_option maxRecDepth 100000
set_option maxHeartbeats 4000000
mutual
theorem ev_same {M N : VMap} : ∀ x : Exp, (∀ t ∈ x.refs, lookV M t = lookV N t) → evE M x = evE N x
  | .mk op v name args, h => by
    simp only [Exp.refs, List.mem_append] at h
    have ih := ev_sameL args (fun t ht => h t (.inr ht))
    unfold evE
    rw [ih]
    by_cases h1 : op = 1
    · rw [if_pos h1, if_pos h1]
    rw [if_neg h1, if_neg h1]
    by_cases h2 : op = 2
    · rw [if_pos h2, if_pos h2, h name (.inl (by rw [if_pos h2]; simp))]
    rw [if_neg h2, if_neg h2]
theorem ev_sameL {M N : VMap} : ∀ l : List Exp, (∀ t ∈ Exp.refsL l, lookV M t = lookV N t) → evL M l = evL N l
  | [], _ => by simp only [evL]
  | x :: r, h => by
    simp only [Exp.refsL, List.mem_append] at h
    simp only [evL, ev_same x (fun t ht => h t (.inl ht)), ev_sameL r (fun t ht => h t (.inr ht))]
end
/-- The formula of a known value. -/
def negC (v : Val) : Exp := if v.kind = 1 ∧ v.n < 0 then .mk 3 Val.zero [] [.mk 1 ⟨v.kind, -v.n, v.s⟩ [] []] else .mk 1 v [] []
def pickIf (op : Int) (v : Val) (name : Str) : List Exp → Exp
  | [] => .mk op v name []
  | a :: r => if op = 17 ∧ a.op = 1 ∧ a.v.kind = 2 then (a :: r).getD (2 - a.v.n).toNat (.mk 0 Val.zero [] []) else .mk op v name (a :: r)
theorem pickIf_cons {op : Int} {v : Val} {name : Str} {a : Exp} {r : List Exp} : pickIf op v name (a :: r) = if op = 17 ∧ a.op = 1 ∧ a.v.kind = 2 then (a :: r).getD (2 - a.v.n).toNat (.mk 0 Val.zero [] []) else .mk op v name (a :: r) := rfl
mutual
def foldE : Exp → Exp
  | .mk op v name args => if Exp.refs (.mk op v name args) = [] ∧ valKnown (evE [] (.mk op v name args)) = true then negC (evE [] (.mk op v name args)) else pickIf op v name (foldEL args)
def foldEL : List Exp → List Exp
  | [] => []
  | x :: r => foldE x :: foldEL r
end
theorem foldEL_map : ∀ l : List Exp, foldEL l = l.map foldE
  | [] => rfl
  | x :: r => by rw [foldEL, foldEL_map r]; rfl
theorem known_kind {v : Val} (h : valKnown v = true) : (v.kind = 1 ∨ v.kind = 2 ∨ v.kind = 3) ∧ VOK v := by
  unfold valKnown at h
  simp only [Bool.and_eq_true, decide_eq_true_eq, beq_iff_eq] at h
  exact ⟨by omega, h.2⟩
theorem known_int {v : Val} (h : valKnown v = true) (hk : v.kind = 1) : chk v.n = 0 ∧ v.s = [] := by
  have h2 := (known_kind h).2
  unfold VOK valChk at h2
  rw [if_pos hk] at h2
  split at h2
  · rename_i hc
    refine ⟨hc, ?_⟩
    unfold valTail at h2
    split at h2
    · rename_i hs; simpa using hs
    · cases h2
  · rename_i hc; exact absurd h2 hc
theorem chk_range {n : Int} : chk n = 0 ↔ (-1099511627776 ≤ n ∧ n ≤ 1099511627776) := by
  unfold chk
  split
  · constructor
    · intro h; cases h
    · intro h; omega
  · constructor
    · intro _; omega
    · intro _; rfl
theorem ev_negC (M : VMap) {w : Val} (h : valKnown w = true) : evE M (negC w) = w := by
  unfold negC
  split
  · rename_i hc
    obtain ⟨hk, hn⟩ := hc
    obtain ⟨h1, h2⟩ := known_int h hk
    have hr := chk_range.1 h1
    rw [evE, if_neg (by decide), if_neg (by decide), if_neg (by decide), if_neg (by decide)]
    simp only [evL, evE, if_true]
    obtain ⟨k, n, s⟩ := w
    simp only at hk h2 h1 hr hn ⊢
    subst hk h2
    have hw : IntKind.i64.wrap n = n := wrap_in (by omega) (by omega)
    have e1 : chk (-n) = 0 := chk_range.2 (by omega)
    have e2 : chk 0 = 0 := rfl
    simp [opV, allSV, Val.zero, applyV, apply1, numOp, numW, hw, h1, e1, e2]
  · rw [evE, if_pos rfl]
theorem op_val {x : Exp} (M : VMap) (h : x.op = 1) : evE M x = x.v := by
  obtain ⟨op, v, name, args⟩ := x
  simp only [Exp.op] at h
  subst h
  rw [evE, if_pos rfl]
  rfl
mutual
theorem ev_fold {M : VMap} (hM : MOK M) : ∀ x : Exp, x.wf → evE M (foldE x) = evE M x
  | .mk op v name args, hw => by
    unfold foldE
    split
    · rename_i hc
      rw [ev_negC M hc.2]
      exact ev_same _ (fun t ht => by rw [hc.1] at ht; cases ht)
    · have ih := ev_foldL hM args hw.2
      have hvk := vok_evL hM args hw.2
      have hlen : (foldEL args).length = args.length := by rw [foldEL_map, List.length_map]
      have har := hw.1.2.2.1
      clear hw
      generalize foldEL args = bs at *
      cases bs with
      | nil =>
        unfold pickIf
        rw [evE, evE, ih]
      | cons a r =>
        rw [pickIf_cons]
        split
        · rename_i hc
          obtain ⟨rfl, h1, h2⟩ := hc
          obtain ⟨p, q, t, rfl⟩ := len3 (arity_3 har rfl)
          obtain ⟨b, c, rfl⟩ := len2 (l := r) (by simpa using hlen)
          simp only [evL, List.cons.injEq, and_true] at ih
          obtain ⟨i1, i2, i3⟩ := ih
          have hb := vok_bool (hvk (evE M p) (by simp [evL])) (by rw [← i1, op_val M h1]; exact h2)
          rw [← i1, op_val M h1] at hb
          rw [show evE M (.mk 17 v name [p, q, t]) = ifV (evE M p) (evE M q) (evE M t) by rw [evE, if_neg (by decide), if_neg (by decide), if_pos rfl]; rfl, ← i1, ← i2, ← i3, op_val M h1]
          unfold ifV
          have hf : firstV a.v = (a.v, true) := by simp [firstV, h2]
          rw [hf]
          simp only [Bool.true_eq_false, if_false]
          rcases hb with hb | hb
          · rw [hb, if_neg (by decide)]; rfl
          · rw [hb, if_pos rfl]; rfl
        · rw [evE, evE, ih]
theorem ev_foldL {M : VMap} (hM : MOK M) : ∀ l : List Exp, Exp.wfL l → evL M (foldEL l) = evL M l
  | [], _ => by rw [foldEL]
  | x :: r, h => by rw [foldEL, evL, evL, ev_fold hM x h.1, ev_foldL hM r h.2]
end
end Go.Proofs.Ythmggkidmcgfoaa.Am
