/- Tokens: plain facts. -/
import Derived.Test.YtfcakcipnikcjaaLexD
set_option linter.unusedVariables false
set_option linter.unusedSimpArgs false
namespace Go.Proofs.Ytfcakcipnikcjaa.Am
open Go Go.RowKit
set_option maxRecDepth 100000

theorem spanL_take (p : UInt8 → Bool) : ∀ (s : Str) (m : Nat), spanL p s ≤ m → spanL p (s.take m) = spanL p s
  | [], m, h => by simp [spanL]
  | c :: r, 0, h => by
    simp only [List.take_zero, spanL] at h ⊢
    split at h
    · omega
    · rename_i hc; rw [if_neg hc]
  | c :: r, m + 1, h => by
    simp only [List.take_succ_cons, spanL] at h ⊢
    split at h
    · rename_i hc
      rw [if_pos hc, if_pos hc, spanL_take p r m (by omega)]
    · rename_i hc
      rw [if_neg hc, if_neg hc]
theorem span_pos {p : UInt8 → Bool} {c : UInt8} {r : Str} (h : p c = true) : 0 < spanL p (c :: r) := by
  simp only [spanL, h, if_true]; omega
/-- Where a token stands: at the beginning, and it is not looked behind it. -/
structure TokAt (s : Str) (t : Token) : Prop where
  pos : 0 < t.s.length
  le : t.s.length ≤ s.length
  eq : t.s = s.take t.s.length
theorem quo_facts : ∀ (n i : Nat) (t r : Str) (j : Nat) (u : Str), r.length ≤ n → quo i t r = (0, j, u) → i ≤ j ∧ j < i + r.length ∧ ∀ m, j + 1 - i ≤ m → quo i t (r.take m) = (0, j, u)
  | n, i, t, [], j, u, hn, h => by simp [quo] at h
  | n, i, t, [c], j, u, hn, h => by
    simp only [quo] at h
    split at h
    · rename_i hc
      split at h
      · simp at h
      · rename_i h40
        simp only [Prod.mk.injEq, true_and] at h
        obtain ⟨rfl, rfl⟩ := h
        refine ⟨Nat.le_refl _, by simp, fun m hm => ?_⟩
        rw [List.take_of_length_le (by simp; omega)]
        simp only [quo, hc, if_true, if_neg h40]
    · simp at h
  | 0, i, t, c :: d :: r, j, u, hn, h => by simp at hn
  | n + 1, i, t, c :: d :: r, j, u, hn, h => by
    rw [quo] at h
    split at h
    · rename_i hc
      split at h
      · simp at h
      · rename_i h40
        simp only [Prod.mk.injEq, true_and] at h
        obtain ⟨rfl, rfl⟩ := h
        refine ⟨Nat.le_refl _, by simp, fun m hm => ?_⟩
        obtain ⟨m, rfl⟩ : ∃ k, m = k + 1 := ⟨m - 1, by omega⟩
        rw [List.take_succ_cons]
        cases (d :: r).take m <;> simp only [quo, hc, if_true, if_neg h40]
    · rename_i c34
      split at h
      · rename_i c92
        split at h
        · rename_i hd
          obtain ⟨h1, h2, h3⟩ := quo_facts n (i + 2) (t ++ [d]) r j u (by simp at hn; omega) h
          refine ⟨by omega, by simp; omega, fun m hm => ?_⟩
          obtain ⟨m, rfl⟩ : ∃ k, m = k + 2 := ⟨m - 2, by omega⟩
          rw [List.take_succ_cons, List.take_succ_cons, quo, if_neg c34, if_pos c92, if_pos hd]
          exact h3 m (by omega)
        · simp at h
      · rename_i c92
        split at h
        · simp at h
        · rename_i cbad
          obtain ⟨h1, h2, h3⟩ := quo_facts n (i + 1) (t ++ [c]) (d :: r) j u (by simp at hn ⊢; omega) h
          simp only [List.length_cons] at h2
          refine ⟨by omega, by simp; omega, fun m hm => ?_⟩
          obtain ⟨m, rfl⟩ : ∃ k, m = k + 2 := ⟨m - 2, by omega⟩
          have := h3 (m + 1) (by omega)
          rw [List.take_succ_cons] at this
          rw [List.take_succ_cons, List.take_succ_cons, quo, if_neg c34, if_neg c92, if_neg cbad]
          exact this
theorem find_sub {α : Type} {p q : α → Bool} : ∀ (l : List α) (x : α), l.find? p = some x → (∀ y, q y = true → p y = true) → q x = true → l.find? q = some x
  | [], x, h, _, _ => by simp at h
  | a :: l, x, h, hs, hx => by
    simp only [List.find?] at h ⊢
    cases hp : p a with
    | true =>
      rw [hp] at h
      injection h with h
      subst h
      rw [hx]
    | false =>
      rw [hp] at h
      have : q a = false := by
        cases hq : q a with
        | false => rfl
        | true => rw [hs a hq] at hp; cases hp
      rw [this]
      exact find_sub l x h hs hx
theorem hasPre_iff (s p : Str) : hasPre s p = true ↔ p.length ≤ s.length ∧ s.take p.length = p := by simp [hasPre]
theorem one_facts (s : Str) (t : Token) (h : oneTok s = (t, 0)) : TokAt s t ∧ ∀ m, t.s.length ≤ m → oneTok (s.take m) = (t, 0) := by
  cases s with
  | nil => simp [oneTok] at h
  | cons c r =>
    have htake : ∀ m, 0 < m → ∃ r', (c :: r).take m = c :: r' := fun m hm => by
      obtain ⟨m, rfl⟩ : ∃ k, m = k + 1 := ⟨m - 1, by omega⟩
      exact ⟨r.take m, List.take_succ_cons⟩
    simp only [oneTok] at h
    split at h
    · rename_i hd
      have hle := spanL_le isDigit (c :: r)
      have hpos := span_pos (p := isDigit) (r := r) hd
      have key : ∀ s' : Str, spanL isDigit s' = spanL isDigit (c :: r) → s'[0]? = some c → s'.take (spanL isDigit (c :: r)) = (c :: r).take (spanL isDigit (c :: r)) → numTok s' = numTok (c :: r) := fun s' h1 h2 h3 => by
        unfold numTok
        rw [h1, h2, h3]
        rfl
      have hts : t.s = (c :: r).take (spanL isDigit (c :: r)) := by
        unfold numTok at h
        split at h
        · simp at h
        · split at h
          · simp at h
          · simp only [Prod.mk.injEq, and_true] at h
            rw [← h]
      have hlen : t.s.length = spanL isDigit (c :: r) := by rw [hts, List.length_take]; omega
      refine ⟨⟨by omega, by omega, by rw [hlen]; exact hts⟩, fun m hm => ?_⟩
      obtain ⟨r', hr'⟩ := htake m (by omega)
      have h4 := key ((c :: r).take m) (spanL_take _ _ _ (by omega)) (by rw [hr']; rfl) (by rw [List.take_take, Nat.min_eq_left (by omega)])
      rw [hr'] at h4 ⊢
      simp only [oneTok, hd, if_true]
      rw [h4, h]
    · rename_i hd
      split at h
      · rename_i hl
        split at h
        · simp at h
        · rename_i h10
          simp only [Prod.mk.injEq, and_true] at h
          have hle := spanL_le (fun c => isLetter c || isDigit c) (c :: r)
          have hpos := span_pos (p := fun c => isLetter c || isDigit c) (r := r) (c := c) (by simp [hl])
          have hts : t.s = (c :: r).take (spanL (fun c => isLetter c || isDigit c) (c :: r)) := by rw [← h]
          have hlen : t.s.length = spanL (fun c => isLetter c || isDigit c) (c :: r) := by rw [hts, List.length_take]; omega
          refine ⟨⟨by omega, by omega, by rw [hlen]; exact hts⟩, fun m hm => ?_⟩
          obtain ⟨r', hr'⟩ := htake m (by omega)
          have h5 := spanL_take (fun c => isLetter c || isDigit c) (c :: r) m (by omega)
          have h6 : ((c :: r).take m).take (spanL (fun c => isLetter c || isDigit c) (c :: r)) = (c :: r).take (spanL (fun c => isLetter c || isDigit c) (c :: r)) := by rw [List.take_take, Nat.min_eq_left (by omega)]
          rw [hr'] at h5 h6 ⊢
          simp only [oneTok, hd, hl, if_true, if_false, Bool.false_eq_true]
          rw [h5, if_neg h10, h6, ← h]
      · rename_i hl
        split at h
        · rename_i h34
          unfold quoTok quoR at h
          split at h
          · rename_i hq
            simp only [Prod.mk.injEq, and_true] at h
            obtain ⟨j, u, hju⟩ : ∃ j u, quo 1 [] ((c :: r).drop 1) = (0, j, u) := ⟨_, _, by rw [← hq]⟩
            obtain ⟨h1, h2, h3⟩ := quo_facts _ 1 [] ((c :: r).drop 1) j u (Nat.le_refl _) hju
            rw [hju] at h
            simp only [List.drop_succ_cons, List.drop_zero] at h2 h3
            have hts : t.s = (c :: r).take (j + 1) := by rw [← h]
            have hlen : t.s.length = j + 1 := by rw [hts, List.length_take]; simp; omega
            refine ⟨⟨by omega, by simp; omega, by rw [hlen]; exact hts⟩, fun m hm => ?_⟩
            obtain ⟨m, rfl⟩ : ∃ k, m = k + 1 := ⟨m - 1, by omega⟩
            rw [List.take_succ_cons]
            simp only [oneTok, hd, hl, if_false, Bool.false_eq_true, if_pos h34]
            unfold quoTok quoR
            have h7 := h3 m (by omega)
            simp only [List.drop_succ_cons, List.drop_zero]
            rw [h7]
            simp only [if_true]
            rw [← h, ← List.take_succ_cons, List.take_take, Nat.min_eq_left (by omega)]
          · simp only [Prod.mk.injEq] at h
            rename_i hq
            exact (hq h.2).elim
        · rename_i h34
          unfold signTok at h
          cases hf : signs.find? (fun p => hasPre (c :: r) p) with
          | none => rw [hf] at h; simp at h
          | some p =>
            rw [hf] at h
            simp only [Prod.mk.injEq, and_true] at h
            have hp := List.find?_some hf
            obtain ⟨h1, h2⟩ := (hasPre_iff _ _).1 hp
            have hpos : 0 < p.length := by
              have hm := List.mem_of_find?_eq_some hf
              simp only [signs, List.mem_cons, List.not_mem_nil, or_false] at hm
              rcases hm with rfl | rfl | rfl | rfl | rfl | rfl | rfl | rfl | rfl | rfl | rfl | rfl | rfl <;> simp
            have hts : t.s = p := by rw [← h]
            refine ⟨⟨by rw [hts]; exact hpos, by rw [hts]; exact h1, by rw [hts]; exact h2.symm⟩, fun m hm => ?_⟩
            rw [hts] at hm
            obtain ⟨r', hr'⟩ := htake m (by omega)
            have hf' : signs.find? (fun p => hasPre ((c :: r).take m) p) = some p := find_sub signs p hf (fun y hy => by
                obtain ⟨h3, h4⟩ := (hasPre_iff _ _).1 hy
                rw [List.length_take] at h3
                rw [List.take_take, Nat.min_eq_left (by omega)] at h4
                exact (hasPre_iff _ _).2 ⟨by omega, h4⟩) ((hasPre_iff _ _).2 ⟨by rw [List.length_take]; omega, by rw [List.take_take, Nat.min_eq_left (by omega)]; exact h2⟩)
            rw [hr'] at hf' ⊢
            simp only [oneTok, hd, hl, if_false, Bool.false_eq_true, if_neg h34]
            unfold signTok
            rw [hf', ← h]
/-- All tokens, one by one. -/
def toksR : Nat → Nat → List Token → Str → List Token × Int × Int
  | 0, _, acc, _ => (acc, 0, 0)
  | _ + 1, _, acc, [] => (acc, 0, 0)
  | n + 1, a, acc, c :: r => if (c.toNat : Int) = 32 then toksR n (a + 1) acc r else
    if (oneTok (c :: r)).2 = 0 then toksR n (a + (oneTok (c :: r)).1.s.length) (acc ++ [{ (oneTok (c :: r)).1 with at_ := a }]) ((c :: r).drop (oneTok (c :: r)).1.s.length) else ([], a, (oneTok (c :: r)).2)
def toks (s : Str) : List Token × Int × Int := if (s.length : Int) > 160 then ([], 0, 1) else toksR s.length 0 [] s
theorem toksR_nil (n a : Nat) (acc : List Token) : toksR n a acc [] = (acc, 0, 0) := by cases n <;> rfl
theorem one_pos {s : Str} (h : (oneTok s).2 = 0) : 0 < (oneTok s).1.s.length ∧ (oneTok s).1.s.length ≤ s.length :=
  let f := (one_facts s (oneTok s).1 (by rw [← h])).1
  ⟨f.pos, f.le⟩
theorem toksR_fuel : ∀ (n n' a : Nat) (acc : List Token) (r : Str), r.length ≤ n → r.length ≤ n' → toksR n a acc r = toksR n' a acc r
  | n, n', a, acc, [], _, _ => by rw [toksR_nil, toksR_nil]
  | 0, n', a, acc, c :: r, h, _ => by simp at h
  | n, 0, a, acc, c :: r, _, h => by simp at h
  | n + 1, n' + 1, a, acc, c :: r, h, h' => by
    simp only [List.length_cons] at h h'
    simp only [toksR]
    split
    · exact toksR_fuel n n' _ _ r (by omega) (by omega)
    · split
      · rename_i h0
        have := one_pos h0
        exact toksR_fuel n n' _ _ _ (by simp; omega) (by simp; omega)
      · rfl
end Go.Proofs.Ytfcakcipnikcjaa.Am
