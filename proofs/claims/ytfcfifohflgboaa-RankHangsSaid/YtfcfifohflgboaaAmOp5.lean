/- Each operation, one by one: numbers, texts, slices of lists, what is built. -/
import Derived.Test.YtfcfifohflgboaaAmOp4
import Derived.Laws.Build
set_option linter.unusedVariables false
set_option linter.unusedSimpArgs false
namespace Go.Proofs.Ytfcfifohflgboaa.Am
open Go Go.RowKit

section
variable {C : Ctx} {w w' : World} {G G' : Gh} {P : Program} {T : Tab} {S S' : St} {a : Act} {H : Heap} {U : Id → Prop}

theorem bytesLt_eq : ∀ x y, bytesLt x y = Op.bytesLess x y
  | _, [] => by simp [bytesLt, Op.bytesLess]
  | [], _ :: _ => by simp [bytesLt, Op.bytesLess]
  | p :: x, q :: y => by simp [bytesLt, Op.bytesLess, bytesLt_eq x y]

theorem run_binInt {op : BinOp} {t : Nat} {k : IntKind} {m n : Int} {r : DV} (hop : op ≠ .shl ∧ op ≠ .shr) (h : binInt op k m n = some r) : ∃ v, (binOp op t (.int k m) (.int k n)).run P w = .ok v w ∧ ∀ F, RepD w F v r := by
  cases op <;> simp only [binInt] at h <;> first
    | (cases h; done)
    | (exact absurd rfl hop.1)
    | (exact absurd rfl hop.2)
    | (injection h with h; subst h; exact ⟨_, by simp [binOp, Op.intArith, Op.intCmp], fun F => .int _ _⟩)
    | (injection h with h; subst h; exact ⟨_, by simp [binOp, Op.intArith, Op.intCmp], fun F => .bool _⟩)
    | (split at h
       · cases h
       · injection h with h
         subst h
         rename_i hn
         exact ⟨_, by simp [binOp, Op.intDiv, hn], fun F => .int _ _⟩)

theorem run_binStr {op : BinOp} {t : Nat} {p q : ByteArray} {r : DV} (h : binStr op p.data.toList q.data.toList = some r) : ∃ v, (binOp op t (.string p) (.string q)).run P w = .ok v w ∧ ∀ F, RepD w F v r := by
  have hm : IntKind.i64.max = 9223372036854775807 := by decide
  cases op <;> simp only [binStr] at h <;> first
    | (cases h; done)
    | (split at h
       · injection h with h
         subst h
         rename_i hl
         have hl' : ¬ (9223372036854775807 : Int) < (p.size : Int) + (q.size : Int) := by
           have h1 : p.data.toList.length = p.size := rfl
           have h2 : q.data.toList.length = q.size := rfl
           omega
         refine ⟨.string (p ++ q), by simp [binOp, Op.stringOp, hm, hl'], fun F => ?_⟩
         have := RepD.str (w := w) (F := F) (p ++ q)
         simpa [ByteArray.data_append] using this
       · cases h)
    | (injection h with h
       subst h
       refine ⟨_, by simp only [binOp, Op.stringOp, Sem.run_pure, ByteArray.toList_eq, ← bytesLt_eq], fun F => .bool _⟩)

theorem good_binOp (ok : T.Ok P) (hs : Sim C w G U S a) {o : Oper} {op : BinOp} {t t' t1 t2 : Nat} {y z : Operand} (ho : o.op = .binOp op t y z t') {p q : AV} (hp : ev T S t1 y = some p) (hq : ev T S t2 z = some q)
    {r : DV} (h : binOpA T op t p q = some r) : Good C P w G U S ((execOp a.eval o).run P w) (some (.d r)) S := by
  have rp := ev_ok ok hs hp
  have rq := ev_ok ok hs hq
  have fin : ∀ v, (do eqGuard op t y z (a.eval y) (a.eval z); binOp op t (a.eval y) (a.eval z) : Sem Value).run P w = .ok v w → RepD w (Fz C G S.H) v r → Good C P w G U S ((execOp a.eval o).run P w) (some (.d r)) S := by
    intro v hv hr
    refine Good.quiet hs (v := v) ?_ (.d _ _ hr)
    simp only [execOp, ho]
    simp only [Sem.run_bind] at hv ⊢
    rw [hv]
    rfl
  have hstruct : ∀ b, eqA T t p q = some b → (binOp .eql t (a.eval y) (a.eval z)).run P w = .ok (.bool b) w ∧ (binOp .neq t (a.eval y) (a.eval z)).run P w = .ok (.bool (!b)) w ∧ (eqGuard op t y z (a.eval y) (a.eval z)).run P w = .ok () w := by
    intro b hb
    unfold eqA at hb
    cases hl : leaves T 8 t with
    | none => rw [hl] at hb; cases hb
    | some ls =>
      cases hi : isAgg T t with
      | none => rw [hl, hi] at hb; cases hb
      | some g =>
        rw [hl, hi] at hb
        cases g with
        | true =>
          simp only at hb
          cases hc : aggCells p with
          | none => rw [hc] at hb; simp at hb
          | some cs =>
            cases hd : aggCells q with
            | none => rw [hc, hd] at hb; simp at hb
            | some ds =>
              rw [hc, hd] at hb
              simp only at hb
              obtain ⟨vs, h1, h2, h3⟩ := rep_aggCells rp hc
              obtain ⟨us, h4, h5, h6⟩ := rep_aggCells rq hd
              obtain ⟨hl1, hl2⟩ := eqCells_len _ _ _ _ hb
              rw [h1, h4]
              have hcmp : T.cmp t = true := by
                unfold leaves at hl
                unfold Am.isAgg at hi
                split at hl
                · rename_i hu; rw [hu] at hi; simp at hi
                · rename_i hu; rw [hu] at hi; simp at hi
                · rename_i hu; rw [hu] at hi; simp at hi
                · split at hl
                  · assumption
                  · cases hl
                · cases hl
              obtain ⟨u, v, h7, h8, h9⟩ := eq_ok ok 8 t ls hl 10000 (by omega) vs us 0 0 cs ds b (fun j y hj => by
                obtain ⟨_, u, h7, h8⟩ := h3 j y hj
                exact ⟨u, by rw [Nat.zero_add]; exact h7, h8⟩) (fun j y hj => by
                obtain ⟨_, u, h7, h8⟩ := h6 j y hj
                exact ⟨u, by rw [Nat.zero_add]; exact h7, h8⟩) hb
              have hra := isAgg_ok ok hi w
              have hsz := leaves_size hl
              obtain ⟨hrs, _⟩ := size_ok ok hsz w
              have hu : u = .agg vs := by
                simp [part, hra, hrs] at h7
                rw [← h7]
                congr 1
                rw [Array.extract_eq_self_of_le] <;> omega
              have hv : v = .agg us := by
                simp [part, hra, hrs] at h8
                rw [← h8]
                congr 1
                rw [Array.extract_eq_self_of_le] <;> omega
              subst hu
              subst hv
              exact ⟨by rw [run_eql_struct, h9]; rfl, by rw [run_neq_struct, h9]; rfl, run_eqGuard_agg w op t y z vs us (ok.cmp t hcmp).2⟩
        | false =>
          simp only at hb
          obtain ⟨x', y', hx', hy', hc⟩ := eqOne (d := ls.headD .bool) (b := b) (cx := [p]) (cy := [q]) (by
            obtain ⟨h1, _⟩ := eqCells_len _ _ _ _ hb
            match ls, h1 with
            | [d], _ => exact hb)
          injection hx' with hx'
          injection hy' with hy'
          subst hx'; subst hy'
          have hd : ∃ d, T.und t = some d ∧ ((∃ k, d = .int k) ∨ d = .bool ∨ d = .string) ∧ ls = [d] := by
            unfold leaves at hl
            unfold Am.isAgg at hi
            split at hl
            · rename_i hu; exact ⟨_, hu, .inr (.inl rfl), (sized_eq hl).1.symm⟩
            · rename_i hu; exact ⟨_, hu, .inl ⟨_, rfl⟩, (sized_eq hl).1.symm⟩
            · rename_i hu; exact ⟨_, hu, .inr (.inr rfl), (sized_eq hl).1.symm⟩
            · rename_i hu; rw [hu] at hi; simp at hi
            · cases hl
          obtain ⟨d, hu, hd, rfl⟩ := hd
          simp only [List.headD_cons] at hc
          rcases eqCell_cases hc with ⟨k, m, n, rfl, j, rfl, rfl, rfl⟩ | ⟨m, n, rfl, rfl, rfl, rfl⟩ | ⟨m, n, rfl, rfl, rfl, rfl⟩
          · rw [rep_int rp, rep_int rq, eqGuard_at_int, binOp_eql, binOp_neq]
            exact ⟨rfl, rfl, rfl⟩
          · have h1 := leaf_eq ok hu hd rp rq hc 9999
            rw [rep_bool rp, rep_bool rq] at h1 ⊢
            rw [eqGuard_at_bool]
            refine ⟨?_, ?_, rfl⟩
            · simp [binOp, Op.equal, Op.maxDepth, h1]
            · simp [binOp, Op.equal, Op.maxDepth, h1]
          · obtain ⟨p', e1, rfl⟩ := rep_str rp
            obtain ⟨q', e2, rfl⟩ := rep_str rq
            rw [e1, e2, eqGuard_at_string]
            refine ⟨?_, ?_, rfl⟩ <;> simp [binOp, Op.stringOp, ByteArray.toList_eq]
  unfold binOpA at h
  split at h
  · rename_i k m j n
    have e1 := rep_int rp
    have e2 := rep_int rq
    split at h
    · split at h
      · cases h
      · injection h with h
        subst h
        rename_i hn
        exact fin _ (by rw [e1, e2, eqGuard_shl, binOp_shl, shift_shl_any k j m n (by omega)]; rfl) (.int _ _)
    · split at h
      · cases h
      · injection h with h
        subst h
        rename_i hn
        have hp0 : (0 : Int) ≤ 2 ^ min n.toNat k.bits := Int.le_of_lt (Int.pow_pos (by decide))
        exact fin _ (by rw [e1, e2, eqGuard_shr, binOp_shr, shift_shr_any k j m n (by omega), ← Int.fdiv_eq_ediv_of_nonneg _ hp0]; rfl) (.int _ _)
    · split at h
      · rename_i hk
        subst hk
        obtain ⟨v, hv, hr⟩ := run_binInt (P := P) (w := w) (t := t) (by constructor <;> (intro e; subst e; simp_all)) h
        exact fin v (by rw [e1, e2, eqGuard_at_int]; simpa using hv) (hr _)
      · cases h
  · rename_i m n
    obtain ⟨p', e1, rfl⟩ := rep_str rp
    obtain ⟨q', e2, rfl⟩ := rep_str rq
    obtain ⟨v, hv, hr⟩ := run_binStr (P := P) (w := w) (t := t) h
    exact fin v (by rw [e1, e2, eqGuard_at_string]; simpa using hv) (hr _)
  · split at h
    · split at h
      · injection h with h
        subst h
        rename_i b hb
        obtain ⟨h1, _, h2⟩ := hstruct b hb
        exact fin _ (by simp [h1, h2]) (.bool _)
      · cases h
    · split at h
      · injection h with h
        subst h
        rename_i b hb
        obtain ⟨_, h1, h2⟩ := hstruct b hb
        exact fin _ (by simp [h1, h2]) (.bool _)
      · cases h
    · cases h
end
end Go.Proofs.Ytfcfifohflgboaa.Am
