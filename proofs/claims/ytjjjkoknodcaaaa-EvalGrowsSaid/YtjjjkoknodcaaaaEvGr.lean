/- Not both is one that is not; to be less is not to be at most the other way round. -/
import Derived.Test.YtjjjkoknodcaaaaEvLz
set_option linter.unusedVariables false
set_option linter.unusedSimpArgs false
namespace Go.Proofs.Ytjjjkoknodcaaaa.Am
open Go Go.RowKit
theorem ty_EvK_10 : type_of% (ai (ai (ai (ai (ai (ai @rs10 @lv10_0) (ai @lv10_1 (ai @lv10_2 @lv10_3))) (ai (ai @dr10_4 (ai @lv10_4 @lv10_5)) (ai @lv10_6 (ai @lv10_7 @lv10_8)))) (ai (ai (ai @lv10_9 (ai @und1 @sz1)) (ai @ag1 (ai @inf1 @und2))) (ai (ai @sz2 (ai @ag2 @lv2)) (ai @inf2 (ai @und3 @sz3))))) (ai (ai (ai (ai @ag3 (ai @lv3 @inf3)) (ai @und4 (ai @sz4 @ag4))) (ai (ai @lv4 (ai @inf4 @und9)) (ai @sz9 (ai @ag9 @lv9)))) (ai (ai (ai @inf9 (ai @und22 @sz22)) (ai @ag22 (ai @pT22 @inf22))) (ai (ai @und24 (ai @sz24 @ag24)) (ai @fo24 (ai @bA24 @pT24_0)))))) (ai (ai (ai (ai (ai @pT24_1 (ai @pT24_2 @lv24)) (ai @inf24 (ai @und25 @sz25))) (ai (ai @ag25 (ai @pT25 @inf25)) (ai @und27 (ai @sz27 @ag27)))) (ai (ai (ai @fo27 (ai @bA27 @pT27_0)) (ai @pT27_1 (ai @pT27_2 @pT27_3))) (ai (ai @inf27 (ai @und34 @sz34)) (ai @ag34 (ai @lv34 @inf34))))) (ai (ai (ai (ai @und56 (ai @sz56 @ag56)) (ai @pT56 (ai @inf56 @und65))) (ai (ai @sz65 (ai @ag65 @fo65)) (ai @bA65 (ai @pT65_0 @pT65_1)))) (ai (ai (ai @pT65_2 (ai @inf65 @und99)) (ai @sz99 (ai @ag99 @fo99))) (ai (ai @bA99 (ai @pT99_0 @pT99_1)) (ai @pT99_2 (ai @pT99_3 @inf99))))))) := (ai (ai (ai (ai (ai (ai @rs10 @lv10_0) (ai @lv10_1 (ai @lv10_2 @lv10_3))) (ai (ai @dr10_4 (ai @lv10_4 @lv10_5)) (ai @lv10_6 (ai @lv10_7 @lv10_8)))) (ai (ai (ai @lv10_9 (ai @und1 @sz1)) (ai @ag1 (ai @inf1 @und2))) (ai (ai @sz2 (ai @ag2 @lv2)) (ai @inf2 (ai @und3 @sz3))))) (ai (ai (ai (ai @ag3 (ai @lv3 @inf3)) (ai @und4 (ai @sz4 @ag4))) (ai (ai @lv4 (ai @inf4 @und9)) (ai @sz9 (ai @ag9 @lv9)))) (ai (ai (ai @inf9 (ai @und22 @sz22)) (ai @ag22 (ai @pT22 @inf22))) (ai (ai @und24 (ai @sz24 @ag24)) (ai @fo24 (ai @bA24 @pT24_0)))))) (ai (ai (ai (ai (ai @pT24_1 (ai @pT24_2 @lv24)) (ai @inf24 (ai @und25 @sz25))) (ai (ai @ag25 (ai @pT25 @inf25)) (ai @und27 (ai @sz27 @ag27)))) (ai (ai (ai @fo27 (ai @bA27 @pT27_0)) (ai @pT27_1 (ai @pT27_2 @pT27_3))) (ai (ai @inf27 (ai @und34 @sz34)) (ai @ag34 (ai @lv34 @inf34))))) (ai (ai (ai (ai @und56 (ai @sz56 @ag56)) (ai @pT56 (ai @inf56 @und65))) (ai (ai @sz65 (ai @ag65 @fo65)) (ai @bA65 (ai @pT65_0 @pT65_1)))) (ai (ai (ai @pT65_2 (ai @inf65 @und99)) (ai @sz99 (ai @ag99 @fo99))) (ai (ai @bA99 (ai @pT99_0 @pT99_1)) (ai @pT99_2 (ai @pT99_3 @inf99)))))))
set_option maxRecDepth 100000
set_option maxHeartbeats 40000000



theorem op_one (op : Int) (a : Val) : opV op [a] = if a.kind = 5 then a else if a.kind = 4 then a else apply1 op a := by
  by_cases h5 : a.kind = 5
  · simp [opV, allSV, h5]
  · by_cases h4 : a.kind = 4
    · simp [opV, allSV, h5, h4]
    · simp [opV, allSV, h5, h4, Val.zero, applyV]
theorem op_two (op : Int) (a b : Val) : opV op [a, b] = if a.kind = 5 then a else if b.kind = 5 then b else if b.kind = 4 then b else if a.kind = 4 then a else apply2 op a b := by
  by_cases h5 : a.kind = 5
  · simp [opV, allSV, h5]
  · by_cases g5 : b.kind = 5
    · simp [opV, allSV, h5, g5]
    · by_cases g4 : b.kind = 4
      · simp [opV, allSV, h5, g5, g4]
      · by_cases h4 : a.kind = 4
        · simp [opV, allSV, h5, g5, g4, h4]
        · simp [opV, allSV, h5, g5, g4, h4, Val.zero, applyV]
/-- De Morgan. -/
theorem morgan {a b : Val} (ha : VOK a) (hb : VOK b) : andV 16 (opV 4 [a]) (opV 4 [b]) = opV 4 [andV 15 a b] := by
  have k1 := vok_kind ha
  have k2 := vok_kind hb
  have k3 := fun h => vok_bool ha h
  rw [op_one 4 a, op_one 4 b, op_one]
  obtain ⟨ak, an, az⟩ := a
  obtain ⟨bk, bn, bs⟩ := b
  simp only at k1 k2 k3
  rcases k1 with rfl | rfl | rfl | rfl | rfl
  · simp [andV, firstV, apply1, fault]
  · rcases k3 rfl with rfl | rfl
    · simp [andV, firstV, apply1, truthV]
    · rcases k2 with rfl | rfl | rfl | rfl | rfl <;> simp [andV, firstV, boolV, apply1, truthV, fault]
  · simp [andV, firstV, apply1, fault]
  · simp [andV, firstV, apply1, fault]
  · simp [andV, firstV, apply1, fault]
theorem pend_one {a : Val} (h : VOK a) (hk : a.kind = 4) : a = ⟨4, 0, []⟩ := by
  obtain ⟨k, n, s⟩ := a
  simp only at hk
  subst hk
  unfold VOK valChk at h
  simp only at h
  rw [if_neg (by decide), if_neg (by decide), if_neg (by decide), if_pos trivial] at h
  split at h
  · rename_i hn
    unfold valTail at h
    split at h
    · rename_i hs
      have hs' : s = [] := beq_iff_eq.1 hs
      rw [hn, hs']
    · cases h
  · cases h
theorem cmp_swap (a b : Val) : (cmpV b a).2 = (cmpV a b).2 ∧ ((cmpV a b).2 = 0 → (cmpV b a).1 = - (cmpV a b).1) := by
  unfold cmpV
  cases e1 : valKnown a <;> cases e2 : valKnown b <;> simp
  by_cases h3 : a.kind = b.kind
  · rw [if_pos h3, if_pos h3.symm]
    exact ⟨rfl, fun _ => valCmp_neg a b h3⟩
  · rw [if_neg h3, if_neg (fun h => h3 h.symm)]
    exact ⟨rfl, fun h => by simp at h⟩
/-- To be less is not to be at most the other way round. -/
theorem less_not {a b : Val} (ha : VOK a) (hb : VOK b) : opV 11 [a, b] = opV 4 [opV 12 [b, a]] ∨ ((opV 11 [a, b]).kind = 5 ∧ (opV 4 [opV 12 [b, a]]).kind = 5) := by
  rw [op_one, op_two 11 a b, op_two 12 b a]
  by_cases a5 : a.kind = 5
  · refine .inr ?_
    by_cases b5 : b.kind = 5
    · simp [a5, b5]
    · simp [a5, b5]
  · by_cases b5 : b.kind = 5
    · refine .inr ?_
      simp [a5, b5]
    · by_cases a4 : a.kind = 4
      · have := pend_one ha a4
        subst this
        by_cases b4 : b.kind = 4
        · have := pend_one hb b4
          subst this
          exact .inl (by simp)
        · exact .inl (by simp [b4, b5])
      · by_cases b4 : b.kind = 4
        · have := pend_one hb b4
          subst this
          exact .inl (by simp [a4, a5])
        · simp only [a5, b5, a4, b4, if_false]
          have hs := cmp_swap a b
          have e11 : apply2 11 a b = if (cmpV a b).2 ≠ 0 then fault (cmpV a b).2 else truthV (cmpOp 11 (cmpV a b).1) := by unfold apply2; rw [if_pos (by decide)]
          have e12 : apply2 12 b a = if (cmpV b a).2 ≠ 0 then fault (cmpV b a).2 else truthV (cmpOp 12 (cmpV b a).1) := by unfold apply2; rw [if_pos (by decide)]
          rw [e11, e12]
          rcases cmpV_or a b with h | h
          · have h1 := hs.2 h
            refine .inl ?_
            rw [hs.1, h, h1]
            simp only [ne_eq, not_true, if_false, cmpOp]
            generalize (cmpV a b).1 = c
            by_cases hc : c < 0
            · have h2 : ¬ (-c ≤ 0) := by omega
              simp [hc, h2, truthV, apply1]
            · have h2 : -c ≤ 0 := by omega
              simp [hc, h2, truthV, apply1]
          · refine .inr ?_
            rw [hs.1, h]
            simp [fault]
theorem wf_n {x : Exp} (hx : x.wf) : (Exp.mk 4 Val.zero [] [x]).wf := ⟨⟨by decide, by decide, rfl, by rw [if_neg (by decide), if_neg (by decide)]; exact ⟨rfl, rfl⟩⟩, hx, trivial⟩
theorem wf_c {op : Int} (ho : op = 11 ∨ op = 12) {x y : Exp} (hx : x.wf) (hy : y.wf) : (Exp.mk op Val.zero [] [x, y]).wf := by
  rcases ho with rfl | rfl <;> exact ⟨⟨by decide, by decide, rfl, by rw [if_neg (by decide), if_neg (by decide)]; exact ⟨rfl, rfl⟩⟩, hx, hy, trivial⟩
theorem ev_n (m : VMap) (x : Exp) : evE m (.mk 4 Val.zero [] [x]) = opV 4 [evE m x] := by
  rw [evE, if_neg (by decide), if_neg (by decide), if_neg (by decide), if_neg (by decide)]; simp only [evL]
theorem ev_c (m : VMap) {op : Int} (ho : op = 11 ∨ op = 12) (x y : Exp) : evE m (.mk op Val.zero [] [x, y]) = opV op [evE m x, evE m y] := by
  rw [evE, if_neg (by omega), if_neg (by omega), if_neg (by omega), if_neg (by omega)]; simp only [evL]
theorem n_1 (op : Int) (x : Exp) : (Exp.mk op Val.zero [] [x]).nodes = x.nodes + 1 ∧ (Exp.mk op Val.zero [] [x]).deep = x.deep + 1 := by
  constructor
  · simp only [Exp.nodes, Exp.nodesL]; all_goals omega
  · simp only [Exp.deep, Exp.deepL]; all_goals omega
theorem ret_EvalDuals (l m k : List Raw) (kind : Int) (hl : l.length ≤ 9223372036854775807) (hr : ∀ r ∈ l, r.ok) (hm : m.length ≤ 9223372036854775807) (hs : ∀ r ∈ m, r.ok) (hk : k.length ≤ 9223372036854775807) (ht : ∀ r ∈ k, r.ok) (hki : -9223372036854775808 ≤ kind ∧ kind ≤ 9223372036854775807) : Ret tab 10 [.d (.sl 4 (l.map Raw.dv)), .d (.sl 4 (m.map Raw.dv)), .d (.sl 4 (k.map Raw.dv)), .d (.int .i64 kind)] (.d (.bool true)) := by
  obtain ⟨hty, w1⟩ := ty_pick hki
  have ty2 : Ty 2 := by unfold Ty; decide
  have p1 : ∀ (S : St) (d dst : Nat), callA tab (callR tab) d dst 16 [.d (.int .i64 kind), .d (.int .i64 3)] S = some (.d (.int .i64 (pick kind 3)), S) := fun S d dst => ca_picked kind 3 (by decide)
  have f0 := fun (S : St) (d dst : Nat) => ca_two l m k 2 hl hm hk hr hs ht (d := d) (dst := dst) (S := S)
  have f1 := fun (S : St) (d dst : Nat) => ca_two m l k (1 + pick kind 3) hm hl hk hs hr ht (d := d) (dst := dst) (S := S)
  have wP := twoE_wf hr ty2
  have wQ := twoE_wf hs ty2
  have wX := twoE_wf hs hty
  have wY := twoE_wf hr hty
  have nP := twoE_n l 2
  have nQ := twoE_n m 2
  have nX := twoE_n m (1 + pick kind 3)
  have nY := twoE_n l (1 + pick kind 3)
  generalize twoE l 2 = P at *
  generalize twoE m 2 = Q at *
  generalize twoE m (1 + pick kind 3) = X at *
  generalize twoE l (1 + pick kind 3) = Y at *
  have hF := facts_ok ht someF 0 someF_ok
  have lF := factsL_len k
  change ∀ f ∈ factsL k, VOK f.has at hF
  generalize factsL k = F at *
  have hM := mok_fmap F [] mok_nil hF
  have vP := vok_ev hM P wP
  have vQ := vok_ev hM Q wQ
  have vX := vok_ev hM X wX
  have vY := vok_ev hM Y wY
  have n1 := n_2 15 P Q
  have n2 := n_1 4 (Exp.mk 15 Val.zero [] [P, Q])
  have n3 := n_1 4 P
  have n4 := n_1 4 Q
  have n5 := n_2 16 (Exp.mk 4 Val.zero [] [P]) (Exp.mk 4 Val.zero [] [Q])
  have n6 := n_2 11 X Y
  have n7 := n_2 12 Y X
  have n8 := n_1 4 (Exp.mk 12 Val.zero [] [Y, X])
  have wA := wf_n (wf_ao (.inl rfl) wP wQ)
  have wB := wf_ao (.inr rfl) (wf_n wP) (wf_n wQ)
  have wC := wf_c (.inl rfl) wX wY
  have wD := wf_n (wf_c (.inr rfl) wY wX)
  have vA := vok_ev hM _ wA
  have vC := vok_ev hM _ wC
  have e1 : evE (fmap [] F) (.mk 4 Val.zero [] [.mk 15 Val.zero [] [P, Q]]) = opV 4 [andV 15 (evE (fmap [] F) P) (evE (fmap [] F) Q)] := by rw [ev_n, ev_ao _ (.inl rfl)]
  have e2 : evE (fmap [] F) (.mk 16 Val.zero [] [.mk 4 Val.zero [] [P], .mk 4 Val.zero [] [Q]]) = opV 4 [andV 15 (evE (fmap [] F) P) (evE (fmap [] F) Q)] := by rw [ev_ao _ (.inr rfl), ev_n, ev_n, morgan vP vQ]
  have e3 : evE (fmap [] F) (.mk 11 Val.zero [] [X, Y]) = opV 11 [evE (fmap [] F) X, evE (fmap [] F) Y] := ev_c _ (.inl rfl) X Y
  have e4 : evE (fmap [] F) (.mk 4 Val.zero [] [.mk 12 Val.zero [] [Y, X]]) = opV 4 [opV 12 [evE (fmap [] F) Y, evE (fmap [] F) X]] := by rw [ev_n, ev_c _ (.inr rfl)]
  have hL := less_not vX vY
  rw [e1] at vA
  rw [e3] at vC
  have g1 := fun (S : St) (d dst : Nat) => ca_OfD (l := F) (by omega) wA lF hF e1 (d := d) (dst := dst) (S := S)
  have g2 := fun (S : St) (d dst : Nat) => ca_OfD (l := F) (by omega) wB lF hF e2 (d := d) (dst := dst) (S := S)
  have g3 := fun (S : St) (d dst : Nat) => ca_OfD (l := F) (by omega) wC lF hF e3 (d := d) (dst := dst) (S := S)
  have g4 := fun (S : St) (d dst : Nat) => ca_OfD (l := F) (by omega) wD lF hF e4 (d := d) (dst := dst) (S := S)
  clear e1 e2 e3 e4 n1 n2 n3 n4 n5 n6 n7 n8
  generalize opV 4 [andV 15 (evE (fmap [] F) P) (evE (fmap [] F) Q)] = A at *
  generalize opV 11 [evE (fmap [] F) X, evE (fmap [] F) Y] = C at *
  generalize opV 4 [opV 12 [evE (fmap [] F) Y, evE (fmap [] F) X]] = D at *
  have bA : (A.kind == 0) = false := beq_eq_false_iff_ne.2 (by rcases vok_kind vA with h | h | h | h | h <;> omega)
  have bC : (C.kind == 0) = false := beq_eq_false_iff_ne.2 (by rcases vok_kind vC with h | h | h | h | h <;> omega)
  simp only [Exp.dv_mk, List.map_cons, List.map_nil, Val.zero, Val.dv, Exp.dv_eq P, Exp.dv_eq Q, Exp.dv_eq X, Exp.dv_eq Y] at f0 f1 g1 g2 g3 g4
  rcases hL with rfl | ⟨h5, h6⟩
  · refine ret_of 1 fn10 rfl rfl ?_
    simp only [amr, amc, amp, if_true, if_false, ne_eq, gt_iff_lt, Option.getD, argsT, Option.bind, Option.map, List.headD, List.tail, opnsL, List.replicate, lendsL, seval, ty_EvK_10, p1, w1, f0, f1, ca_withJ, g1, g2, g3, g4, bA, bC, beq_self_eq_true, bne_self_eq_false]
  · rw [h5] at g3
    rw [h6] at g4
    cases q1 : (C.n == D.n) with
    | false =>
      refine ret_of 1 fn10 rfl rfl ?_
      simp only [amr, amc, amp, if_true, if_false, ne_eq, gt_iff_lt, Option.getD, argsT, Option.bind, Option.map, List.headD, List.tail, opnsL, List.replicate, lendsL, seval, ty_EvK_10, p1, w1, f0, f1, ca_withJ, g1, g2, g3, g4, bA, bC, q1, beq_self_eq_true, bne_self_eq_false]
    | true =>
      cases q2 : (C.s == D.s) with
      | false =>
        refine ret_of 1 fn10 rfl rfl ?_
        simp only [amr, amc, amp, if_true, if_false, ne_eq, gt_iff_lt, Option.getD, argsT, Option.bind, Option.map, List.headD, List.tail, opnsL, List.replicate, lendsL, seval, ty_EvK_10, p1, w1, f0, f1, ca_withJ, g1, g2, g3, g4, bA, bC, q1, q2, beq_self_eq_true, bne_self_eq_false]
      | true =>
        refine ret_of 1 fn10 rfl rfl ?_
        simp only [amr, amc, amp, if_true, if_false, ne_eq, gt_iff_lt, Option.getD, argsT, Option.bind, Option.map, List.headD, List.tail, opnsL, List.replicate, lendsL, seval, ty_EvK_10, p1, w1, f0, f1, ca_withJ, g1, g2, g3, g4, bA, bC, q1, q2, beq_self_eq_true, bne_self_eq_false]
end Go.Proofs.Ytjjjkoknodcaaaa.Am
/- What is known while some fields are pending stays. -/
set_option linter.unusedVariables false
set_option linter.unusedSimpArgs false
namespace Go.Proofs.Ytjjjkoknodcaaaa.Am
open Go Go.RowKit
set_option maxRecDepth 100000
set_option maxHeartbeats 40000000


/-- What grows: pending, or the same, or both faults. -/
def Grow (v w : Val) : Prop := w.kind = 4 ∨ v = w ∨ (v.kind = 5 ∧ w.kind = 5)
theorem grow_one {op : Int} {a b : Val} (h : Grow a b) : Grow (opV op [a]) (opV op [b]) := by
  rcases h with h | rfl | ⟨h1, h2⟩
  · refine .inl ?_
    rw [op_one, if_neg (by omega), if_pos h]; exact h
  · exact .inr (.inl rfl)
  · refine .inr (.inr ?_)
    rw [op_one, op_one, if_pos h1, if_pos h2]; exact ⟨h1, h2⟩
theorem grow_five {a b : Val} (h : Grow a b) (hb : b.kind = 5) : a.kind = 5 := by
  rcases h with h | rfl | ⟨h1, _⟩
  · omega
  · exact hb
  · exact h1
theorem grow_same {a b : Val} (h : Grow a b) (h4 : b.kind ≠ 4) (h5 : b.kind ≠ 5) : a = b := by
  rcases h with h | h | ⟨_, h⟩
  · exact absurd h h4
  · exact h
  · exact absurd h h5
theorem grow_two {op : Int} {a b x y : Val} (h : Grow a x) (k : Grow b y) : Grow (opV op [a, b]) (opV op [x, y]) := by
  rw [op_two, op_two]
  by_cases x5 : x.kind = 5
  · have := grow_five h x5
    rw [if_pos x5, if_pos this]; exact .inr (.inr ⟨this, x5⟩)
  · rw [if_neg x5]
    by_cases y5 : y.kind = 5
    · have := grow_five k y5
      rw [if_pos y5, if_pos this]
      refine .inr (.inr ⟨?_, y5⟩)
      split
      · assumption
      · exact this
    · rw [if_neg y5]
      by_cases y4 : y.kind = 4
      · rw [if_pos y4]; exact .inl y4
      · rw [if_neg y4]
        by_cases x4 : x.kind = 4
        · rw [if_pos x4]; exact .inl x4
        · rw [if_neg x4]
          have e1 := grow_same h x4 x5
          have e2 := grow_same k y4 y5
          subst e1 e2
          rw [if_neg x5, if_neg y5, if_neg y4, if_neg x4]
          exact .inr (.inl rfl)
theorem first_4 {a : Val} (h : a.kind = 4) : firstV a = (a, false) := by
  unfold firstV; rw [if_neg (by rw [h]; decide), if_pos (by rw [h]; decide)]
theorem first_5 {a : Val} (h : a.kind = 5) : firstV a = (a, false) := by
  unfold firstV; rw [if_neg (by rw [h]; decide), if_neg (by rw [h]; decide), if_pos (by rw [h]; decide)]
theorem grow_if {a b c x y z : Val} (ha : Grow a x) (hb : Grow b y) (hc : Grow c z) : Grow (ifV a b c) (ifV x y z) := by
  rcases ha with h | rfl | ⟨h1, h2⟩
  · unfold ifV; rw [first_4 h, if_pos rfl]; exact .inl h
  · unfold ifV
    split
    · exact .inr (.inl rfl)
    · split
      · exact hb
      · exact hc
  · unfold ifV; rw [first_5 h1, first_5 h2, if_pos rfl, if_pos rfl]; exact .inr (.inr ⟨h1, h2⟩)
theorem grow_bool {a b : Val} (h : Grow a b) : Grow (boolV a) (boolV b) := by
  rcases h with h | rfl | ⟨h1, h2⟩
  · refine .inl ?_
    unfold boolV; rw [if_neg (by rw [h]; decide), if_neg (by rw [h]; decide)]; exact h
  · exact .inr (.inl rfl)
  · refine .inr (.inr ⟨?_, ?_⟩)
    · unfold boolV; rw [if_neg (by rw [h1]; decide), if_neg (by rw [h1]; decide)]; exact h1
    · unfold boolV; rw [if_neg (by rw [h2]; decide), if_neg (by rw [h2]; decide)]; exact h2
theorem grow_and {op : Int} {a b x y : Val} (ha : Grow a x) (hb : Grow b y) : Grow (andV op a b) (andV op x y) := by
  rcases ha with h | rfl | ⟨h1, h2⟩
  · unfold andV; rw [first_4 h, if_pos rfl]; exact .inl h
  · unfold andV
    split
    · exact .inr (.inl rfl)
    · split
      · exact .inr (.inl rfl)
      · exact grow_bool hb
  · unfold andV; rw [first_5 h1, first_5 h2, if_pos rfl, if_pos rfl]; exact .inr (.inr ⟨h1, h2⟩)
/-- All fields grow. -/
def MGrow (m n : VMap) : Prop := ∀ s, (lookV m s = none ∧ lookV n s = none) ∨ ∃ v w, lookV m s = some v ∧ lookV n s = some w ∧ Grow v w
def PW : List Val → List Val → Prop
  | [], [] => True
  | a :: l, b :: r => Grow a b ∧ PW l r
  | _, _ => False
mutual
theorem grow_ev {m n : VMap} (h : MGrow m n) : ∀ (x : Exp), x.wf → Grow (evE m x) (evE n x)
  | .mk op v name args, hw => by
    obtain ⟨⟨h1, h18, har, hp⟩, hw⟩ := hw
    have ih := grow_evL h args hw
    have hlen := evL_len m args
    have hlen' := evL_len n args
    unfold evE
    by_cases c1 : op = 1
    · rw [if_pos c1, if_pos c1]
      exact .inr (.inl rfl)
    rw [if_neg c1, if_neg c1]
    by_cases c2 : op = 2
    · rw [if_pos c2, if_pos c2]
      rcases h name with ⟨e1, e2⟩ | ⟨v, w, e1, e2, hg⟩
      · rw [e1, e2]; exact .inr (.inl rfl)
      · rw [e1, e2]; exact hg
    rw [if_neg c2, if_neg c2]
    by_cases c3 : op = 17
    · rw [if_pos c3, if_pos c3]
      obtain ⟨a, b, c, he⟩ := len3 (by rw [hlen]; exact arity_3 har c3)
      obtain ⟨x, y, z, he'⟩ := len3 (by rw [hlen']; exact arity_3 har c3)
      rw [he, he'] at ih ⊢
      exact grow_if ih.1 ih.2.1 ih.2.2.1
    rw [if_neg c3, if_neg c3]
    by_cases c4 : op = 15 ∨ op = 16
    · rw [if_pos c4, if_pos c4]
      obtain ⟨a, b, he⟩ := len2 (by rw [hlen]; exact arity_2 har (by omega))
      obtain ⟨x, y, he'⟩ := len2 (by rw [hlen']; exact arity_2 har (by omega))
      rw [he, he'] at ih ⊢
      exact grow_and ih.1 ih.2.1
    rw [if_neg c4, if_neg c4]
    rcases op_other h1 h18 har c1 c2 c3 c4 with ⟨h, _⟩ | ⟨h, _⟩
    · obtain ⟨a, he⟩ := len1 (by rw [hlen]; exact h)
      obtain ⟨x, he'⟩ := len1 (by rw [hlen']; exact h)
      rw [he, he'] at ih ⊢
      exact grow_one ih.1
    · obtain ⟨a, b, he⟩ := len2 (by rw [hlen]; exact h)
      obtain ⟨x, y, he'⟩ := len2 (by rw [hlen']; exact h)
      rw [he, he'] at ih ⊢
      exact grow_two ih.1 ih.2.1
theorem grow_evL {m n : VMap} (h : MGrow m n) : ∀ (l : List Exp), Exp.wfL l → PW (evL m l) (evL n l)
  | [], _ => by simp only [evL, PW]
  | x :: r, hw => by
    simp only [evL, PW]
    exact ⟨grow_ev h x hw.1, grow_evL h r hw.2⟩
end
def PF : List Fact → List Fact → Prop
  | [], [] => True
  | f :: l, g :: r => f.name = g.name ∧ Grow f.has g.has ∧ PF l r
  | _, _ => False
theorem look_end (s : List UInt8) (v : Val) (t : List UInt8) : ∀ m : VMap, lookV (m ++ [(s, v)]) t = match lookV m t with
    | some w => some w
    | none => lookV [(s, v)] t
  | [] => rfl
  | (k, u) :: r => by
    simp only [List.cons_append, lookV]
    split
    · rfl
    · have := look_end s v t r
      simp only [lookV] at this
      exact this
theorem grow_end {m n : VMap} (h : MGrow m n) (s : List UInt8) {v w : Val} (hg : Grow v w) : MGrow (m ++ [(s, v)]) (n ++ [(s, w)]) := by
  intro t
  rw [look_end, look_end]
  rcases h t with ⟨e1, e2⟩ | ⟨a, b, e1, e2, hab⟩
  · rw [e1, e2]
    simp only [lookV]
    split
    · exact .inr ⟨v, w, rfl, rfl, hg⟩
    · exact .inl ⟨rfl, rfl⟩
  · rw [e1, e2]
    exact .inr ⟨a, b, rfl, rfl, hab⟩
theorem grow_fmap : ∀ (l r : List Fact) (m n : VMap), PF l r → MGrow m n → MGrow (fmap m l) (fmap n r)
  | [], [], m, n, _, h => h
  | f :: l, g :: r, m, n, hp, h => by
    unfold fmap
    refine grow_fmap l r _ _ hp.2.2 ?_
    rw [hp.1]
    rcases h g.name with ⟨e1, e2⟩ | ⟨a, b, e1, e2, hab⟩
    · rw [e1, e2]
      exact grow_end h _ hp.2.1
    · rw [e1, e2]
      exact h
  | [], _ :: _, _, _, hp, _ => hp.elim
  | _ :: _, [], _, _, hp, _ => hp.elim
theorem mgrow_nil : MGrow [] [] := fun _ => .inl ⟨rfl, rfl⟩
/-- What is known while some fields are pending stays. -/
theorem grows {l r : List Fact} (h : PF l r) (x : Exp) (hw : x.wf) : Grow (evE (fmap [] l) x) (evE (fmap [] r) x) := grow_ev (grow_fmap l r [] [] h mgrow_nil) x hw
end Go.Proofs.Ytjjjkoknodcaaaa.Am
/- What is known while some fields are pending stays: the walk. -/
set_option linter.unusedVariables false
set_option linter.unusedSimpArgs false
namespace Go.Proofs.Ytjjjkoknodcaaaa.Am
open Go Go.RowKit
theorem ty_EvN_38 : type_of% (ai (ai (ai (ai (ai @rs38 @lv38_0) (ai @lv38_1 (ai @lv38_2 @lv38_3))) (ai (ai @mu56_7 (ai @und3 @sz3)) (ai @ag3 (ai @lv3 @inf3)))) (ai (ai (ai @und4 @sz4) (ai @ag4 (ai @lv4 @inf4))) (ai (ai @und9 (ai @sz9 @ag9)) (ai @lv9 (ai @inf9 @und24))))) (ai (ai (ai (ai @sz24 @ag24) (ai @fo24 (ai @bA24 @pT24_0))) (ai (ai @pT24_1 (ai @pT24_2 @lv24)) (ai @inf24 (ai @und56 @sz56)))) (ai (ai (ai @ag56 (ai @pT56 @inf56)) (ai @und65 (ai @sz65 @ag65))) (ai (ai @fo65 (ai @bA65 @pT65_0)) (ai @pT65_1 (ai @pT65_2 @inf65)))))) := (ai (ai (ai (ai (ai @rs38 @lv38_0) (ai @lv38_1 (ai @lv38_2 @lv38_3))) (ai (ai @mu56_7 (ai @und3 @sz3)) (ai @ag3 (ai @lv3 @inf3)))) (ai (ai (ai @und4 @sz4) (ai @ag4 (ai @lv4 @inf4))) (ai (ai @und9 (ai @sz9 @ag9)) (ai @lv9 (ai @inf9 @und24))))) (ai (ai (ai (ai @sz24 @ag24) (ai @fo24 (ai @bA24 @pT24_0))) (ai (ai @pT24_1 (ai @pT24_2 @lv24)) (ai @inf24 (ai @und56 @sz56)))) (ai (ai (ai @ag56 (ai @pT56 @inf56)) (ai @und65 (ai @sz65 @ag65))) (ai (ai @fo65 (ai @bA65 @pT65_0)) (ai @pT65_1 (ai @pT65_2 @inf65))))))
theorem ty_EvN_12 : type_of% (ai (ai (ai (ai (ai (ai @rs12 (ai @lv12_0 @lv12_1)) (ai @lv12_2 (ai @lv12_3 @lv12_4))) (ai (ai @lv12_5 (ai @lv12_6 @lv12_7)) (ai (ai @lv12_8 @und1) (ai @sz1 @ag1)))) (ai (ai (ai @inf1 (ai @und2 @sz2)) (ai (ai @ag2 @lv2) (ai @inf2 @und3))) (ai (ai @sz3 (ai @ag3 @lv3)) (ai (ai @inf3 @und4) (ai @sz4 @ag4))))) (ai (ai (ai (ai @lv4 (ai @inf4 @und9)) (ai @sz9 (ai @ag9 @lv9))) (ai (ai @inf9 (ai @und22 @sz22)) (ai (ai @ag22 @pT22) (ai @inf22 @und24)))) (ai (ai (ai @sz24 (ai @ag24 @fo24)) (ai (ai @bA24 @pT24_0) (ai @pT24_1 @pT24_2))) (ai (ai @lv24 (ai @inf24 @und25)) (ai (ai @sz25 @ag25) (ai @pT25 @inf25)))))) (ai (ai (ai (ai (ai @und27 (ai @sz27 @ag27)) (ai @fo27 (ai @bA27 @pT27_0))) (ai (ai @pT27_1 (ai @pT27_2 @pT27_3)) (ai (ai @inf27 @und30) (ai @sz30 @ag30)))) (ai (ai (ai @pT30 (ai @inf30 @und34)) (ai (ai @sz34 @ag34) (ai @lv34 @inf34))) (ai (ai @und49 (ai @sz49 @ag49)) (ai (ai @fo49 @bA49) (ai @pT49_0 @pT49_1))))) (ai (ai (ai (ai @pT49_2 (ai @pT49_3 @inf49)) (ai @und56 (ai @sz56 @ag56))) (ai (ai @pT56 (ai @inf56 @und65)) (ai (ai @sz65 @ag65) (ai @fo65 @bA65)))) (ai (ai (ai @pT65_0 (ai @pT65_1 @pT65_2)) (ai (ai @inf65 @und99) (ai @sz99 @ag99))) (ai (ai @fo99 (ai @bA99 @pT99_0)) (ai (ai @pT99_1 @pT99_2) (ai @pT99_3 @inf99))))))) := (ai (ai (ai (ai (ai (ai @rs12 (ai @lv12_0 @lv12_1)) (ai @lv12_2 (ai @lv12_3 @lv12_4))) (ai (ai @lv12_5 (ai @lv12_6 @lv12_7)) (ai (ai @lv12_8 @und1) (ai @sz1 @ag1)))) (ai (ai (ai @inf1 (ai @und2 @sz2)) (ai (ai @ag2 @lv2) (ai @inf2 @und3))) (ai (ai @sz3 (ai @ag3 @lv3)) (ai (ai @inf3 @und4) (ai @sz4 @ag4))))) (ai (ai (ai (ai @lv4 (ai @inf4 @und9)) (ai @sz9 (ai @ag9 @lv9))) (ai (ai @inf9 (ai @und22 @sz22)) (ai (ai @ag22 @pT22) (ai @inf22 @und24)))) (ai (ai (ai @sz24 (ai @ag24 @fo24)) (ai (ai @bA24 @pT24_0) (ai @pT24_1 @pT24_2))) (ai (ai @lv24 (ai @inf24 @und25)) (ai (ai @sz25 @ag25) (ai @pT25 @inf25)))))) (ai (ai (ai (ai (ai @und27 (ai @sz27 @ag27)) (ai @fo27 (ai @bA27 @pT27_0))) (ai (ai @pT27_1 (ai @pT27_2 @pT27_3)) (ai (ai @inf27 @und30) (ai @sz30 @ag30)))) (ai (ai (ai @pT30 (ai @inf30 @und34)) (ai (ai @sz34 @ag34) (ai @lv34 @inf34))) (ai (ai @und49 (ai @sz49 @ag49)) (ai (ai @fo49 @bA49) (ai @pT49_0 @pT49_1))))) (ai (ai (ai (ai @pT49_2 (ai @pT49_3 @inf49)) (ai @und56 (ai @sz56 @ag56))) (ai (ai @pT56 (ai @inf56 @und65)) (ai (ai @sz65 @ag65) (ai @fo65 @bA65)))) (ai (ai (ai @pT65_0 (ai @pT65_1 @pT65_2)) (ai (ai @inf65 @und99) (ai @sz99 @ag99))) (ai (ai @fo99 (ai @bA99 @pT99_0)) (ai (ai @pT99_1 @pT99_2) (ai @pT99_3 @inf99)))))))
set_option maxRecDepth 100000
set_option maxHeartbeats 40000000



/-- A list, cloned: its cells in a new block. -/
theorem run_cloneF {d : Nat} {g : List Nat} (x : DV) (xs : List DV) (hx : ∀ y ∈ x :: xs, y.cells.length = 7) (hl : (xs.length + 1) * 80 ≤ 140737488355328) :
    ∃ H', callR tab d 38 [.d (.sl 7 (x :: xs))] [] g = some (.arr ⟨d, 7, 0 :: g⟩ 0 (xs.length + 1) 7, H') ∧ H' = [(⟨d, 7, 0 :: g⟩, .box (flatD (x :: xs)))] := by
  refine ret_good rfl 1 fn38 rfl rfl ?_ (by simp [isAlt])
  simp only [amr, amc, amp, if_true, if_false, ne_eq, gt_iff_lt, Option.getD, argsT, Option.bind, Option.map, List.headD, List.tail, opnsL, List.replicate, lendsL, seval, ty_EvN_38, nl_c, hl, Nat.succ_ne_zero]
theorem run_clone0F {d : Nat} {g : List Nat} : ∃ H', callR tab d 38 [.d (.nils 7)] [] g = some (.own 7 [] none, H') ∧ True := by
  refine ret_good rfl 1 fn38 rfl rfl ?_ (by simp [isAlt])
  simp only [amr, amc, amp, if_true, if_false, ne_eq, gt_iff_lt, Option.getD, argsT, Option.bind, Option.map, List.headD, List.tail, opnsL, List.replicate, lendsL, seval, ty_EvN_38]
theorem run_clone1F {d : Nat} {g : List Nat} : ∃ H', callR tab d 38 [.d (.emps 7)] [] g = some (.own 7 [] none, H') ∧ True := by
  refine ret_good rfl 1 fn38 rfl rfl ?_ (by simp [isAlt])
  simp only [amr, amc, amp, if_true, if_false, ne_eq, gt_iff_lt, Option.getD, argsT, Option.bind, Option.map, List.headD, List.tail, opnsL, List.replicate, lendsL, seval, ty_EvN_38, Nat.zero_mul, Nat.zero_le]
theorem run_cloneEF {d : Nat} {g : List Nat} : callR tab d 38 [.d (.sl 7 [])] [] g = some (.own 7 [] none, []) := by
  obtain ⟨H1, h1, _⟩ := run_clone0F (d := d) (g := g)
  obtain ⟨H2, h2, _⟩ := run_clone1F (d := d) (g := g)
  exact callR_alt (tab_alt (by kernel_rfl)) h1 h2
theorem ret_cloneF (xs : List DV) (hx : ∀ y ∈ xs, Elt 7 y) (hl : xs.length * 80 ≤ 140737488355328) : RetD tab 38 [.d (.sl 7 xs)] (.sl 7 xs) := by
  cases xs with
  | nil => exact ⟨_, _, run_cloneEF, rfl, rfl⟩
  | cons x r =>
    obtain ⟨H', h1, h2⟩ := run_cloneF (d := 0) (g := []) x r (fun y hy => (hx y hy).1) hl
    refine ⟨_, _, h1, rfl, ?_⟩
    show toD (frzB H' (.arr ⟨0, 7, [0]⟩ 0 (r.length + 1) 7)) = some (DV.sl 7 (x :: r))
    have hz : frzB H' (.arr ⟨0, 7, [0]⟩ 0 (r.length + 1) 7) = _ := frz_list0 (xs := x :: r) (by rw [h2]; simp only [Heap.get, if_true]) rfl (by decide) hx
    rw [hz]
    rfl
/-- Cloned, to be written to. -/
theorem ca_cloneF {d dst : Nat} {S : St} {j : Nat} (xs : List DV) (h0 : xs ≠ []) (hx : ∀ y ∈ xs, Elt 7 y) (hl : xs.length * 80 ≤ 140737488355328) (ht : tab.thaw 38 dst = some j) :
    callA tab (callR tab) d dst 38 [.d (.sl 7 xs)] S = some (.arr ⟨d, dst, 0 :: S.g⟩ 0 xs.length 7, ⟨S.T, (⟨d, dst, 0 :: S.g⟩, .box (flatD xs)) :: S.H, 1 :: S.g⟩) := by
  cases xs with
  | nil => exact absurd rfl h0
  | cons x r =>
    obtain ⟨H', h1, h2⟩ := run_cloneF (d := 0) (g := []) x r (fun y hy => (hx y hy).1) hl
    exact call_thaw (ds := [.sl 7 (x :: r)]) h1 rfl rfl (tab_opn (by kernel_rfl)) ht (by rw [h2]; simp only [Heap.get, if_true]; rfl) (allD_map _)
theorem ca_clone0F {d dst : Nat} {S : St} {j : Nat} (ht : tab.thaw 38 dst = some j) :
    callA tab (callR tab) d dst 38 [.d (.sl 7 [])] S = some (.own 7 [] none, S) :=
  call_thaw0 (ds := [.sl 7 []]) run_cloneEF rfl rfl (tab_opn (by kernel_rfl)) ht
/-- Cloned for good. -/
theorem ca_cloneDF {d dst : Nat} {S : St} (xs : List DV) (hx : ∀ y ∈ xs, Elt 7 y) (hl : xs.length * 80 ≤ 140737488355328) (ht : tab.thaw 38 dst = none) :
    callA tab (callR tab) d dst 38 [.d (.sl 7 xs)] S = some (.d (.sl 7 xs), S) :=
  ca_frz (ds := [.sl 7 xs]) (ret_cloneF xs hx hl) rfl (tab_opn (by kernel_rfl)) (by kernel_rfl) ht
/-- Cloned while it stands in a variable. -/
theorem ca_cloneLF {d dst : Nat} {S : St} {j n : Nat} {id : Id} {rest : List AV} (xs : List DV) (hg : S.H.get id = some (.box (flatD xs ++ rest))) (hn : n = xs.length) (h0 : xs ≠ []) (hx : ∀ y ∈ xs, Elt 7 y) (hf : (xs.flatMap DV.cells).all DV.flat = true) (hl : xs.length * 80 ≤ 140737488355328) (ht : tab.thaw 38 dst = some j) :
    callA tab (callR tab) d dst 38 [.arr id 0 n 7] S = some (.arr ⟨d, dst, 0 :: S.g⟩ 0 xs.length 7, ⟨S.T, (⟨d, dst, 0 :: S.g⟩, .box (flatD xs)) :: S.H, 1 :: S.g⟩) := by
  have hz := frz_list (sz := 7) hg hn (by decide) hx
  cases xs with
  | nil => exact absurd rfl h0
  | cons x r =>
    obtain ⟨H', h1, h2⟩ := run_cloneF (d := 0) (g := []) x r (fun y hy => (hx y hy).1) hl
    exact call_lent_thaw (ds := [.sl 7 (x :: r)]) (tab_lend (by kernel_rfl)) rfl (by rw [List.map_cons, hz]; rfl) h1 ht (by rw [h2]; simp only [Heap.get, if_true]; rfl) (allD_map _) hf
theorem ca_cloneL0F {d dst : Nat} {S : St} {j : Nat} {id : Id} {cs : List AV} (hg : S.H.get id = some (.box cs)) (ht : tab.thaw 38 dst = some j) :
    callA tab (callR tab) d dst 38 [.arr id 0 0 7] S = some (.own 7 [] none, S) := by
  have hz := frz_list (sz := 7) (n := 0) (xs := []) (rest := cs) (by simpa [flatD] using hg) rfl (by decide) (by simp)
  exact call_lent_thaw0 (ds := [.sl 7 []]) (tab_lend (by kernel_rfl)) rfl (by rw [List.map_cons, hz]; rfl) run_cloneEF ht
theorem elt_f (l : List Fact) : ∀ x ∈ l.map Fact.dv, Elt 7 x := by
  intro x hx
  obtain ⟨t, _, rfl⟩ := List.mem_map.1 hx
  exact ⟨rfl, by rw [if_neg (by decide)]; exact ⟨_, rfl⟩⟩
/-- Some cells of an element are written over. -/
theorem flat_setF {α : Type} {f : α → DV} {sz off : Nat} {vs : List AV} (hs : ∀ x, (f x).cells.length = sz) : ∀ (l : List α) (k : Nat) (x y : α), l[k]? = some x → off + vs.length ≤ sz → ((f x).cells.map AV.d).take off ++ vs ++ ((f x).cells.map AV.d).drop (off + vs.length) = (f y).cells.map AV.d →
    (flatD (l.map f)).take (k * sz + off) ++ vs ++ (flatD (l.map f)).drop (k * sz + off + vs.length) = flatD ((l.set k y).map f)
  | [], k, x, y, h, _, _ => by simp at h
  | z :: r, 0, x, y, h, hl, he => by
    obtain rfl : z = x := by simpa using h
    have h1 : (flatD ((z :: r).map f)) = (f z).cells.map .d ++ flatD (r.map f) := by simp [flatD]
    have h3 : flatD (((z :: r).set 0 y).map f) = (f y).cells.map .d ++ flatD (r.map f) := by simp [flatD]
    have h2 : ((f z).cells.map AV.d).length = sz := by rw [List.length_map]; exact hs z
    rw [h1, h3, Nat.zero_mul, Nat.zero_add, List.take_append_of_le_length (by omega), List.drop_append_of_le_length (by omega), ← List.append_assoc, he]
  | z :: r, k + 1, x, y, h, hl, he => by
    have h1 : (flatD ((z :: r).map f)) = (f z).cells.map .d ++ flatD (r.map f) := by simp [flatD]
    have h3 : flatD (((z :: r).set (k + 1) y).map f) = (f z).cells.map .d ++ flatD ((r.set k y).map f) := by simp [flatD]
    have h2 : ((f z).cells.map AV.d).length = sz := by rw [List.length_map]; exact hs z
    have ih := flat_setF hs r k x y (by simpa using h) hl he
    rw [h1, h3, ← ih, show (k + 1) * sz + off = ((f z).cells.map AV.d).length + (k * sz + off) by rw [h2, Nat.add_mul]; omega, Nat.add_assoc ((f z).cells.map AV.d).length, List.take_append, List.take_of_length_le (by omega), Nat.add_sub_cancel_left, List.drop_append, List.drop_eq_nil_of_le (by omega), List.nil_append, Nat.add_sub_cancel_left, List.append_assoc, List.append_assoc, List.append_assoc]
theorem pf_refl : ∀ l : List Fact, PF l l
  | [] => trivial
  | f :: r => ⟨rfl, .inr (.inl rfl), pf_refl r⟩
theorem pf_set : ∀ (l : List Fact) (k : Nat) (x : Fact), l[k]? = some x → PF l (l.set k { x with has := ⟨4, 0, []⟩ })
  | [], k, x, h => by simp at h
  | z :: r, 0, x, h => by
    obtain rfl : z = x := by simpa using h
    exact ⟨rfl, .inl rfl, pf_refl r⟩
  | z :: r, k + 1, x, h => ⟨rfl, .inr (.inl rfl), pf_set r k x (by simpa using h)⟩
def refP : Exp := .mk 2 Val.zero [110] []
theorem wf_refP : refP.wf := ⟨⟨by decide, by decide, rfl, by rw [if_neg (by decide), if_pos rfl]; exact ⟨by kernel_rfl, rfl⟩⟩, trivial⟩
def pendL : List Fact := [⟨[110], Val.zero, ⟨4, 0, []⟩⟩]
theorem ret_EvalGrows (l m : List Raw) (kind which : Int) (hl : l.length ≤ 9223372036854775807) (hr : ∀ r ∈ l, r.ok) (hm : m.length ≤ 9223372036854775807) (hs : ∀ r ∈ m, r.ok) (hki : -9223372036854775808 ≤ kind ∧ kind ≤ 9223372036854775807) (hwi : -9223372036854775808 ≤ which ∧ which ≤ 9223372036854775807) : Ret tab 12 [.d (.sl 4 (l.map Raw.dv)), .d (.sl 4 (m.map Raw.dv)), .d (.int .i64 kind), .d (.int .i64 which)] (.d (.bool true)) := by
  obtain ⟨hty, w1⟩ := ty_pick hki
  have p1 : ∀ (S : St) (d dst : Nat), callA tab (callR tab) d dst 16 [.d (.int .i64 kind), .d (.int .i64 3)] S = some (.d (.int .i64 (pick kind 3)), S) := fun S d dst => ca_picked kind 3 (by decide)
  have p2 : ∀ (S : St) (d dst : Nat), callA tab (callR tab) d dst 16 [.d (.int .i64 which), .d (.int .i64 5)] S = some (.d (.int .i64 (pick which 5)), S) := fun S d dst => ca_picked which 5 (by decide)
  have hq := pick_range which 5 hwi.1 hwi.2 (by decide)
  obtain ⟨k, hk⟩ : ∃ k : Nat, pick which 5 = (k : Int) := ⟨(pick which 5).toNat, by omega⟩
  rw [hk] at p2 hq
  have fE := fun (S : St) (d dst : Nat) => ca_Expr (d := d) (dst := dst) (S := S) l (1 + pick kind 3) someF (by decide) hl hr
  have f3 := fun (S : St) (d dst : Nat) => ca_factsL m hm hs (d := d) (dst := dst) (S := S)
  have wX := mkE_wf hr hty someF_ok
  have nX := mkE_nodes l (1 + pick kind 3) someF
  have dX := mkE_deep l (1 + pick kind 3) someF
  generalize mkE l (1 + pick kind 3) someF = X at *
  have hF := facts_ok hs someF 0 someF_ok
  have lF : (factsL m).length = 5 := factsF_len m someF 0
  change ∀ f ∈ factsL m, VOK f.has at hF
  generalize factsL m = F at *
  obtain ⟨x, hx⟩ : ∃ x, F[k]? = some x := ⟨F[k]'(by omega), List.getElem?_eq_getElem _⟩
  have hP := grows (pf_set F k x hx) X wX
  have hG : ∀ f ∈ F.set k { x with has := ⟨4, 0, []⟩ }, VOK f.has := by
    intro f hf
    rcases List.mem_or_eq_of_mem_set hf with h | rfl
    · exact hF f h
    · rfl
  have lG : (F.set k { x with has := ⟨4, 0, []⟩ }).length = 5 := by rw [List.length_set, lF]
  have hz := flat_setF (f := Fact.dv) (sz := 7) (off := 4) (vs := [.d (.int .i64 4), .d (.int .i64 0), .d (.str [])]) (fun _ => rfl) F k x { x with has := ⟨4, 0, []⟩ } hx (by decide) rfl
  generalize F.set k { x with has := ⟨4, 0, []⟩ } = G at *
  have fc : ∀ (S : St) (d : Nat), callA tab (callR tab) d 27 38 [.d (.sl 7 (F.map Fact.dv))] S = some (.arr ⟨d, 27, 0 :: S.g⟩ 0 5 7, ⟨S.T, (⟨d, 27, 0 :: S.g⟩, .box (flatD (F.map Fact.dv))) :: S.H, 1 :: S.g⟩) := fun S d => by
    have h := ca_cloneF (d := d) (dst := 27) (S := S) (j := 0) (F.map Fact.dv) (fun h => by have := congrArg List.length h; rw [List.length_map] at this; simp only [List.length_nil] at this; omega) (elt_f F) (by rw [List.length_map]; omega) (tab_thaw (by kernel_rfl))
    rw [List.length_map, lF] at h
    exact h
  have g1 := fun (S : St) (d dst : Nat) => ca_OfD (x := X) (l := F) (by omega) wX (by omega) hF rfl (d := d) (dst := dst) (S := S)
  have g2 : ∀ (S : St) (d dst : Nat) (id : Id), S.H.get id = some (.box ((flatD (F.map Fact.dv)).take (k * 7 + 4) ++ [.d (.int .i64 4), .d (.int .i64 0), .d (.str [])] ++ (flatD (F.map Fact.dv)).drop (k * 7 + 4 + 3))) →
      callA tab (callR tab) d dst 31 [.d X.dv, .arr id 0 5 7] S = some (.tup [.d (evE (fmap [] G) X).dv, .d (.int .i64 0)], S) := fun S d dst id h => by
    have hb := frz_list0 (sz := 7) (n := 5) (xs := G.map Fact.dv) (by rw [h, ← hz]; rfl) (by rw [List.length_map, lG]) (by decide) (elt_f G)
    exact ca_lentT (ds := [X.dv, .sl 7 (G.map Fact.dv)]) (ys := [(evE (fmap [] G) X).dv, .int .i64 0]) (ret_Of X G (by unfold chkE; rw [if_neg (by omega), if_neg (by omega)]) (by omega) wX (by omega) hG) rfl (by rw [List.map_cons, List.map_cons, hb]; rfl) (tab_lend (by kernel_rfl)) (tab_res (by kernel_rfl)) rfl
  have g3 : ∀ (S : St) (d dst : Nat), callA tab (callR tab) d dst 31 [.agg [.d (.int .i64 2), .d (.int .i64 0), .d (.int .i64 0), .d (.str []), .d (.str [110]), .own 6 [] none], .own 7 (pendL.map Fact.dv) none] S = some (.tup [.d (.agg [.int .i64 4, .int .i64 0, .str []]), .d (.int .i64 0)], S) := fun S d dst => by
    have h := ret_Of (refP) pendL (by kernel_rfl) (by decide) wf_refP (by decide) (by intro f hf; simp only [pendL, List.mem_cons, List.not_mem_nil, or_false] at hf; subst hf; rfl)
    exact ca_ret_tup (ds := [(refP).dv, .sl 7 (pendL.map Fact.dv)]) (ys := [.agg [.int .i64 4, .int .i64 0, .str []], .int .i64 0]) h rfl (tab_opn (by kernel_rfl)) (tab_res (by kernel_rfl)) rfl
  have hlC : (flatD (F.map Fact.dv)).length = 35 := by rw [flatD_len _ (elt_f F), List.length_map, lF]
  have k1 : (k * 7 + 7 ≤ 35) = True := eq_true (by omega)
  have k2 : ((k : Int) < 5) = True := eq_true (by omega)
  clear hz
  generalize evE (fmap [] F) X = v at *
  generalize evE (fmap [] G) X = w at *
  generalize flatD (F.map Fact.dv) = C at *
  simp only [Exp.dv_eq X] at fE g1 g2
  simp only [Val.dv] at g2
  simp only [pendL, List.map_cons, List.map_nil, Fact.dv, Val.dv, Val.zero] at g3
  rcases hP with h4 | rfl | ⟨h5, h6⟩
  · have b4 : (w.kind == 4) = true := beq_iff_eq.2 h4
    refine ret_of 1 fn12 rfl rfl ?_
    simp only [amr, amc, amp, if_true, if_false, ne_eq, gt_iff_lt, Option.getD, argsT, Option.bind, Option.map, List.headD, List.tail, opnsL, List.replicate, lendsL, seval, ty_EvN_12, p1, p2, w1, fE, f3, fc, ca_Some, g1, g2, g3, hlC, k1, k2, b4, beq_self_eq_true, Nat.add_assoc]
  · cases b4 : (v.kind == 4) with
    | true =>
      refine ret_of 1 fn12 rfl rfl ?_
      simp only [amr, amc, amp, if_true, if_false, ne_eq, gt_iff_lt, Option.getD, argsT, Option.bind, Option.map, List.headD, List.tail, opnsL, List.replicate, lendsL, seval, ty_EvN_12, p1, p2, w1, fE, f3, fc, ca_Some, g1, g2, g3, hlC, k1, k2, b4, beq_self_eq_true, Nat.add_assoc]
    | false =>
      refine ret_of 1 fn12 rfl rfl ?_
      simp only [amr, amc, amp, if_true, if_false, ne_eq, gt_iff_lt, Option.getD, argsT, Option.bind, Option.map, List.headD, List.tail, opnsL, List.replicate, lendsL, seval, ty_EvN_12, p1, p2, w1, fE, f3, fc, ca_Some, g1, g2, g3, hlC, k1, k2, b4, beq_self_eq_true, Nat.add_assoc]
  · have b4 : (w.kind == 4) = false := beq_eq_false_iff_ne.2 (by omega)
    have b5 : (v.kind == 5) = true := beq_iff_eq.2 h5
    have b6 : (w.kind == 5) = true := beq_iff_eq.2 h6
    have b7 : (v.kind == w.kind) = true := beq_iff_eq.2 (by omega)
    cases q1 : (v.n == w.n) with
    | false =>
      refine ret_of 1 fn12 rfl rfl ?_
      simp only [amr, amc, amp, if_true, if_false, ne_eq, gt_iff_lt, Option.getD, argsT, Option.bind, Option.map, List.headD, List.tail, opnsL, List.replicate, lendsL, seval, ty_EvN_12, p1, p2, w1, fE, f3, fc, ca_Some, g1, g2, g3, hlC, k1, k2, b4, b5, b6, b7, q1, beq_self_eq_true, Nat.add_assoc]
    | true =>
      cases q2 : (v.s == w.s) with
      | false =>
        refine ret_of 1 fn12 rfl rfl ?_
        simp only [amr, amc, amp, if_true, if_false, ne_eq, gt_iff_lt, Option.getD, argsT, Option.bind, Option.map, List.headD, List.tail, opnsL, List.replicate, lendsL, seval, ty_EvN_12, p1, p2, w1, fE, f3, fc, ca_Some, g1, g2, g3, hlC, k1, k2, b4, b5, b6, b7, q1, q2, beq_self_eq_true, Nat.add_assoc]
      | true =>
        refine ret_of 1 fn12 rfl rfl ?_
        simp only [amr, amc, amp, if_true, if_false, ne_eq, gt_iff_lt, Option.getD, argsT, Option.bind, Option.map, List.headD, List.tail, opnsL, List.replicate, lendsL, seval, ty_EvN_12, p1, p2, w1, fE, f3, fc, ca_Some, g1, g2, g3, hlC, k1, k2, b4, b5, b6, b7, q1, q2, beq_self_eq_true, Nat.add_assoc]
end Go.Proofs.Ytjjjkoknodcaaaa.Am
