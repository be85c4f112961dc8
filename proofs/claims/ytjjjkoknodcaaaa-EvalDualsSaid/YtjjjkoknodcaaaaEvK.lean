/- Not both is one that is not; to be less is not to be at most the other way round. -/
import Derived.Test.YtjjjkoknodcaaaaEvLz
set_option linter.unusedVariables false
set_option linter.unusedSimpArgs false
namespace Go.Proofs.Ytjjjkoknodcaaaa.Am
open Go Go.RowKit
theorem ty_EvK_10 : type_of% (And.intro (And.intro (And.intro (And.intro (And.intro (And.intro @rs10 @lv10_0) (And.intro @lv10_1 (And.intro @lv10_2 @lv10_3))) (And.intro (And.intro @dr10_4 (And.intro @lv10_4 @lv10_5)) (And.intro @lv10_6 (And.intro @lv10_7 @lv10_8)))) (And.intro (And.intro (And.intro @lv10_9 (And.intro @und1 @sz1)) (And.intro @ag1 (And.intro @inf1 @und2))) (And.intro (And.intro @sz2 (And.intro @ag2 @lv2)) (And.intro @inf2 (And.intro @und3 @sz3))))) (And.intro (And.intro (And.intro (And.intro @ag3 (And.intro @lv3 @inf3)) (And.intro @und4 (And.intro @sz4 @ag4))) (And.intro (And.intro @lv4 (And.intro @inf4 @und9)) (And.intro @sz9 (And.intro @ag9 @lv9)))) (And.intro (And.intro (And.intro @inf9 (And.intro @und22 @sz22)) (And.intro @ag22 (And.intro @pT22 @inf22))) (And.intro (And.intro @und24 (And.intro @sz24 @ag24)) (And.intro @fo24 (And.intro @bA24 @pT24_0)))))) (And.intro (And.intro (And.intro (And.intro (And.intro @pT24_1 (And.intro @pT24_2 @lv24)) (And.intro @inf24 (And.intro @und25 @sz25))) (And.intro (And.intro @ag25 (And.intro @pT25 @inf25)) (And.intro @und27 (And.intro @sz27 @ag27)))) (And.intro (And.intro (And.intro @fo27 (And.intro @bA27 @pT27_0)) (And.intro @pT27_1 (And.intro @pT27_2 @pT27_3))) (And.intro (And.intro @inf27 (And.intro @und34 @sz34)) (And.intro @ag34 (And.intro @lv34 @inf34))))) (And.intro (And.intro (And.intro (And.intro @und56 (And.intro @sz56 @ag56)) (And.intro @pT56 (And.intro @inf56 @und65))) (And.intro (And.intro @sz65 (And.intro @ag65 @fo65)) (And.intro @bA65 (And.intro @pT65_0 @pT65_1)))) (And.intro (And.intro (And.intro @pT65_2 (And.intro @inf65 @und99)) (And.intro @sz99 (And.intro @ag99 @fo99))) (And.intro (And.intro @bA99 (And.intro @pT99_0 @pT99_1)) (And.intro @pT99_2 (And.intro @pT99_3 @inf99))))))) := (And.intro (And.intro (And.intro (And.intro (And.intro (And.intro @rs10 @lv10_0) (And.intro @lv10_1 (And.intro @lv10_2 @lv10_3))) (And.intro (And.intro @dr10_4 (And.intro @lv10_4 @lv10_5)) (And.intro @lv10_6 (And.intro @lv10_7 @lv10_8)))) (And.intro (And.intro (And.intro @lv10_9 (And.intro @und1 @sz1)) (And.intro @ag1 (And.intro @inf1 @und2))) (And.intro (And.intro @sz2 (And.intro @ag2 @lv2)) (And.intro @inf2 (And.intro @und3 @sz3))))) (And.intro (And.intro (And.intro (And.intro @ag3 (And.intro @lv3 @inf3)) (And.intro @und4 (And.intro @sz4 @ag4))) (And.intro (And.intro @lv4 (And.intro @inf4 @und9)) (And.intro @sz9 (And.intro @ag9 @lv9)))) (And.intro (And.intro (And.intro @inf9 (And.intro @und22 @sz22)) (And.intro @ag22 (And.intro @pT22 @inf22))) (And.intro (And.intro @und24 (And.intro @sz24 @ag24)) (And.intro @fo24 (And.intro @bA24 @pT24_0)))))) (And.intro (And.intro (And.intro (And.intro (And.intro @pT24_1 (And.intro @pT24_2 @lv24)) (And.intro @inf24 (And.intro @und25 @sz25))) (And.intro (And.intro @ag25 (And.intro @pT25 @inf25)) (And.intro @und27 (And.intro @sz27 @ag27)))) (And.intro (And.intro (And.intro @fo27 (And.intro @bA27 @pT27_0)) (And.intro @pT27_1 (And.intro @pT27_2 @pT27_3))) (And.intro (And.intro @inf27 (And.intro @und34 @sz34)) (And.intro @ag34 (And.intro @lv34 @inf34))))) (And.intro (And.intro (And.intro (And.intro @und56 (And.intro @sz56 @ag56)) (And.intro @pT56 (And.intro @inf56 @und65))) (And.intro (And.intro @sz65 (And.intro @ag65 @fo65)) (And.intro @bA65 (And.intro @pT65_0 @pT65_1)))) (And.intro (And.intro (And.intro @pT65_2 (And.intro @inf65 @und99)) (And.intro @sz99 (And.intro @ag99 @fo99))) (And.intro (And.intro @bA99 (And.intro @pT99_0 @pT99_1)) (And.intro @pT99_2 (And.intro @pT99_3 @inf99)))))))
set_option maxRecDepth 100000
set_option maxHeartbeats 40000000



theorem op_one (op : Int) (a : Val) : opV op [a] = if a.kind = 5 then a else if a.kind = 4 then a else apply1 op a := by
  by_cases h5 : a.kind = 5
  · simp [opV, allSV, h5]
  · by_cases h4 : a.kind = 4
    · simp [opV, allSV, h5, h4]
    · simp [opV, allSV, h5, h4, Val.zero, applyV]
theorem op_two (op : Int) (a b : Val) : opV op [a, b] = if a.kind = 5 then a else if b.kind = 5 then b else if b.kind = 4 then b else if a.kind = 4 then a else apply2 op a b := by
  by_cases h5 : a.kind = 5
  · simp [opV, allSV, h5]
  · by_cases g5 : b.kind = 5
    · simp [opV, allSV, h5, g5]
    · by_cases g4 : b.kind = 4
      · simp [opV, allSV, h5, g5, g4]
      · by_cases h4 : a.kind = 4
        · simp [opV, allSV, h5, g5, g4, h4]
        · simp [opV, allSV, h5, g5, g4, h4, Val.zero, applyV]
/-- De Morgan. -/
theorem morgan {a b : Val} (ha : VOK a) (hb : VOK b) : andV 16 (opV 4 [a]) (opV 4 [b]) = opV 4 [andV 15 a b] := by
  have k1 := vok_kind ha
  have k2 := vok_kind hb
  have k3 := fun h => vok_bool ha h
  rw [op_one 4 a, op_one 4 b, op_one]
  obtain ⟨ak, an, az⟩ := a
  obtain ⟨bk, bn, bs⟩ := b
  simp only at k1 k2 k3
  rcases k1 with rfl | rfl | rfl | rfl | rfl
  · simp [andV, firstV, apply1, fault]
  · rcases k3 rfl with rfl | rfl
    · simp [andV, firstV, apply1, truthV]
    · rcases k2 with rfl | rfl | rfl | rfl | rfl <;> simp [andV, firstV, boolV, apply1, truthV, fault]
  · simp [andV, firstV, apply1, fault]
  · simp [andV, firstV, apply1, fault]
  · simp [andV, firstV, apply1, fault]
theorem pend_one {a : Val} (h : VOK a) (hk : a.kind = 4) : a = ⟨4, 0, []⟩ := by
  obtain ⟨k, n, s⟩ := a
  simp only at hk
  subst hk
  unfold VOK valChk at h
  simp only at h
  rw [if_neg (by decide), if_neg (by decide), if_neg (by decide), if_pos trivial] at h
  split at h
  · rename_i hn
    unfold valTail at h
    split at h
    · rename_i hs
      have hs' : s = [] := beq_iff_eq.1 hs
      rw [hn, hs']
    · cases h
  · cases h
theorem cmp_swap (a b : Val) : (cmpV b a).2 = (cmpV a b).2 ∧ ((cmpV a b).2 = 0 → (cmpV b a).1 = - (cmpV a b).1) := by
  unfold cmpV
  cases e1 : valKnown a <;> cases e2 : valKnown b <;> simp
  by_cases h3 : a.kind = b.kind
  · rw [if_pos h3, if_pos h3.symm]
    exact ⟨rfl, fun _ => valCmp_neg a b h3⟩
  · rw [if_neg h3, if_neg (fun h => h3 h.symm)]
    exact ⟨rfl, fun h => by simp at h⟩
/-- To be less is not to be at most the other way round. -/
theorem less_not {a b : Val} (ha : VOK a) (hb : VOK b) : opV 11 [a, b] = opV 4 [opV 12 [b, a]] ∨ ((opV 11 [a, b]).kind = 5 ∧ (opV 4 [opV 12 [b, a]]).kind = 5) := by
  rw [op_one, op_two 11 a b, op_two 12 b a]
  by_cases a5 : a.kind = 5
  · refine .inr ?_
    by_cases b5 : b.kind = 5
    · simp [a5, b5]
    · simp [a5, b5]
  · by_cases b5 : b.kind = 5
    · refine .inr ?_
      simp [a5, b5]
    · by_cases a4 : a.kind = 4
      · have := pend_one ha a4
        subst this
        by_cases b4 : b.kind = 4
        · have := pend_one hb b4
          subst this
          exact .inl (by simp)
        · exact .inl (by simp [b4, b5])
      · by_cases b4 : b.kind = 4
        · have := pend_one hb b4
          subst this
          exact .inl (by simp [a4, a5])
        · simp only [a5, b5, a4, b4, if_false]
          have hs := cmp_swap a b
          have e11 : apply2 11 a b = if (cmpV a b).2 ≠ 0 then fault (cmpV a b).2 else truthV (cmpOp 11 (cmpV a b).1) := by unfold apply2; rw [if_pos (by decide)]
          have e12 : apply2 12 b a = if (cmpV b a).2 ≠ 0 then fault (cmpV b a).2 else truthV (cmpOp 12 (cmpV b a).1) := by unfold apply2; rw [if_pos (by decide)]
          rw [e11, e12]
          rcases cmpV_or a b with h | h
          · have h1 := hs.2 h
            refine .inl ?_
            rw [hs.1, h, h1]
            simp only [ne_eq, not_true, if_false, cmpOp]
            generalize (cmpV a b).1 = c
            by_cases hc : c < 0
            · have h2 : ¬ (-c ≤ 0) := by omega
              simp [hc, h2, truthV, apply1]
            · have h2 : -c ≤ 0 := by omega
              simp [hc, h2, truthV, apply1]
          · refine .inr ?_
            rw [hs.1, h]
            simp [fault]
theorem wf_n {x : Exp} (hx : x.wf) : (Exp.mk 4 Val.zero [] [x]).wf := ⟨⟨by decide, by decide, rfl, by rw [if_neg (by decide), if_neg (by decide)]; exact ⟨rfl, rfl⟩⟩, hx, trivial⟩
theorem wf_c {op : Int} (ho : op = 11 ∨ op = 12) {x y : Exp} (hx : x.wf) (hy : y.wf) : (Exp.mk op Val.zero [] [x, y]).wf := by
  rcases ho with rfl | rfl <;> exact ⟨⟨by decide, by decide, rfl, by rw [if_neg (by decide), if_neg (by decide)]; exact ⟨rfl, rfl⟩⟩, hx, hy, trivial⟩
theorem ev_n (m : VMap) (x : Exp) : evE m (.mk 4 Val.zero [] [x]) = opV 4 [evE m x] := by
  rw [evE, if_neg (by decide), if_neg (by decide), if_neg (by decide), if_neg (by decide)]; simp only [evL]
theorem ev_c (m : VMap) {op : Int} (ho : op = 11 ∨ op = 12) (x y : Exp) : evE m (.mk op Val.zero [] [x, y]) = opV op [evE m x, evE m y] := by
  rw [evE, if_neg (by omega), if_neg (by omega), if_neg (by omega), if_neg (by omega)]; simp only [evL]
theorem n_1 (op : Int) (x : Exp) : (Exp.mk op Val.zero [] [x]).nodes = x.nodes + 1 ∧ (Exp.mk op Val.zero [] [x]).deep = x.deep + 1 := by
  constructor
  · simp only [Exp.nodes, Exp.nodesL]; all_goals omega
  · simp only [Exp.deep, Exp.deepL]; all_goals omega
theorem ret_EvalDuals (l m k : List Raw) (kind : Int) (hl : l.length ≤ 9223372036854775807) (hr : ∀ r ∈ l, r.ok) (hm : m.length ≤ 9223372036854775807) (hs : ∀ r ∈ m, r.ok) (hk : k.length ≤ 9223372036854775807) (ht : ∀ r ∈ k, r.ok) (hki : -9223372036854775808 ≤ kind ∧ kind ≤ 9223372036854775807) : Ret tab 10 [.d (.sl 4 (l.map Raw.dv)), .d (.sl 4 (m.map Raw.dv)), .d (.sl 4 (k.map Raw.dv)), .d (.int .i64 kind)] (.d (.bool true)) := by
  obtain ⟨hty, w1⟩ := ty_pick hki
  have ty2 : Ty 2 := by unfold Ty; decide
  have p1 : ∀ (S : St) (d dst : Nat), callA tab (callR tab) d dst 16 [.d (.int .i64 kind), .d (.int .i64 3)] S = some (.d (.int .i64 (pick kind 3)), S) := fun S d dst => ca_picked kind 3 (by decide)
  have f0 := fun (S : St) (d dst : Nat) => ca_two l m k 2 hl hm hk hr hs ht (d := d) (dst := dst) (S := S)
  have f1 := fun (S : St) (d dst : Nat) => ca_two m l k (1 + pick kind 3) hm hl hk hs hr ht (d := d) (dst := dst) (S := S)
  have wP := twoE_wf hr ty2
  have wQ := twoE_wf hs ty2
  have wX := twoE_wf hs hty
  have wY := twoE_wf hr hty
  have nP := twoE_n l 2
  have nQ := twoE_n m 2
  have nX := twoE_n m (1 + pick kind 3)
  have nY := twoE_n l (1 + pick kind 3)
  generalize twoE l 2 = P at *
  generalize twoE m 2 = Q at *
  generalize twoE m (1 + pick kind 3) = X at *
  generalize twoE l (1 + pick kind 3) = Y at *
  have hF := facts_ok ht someF 0 someF_ok
  have lF := factsL_len k
  change ∀ f ∈ factsL k, VOK f.has at hF
  generalize factsL k = F at *
  have hM := mok_fmap F [] mok_nil hF
  have vP := vok_ev hM P wP
  have vQ := vok_ev hM Q wQ
  have vX := vok_ev hM X wX
  have vY := vok_ev hM Y wY
  have n1 := n_2 15 P Q
  have n2 := n_1 4 (Exp.mk 15 Val.zero [] [P, Q])
  have n3 := n_1 4 P
  have n4 := n_1 4 Q
  have n5 := n_2 16 (Exp.mk 4 Val.zero [] [P]) (Exp.mk 4 Val.zero [] [Q])
  have n6 := n_2 11 X Y
  have n7 := n_2 12 Y X
  have n8 := n_1 4 (Exp.mk 12 Val.zero [] [Y, X])
  have wA := wf_n (wf_ao (.inl rfl) wP wQ)
  have wB := wf_ao (.inr rfl) (wf_n wP) (wf_n wQ)
  have wC := wf_c (.inl rfl) wX wY
  have wD := wf_n (wf_c (.inr rfl) wY wX)
  have vA := vok_ev hM _ wA
  have vC := vok_ev hM _ wC
  have e1 : evE (fmap [] F) (.mk 4 Val.zero [] [.mk 15 Val.zero [] [P, Q]]) = opV 4 [andV 15 (evE (fmap [] F) P) (evE (fmap [] F) Q)] := by rw [ev_n, ev_ao _ (.inl rfl)]
  have e2 : evE (fmap [] F) (.mk 16 Val.zero [] [.mk 4 Val.zero [] [P], .mk 4 Val.zero [] [Q]]) = opV 4 [andV 15 (evE (fmap [] F) P) (evE (fmap [] F) Q)] := by rw [ev_ao _ (.inr rfl), ev_n, ev_n, morgan vP vQ]
  have e3 : evE (fmap [] F) (.mk 11 Val.zero [] [X, Y]) = opV 11 [evE (fmap [] F) X, evE (fmap [] F) Y] := ev_c _ (.inl rfl) X Y
  have e4 : evE (fmap [] F) (.mk 4 Val.zero [] [.mk 12 Val.zero [] [Y, X]]) = opV 4 [opV 12 [evE (fmap [] F) Y, evE (fmap [] F) X]] := by rw [ev_n, ev_c _ (.inr rfl)]
  have hL := less_not vX vY
  rw [e1] at vA
  rw [e3] at vC
  have g1 := fun (S : St) (d dst : Nat) => ca_OfD (l := F) (by omega) wA lF hF e1 (d := d) (dst := dst) (S := S)
  have g2 := fun (S : St) (d dst : Nat) => ca_OfD (l := F) (by omega) wB lF hF e2 (d := d) (dst := dst) (S := S)
  have g3 := fun (S : St) (d dst : Nat) => ca_OfD (l := F) (by omega) wC lF hF e3 (d := d) (dst := dst) (S := S)
  have g4 := fun (S : St) (d dst : Nat) => ca_OfD (l := F) (by omega) wD lF hF e4 (d := d) (dst := dst) (S := S)
  clear e1 e2 e3 e4 n1 n2 n3 n4 n5 n6 n7 n8
  generalize opV 4 [andV 15 (evE (fmap [] F) P) (evE (fmap [] F) Q)] = A at *
  generalize opV 11 [evE (fmap [] F) X, evE (fmap [] F) Y] = C at *
  generalize opV 4 [opV 12 [evE (fmap [] F) Y, evE (fmap [] F) X]] = D at *
  have bA : (A.kind == 0) = false := beq_eq_false_iff_ne.2 (by rcases vok_kind vA with h | h | h | h | h <;> omega)
  have bC : (C.kind == 0) = false := beq_eq_false_iff_ne.2 (by rcases vok_kind vC with h | h | h | h | h <;> omega)
  simp only [Exp.dv_mk, List.map_cons, List.map_nil, Val.zero, Val.dv, Exp.dv_eq P, Exp.dv_eq Q, Exp.dv_eq X, Exp.dv_eq Y] at f0 f1 g1 g2 g3 g4
  rcases hL with rfl | ⟨h5, h6⟩
  · refine ret_of 1 fn10 rfl rfl ?_
    simp only [amr, amc, amp, if_true, if_false, ne_eq, gt_iff_lt, Option.getD, argsT, Option.bind, Option.map, List.headD, List.tail, reduceIte, reduceDIte, Nat.reduceEqDiff, Nat.reduceAdd, Nat.reduceSub, Nat.reduceMul, Nat.reduceLT, reduceCtorEq, Int.reduceEq, Int.reduceLT, Int.reduceLE, Int.reduceNeg, Int.reduceToNat, Int.reduceBNe, Int.reduceBEq, Int.reduceAdd, Int.reduceSub, Int.reduceMul, opnsL, Nat.reduceLeDiff, Nat.reduceGT, List.replicate, Nat.reduceShiftRight, Nat.reduceMod, Nat.reduceBEq, lendsL, ty_EvK_10, p1, w1, f0, f1, ca_withJ, g1, g2, g3, g4, bA, bC, beq_self_eq_true, bne_self_eq_false]
  · rw [h5] at g3
    rw [h6] at g4
    cases q1 : (C.n == D.n) with
    | false =>
      refine ret_of 1 fn10 rfl rfl ?_
      simp only [amr, amc, amp, if_true, if_false, ne_eq, gt_iff_lt, Option.getD, argsT, Option.bind, Option.map, List.headD, List.tail, reduceIte, reduceDIte, Nat.reduceEqDiff, Nat.reduceAdd, Nat.reduceSub, Nat.reduceMul, Nat.reduceLT, reduceCtorEq, Int.reduceEq, Int.reduceLT, Int.reduceLE, Int.reduceNeg, Int.reduceToNat, Int.reduceBNe, Int.reduceBEq, Int.reduceAdd, Int.reduceSub, Int.reduceMul, opnsL, Nat.reduceLeDiff, Nat.reduceGT, List.replicate, Nat.reduceShiftRight, Nat.reduceMod, Nat.reduceBEq, lendsL, ty_EvK_10, p1, w1, f0, f1, ca_withJ, g1, g2, g3, g4, bA, bC, q1, beq_self_eq_true, bne_self_eq_false]
    | true =>
      cases q2 : (C.s == D.s) with
      | false =>
        refine ret_of 1 fn10 rfl rfl ?_
        simp only [amr, amc, amp, if_true, if_false, ne_eq, gt_iff_lt, Option.getD, argsT, Option.bind, Option.map, List.headD, List.tail, reduceIte, reduceDIte, Nat.reduceEqDiff, Nat.reduceAdd, Nat.reduceSub, Nat.reduceMul, Nat.reduceLT, reduceCtorEq, Int.reduceEq, Int.reduceLT, Int.reduceLE, Int.reduceNeg, Int.reduceToNat, Int.reduceBNe, Int.reduceBEq, Int.reduceAdd, Int.reduceSub, Int.reduceMul, opnsL, Nat.reduceLeDiff, Nat.reduceGT, List.replicate, Nat.reduceShiftRight, Nat.reduceMod, Nat.reduceBEq, lendsL, ty_EvK_10, p1, w1, f0, f1, ca_withJ, g1, g2, g3, g4, bA, bC, q1, q2, beq_self_eq_true, bne_self_eq_false]
      | true =>
        refine ret_of 1 fn10 rfl rfl ?_
        simp only [amr, amc, amp, if_true, if_false, ne_eq, gt_iff_lt, Option.getD, argsT, Option.bind, Option.map, List.headD, List.tail, reduceIte, reduceDIte, Nat.reduceEqDiff, Nat.reduceAdd, Nat.reduceSub, Nat.reduceMul, Nat.reduceLT, reduceCtorEq, Int.reduceEq, Int.reduceLT, Int.reduceLE, Int.reduceNeg, Int.reduceToNat, Int.reduceBNe, Int.reduceBEq, Int.reduceAdd, Int.reduceSub, Int.reduceMul, opnsL, Nat.reduceLeDiff, Nat.reduceGT, List.replicate, Nat.reduceShiftRight, Nat.reduceMod, Nat.reduceBEq, lendsL, ty_EvK_10, p1, w1, f0, f1, ca_withJ, g1, g2, g3, g4, bA, bC, q1, q2, beq_self_eq_true, bne_self_eq_false]
end Go.Proofs.Ytjjjkoknodcaaaa.Am
