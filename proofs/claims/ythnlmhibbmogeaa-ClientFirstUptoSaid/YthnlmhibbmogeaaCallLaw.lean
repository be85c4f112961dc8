/- What CallStale comes to. -/
import Derived.Test.YthnlmhibbmogeaaCall
import Derived.Test.YthnlmhibbmogeaaValFacts
set_option linter.unusedVariables false
set_option linter.unusedSimpArgs false
namespace Go.Proofs.Ythnlmhibbmogeaa.Am
open Go Go.RowKit
theorem ty_CallLaw_5 : type_of% (And.intro (And.intro (And.intro (And.intro (And.intro (And.intro @rs5 @lv5_0) (And.intro @lv5_1 (And.intro @dr5_2 @lv5_2))) (And.intro (And.intro @lv5_3 @lv5_4) (And.intro @lv5_5 (And.intro @lv5_6 @lv5_7)))) (And.intro (And.intro (And.intro @lv5_8 @lv5_9) (And.intro @lv5_10 (And.intro @dr5_11 @lv5_11))) (And.intro (And.intro @dr5_12 (And.intro @lv5_12 @und2)) (And.intro @sz2 (And.intro @ag2 @lv2))))) (And.intro (And.intro (And.intro (And.intro @inf2 @und3) (And.intro @sz3 (And.intro @ag3 @lv3))) (And.intro (And.intro @inf3 @und4) (And.intro @sz4 (And.intro @ag4 @lv4)))) (And.intro (And.intro (And.intro @inf4 @und9) (And.intro @sz9 (And.intro @ag9 @lv9))) (And.intro (And.intro @inf9 (And.intro @und27 @sz27)) (And.intro @ag27 (And.intro @fo27 @bA27)))))) (And.intro (And.intro (And.intro (And.intro (And.intro @pT27_0 @pT27_1) (And.intro @pT27_2 (And.intro @pT27_3 @inf27))) (And.intro (And.intro @und29 @sz29) (And.intro @ag29 (And.intro @lv29 @inf29)))) (And.intro (And.intro (And.intro @und34 @sz34) (And.intro @ag34 (And.intro @fo34 @bA34))) (And.intro (And.intro @pT34_0 (And.intro @pT34_1 @pT34_2)) (And.intro @lv34 (And.intro @inf34 @und42))))) (And.intro (And.intro (And.intro (And.intro @sz42 @ag42) (And.intro @fo42 (And.intro @bA42 @pT42_0))) (And.intro (And.intro @pT42_1 @pT42_2) (And.intro @inf42 (And.intro @und46 @sz46)))) (And.intro (And.intro (And.intro @ag46 @fo46) (And.intro @bA46 (And.intro @pT46_0 @pT46_1))) (And.intro (And.intro @pT46_2 (And.intro @pT46_3 @pT46_4)) (And.intro @pT46_5 (And.intro @lv46 @inf46))))))) := (And.intro (And.intro (And.intro (And.intro (And.intro (And.intro @rs5 @lv5_0) (And.intro @lv5_1 (And.intro @dr5_2 @lv5_2))) (And.intro (And.intro @lv5_3 @lv5_4) (And.intro @lv5_5 (And.intro @lv5_6 @lv5_7)))) (And.intro (And.intro (And.intro @lv5_8 @lv5_9) (And.intro @lv5_10 (And.intro @dr5_11 @lv5_11))) (And.intro (And.intro @dr5_12 (And.intro @lv5_12 @und2)) (And.intro @sz2 (And.intro @ag2 @lv2))))) (And.intro (And.intro (And.intro (And.intro @inf2 @und3) (And.intro @sz3 (And.intro @ag3 @lv3))) (And.intro (And.intro @inf3 @und4) (And.intro @sz4 (And.intro @ag4 @lv4)))) (And.intro (And.intro (And.intro @inf4 @und9) (And.intro @sz9 (And.intro @ag9 @lv9))) (And.intro (And.intro @inf9 (And.intro @und27 @sz27)) (And.intro @ag27 (And.intro @fo27 @bA27)))))) (And.intro (And.intro (And.intro (And.intro (And.intro @pT27_0 @pT27_1) (And.intro @pT27_2 (And.intro @pT27_3 @inf27))) (And.intro (And.intro @und29 @sz29) (And.intro @ag29 (And.intro @lv29 @inf29)))) (And.intro (And.intro (And.intro @und34 @sz34) (And.intro @ag34 (And.intro @fo34 @bA34))) (And.intro (And.intro @pT34_0 (And.intro @pT34_1 @pT34_2)) (And.intro @lv34 (And.intro @inf34 @und42))))) (And.intro (And.intro (And.intro (And.intro @sz42 @ag42) (And.intro @fo42 (And.intro @bA42 @pT42_0))) (And.intro (And.intro @pT42_1 @pT42_2) (And.intro @inf42 (And.intro @und46 @sz46)))) (And.intro (And.intro (And.intro @ag46 @fo46) (And.intro @bA46 (And.intro @pT46_0 @pT46_1))) (And.intro (And.intro @pT46_2 (And.intro @pT46_3 @pT46_4)) (And.intro @pT46_5 (And.intro @lv46 @inf46)))))))
set_option maxRecDepth 100000
set_option maxHeartbeats 40000000


theorem start_ok {p : Pol} (hp : p.ok) {id : Int} {key : Val} {now : Int} (hi : 1 ≤ id ∧ id ≤ 1073741824) (hk : valKnown key = true) (hn : 0 ≤ now ∧ now ≤ 1073741824) : (startC p id key now).ok p := by
  obtain ⟨p1, p2, p3, p4, p5, p6⟩ := hp
  exact ⟨⟨(by decide : (1 : Int) ≤ 1), (by decide : (1 : Int) ≤ 3)⟩, hi, ⟨(by decide : (1 : Int) ≤ 1), p1⟩, ⟨by simp only [startC]; omega, by simp only [startC]; omega⟩, hk, .inr ⟨(by decide : (1 : Int) ≠ 2), rfl⟩, fun h => absurd rfl h, fun h => by simp [startC] at h⟩
theorem hear_ok {p : Pol} {c : Cal} (h : c.ok p) {id : Int} {key has : Val} : (hearC c id key has).1.ok p := by
  unfold hearC
  split
  · rename_i hc
    exact ⟨⟨(by decide : (1 : Int) ≤ 2), (by decide : (2 : Int) ≤ 3)⟩, h.id, h.tr, ⟨(by decide : (0 : Int) ≤ 0), (by decide : (0 : Int) ≤ 1073742824)⟩, h.key, .inl ⟨rfl, hc.2.2.2⟩, fun _ => rfl, fun h => by simp at h⟩
  · exact h
theorem wake_ok {p : Pol} (hp : p.ok) {c : Cal} (h : c.ok p) {now : Int} (hn : 0 ≤ now ∧ now ≤ 1073741824) : (wakeC c p now).1.ok p := by
  obtain ⟨s, i, t, n, hk, hh, ha, hg⟩ := h
  unfold wakeC
  split
  · rename_i hc
    split
    · rename_i ht
      refine ⟨⟨(by decide : (1 : Int) ≤ 3), (by decide : (3 : Int) ≤ 3)⟩, i, t, ⟨(by decide : (0 : Int) ≤ 0), (by decide : (0 : Int) ≤ 1073742824)⟩, hk, .inr ⟨(by decide : (3 : Int) ≠ 2), ?_⟩, fun _ => rfl, fun _ => ht⟩
      rcases hh with ⟨h1, _⟩ | ⟨_, h2⟩
      · exact absurd (hc.1.symm.trans h1) (by decide)
      · exact h2
    · rename_i ht
      have hr := wait_range p hp (c.tries + 1)
      exact ⟨s, i, ⟨by simp only; omega, by simp only; omega⟩, ⟨by simp only; omega, by simp only; omega⟩, hk, hh, fun h => absurd hc.1 h, fun h => absurd (hc.1.symm.trans h) (by decide)⟩
  · exact ⟨s, i, t, n, hk, hh, ha, hg⟩
theorem hear_no {c : Cal} {id : Int} {key has : Val} (h : ¬ (c.state = 1 ∧ c.id = id ∧ c.key = key ∧ valKnown has = true)) : hearC c id key has = (c, false) := by unfold hearC; rw [if_neg h]
theorem hear_yes {c : Cal} {id : Int} {key has : Val} (h : c.state = 1 ∧ c.id = id ∧ c.key = key ∧ valKnown has = true) : hearC c id key has = ({ c with state := 2, has := has, next := 0 }, true) := by unfold hearC; rw [if_pos h]
theorem ret_CallStale (a b : Int) (r s : Raw) (id : Int) (ha : -9223372036854775808 ≤ a ∧ a ≤ 9223372036854775807) (hb : -9223372036854775808 ≤ b ∧ b ≤ 9223372036854775807) (hr : r.ok) (hs : s.ok) (hid : -9223372036854775808 ≤ id ∧ id ≤ 9223372036854775807) : Ret tab 5 [.d (.int .i64 (a)), .d (.int .i64 (b)), .d (r.dv), .d (s.dv), .d (.int .i64 (id))] (.d (.bool (true))) := by
  have hp := mkPol_ok (c := 9) ha hb ⟨by decide, by decide⟩
  have f1 := fun (S : St) (d dst : Nat) => ca_Policy (d := d) (dst := dst) (S := S) a b 9 ha hb ⟨by decide, by decide⟩
  have f2 := fun (S : St) (d dst : Nat) => cf_Value (d := d) (dst := dst) (S := S) 1 r hr.text
  have f2b := fun (S : St) (d dst : Nat) => cf_Value (d := d) (dst := dst) (S := S) 3 s hs.text
  have f2c := fun (S : St) (d dst : Nat) => cf_Value (d := d) (dst := dst) (S := S) 1 s hs.text
  have hk := mkVal_known 1 r hr (.inl rfl)
  have hk1 := mkVal_kind 1 r (.inl rfl)
  have hh := mkVal_known 3 s hs (.inr (.inr rfl))
  have hpk := pick_range id 100 hid.1 hid.2 (by decide)
  have w1 : IntKind.i64.wrap (8 + pick id 100) = 8 + pick id 100 := wrap_in (by omega) (by omega)
  refine ret_of (1) fn5 rfl rfl ?_
  generalize mkPol a b 9 = p at *
  generalize mkVal 1 r = key at *
  generalize mkVal 3 s = has at *
  generalize mkVal 1 s = has2 at *
  have hkn := known_num hk hk1
  have w2 : IntKind.i64.wrap (key.n + 1) = key.n + 1 := wrap_in (by omega) (by omega)
  have f3 := fun (S : St) (d dst : Nat) => cf_Start (d := d) (dst := dst) (S := S) p 7 key 0 hp ⟨by decide, by decide⟩ hk ⟨by decide, by decide⟩
  have hx : (startC p 7 key 0).ok p := start_ok hp ⟨by decide, by decide⟩ hk ⟨by decide, by decide⟩
  have hx1 : (startC p 7 key 0).state = 1 ∧ (startC p 7 key 0).id = 7 ∧ (startC p 7 key 0).key = key := ⟨rfl, rfl, rfl⟩
  generalize startC p 7 key 0 = x at *
  obtain ⟨x1, x2, x3⟩ := hx1
  have f4 := fun (S : St) (d dst : Nat) => cf_Hear (d := d) (dst := dst) (S := S) x p (8 + pick id 100) key has hp hx
  have f5 := fun (S : St) (d dst : Nat) => cf_Hear (d := d) (dst := dst) (S := S) x p 7 ⟨key.kind, key.n + 1, key.s⟩ has hp hx
  have f6 := fun (S : St) (d dst : Nat) => cf_Hear (d := d) (dst := dst) (S := S) x p 7 key ⟨4, 0, []⟩ hp hx
  have f7 := fun (S : St) (d dst : Nat) => cf_Hear (d := d) (dst := dst) (S := S) x p 7 key has hp hx
  have hv : (hearC x 7 key has).1.ok p := hear_ok hx
  rw [hear_no (fun h => by omega)] at f4
  have hne : key.n ≠ key.n + 1 := by omega
  rw [hear_no (fun h => hne (congrArg Val.n (x3.symm.trans h.2.2.1)))] at f5
  rw [hear_no (fun h => by have := h.2.2.2; simp [valKnown] at this)] at f6
  rw [hear_yes ⟨x1, x2, x3, hh⟩] at f7 hv
  have f9 := fun (S : St) (d dst : Nat) => cf_CValue (d := d) (dst := dst) (S := S) x
  have hvx : valueC x = ⟨4, 0, []⟩ := by unfold valueC; rw [if_neg (by omega), if_neg (by omega)]
  rw [hvx] at f9
  have hv1 : ({ x with state := 2, has := has, next := 0 } : Cal).state = 2 ∧ ({ x with state := 2, has := has, next := 0 } : Cal).has = has := ⟨rfl, rfl⟩
  generalize ({ x with state := 2, has := has, next := 0 } : Cal) = v at *
  obtain ⟨v1, v2⟩ := hv1
  have f8 := fun (S : St) (d dst : Nat) => cf_Hear (d := d) (dst := dst) (S := S) v p 7 key has2 hp hv
  rw [hear_no (fun h => by omega)] at f8
  have f10 := fun (S : St) (d dst : Nat) => cf_CValue (d := d) (dst := dst) (S := S) v
  have hvv : valueC v = has := by unfold valueC; rw [if_pos v1, v2]
  rw [hvv] at f10
  simp only [Cal.dv, Val.dv, Pol.dv, Raw.dv] at f1 f2 f2b f2c f3 f4 f5 f6 f7 f8 f9 f10
  simp only [amr, amc, List.getElem?_cons_zero, List.getElem?_cons_succ, if_true, if_false, List.nil_append, List.cons_append, List.append_eq, List.append_nil, List.map_nil, List.map_cons, List.contains_nil, List.contains_cons, List.flatMap_nil, List.flatMap_cons, List.cons.injEq, List.length_cons, List.length_nil, List.take_succ_cons, List.take_zero, List.take_nil, List.drop_succ_cons, List.drop_zero, List.drop_nil, List.head?_cons, List.all_cons, List.all_nil, ne_eq, Option.map_some, Option.map_none, Option.some.injEq, List.flatten_cons, List.flatten_nil, gt_iff_lt, List.any_nil, List.any_cons, List.map_append, List.length_map, List.length_append, Option.getD, argsT, Option.bind, Option.map, List.headD, List.tail, reduceIte, reduceDIte, Nat.reduceEqDiff, Nat.reduceAdd, Nat.reduceSub, Nat.reduceMul, Nat.reduceLT, reduceCtorEq, Int.reduceEq, Int.reduceLT, Int.reduceLE, Int.reduceNeg, Int.reduceToNat, Int.reduceBNe, Int.reduceBEq, Int.reduceAdd, Int.reduceSub, Int.reduceMul, opnsL, Nat.reduceLeDiff, Nat.reduceGT, List.replicate, Nat.reduceShiftRight, Nat.reduceMod, Nat.reduceBEq, ty_CallLaw_5, Raw.dv, ca_picked id 100 (by decide), w1, w2, f1, f2, f2b, f2c, f3, f4, f5, f6, f7, f8, f9, f10, beq_self_eq_true, bne_self_eq_false]
  repeat' (first
    | (refine good_ci (fun h => ?_) (fun h => ?_) <;> simp only [amr, amc, List.getElem?_cons_zero, List.getElem?_cons_succ, if_true, if_false, List.nil_append, List.cons_append, List.append_eq, List.append_nil, List.map_nil, List.map_cons, List.contains_nil, List.contains_cons, List.flatMap_nil, List.flatMap_cons, List.cons.injEq, List.length_cons, List.length_nil, List.take_succ_cons, List.take_zero, List.take_nil, List.drop_succ_cons, List.drop_zero, List.drop_nil, List.head?_cons, List.all_cons, List.all_nil, ne_eq, Option.map_some, Option.map_none, Option.some.injEq, List.flatten_cons, List.flatten_nil, gt_iff_lt, List.any_nil, List.any_cons, List.map_append, List.length_map, List.length_append, Option.getD, argsT, Option.bind, Option.map, List.headD, List.tail, reduceIte, reduceDIte, Nat.reduceEqDiff, Nat.reduceAdd, Nat.reduceSub, Nat.reduceMul, Nat.reduceLT, reduceCtorEq, Int.reduceEq, Int.reduceLT, Int.reduceLE, Int.reduceNeg, Int.reduceToNat, Int.reduceBNe, Int.reduceBEq, Int.reduceAdd, Int.reduceSub, Int.reduceMul, opnsL, Nat.reduceLeDiff, Nat.reduceGT, List.replicate, Nat.reduceShiftRight, Nat.reduceMod, Nat.reduceBEq, ty_CallLaw_5, Raw.dv, ca_picked id 100 (by decide), w1, w2, f1, f2, f2b, f2c, f3, f4, f5, f6, f7, f8, f9, f10, beq_self_eq_true, bne_self_eq_false, h])
    | (refine good_cgt (fun h => ?_) (fun h => ?_) <;> simp only [amr, amc, List.getElem?_cons_zero, List.getElem?_cons_succ, if_true, if_false, List.nil_append, List.cons_append, List.append_eq, List.append_nil, List.map_nil, List.map_cons, List.contains_nil, List.contains_cons, List.flatMap_nil, List.flatMap_cons, List.cons.injEq, List.length_cons, List.length_nil, List.take_succ_cons, List.take_zero, List.take_nil, List.drop_succ_cons, List.drop_zero, List.drop_nil, List.head?_cons, List.all_cons, List.all_nil, ne_eq, Option.map_some, Option.map_none, Option.some.injEq, List.flatten_cons, List.flatten_nil, gt_iff_lt, List.any_nil, List.any_cons, List.map_append, List.length_map, List.length_append, Option.getD, argsT, Option.bind, Option.map, List.headD, List.tail, reduceIte, reduceDIte, Nat.reduceEqDiff, Nat.reduceAdd, Nat.reduceSub, Nat.reduceMul, Nat.reduceLT, reduceCtorEq, Int.reduceEq, Int.reduceLT, Int.reduceLE, Int.reduceNeg, Int.reduceToNat, Int.reduceBNe, Int.reduceBEq, Int.reduceAdd, Int.reduceSub, Int.reduceMul, opnsL, Nat.reduceLeDiff, Nat.reduceGT, List.replicate, Nat.reduceShiftRight, Nat.reduceMod, Nat.reduceBEq, ty_CallLaw_5, Raw.dv, ca_picked id 100 (by decide), w1, w2, f1, f2, f2b, f2c, f3, f4, f5, f6, f7, f8, f9, f10, beq_self_eq_true, bne_self_eq_false, h])
    | (refine good_cgf (fun h => ?_) (fun h => ?_) <;> simp only [amr, amc, List.getElem?_cons_zero, List.getElem?_cons_succ, if_true, if_false, List.nil_append, List.cons_append, List.append_eq, List.append_nil, List.map_nil, List.map_cons, List.contains_nil, List.contains_cons, List.flatMap_nil, List.flatMap_cons, List.cons.injEq, List.length_cons, List.length_nil, List.take_succ_cons, List.take_zero, List.take_nil, List.drop_succ_cons, List.drop_zero, List.drop_nil, List.head?_cons, List.all_cons, List.all_nil, ne_eq, Option.map_some, Option.map_none, Option.some.injEq, List.flatten_cons, List.flatten_nil, gt_iff_lt, List.any_nil, List.any_cons, List.map_append, List.length_map, List.length_append, Option.getD, argsT, Option.bind, Option.map, List.headD, List.tail, reduceIte, reduceDIte, Nat.reduceEqDiff, Nat.reduceAdd, Nat.reduceSub, Nat.reduceMul, Nat.reduceLT, reduceCtorEq, Int.reduceEq, Int.reduceLT, Int.reduceLE, Int.reduceNeg, Int.reduceToNat, Int.reduceBNe, Int.reduceBEq, Int.reduceAdd, Int.reduceSub, Int.reduceMul, opnsL, Nat.reduceLeDiff, Nat.reduceGT, List.replicate, Nat.reduceShiftRight, Nat.reduceMod, Nat.reduceBEq, ty_CallLaw_5, Raw.dv, ca_picked id 100 (by decide), w1, w2, f1, f2, f2b, f2c, f3, f4, f5, f6, f7, f8, f9, f10, beq_self_eq_true, bne_self_eq_false, h])
    | (refine good_cqgt (fun h => ?_) (fun h => ?_) <;> simp only [amr, amc, List.getElem?_cons_zero, List.getElem?_cons_succ, if_true, if_false, List.nil_append, List.cons_append, List.append_eq, List.append_nil, List.map_nil, List.map_cons, List.contains_nil, List.contains_cons, List.flatMap_nil, List.flatMap_cons, List.cons.injEq, List.length_cons, List.length_nil, List.take_succ_cons, List.take_zero, List.take_nil, List.drop_succ_cons, List.drop_zero, List.drop_nil, List.head?_cons, List.all_cons, List.all_nil, ne_eq, Option.map_some, Option.map_none, Option.some.injEq, List.flatten_cons, List.flatten_nil, gt_iff_lt, List.any_nil, List.any_cons, List.map_append, List.length_map, List.length_append, Option.getD, argsT, Option.bind, Option.map, List.headD, List.tail, reduceIte, reduceDIte, Nat.reduceEqDiff, Nat.reduceAdd, Nat.reduceSub, Nat.reduceMul, Nat.reduceLT, reduceCtorEq, Int.reduceEq, Int.reduceLT, Int.reduceLE, Int.reduceNeg, Int.reduceToNat, Int.reduceBNe, Int.reduceBEq, Int.reduceAdd, Int.reduceSub, Int.reduceMul, opnsL, Nat.reduceLeDiff, Nat.reduceGT, List.replicate, Nat.reduceShiftRight, Nat.reduceMod, Nat.reduceBEq, ty_CallLaw_5, Raw.dv, ca_picked id 100 (by decide), w1, w2, f1, f2, f2b, f2c, f3, f4, f5, f6, f7, f8, f9, f10, beq_self_eq_true, bne_self_eq_false, h])
    | (refine good_cqgf (fun h => ?_) (fun h => ?_) <;> simp only [amr, amc, List.getElem?_cons_zero, List.getElem?_cons_succ, if_true, if_false, List.nil_append, List.cons_append, List.append_eq, List.append_nil, List.map_nil, List.map_cons, List.contains_nil, List.contains_cons, List.flatMap_nil, List.flatMap_cons, List.cons.injEq, List.length_cons, List.length_nil, List.take_succ_cons, List.take_zero, List.take_nil, List.drop_succ_cons, List.drop_zero, List.drop_nil, List.head?_cons, List.all_cons, List.all_nil, ne_eq, Option.map_some, Option.map_none, Option.some.injEq, List.flatten_cons, List.flatten_nil, gt_iff_lt, List.any_nil, List.any_cons, List.map_append, List.length_map, List.length_append, Option.getD, argsT, Option.bind, Option.map, List.headD, List.tail, reduceIte, reduceDIte, Nat.reduceEqDiff, Nat.reduceAdd, Nat.reduceSub, Nat.reduceMul, Nat.reduceLT, reduceCtorEq, Int.reduceEq, Int.reduceLT, Int.reduceLE, Int.reduceNeg, Int.reduceToNat, Int.reduceBNe, Int.reduceBEq, Int.reduceAdd, Int.reduceSub, Int.reduceMul, opnsL, Nat.reduceLeDiff, Nat.reduceGT, List.replicate, Nat.reduceShiftRight, Nat.reduceMod, Nat.reduceBEq, ty_CallLaw_5, Raw.dv, ca_picked id 100 (by decide), w1, w2, f1, f2, f2b, f2c, f3, f4, f5, f6, f7, f8, f9, f10, beq_self_eq_true, bne_self_eq_false, h]))
theorem cf_CallStale {d dst : Nat} {S : St} (a b : Int) (r s : Raw) (id : Int) (ha : -9223372036854775808 ≤ a ∧ a ≤ 9223372036854775807) (hb : -9223372036854775808 ≤ b ∧ b ≤ 9223372036854775807) (hr : r.ok) (hs : s.ok) (hid : -9223372036854775808 ≤ id ∧ id ≤ 9223372036854775807) : callA tab (callR tab) d dst 5 [.d (.int .i64 (a)), .d (.int .i64 (b)), .d (r.dv), .d (s.dv), .d (.int .i64 (id))] S = some (.d (.bool (true)), S) :=
  ca_ret (ds := [.int .i64 (a), .int .i64 (b), r.dv, s.dv, .int .i64 (id)]) (ret_CallStale a b r s id ha hb hr hs hid) rfl (tab_opn (by kernel_rfl)) (tab_res (by kernel_rfl))
theorem ca_CallStale {d dst : Nat} {S : St} (a b : Int) (r_kind : Int) (r_a : Int) (r_b : Int) (r_text : List UInt8) (s_kind : Int) (s_a : Int) (s_b : Int) (s_text : List UInt8) (id : Int) (ha : -9223372036854775808 ≤ a ∧ a ≤ 9223372036854775807) (hb : -9223372036854775808 ≤ b ∧ b ≤ 9223372036854775807) (hr : (Raw.mk r_kind r_a r_b r_text).ok) (hs : (Raw.mk s_kind s_a s_b s_text).ok) (hid : -9223372036854775808 ≤ id ∧ id ≤ 9223372036854775807) : callA tab (callR tab) d dst 5 [.d (.int .i64 (a)), .d (.int .i64 (b)), .d (.agg [.int .i64 r_kind, .int .i64 r_a, .int .i64 r_b, .str r_text]), .d (.agg [.int .i64 s_kind, .int .i64 s_a, .int .i64 s_b, .str s_text]), .d (.int .i64 (id))] S = some (.d (.bool (true)), S) :=
  ca_ret (ds := [.int .i64 (a), .int .i64 (b), .agg [.int .i64 r_kind, .int .i64 r_a, .int .i64 r_b, .str r_text], .agg [.int .i64 s_kind, .int .i64 s_a, .int .i64 s_b, .str s_text], .int .i64 (id)]) (ret_CallStale a b (Raw.mk r_kind r_a r_b r_text) (Raw.mk s_kind s_a s_b s_text) id ha hb hr hs hid) rfl (tab_opn (by kernel_rfl)) (tab_res (by kernel_rfl))
end Go.Proofs.Ythnlmhibbmogeaa.Am
