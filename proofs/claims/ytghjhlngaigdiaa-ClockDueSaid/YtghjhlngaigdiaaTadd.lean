/- Timers added. -/
import Derived.Test.YtghjhlngaigdiaaTchk
set_option linter.unusedVariables false
set_option linter.unusedSimpArgs false
namespace Go.Proofs.Ytghjhlngaigdiaa.Am
open Go Go.RowKit
theorem ty_Tadd_39 : type_of% (And.intro (And.intro (And.intro (And.intro (And.intro @rs39 @lv39_0) (And.intro @ro27_4_sort_go_152 (And.intro @lv39_1 @lv39_2))) (And.intro (And.intro @lv39_3 (And.intro @lv39_4 @dr39_5)) (And.intro @lv39_5 (And.intro @lv39_6 @lv39_7)))) (And.intro (And.intro (And.intro @dr39_8 @lv39_8) (And.intro @kp39_3 (And.intro @und3 @sz3))) (And.intro (And.intro @ag3 (And.intro @lv3 @inf3)) (And.intro @und4 (And.intro @sz4 @ag4))))) (And.intro (And.intro (And.intro (And.intro @lv4 @inf4) (And.intro @und23 (And.intro @sz23 @ag23))) (And.intro (And.intro @pT23 (And.intro @inf23 @und27)) (And.intro @sz27 (And.intro @ag27 @fo27)))) (And.intro (And.intro (And.intro @bA27 @pT27_0) (And.intro @pT27_1 (And.intro @lv27 @inf27))) (And.intro (And.intro @inf74 (And.intro @und106 @sz106)) (And.intro @ag106 (And.intro @lv106 @inf106)))))) := (And.intro (And.intro (And.intro (And.intro (And.intro @rs39 @lv39_0) (And.intro @ro27_4_sort_go_152 (And.intro @lv39_1 @lv39_2))) (And.intro (And.intro @lv39_3 (And.intro @lv39_4 @dr39_5)) (And.intro @lv39_5 (And.intro @lv39_6 @lv39_7)))) (And.intro (And.intro (And.intro @dr39_8 @lv39_8) (And.intro @kp39_3 (And.intro @und3 @sz3))) (And.intro (And.intro @ag3 (And.intro @lv3 @inf3)) (And.intro @und4 (And.intro @sz4 @ag4))))) (And.intro (And.intro (And.intro (And.intro @lv4 @inf4) (And.intro @und23 (And.intro @sz23 @ag23))) (And.intro (And.intro @pT23 (And.intro @inf23 @und27)) (And.intro @sz27 (And.intro @ag27 @fo27)))) (And.intro (And.intro (And.intro @bA27 @pT27_0) (And.intro @pT27_1 (And.intro @lv27 @inf27))) (And.intro (And.intro @inf74 (And.intro @und106 @sz106)) (And.intro @ag106 (And.intro @lv106 @inf106))))))
theorem ty_Tadd_14 : type_of% (And.intro (And.intro (And.intro (And.intro (And.intro @rs14 (And.intro @lv14_0 @ro27_3_clock_go_38)) (And.intro @lv14_1 (And.intro @lv14_2 @lv14_3))) (And.intro (And.intro @lv14_4 (And.intro @dr14_5 @lv14_5)) (And.intro @mu23_24 (And.intro @mu23_28 @mu23_31)))) (And.intro (And.intro (And.intro @mu23_32 (And.intro @lv14_6 @lv14_7)) (And.intro @lv14_8 (And.intro @lv14_9 @inf1))) (And.intro (And.intro @und3 (And.intro @sz3 @ag3)) (And.intro @lv3 (And.intro @inf3 @und4))))) (And.intro (And.intro (And.intro (And.intro @sz4 (And.intro @ag4 @lv4)) (And.intro @inf4 (And.intro @und23 @sz23))) (And.intro (And.intro @ag23 (And.intro @pT23 @inf23)) (And.intro @und27 (And.intro @sz27 @ag27)))) (And.intro (And.intro (And.intro @fo27 (And.intro @bA27 @pT27_0)) (And.intro @pT27_1 (And.intro @lv27 @inf27))) (And.intro (And.intro @und28 (And.intro @sz28 @ag28)) (And.intro @lv28 (And.intro @inf28 @inf74)))))) := (And.intro (And.intro (And.intro (And.intro (And.intro @rs14 (And.intro @lv14_0 @ro27_3_clock_go_38)) (And.intro @lv14_1 (And.intro @lv14_2 @lv14_3))) (And.intro (And.intro @lv14_4 (And.intro @dr14_5 @lv14_5)) (And.intro @mu23_24 (And.intro @mu23_28 @mu23_31)))) (And.intro (And.intro (And.intro @mu23_32 (And.intro @lv14_6 @lv14_7)) (And.intro @lv14_8 (And.intro @lv14_9 @inf1))) (And.intro (And.intro @und3 (And.intro @sz3 @ag3)) (And.intro @lv3 (And.intro @inf3 @und4))))) (And.intro (And.intro (And.intro (And.intro @sz4 (And.intro @ag4 @lv4)) (And.intro @inf4 (And.intro @und23 @sz23))) (And.intro (And.intro @ag23 (And.intro @pT23 @inf23)) (And.intro @und27 (And.intro @sz27 @ag27)))) (And.intro (And.intro (And.intro @fo27 (And.intro @bA27 @pT27_0)) (And.intro @pT27_1 (And.intro @lv27 @inf27))) (And.intro (And.intro @und28 (And.intro @sz28 @ag28)) (And.intro @lv28 (And.intro @inf28 @inf74))))))
set_option maxRecDepth 100000
set_option maxHeartbeats 40000000

/-- The place that a search by halves finds. -/
def bsf (p : Nat → Bool) : Nat → Nat → Nat → Nat
  | 0, i, _ => i
  | k + 1, i, j => if i < j then (if p ((i + j) / 2) then bsf p k ((i + j) / 2 + 1) j else bsf p k i ((i + j) / 2)) else i
theorem bsf_le (p : Nat → Bool) : ∀ k i j, i ≤ j → i ≤ bsf p k i j ∧ bsf p k i j ≤ j
  | 0, i, j, h => ⟨Nat.le_refl _, h⟩
  | k + 1, i, j, h => by
    unfold bsf
    split
    · split
      · have := bsf_le p k ((i + j) / 2 + 1) j (by omega)
        omega
      · have := bsf_le p k i ((i + j) / 2) (by omega)
        omega
    · omega
theorem bsf_more (p : Nat → Bool) : ∀ k i j, j - i ≤ k → bsf p (k + 1) i j = bsf p k i j
  | 0, i, j, h => by
    unfold bsf
    rw [if_neg (by omega)]
  | k + 1, i, j, h => by
    show (if i < j then (if p ((i + j) / 2) then bsf p (k + 1) ((i + j) / 2 + 1) j else bsf p (k + 1) i ((i + j) / 2)) else i) = (if i < j then (if p ((i + j) / 2) then bsf p k ((i + j) / 2 + 1) j else bsf p k i ((i + j) / 2)) else i)
    by_cases h1 : i < j
    · rw [if_pos h1, if_pos h1, bsf_more p k ((i + j) / 2 + 1) j (by omega), bsf_more p k i ((i + j) / 2) (by omega)]
    · rw [if_neg h1, if_neg h1]
def tless (l : List Timer) (t : Timer) (k : Nat) : Bool := match l[k]? with
  | none => false
  | some u => decide (tcmp u t < 0)
def tplace (l : List Timer) (t : Timer) : Nat := bsf (tless l t) l.length 0 l.length
def tfound (l : List Timer) (t : Timer) : Bool := match l[tplace l t]? with
  | none => false
  | some u => decide (tcmp u t = 0)
theorem wrapu_in {n : Int} (h0 : 0 ≤ n) (h1 : n ≤ 9223372036854775807) : IntKind.u64.wrap n = n := by
  unfold IntKind.wrap
  simp [IntKind.signed, IntKind.bits]
  omega
structure BS where
  i : Nat
  j : Nat
  g : List Nat
theorem ret_BinT (l : List Timer) (t : Timer) (hl : l.length ≤ 1048576) : Ret tab 39 [.d (.sl 2 (l.map Timer.dv)), .d (t.dv), .d (.fn 38 [])] (.tup [.d (.int .i64 (tplace l t)), .d (.bool (tfound l t))]) := by
  refine ret_of (l.length + 1) fn39 rfl rfl ?_
  simp only [amr, amc, List.getElem?_cons_zero, List.getElem?_cons_succ, if_true, if_false, List.nil_append, List.cons_append, List.append_eq, List.append_nil, List.map_nil, List.map_cons, List.contains_nil, List.contains_cons, List.flatMap_nil, List.flatMap_cons, List.cons.injEq, List.length_cons, List.length_nil, List.take_succ_cons, List.take_zero, List.take_nil, List.drop_succ_cons, List.drop_zero, List.drop_nil, List.head?_cons, List.all_cons, List.all_nil, ne_eq, Option.map_some, Option.map_none, Option.some.injEq, List.flatten_cons, List.flatten_nil, gt_iff_lt, List.any_nil, List.any_cons, List.map_append, List.length_map, List.length_append, Option.getD, argsT, Option.bind, Option.map, List.headD, List.tail, reduceIte, reduceDIte, Nat.reduceEqDiff, Nat.reduceAdd, Nat.reduceSub, Nat.reduceMul, Nat.reduceLT, reduceCtorEq, Int.reduceEq, Int.reduceLT, Int.reduceLE, Int.reduceNeg, Int.reduceToNat, Int.reduceBNe, Int.reduceBEq, Int.reduceAdd, Int.reduceSub, Int.reduceMul, opnsL, Nat.reduceLeDiff, Nat.reduceGT, List.replicate, Nat.reduceShiftRight, Nat.reduceMod, Nat.reduceBEq, lendsL, ty_Tadd_39, Timer.dv]
  refine good_loopR (α := BS) (fun x => x.i ≤ x.j ∧ x.j ≤ l.length ∧ bsf (tless l t) (x.j - x.i) x.i x.j = tplace l t) (fun x => ⟨[(0, .d (.sl 2 (l.map Timer.dv))), (2, .d (.fn 38 [])), (4, .d (.rp [.int .i64 t.id, .int .i64 t.at_])), (8, .d (.int .i64 l.length)), (9, .d (.int .i64 x.i)), (10, .d (.int .i64 x.j))], [], x.g⟩) (fun x => x.j - x.i)
    (fun _ => EXx (.exit 0) (fun x : BS => ⟨[(0, .d (.sl 2 (l.map Timer.dv))), (2, .d (.fn 38 [])), (4, .d (.rp [.int .i64 t.id, .int .i64 t.at_])), (8, .d (.int .i64 l.length)), (9, .d (.int .i64 (tplace l t)))], [], x.g⟩) (fun _ => True)) ⟨0, l.length, []⟩ kp39_3 (fun _ => up_exx) ⟨Nat.zero_le _, Nat.le_refl _, rfl⟩ (show l.length - 0 < l.length + 1 by omega) ?_ ?_ ?_
  · rintro ⟨i, j, g⟩ ⟨hij, hj, hp⟩
    simp only at hij hj hp
    by_cases h1 : i < j
    · have hb : decide ((i : Int) < (j : Int)) = true := decide_eq_true (by omega)
      have hm : (i + j) / 2 < l.length := by omega
      have hget : (l.map Timer.dv)[(i + j) / 2]? = some (Timer.dv l[(i + j) / 2]) := by rw [List.getElem?_map, List.getElem?_eq_getElem hm]; rfl
      have w1 : IntKind.i64.wrap ((i : Int) + (j : Int)) = ((i + j : Nat) : Int) := by rw [wrap_in (by omega) (by omega)]; omega
      have w2 : IntKind.u64.wrap ((i + j : Nat) : Int) = ((i + j : Nat) : Int) := wrapu_in (by omega) (by omega)
      have w3 : Int.fdiv ((i + j : Nat) : Int) (2 ^ min 1 IntKind.u64.bits) = (((i + j) / 2 : Nat) : Int) := by show Int.fdiv ((i + j : Nat) : Int) 2 = _; rw [Int.fdiv_eq_ediv_of_nonneg _ (by omega)]; rfl
      have w4 : IntKind.i64.wrap (((i + j) / 2 : Nat) : Int) = (((i + j) / 2 : Nat) : Int) := wrap_in (by omega) (by omega)
      have w5 : IntKind.i64.wrap ((((i + j) / 2 : Nat) : Int) + 1) = (((i + j) / 2 + 1 : Nat) : Int) := by rw [wrap_in (by omega) (by omega)]; omega
      have hless : tless l t ((i + j) / 2) = decide (tcmp l[(i + j) / 2] t < 0) := by unfold tless; rw [List.getElem?_eq_getElem hm]
      obtain ⟨k, hk⟩ : ∃ k, j - i = k + 1 := ⟨j - i - 1, by omega⟩
      have hbs : ∀ n a b, b - a ≤ n → bsf (tless l t) n a b = bsf (tless l t) (b - a) a b := by
        intro n a b hn
        obtain ⟨m, rfl⟩ : ∃ m, n = b - a + m := ⟨n - (b - a), by omega⟩
        clear hn
        induction m with
        | zero => rfl
        | succ m ih => rw [← ih, ← Nat.add_assoc, bsf_more _ _ _ _ (by omega)]
      rw [hk, bsf, if_pos h1, hless] at hp
      generalize l[(i + j) / 2] = u at *
      have f2 := fun (S : St) (d dst : Nat) => cf_tcmp (d := d) (dst := dst) (S := S) u t
      simp only [Timer.dv] at f2 hget
      by_cases c : tcmp u t < 0
      · have hc : decide (tcmp u t < 0) = true := decide_eq_true c
        rw [hc, if_pos rfl, hbs _ _ _ (by omega)] at hp
        simp only [amr, amc, List.getElem?_cons_zero, List.getElem?_cons_succ, if_true, if_false, List.nil_append, List.cons_append, List.append_eq, List.append_nil, List.map_nil, List.map_cons, List.contains_nil, List.contains_cons, List.flatMap_nil, List.flatMap_cons, List.cons.injEq, List.length_cons, List.length_nil, List.take_succ_cons, List.take_zero, List.take_nil, List.drop_succ_cons, List.drop_zero, List.drop_nil, List.head?_cons, List.all_cons, List.all_nil, ne_eq, Option.map_some, Option.map_none, Option.some.injEq, List.flatten_cons, List.flatten_nil, gt_iff_lt, List.any_nil, List.any_cons, List.map_append, List.length_map, List.length_append, Option.getD, argsT, Option.bind, Option.map, List.headD, List.tail, reduceIte, reduceDIte, Nat.reduceEqDiff, Nat.reduceAdd, Nat.reduceSub, Nat.reduceMul, Nat.reduceLT, reduceCtorEq, Int.reduceEq, Int.reduceLT, Int.reduceLE, Int.reduceNeg, Int.reduceToNat, Int.reduceBNe, Int.reduceBEq, Int.reduceAdd, Int.reduceSub, Int.reduceMul, opnsL, Nat.reduceLeDiff, Nat.reduceGT, List.replicate, Nat.reduceShiftRight, Nat.reduceMod, Nat.reduceBEq, lendsL, ty_Tadd_39, hb, hget, w1, w2, w3, w4, w5, f2, hc]
        refine loop_nrm (⟨(i + j) / 2 + 1, j, 1 :: g⟩ : BS) ⟨by simp only; omega, hj, hp⟩ (by simp only; omega) (fun _ _ h => h) ?_
        simp only [amr, amc, List.getElem?_cons_zero, List.getElem?_cons_succ, if_true, if_false, List.nil_append, List.cons_append, List.append_eq, List.append_nil, List.map_nil, List.map_cons, List.contains_nil, List.contains_cons, List.flatMap_nil, List.flatMap_cons, List.cons.injEq, List.length_cons, List.length_nil, List.take_succ_cons, List.take_zero, List.take_nil, List.drop_succ_cons, List.drop_zero, List.drop_nil, List.head?_cons, List.all_cons, List.all_nil, ne_eq, Option.map_some, Option.map_none, Option.some.injEq, List.flatten_cons, List.flatten_nil, gt_iff_lt, List.any_nil, List.any_cons, List.map_append, List.length_map, List.length_append, Option.getD, argsT, Option.bind, Option.map, List.headD, List.tail, reduceIte, reduceDIte, Nat.reduceEqDiff, Nat.reduceAdd, Nat.reduceSub, Nat.reduceMul, Nat.reduceLT, reduceCtorEq, Int.reduceEq, Int.reduceLT, Int.reduceLE, Int.reduceNeg, Int.reduceToNat, Int.reduceBNe, Int.reduceBEq, Int.reduceAdd, Int.reduceSub, Int.reduceMul, opnsL, Nat.reduceLeDiff, Nat.reduceGT, List.replicate, Nat.reduceShiftRight, Nat.reduceMod, Nat.reduceBEq, lendsL]
        (first | exact sub_mk subT_nil | skip) <;> (try simp only [amr, amc, List.getElem?_cons_zero, List.getElem?_cons_succ, if_true, if_false, List.nil_append, List.cons_append, List.append_eq, List.append_nil, List.map_nil, List.map_cons, List.contains_nil, List.contains_cons, List.flatMap_nil, List.flatMap_cons, List.cons.injEq, List.length_cons, List.length_nil, List.take_succ_cons, List.take_zero, List.take_nil, List.drop_succ_cons, List.drop_zero, List.drop_nil, List.head?_cons, List.all_cons, List.all_nil, ne_eq, Option.map_some, Option.map_none, Option.some.injEq, List.flatten_cons, List.flatten_nil, gt_iff_lt, List.any_nil, List.any_cons, List.map_append, List.length_map, List.length_append, Option.getD, argsT, Option.bind, Option.map, List.headD, List.tail, reduceIte, reduceDIte, Nat.reduceEqDiff, Nat.reduceAdd, Nat.reduceSub, Nat.reduceMul, Nat.reduceLT, reduceCtorEq, Int.reduceEq, Int.reduceLT, Int.reduceLE, Int.reduceNeg, Int.reduceToNat, Int.reduceBNe, Int.reduceBEq, Int.reduceAdd, Int.reduceSub, Int.reduceMul, opnsL, Nat.reduceLeDiff, Nat.reduceGT, List.replicate, Nat.reduceShiftRight, Nat.reduceMod, Nat.reduceBEq, lendsL]) <;> exact sub_mk (by repeat first | exact subT_nil | refine subT_cons (by first | rfl | simp [Tm.get, *]) ?_)
      · have hc : decide (tcmp u t < 0) = false := decide_eq_false c
        rw [hc, if_neg (by decide), hbs _ _ _ (by omega)] at hp
        simp only [amr, amc, List.getElem?_cons_zero, List.getElem?_cons_succ, if_true, if_false, List.nil_append, List.cons_append, List.append_eq, List.append_nil, List.map_nil, List.map_cons, List.contains_nil, List.contains_cons, List.flatMap_nil, List.flatMap_cons, List.cons.injEq, List.length_cons, List.length_nil, List.take_succ_cons, List.take_zero, List.take_nil, List.drop_succ_cons, List.drop_zero, List.drop_nil, List.head?_cons, List.all_cons, List.all_nil, ne_eq, Option.map_some, Option.map_none, Option.some.injEq, List.flatten_cons, List.flatten_nil, gt_iff_lt, List.any_nil, List.any_cons, List.map_append, List.length_map, List.length_append, Option.getD, argsT, Option.bind, Option.map, List.headD, List.tail, reduceIte, reduceDIte, Nat.reduceEqDiff, Nat.reduceAdd, Nat.reduceSub, Nat.reduceMul, Nat.reduceLT, reduceCtorEq, Int.reduceEq, Int.reduceLT, Int.reduceLE, Int.reduceNeg, Int.reduceToNat, Int.reduceBNe, Int.reduceBEq, Int.reduceAdd, Int.reduceSub, Int.reduceMul, opnsL, Nat.reduceLeDiff, Nat.reduceGT, List.replicate, Nat.reduceShiftRight, Nat.reduceMod, Nat.reduceBEq, lendsL, ty_Tadd_39, hb, hget, w1, w2, w3, w4, w5, f2, hc]
        refine loop_nrm (⟨i, (i + j) / 2, 1 :: g⟩ : BS) ⟨by simp only; omega, by simp only; omega, hp⟩ (by simp only; omega) (fun _ _ h => h) ?_
        simp only [amr, amc, List.getElem?_cons_zero, List.getElem?_cons_succ, if_true, if_false, List.nil_append, List.cons_append, List.append_eq, List.append_nil, List.map_nil, List.map_cons, List.contains_nil, List.contains_cons, List.flatMap_nil, List.flatMap_cons, List.cons.injEq, List.length_cons, List.length_nil, List.take_succ_cons, List.take_zero, List.take_nil, List.drop_succ_cons, List.drop_zero, List.drop_nil, List.head?_cons, List.all_cons, List.all_nil, ne_eq, Option.map_some, Option.map_none, Option.some.injEq, List.flatten_cons, List.flatten_nil, gt_iff_lt, List.any_nil, List.any_cons, List.map_append, List.length_map, List.length_append, Option.getD, argsT, Option.bind, Option.map, List.headD, List.tail, reduceIte, reduceDIte, Nat.reduceEqDiff, Nat.reduceAdd, Nat.reduceSub, Nat.reduceMul, Nat.reduceLT, reduceCtorEq, Int.reduceEq, Int.reduceLT, Int.reduceLE, Int.reduceNeg, Int.reduceToNat, Int.reduceBNe, Int.reduceBEq, Int.reduceAdd, Int.reduceSub, Int.reduceMul, opnsL, Nat.reduceLeDiff, Nat.reduceGT, List.replicate, Nat.reduceShiftRight, Nat.reduceMod, Nat.reduceBEq, lendsL]
        (first | exact sub_mk subT_nil | skip) <;> (try simp only [amr, amc, List.getElem?_cons_zero, List.getElem?_cons_succ, if_true, if_false, List.nil_append, List.cons_append, List.append_eq, List.append_nil, List.map_nil, List.map_cons, List.contains_nil, List.contains_cons, List.flatMap_nil, List.flatMap_cons, List.cons.injEq, List.length_cons, List.length_nil, List.take_succ_cons, List.take_zero, List.take_nil, List.drop_succ_cons, List.drop_zero, List.drop_nil, List.head?_cons, List.all_cons, List.all_nil, ne_eq, Option.map_some, Option.map_none, Option.some.injEq, List.flatten_cons, List.flatten_nil, gt_iff_lt, List.any_nil, List.any_cons, List.map_append, List.length_map, List.length_append, Option.getD, argsT, Option.bind, Option.map, List.headD, List.tail, reduceIte, reduceDIte, Nat.reduceEqDiff, Nat.reduceAdd, Nat.reduceSub, Nat.reduceMul, Nat.reduceLT, reduceCtorEq, Int.reduceEq, Int.reduceLT, Int.reduceLE, Int.reduceNeg, Int.reduceToNat, Int.reduceBNe, Int.reduceBEq, Int.reduceAdd, Int.reduceSub, Int.reduceMul, opnsL, Nat.reduceLeDiff, Nat.reduceGT, List.replicate, Nat.reduceShiftRight, Nat.reduceMod, Nat.reduceBEq, lendsL]) <;> exact sub_mk (by repeat first | exact subT_nil | refine subT_cons (by first | rfl | simp [Tm.get, *]) ?_)
    · have hb : decide ((i : Int) < (j : Int)) = false := decide_eq_false (by omega)
      have hz : tplace l t = i := by
        rw [← hp, show j - i = 0 by omega]; rfl
      rw [hz]
      simp only [amr, amc, List.getElem?_cons_zero, List.getElem?_cons_succ, if_true, if_false, List.nil_append, List.cons_append, List.append_eq, List.append_nil, List.map_nil, List.map_cons, List.contains_nil, List.contains_cons, List.flatMap_nil, List.flatMap_cons, List.cons.injEq, List.length_cons, List.length_nil, List.take_succ_cons, List.take_zero, List.take_nil, List.drop_succ_cons, List.drop_zero, List.drop_nil, List.head?_cons, List.all_cons, List.all_nil, ne_eq, Option.map_some, Option.map_none, Option.some.injEq, List.flatten_cons, List.flatten_nil, gt_iff_lt, List.any_nil, List.any_cons, List.map_append, List.length_map, List.length_append, Option.getD, argsT, Option.bind, Option.map, List.headD, List.tail, reduceIte, reduceDIte, Nat.reduceEqDiff, Nat.reduceAdd, Nat.reduceSub, Nat.reduceMul, Nat.reduceLT, reduceCtorEq, Int.reduceEq, Int.reduceLT, Int.reduceLE, Int.reduceNeg, Int.reduceToNat, Int.reduceBNe, Int.reduceBEq, Int.reduceAdd, Int.reduceSub, Int.reduceMul, opnsL, Nat.reduceLeDiff, Nat.reduceGT, List.replicate, Nat.reduceShiftRight, Nat.reduceMod, Nat.reduceBEq, lendsL, ty_Tadd_39, hb]
      refine loop_end (by simp) ⟨rfl, ⟨i, j, g⟩, trivial, ?_⟩
      (first | exact sub_mk subT_nil | skip) <;> (try simp only [amr, amc, List.getElem?_cons_zero, List.getElem?_cons_succ, if_true, if_false, List.nil_append, List.cons_append, List.append_eq, List.append_nil, List.map_nil, List.map_cons, List.contains_nil, List.contains_cons, List.flatMap_nil, List.flatMap_cons, List.cons.injEq, List.length_cons, List.length_nil, List.take_succ_cons, List.take_zero, List.take_nil, List.drop_succ_cons, List.drop_zero, List.drop_nil, List.head?_cons, List.all_cons, List.all_nil, ne_eq, Option.map_some, Option.map_none, Option.some.injEq, List.flatten_cons, List.flatten_nil, gt_iff_lt, List.any_nil, List.any_cons, List.map_append, List.length_map, List.length_append, Option.getD, argsT, Option.bind, Option.map, List.headD, List.tail, reduceIte, reduceDIte, Nat.reduceEqDiff, Nat.reduceAdd, Nat.reduceSub, Nat.reduceMul, Nat.reduceLT, reduceCtorEq, Int.reduceEq, Int.reduceLT, Int.reduceLE, Int.reduceNeg, Int.reduceToNat, Int.reduceBNe, Int.reduceBEq, Int.reduceAdd, Int.reduceSub, Int.reduceMul, opnsL, Nat.reduceLeDiff, Nat.reduceGT, List.replicate, Nat.reduceShiftRight, Nat.reduceMod, Nat.reduceBEq, lendsL]) <;> exact sub_mk (by repeat first | exact subT_nil | refine subT_cons (by first | rfl | simp [Tm.get, *]) ?_)
  · simp only [amr, amc, List.getElem?_cons_zero, List.getElem?_cons_succ, if_true, if_false, List.nil_append, List.cons_append, List.append_eq, List.append_nil, List.map_nil, List.map_cons, List.contains_nil, List.contains_cons, List.flatMap_nil, List.flatMap_cons, List.cons.injEq, List.length_cons, List.length_nil, List.take_succ_cons, List.take_zero, List.take_nil, List.drop_succ_cons, List.drop_zero, List.drop_nil, List.head?_cons, List.all_cons, List.all_nil, ne_eq, Option.map_some, Option.map_none, Option.some.injEq, List.flatten_cons, List.flatten_nil, gt_iff_lt, List.any_nil, List.any_cons, List.map_append, List.length_map, List.length_append, Option.getD, argsT, Option.bind, Option.map, List.headD, List.tail, reduceIte, reduceDIte, Nat.reduceEqDiff, Nat.reduceAdd, Nat.reduceSub, Nat.reduceMul, Nat.reduceLT, reduceCtorEq, Int.reduceEq, Int.reduceLT, Int.reduceLE, Int.reduceNeg, Int.reduceToNat, Int.reduceBNe, Int.reduceBEq, Int.reduceAdd, Int.reduceSub, Int.reduceMul, opnsL, Nat.reduceLeDiff, Nat.reduceGT, List.replicate, Nat.reduceShiftRight, Nat.reduceMod, Nat.reduceBEq, lendsL]
    (first | exact sub_mk subT_nil | skip) <;> (try simp only [amr, amc, List.getElem?_cons_zero, List.getElem?_cons_succ, if_true, if_false, List.nil_append, List.cons_append, List.append_eq, List.append_nil, List.map_nil, List.map_cons, List.contains_nil, List.contains_cons, List.flatMap_nil, List.flatMap_cons, List.cons.injEq, List.length_cons, List.length_nil, List.take_succ_cons, List.take_zero, List.take_nil, List.drop_succ_cons, List.drop_zero, List.drop_nil, List.head?_cons, List.all_cons, List.all_nil, ne_eq, Option.map_some, Option.map_none, Option.some.injEq, List.flatten_cons, List.flatten_nil, gt_iff_lt, List.any_nil, List.any_cons, List.map_append, List.length_map, List.length_append, Option.getD, argsT, Option.bind, Option.map, List.headD, List.tail, reduceIte, reduceDIte, Nat.reduceEqDiff, Nat.reduceAdd, Nat.reduceSub, Nat.reduceMul, Nat.reduceLT, reduceCtorEq, Int.reduceEq, Int.reduceLT, Int.reduceLE, Int.reduceNeg, Int.reduceToNat, Int.reduceBNe, Int.reduceBEq, Int.reduceAdd, Int.reduceSub, Int.reduceMul, opnsL, Nat.reduceLeDiff, Nat.reduceGT, List.replicate, Nat.reduceShiftRight, Nat.reduceMod, Nat.reduceBEq, lendsL]) <;> exact sub_mk (by repeat first | exact subT_nil | refine subT_cons (by first | rfl | simp [Tm.get, *]) ?_)
  · rintro o S' ⟨rfl, ⟨i0, j0, g⟩, _, hs⟩
    refine good_sub_cr up_fin hs ?_
    have hle := (bsf_le (tless l t) l.length 0 l.length (Nat.zero_le _)).2
    change tplace l t ≤ l.length at hle
    unfold tfound
    generalize tplace l t = i at *
    by_cases h1 : i < l.length
    · have hb : decide ((i : Int) < (l.length : Int)) = true := decide_eq_true (by omega)
      have hget : (l.map Timer.dv)[i]? = some (Timer.dv l[i]) := by rw [List.getElem?_map, List.getElem?_eq_getElem h1]; rfl
      rw [List.getElem?_eq_getElem h1]
      generalize l[i] = u at *
      have f2 := fun (S : St) (d dst : Nat) => cf_tcmp (d := d) (dst := dst) (S := S) u t
      have hq : (tcmp u t == 0) = decide (tcmp u t = 0) := rfl
      simp only [Timer.dv] at f2 hget
      simp only [amr, amc, List.getElem?_cons_zero, List.getElem?_cons_succ, if_true, if_false, List.nil_append, List.cons_append, List.append_eq, List.append_nil, List.map_nil, List.map_cons, List.contains_nil, List.contains_cons, List.flatMap_nil, List.flatMap_cons, List.cons.injEq, List.length_cons, List.length_nil, List.take_succ_cons, List.take_zero, List.take_nil, List.drop_succ_cons, List.drop_zero, List.drop_nil, List.head?_cons, List.all_cons, List.all_nil, ne_eq, Option.map_some, Option.map_none, Option.some.injEq, List.flatten_cons, List.flatten_nil, gt_iff_lt, List.any_nil, List.any_cons, List.map_append, List.length_map, List.length_append, Option.getD, argsT, Option.bind, Option.map, List.headD, List.tail, reduceIte, reduceDIte, Nat.reduceEqDiff, Nat.reduceAdd, Nat.reduceSub, Nat.reduceMul, Nat.reduceLT, reduceCtorEq, Int.reduceEq, Int.reduceLT, Int.reduceLE, Int.reduceNeg, Int.reduceToNat, Int.reduceBNe, Int.reduceBEq, Int.reduceAdd, Int.reduceSub, Int.reduceMul, opnsL, Nat.reduceLeDiff, Nat.reduceGT, List.replicate, Nat.reduceShiftRight, Nat.reduceMod, Nat.reduceBEq, lendsL, ty_Tadd_39, hb, hget, f2, hq]
    · have hb : decide ((i : Int) < (l.length : Int)) = false := decide_eq_false (by omega)
      rw [List.getElem?_eq_none (by omega)]
      simp only [amr, amc, List.getElem?_cons_zero, List.getElem?_cons_succ, if_true, if_false, List.nil_append, List.cons_append, List.append_eq, List.append_nil, List.map_nil, List.map_cons, List.contains_nil, List.contains_cons, List.flatMap_nil, List.flatMap_cons, List.cons.injEq, List.length_cons, List.length_nil, List.take_succ_cons, List.take_zero, List.take_nil, List.drop_succ_cons, List.drop_zero, List.drop_nil, List.head?_cons, List.all_cons, List.all_nil, ne_eq, Option.map_some, Option.map_none, Option.some.injEq, List.flatten_cons, List.flatten_nil, gt_iff_lt, List.any_nil, List.any_cons, List.map_append, List.length_map, List.length_append, Option.getD, argsT, Option.bind, Option.map, List.headD, List.tail, reduceIte, reduceDIte, Nat.reduceEqDiff, Nat.reduceAdd, Nat.reduceSub, Nat.reduceMul, Nat.reduceLT, reduceCtorEq, Int.reduceEq, Int.reduceLT, Int.reduceLE, Int.reduceNeg, Int.reduceToNat, Int.reduceBNe, Int.reduceBEq, Int.reduceAdd, Int.reduceSub, Int.reduceMul, opnsL, Nat.reduceLeDiff, Nat.reduceGT, List.replicate, Nat.reduceShiftRight, Nat.reduceMod, Nat.reduceBEq, lendsL, ty_Tadd_39, hb]
theorem cf_BinT {d dst : Nat} {S : St} (l : List Timer) (t : Timer) (hl : l.length ≤ 1048576) : callA tab (callR tab) d dst 39 [.d (.sl 2 (l.map Timer.dv)), .d (t.dv), .d (.fn 38 [])] S = some (.tup [.d (.int .i64 (tplace l t)), .d (.bool (tfound l t))], S) :=
  ca_ret_tup (ds := [.sl 2 (l.map Timer.dv), t.dv, .fn 38 []]) (ys := [.int .i64 (tplace l t), .bool (tfound l t)]) (ret_BinT l t hl) rfl (tab_opn (by kernel_rfl)) (tab_res (by kernel_rfl)) rfl
theorem ca_BinT {d dst : Nat} {S : St} (l : List Timer) (t_id : Int) (t_at_ : Int) (hl : l.length ≤ 1048576) : callA tab (callR tab) d dst 39 [.d (.sl 2 (l.map Timer.dv)), .d (.agg [.int .i64 t_id, .int .i64 t_at_]), .d (.fn 38 [])] S = some (.tup [.d (.int .i64 (tplace l (Timer.mk t_id t_at_))), .d (.bool (tfound l (Timer.mk t_id t_at_)))], S) :=
  ca_ret_tup (ds := [.sl 2 (l.map Timer.dv), .agg [.int .i64 t_id, .int .i64 t_at_], .fn 38 []]) (ys := [.int .i64 (tplace l (Timer.mk t_id t_at_)), .bool (tfound l (Timer.mk t_id t_at_))]) (ret_BinT l (Timer.mk t_id t_at_) hl) rfl (tab_opn (by kernel_rfl)) (tab_res (by kernel_rfl)) rfl
theorem elt_t (l : List Timer) : ∀ x ∈ l.map Timer.dv, Elt 2 x := by
  intro x hx
  obtain ⟨t, _, rfl⟩ := List.mem_map.1 hx
  exact ⟨rfl, by rw [if_neg (by decide)]; exact ⟨_, rfl⟩⟩
theorem flat_t (l : List Timer) : ((l.map Timer.dv).flatMap DV.cells).all DV.flat = true := by
  induction l with
  | nil => rfl
  | cons t r ih => rw [List.map_cons, List.flatMap_cons, List.all_append, ih]; rfl
def tins (l : List Timer) (t : Timer) : List Timer := l.take (tplace l t) ++ t :: l.drop (tplace l t)
def tadd (l : List Timer) (t : Timer) : List Timer × Int :=
  if tchk l ≠ 0 then ([], tchk l) else if tchk (tins l t) ≠ 0 then ([], tchk (tins l t)) else (tins l t, 0)
theorem ret_tadd (l : List Timer) (t : Timer) (hl : l.length ≤ 1048000) : RetT tab 14 [.d (.sl 2 (l.map Timer.dv)), .d (t.dv)] [.sl 2 ((tadd l t).1.map Timer.dv), .int .i64 ((tadd l t).2)] := by
  refine retq_good (1) fn14 rfl rfl ?_
  have f0 := fun (S : St) (d dst : Nat) => ca_tchk (d := d) (dst := dst) (S := S) l (by omega)
  have f1 := fun (S : St) (d dst : Nat) => cf_BinT (d := d) (dst := dst) (S := S) l t (by omega)
  have hle := (bsf_le (tless l t) l.length 0 l.length (Nat.zero_le _)).2
  change tplace l t ≤ l.length at hle
  unfold tadd tins
  simp only [Timer.dv] at f1
  generalize tchk l = e at *
  by_cases c0 : e = 0
  · have b0 : (e != 0) = false := by simp [c0]
    rw [if_neg (by simp [c0])]
    generalize tplace l t = i at *
    have hle2 : ((i : Int) ≤ (l.length : Int)) = True := eq_true (by omega)
    have hmt : (l.map Timer.dv).take i = (l.take i).map Timer.dv := (List.map_take ..).symm
    have hmd : ((l.map Timer.dv).take l.length).drop i = (l.drop i).map Timer.dv := by rw [List.take_of_length_le (by simp)]; exact (List.map_drop ..).symm
    have ha : (l.take i).length = i := by rw [List.length_take]; omega
    have hb : (l.drop i).length = l.length - i := List.length_drop
    generalize l.take i = a at *
    generalize l.drop i = b at *
    have hla : (a.map Timer.dv).length = i := by rw [List.length_map, ha]
    have hlb : (b.map Timer.dv).length = l.length - i := by rw [List.length_map, hb]
    have hfa : (flatD (a.map Timer.dv)).length = i * 2 := by rw [flatD_len _ (elt_t a), hla]
    have hfb : (flatD (b.map Timer.dv)).length = (l.length - i) * 2 := by rw [flatD_len _ (elt_t b), hlb]
    have hft : flatD [DV.agg [.int .i64 t.id, .int .i64 t.at_]] = [.d (.int .i64 t.id), .d (.int .i64 t.at_)] := rfl
    have hm : i + 1 + (l.length - i) ≤ 1048576 := by omega
    have hbx : flatD (a.map Timer.dv) ++ [.d (.int .i64 t.id), .d (.int .i64 t.at_)] ++ flatD (b.map Timer.dv) = flatD ((a ++ t :: b).map Timer.dv) := by
      rw [List.map_append, List.map_cons, show a.map Timer.dv ++ t.dv :: b.map Timer.dv = a.map Timer.dv ++ [t.dv] ++ b.map Timer.dv by simp, flatD_append, flatD_append]
      rfl
    have hlw : (a ++ t :: b).length = i + 1 + (l.length - i) := by simp only [List.length_append, List.length_cons]; omega
    generalize a ++ t :: b = w at *
    have f4 : ∀ (T : Tm) (id : Id) (g : List Nat) (d dst : Nat), callA tab (callR tab) d dst 13 [.arr id 0 w.length 2] ⟨T, [(id, .box (flatD (w.map Timer.dv)))], g⟩ = some (.d (.int .i64 (tchk w)), ⟨T, [(id, .box (flatD (w.map Timer.dv)))], g⟩) := fun T id g d dst => by
      have hz := frz_list0 (H := [(id, .box (flatD (w.map Timer.dv)))]) (id := id) (n := w.length) (by simp only [Heap.get, if_true]) (by rw [List.length_map]) (by decide) (elt_t w)
      exact ca_lent (ds := [.sl 2 (w.map Timer.dv)]) (ret_tchk w (by omega)) rfl (by rw [List.map_cons, hz]; rfl) (tab_lend (by kernel_rfl)) (tab_res (by kernel_rfl)) rfl
    have f5 : ∀ (T : Tm) (id : Id) (g : List Nat) (d : Nat), callA tab (callR tab) d 39 40 [.arr id 0 w.length 2] ⟨T, [(id, .box (flatD (w.map Timer.dv)))], g⟩ = some (.arr ⟨d, 39, 0 :: g⟩ 0 w.length 2, ⟨T, [(⟨d, 39, 0 :: g⟩, .box (flatD (w.map Timer.dv))), (id, .box (flatD (w.map Timer.dv)))], 1 :: g⟩) := fun T id g d => by
      have h := ca_cloneLT (d := d) (dst := 39) (S := ⟨T, [(id, .box (flatD (w.map Timer.dv)))], g⟩) (j := 0) (n := w.length) (id := id) (rest := []) (w.map Timer.dv) (by simp only [Heap.get, if_true, List.append_nil]) (by rw [List.length_map]) (fun h => by have := congrArg List.length h; rw [List.length_map, hlw] at this; simp at this) (elt_t w) (flat_t w) (by rw [List.length_map]; omega) (tab_thaw (by kernel_rfl))
      rw [List.length_map] at h
      exact h
    have f6 : ∀ (H : Heap) (id : Id), frzB ((id, .box (flatD (w.map Timer.dv))) :: H) (.arr id 0 w.length 2) = .d (.sl 2 (w.map Timer.dv)) := fun H id =>
      frz_list0 (by simp only [Heap.get, if_true]) (by rw [List.length_map]) (by decide) (elt_t w)
    generalize l.length - i = m at *
    by_cases hi : i = 0
    · subst hi
      obtain rfl := List.eq_nil_of_length_eq_zero ha
      have fc := fun (S : St) (d : Nat) => ca_clone0T (d := d) (dst := 25) (S := S) (j := 0) (tab_thaw (by kernel_rfl))
      rw [hlw] at f4 f5 f6
      have k3 : (1 + m) * 16 ≤ 140737488355328 := by omega
      simp only [Nat.zero_add] at f4 f5 f6
      by_cases hz : m = 0
      · subst hz
        obtain rfl := List.eq_nil_of_length_eq_zero hb
        simp only [List.map_nil, show flatD [] = [] from rfl, List.nil_append, List.append_nil] at hbx hmd hmt
        have hbx0 : Place.box [.d (.int .i64 t.id), .d (.int .i64 t.at_)] = Place.box (flatD (w.map Timer.dv)) := by rw [hbx]
        have hfw : (flatD (w.map Timer.dv)).length = 2 := by rw [← hbx]; rfl
        have hw1 : List.take 2 (flatD (w.map Timer.dv)) = flatD (w.map Timer.dv) := List.take_of_length_le (by omega)
        have hw2 : List.drop 2 (flatD (w.map Timer.dv)) = [] := List.drop_eq_nil_of_le (by omega)
        have hfn : flatD [] = [] := rfl
        simp only [Nat.add_zero] at f4 f5 f6
        by_cases c1 : tchk w = 0
        · have b1 : (tchk w != 0) = false := by simp [c1]
          rw [if_neg (by simp [c1])]
          simp only [amr, amc, List.getElem?_cons_zero, List.getElem?_cons_succ, if_true, if_false, List.nil_append, List.cons_append, List.append_eq, List.append_nil, List.map_nil, List.map_cons, List.contains_nil, List.contains_cons, List.flatMap_nil, List.flatMap_cons, List.cons.injEq, List.length_cons, List.length_nil, List.take_succ_cons, List.take_zero, List.take_nil, List.drop_succ_cons, List.drop_zero, List.drop_nil, List.head?_cons, List.all_cons, List.all_nil, ne_eq, Option.map_some, Option.map_none, Option.some.injEq, List.flatten_cons, List.flatten_nil, gt_iff_lt, List.any_nil, List.any_cons, List.map_append, List.length_map, List.length_append, Option.getD, argsT, Option.bind, Option.map, List.headD, List.tail, reduceIte, reduceDIte, Nat.reduceEqDiff, Nat.reduceAdd, Nat.reduceSub, Nat.reduceMul, Nat.reduceLT, reduceCtorEq, Int.reduceEq, Int.reduceLT, Int.reduceLE, Int.reduceNeg, Int.reduceToNat, Int.reduceBNe, Int.reduceBEq, Int.reduceAdd, Int.reduceSub, Int.reduceMul, opnsL, Nat.reduceLeDiff, Nat.reduceGT, List.replicate, Nat.reduceShiftRight, Nat.reduceMod, Nat.reduceBEq, lendsL, ty_Tadd_14, Timer.dv, f0, f1, b0, b1, hle2, hmt, hmd, fc, hft, hbx0, hfw, hw1, hw2, hfn, f4, f5, f6]
          rfl
        · have b1 : (tchk w != 0) = true := by simp [c1]
          rw [if_pos c1]
          simp only [amr, amc, List.getElem?_cons_zero, List.getElem?_cons_succ, if_true, if_false, List.nil_append, List.cons_append, List.append_eq, List.append_nil, List.map_nil, List.map_cons, List.contains_nil, List.contains_cons, List.flatMap_nil, List.flatMap_cons, List.cons.injEq, List.length_cons, List.length_nil, List.take_succ_cons, List.take_zero, List.take_nil, List.drop_succ_cons, List.drop_zero, List.drop_nil, List.head?_cons, List.all_cons, List.all_nil, ne_eq, Option.map_some, Option.map_none, Option.some.injEq, List.flatten_cons, List.flatten_nil, gt_iff_lt, List.any_nil, List.any_cons, List.map_append, List.length_map, List.length_append, Option.getD, argsT, Option.bind, Option.map, List.headD, List.tail, reduceIte, reduceDIte, Nat.reduceEqDiff, Nat.reduceAdd, Nat.reduceSub, Nat.reduceMul, Nat.reduceLT, reduceCtorEq, Int.reduceEq, Int.reduceLT, Int.reduceLE, Int.reduceNeg, Int.reduceToNat, Int.reduceBNe, Int.reduceBEq, Int.reduceAdd, Int.reduceSub, Int.reduceMul, opnsL, Nat.reduceLeDiff, Nat.reduceGT, List.replicate, Nat.reduceShiftRight, Nat.reduceMod, Nat.reduceBEq, lendsL, ty_Tadd_14, Timer.dv, f0, f1, b0, b1, hle2, hmt, hmd, fc, hft, hbx0, hfw, hw1, hw2, hfn, f4, f5, f6]
      · have k4 : ((1 + m) * 2 ≤ 2) = False := eq_false (by omega)
        simp only [List.map_nil, show flatD [] = [] from rfl, List.nil_append, List.cons_append] at hbx hmt
        by_cases c1 : tchk w = 0
        · have b1 : (tchk w != 0) = false := by simp [c1]
          rw [if_neg (by simp [c1])]
          simp only [amr, amc, List.getElem?_cons_zero, List.getElem?_cons_succ, if_true, if_false, List.nil_append, List.cons_append, List.append_eq, List.append_nil, List.map_nil, List.map_cons, List.contains_nil, List.contains_cons, List.flatMap_nil, List.flatMap_cons, List.cons.injEq, List.length_cons, List.length_nil, List.take_succ_cons, List.take_zero, List.take_nil, List.drop_succ_cons, List.drop_zero, List.drop_nil, List.head?_cons, List.all_cons, List.all_nil, ne_eq, Option.map_some, Option.map_none, Option.some.injEq, List.flatten_cons, List.flatten_nil, gt_iff_lt, List.any_nil, List.any_cons, List.map_append, List.length_map, List.length_append, Option.getD, argsT, Option.bind, Option.map, List.headD, List.tail, reduceIte, reduceDIte, Nat.reduceEqDiff, Nat.reduceAdd, Nat.reduceSub, Nat.reduceMul, Nat.reduceLT, reduceCtorEq, Int.reduceEq, Int.reduceLT, Int.reduceLE, Int.reduceNeg, Int.reduceToNat, Int.reduceBNe, Int.reduceBEq, Int.reduceAdd, Int.reduceSub, Int.reduceMul, opnsL, Nat.reduceLeDiff, Nat.reduceGT, List.replicate, Nat.reduceShiftRight, Nat.reduceMod, Nat.reduceBEq, lendsL, ty_Tadd_14, Timer.dv, f0, f1, b0, b1, hle2, hmt, hmd, fc, hft, k3, k4, hlb, hfb, hbx, f4, f5, f6]
          rfl
        · have b1 : (tchk w != 0) = true := by simp [c1]
          rw [if_pos c1]
          simp only [amr, amc, List.getElem?_cons_zero, List.getElem?_cons_succ, if_true, if_false, List.nil_append, List.cons_append, List.append_eq, List.append_nil, List.map_nil, List.map_cons, List.contains_nil, List.contains_cons, List.flatMap_nil, List.flatMap_cons, List.cons.injEq, List.length_cons, List.length_nil, List.take_succ_cons, List.take_zero, List.take_nil, List.drop_succ_cons, List.drop_zero, List.drop_nil, List.head?_cons, List.all_cons, List.all_nil, ne_eq, Option.map_some, Option.map_none, Option.some.injEq, List.flatten_cons, List.flatten_nil, gt_iff_lt, List.any_nil, List.any_cons, List.map_append, List.length_map, List.length_append, Option.getD, argsT, Option.bind, Option.map, List.headD, List.tail, reduceIte, reduceDIte, Nat.reduceEqDiff, Nat.reduceAdd, Nat.reduceSub, Nat.reduceMul, Nat.reduceLT, reduceCtorEq, Int.reduceEq, Int.reduceLT, Int.reduceLE, Int.reduceNeg, Int.reduceToNat, Int.reduceBNe, Int.reduceBEq, Int.reduceAdd, Int.reduceSub, Int.reduceMul, opnsL, Nat.reduceLeDiff, Nat.reduceGT, List.replicate, Nat.reduceShiftRight, Nat.reduceMod, Nat.reduceBEq, lendsL, ty_Tadd_14, Timer.dv, f0, f1, b0, b1, hle2, hmt, hmd, fc, hft, k3, k4, hlb, hfb, hbx, f4, f5, f6]
    · have fc := fun (S : St) (d : Nat) => ca_cloneT (d := d) (dst := 25) (S := S) (j := 0) (a.map Timer.dv) (fun h => hi (by rw [← hla, h]; rfl)) (elt_t a) (by rw [hla]; omega) (tab_thaw (by kernel_rfl))
      rw [hla] at fc
      have k1 : (i + 1) * 16 ≤ 140737488355328 := by omega
      have k2 : ((i + 1) * 2 ≤ i * 2) = False := eq_false (by omega)
      rw [hlw] at f4 f5 f6
      have k3 : (i + 1 + m) * 16 ≤ 140737488355328 := by omega
      have hbx2 : List.take ((i + 1) * 2) (flatD (a.map Timer.dv) ++ [.d (.int .i64 t.id), .d (.int .i64 t.at_)]) ++ flatD (b.map Timer.dv) ++ List.drop ((i + 1) * 2 + m * 2) (flatD (a.map Timer.dv) ++ [.d (.int .i64 t.id), .d (.int .i64 t.at_)]) = flatD (w.map Timer.dv) := by
        rw [List.take_of_length_le (by simp [hfa]; omega), List.drop_eq_nil_of_le (by simp [hfa]; omega), List.append_nil, hbx]
      have k5 : ((i + 1) * 2 = i * 2 + 2) = True := eq_true (by omega)
      by_cases c1 : tchk w = 0
      · have b1 : (tchk w != 0) = false := by simp [c1]
        rw [if_neg (by simp [c1])]
        by_cases hz : m = 0
        · have k4 : ((i + 1 + m) * 2 ≤ i * 2 + 2) = True := eq_true (by omega)
          simp only [amr, amc, List.getElem?_cons_zero, List.getElem?_cons_succ, if_true, if_false, List.nil_append, List.cons_append, List.append_eq, List.append_nil, List.map_nil, List.map_cons, List.contains_nil, List.contains_cons, List.flatMap_nil, List.flatMap_cons, List.cons.injEq, List.length_cons, List.length_nil, List.take_succ_cons, List.take_zero, List.take_nil, List.drop_succ_cons, List.drop_zero, List.drop_nil, List.head?_cons, List.all_cons, List.all_nil, ne_eq, Option.map_some, Option.map_none, Option.some.injEq, List.flatten_cons, List.flatten_nil, gt_iff_lt, List.any_nil, List.any_cons, List.map_append, List.length_map, List.length_append, Option.getD, argsT, Option.bind, Option.map, List.headD, List.tail, reduceIte, reduceDIte, Nat.reduceEqDiff, Nat.reduceAdd, Nat.reduceSub, Nat.reduceMul, Nat.reduceLT, reduceCtorEq, Int.reduceEq, Int.reduceLT, Int.reduceLE, Int.reduceNeg, Int.reduceToNat, Int.reduceBNe, Int.reduceBEq, Int.reduceAdd, Int.reduceSub, Int.reduceMul, opnsL, Nat.reduceLeDiff, Nat.reduceGT, List.replicate, Nat.reduceShiftRight, Nat.reduceMod, Nat.reduceBEq, lendsL, ty_Tadd_14, Timer.dv, f0, f1, b0, b1, hle2, hmt, hmd, fc, hfa, hft, k1, k2, k3, k4, k5, hlb, hfb, hbx, hbx2, f4, f5, f6]
          rfl
        · have k4 : ((i + 1 + m) * 2 ≤ i * 2 + 2) = False := eq_false (by omega)
          simp only [amr, amc, List.getElem?_cons_zero, List.getElem?_cons_succ, if_true, if_false, List.nil_append, List.cons_append, List.append_eq, List.append_nil, List.map_nil, List.map_cons, List.contains_nil, List.contains_cons, List.flatMap_nil, List.flatMap_cons, List.cons.injEq, List.length_cons, List.length_nil, List.take_succ_cons, List.take_zero, List.take_nil, List.drop_succ_cons, List.drop_zero, List.drop_nil, List.head?_cons, List.all_cons, List.all_nil, ne_eq, Option.map_some, Option.map_none, Option.some.injEq, List.flatten_cons, List.flatten_nil, gt_iff_lt, List.any_nil, List.any_cons, List.map_append, List.length_map, List.length_append, Option.getD, argsT, Option.bind, Option.map, List.headD, List.tail, reduceIte, reduceDIte, Nat.reduceEqDiff, Nat.reduceAdd, Nat.reduceSub, Nat.reduceMul, Nat.reduceLT, reduceCtorEq, Int.reduceEq, Int.reduceLT, Int.reduceLE, Int.reduceNeg, Int.reduceToNat, Int.reduceBNe, Int.reduceBEq, Int.reduceAdd, Int.reduceSub, Int.reduceMul, opnsL, Nat.reduceLeDiff, Nat.reduceGT, List.replicate, Nat.reduceShiftRight, Nat.reduceMod, Nat.reduceBEq, lendsL, ty_Tadd_14, Timer.dv, f0, f1, b0, b1, hle2, hmt, hmd, fc, hfa, hft, k1, k2, k3, k4, k5, hlb, hfb, hbx, f4, f5, f6]
          rfl
      · have b1 : (tchk w != 0) = true := by simp [c1]
        rw [if_pos c1]
        by_cases hz : m = 0
        · have k4 : ((i + 1 + m) * 2 ≤ i * 2 + 2) = True := eq_true (by omega)
          simp only [amr, amc, List.getElem?_cons_zero, List.getElem?_cons_succ, if_true, if_false, List.nil_append, List.cons_append, List.append_eq, List.append_nil, List.map_nil, List.map_cons, List.contains_nil, List.contains_cons, List.flatMap_nil, List.flatMap_cons, List.cons.injEq, List.length_cons, List.length_nil, List.take_succ_cons, List.take_zero, List.take_nil, List.drop_succ_cons, List.drop_zero, List.drop_nil, List.head?_cons, List.all_cons, List.all_nil, ne_eq, Option.map_some, Option.map_none, Option.some.injEq, List.flatten_cons, List.flatten_nil, gt_iff_lt, List.any_nil, List.any_cons, List.map_append, List.length_map, List.length_append, Option.getD, argsT, Option.bind, Option.map, List.headD, List.tail, reduceIte, reduceDIte, Nat.reduceEqDiff, Nat.reduceAdd, Nat.reduceSub, Nat.reduceMul, Nat.reduceLT, reduceCtorEq, Int.reduceEq, Int.reduceLT, Int.reduceLE, Int.reduceNeg, Int.reduceToNat, Int.reduceBNe, Int.reduceBEq, Int.reduceAdd, Int.reduceSub, Int.reduceMul, opnsL, Nat.reduceLeDiff, Nat.reduceGT, List.replicate, Nat.reduceShiftRight, Nat.reduceMod, Nat.reduceBEq, lendsL, ty_Tadd_14, Timer.dv, f0, f1, b0, b1, hle2, hmt, hmd, fc, hfa, hft, k1, k2, k3, k4, k5, hlb, hfb, hbx, hbx2, f4, f5, f6]
        · have k4 : ((i + 1 + m) * 2 ≤ i * 2 + 2) = False := eq_false (by omega)
          simp only [amr, amc, List.getElem?_cons_zero, List.getElem?_cons_succ, if_true, if_false, List.nil_append, List.cons_append, List.append_eq, List.append_nil, List.map_nil, List.map_cons, List.contains_nil, List.contains_cons, List.flatMap_nil, List.flatMap_cons, List.cons.injEq, List.length_cons, List.length_nil, List.take_succ_cons, List.take_zero, List.take_nil, List.drop_succ_cons, List.drop_zero, List.drop_nil, List.head?_cons, List.all_cons, List.all_nil, ne_eq, Option.map_some, Option.map_none, Option.some.injEq, List.flatten_cons, List.flatten_nil, gt_iff_lt, List.any_nil, List.any_cons, List.map_append, List.length_map, List.length_append, Option.getD, argsT, Option.bind, Option.map, List.headD, List.tail, reduceIte, reduceDIte, Nat.reduceEqDiff, Nat.reduceAdd, Nat.reduceSub, Nat.reduceMul, Nat.reduceLT, reduceCtorEq, Int.reduceEq, Int.reduceLT, Int.reduceLE, Int.reduceNeg, Int.reduceToNat, Int.reduceBNe, Int.reduceBEq, Int.reduceAdd, Int.reduceSub, Int.reduceMul, opnsL, Nat.reduceLeDiff, Nat.reduceGT, List.replicate, Nat.reduceShiftRight, Nat.reduceMod, Nat.reduceBEq, lendsL, ty_Tadd_14, Timer.dv, f0, f1, b0, b1, hle2, hmt, hmd, fc, hfa, hft, k1, k2, k3, k4, k5, hlb, hfb, hbx, f4, f5, f6]
  · have b0 : (e != 0) = true := by simp [c0]
    rw [if_pos c0]
    simp only [amr, amc, List.getElem?_cons_zero, List.getElem?_cons_succ, if_true, if_false, List.nil_append, List.cons_append, List.append_eq, List.append_nil, List.map_nil, List.map_cons, List.contains_nil, List.contains_cons, List.flatMap_nil, List.flatMap_cons, List.cons.injEq, List.length_cons, List.length_nil, List.take_succ_cons, List.take_zero, List.take_nil, List.drop_succ_cons, List.drop_zero, List.drop_nil, List.head?_cons, List.all_cons, List.all_nil, ne_eq, Option.map_some, Option.map_none, Option.some.injEq, List.flatten_cons, List.flatten_nil, gt_iff_lt, List.any_nil, List.any_cons, List.map_append, List.length_map, List.length_append, Option.getD, argsT, Option.bind, Option.map, List.headD, List.tail, reduceIte, reduceDIte, Nat.reduceEqDiff, Nat.reduceAdd, Nat.reduceSub, Nat.reduceMul, Nat.reduceLT, reduceCtorEq, Int.reduceEq, Int.reduceLT, Int.reduceLE, Int.reduceNeg, Int.reduceToNat, Int.reduceBNe, Int.reduceBEq, Int.reduceAdd, Int.reduceSub, Int.reduceMul, opnsL, Nat.reduceLeDiff, Nat.reduceGT, List.replicate, Nat.reduceShiftRight, Nat.reduceMod, Nat.reduceBEq, lendsL, ty_Tadd_14, Timer.dv, f0, b0]
theorem cf_tadd {d dst : Nat} {S : St} (l : List Timer) (t : Timer) (hl : l.length ≤ 1048000) : callA tab (callR tab) d dst 14 [.d (.sl 2 (l.map Timer.dv)), .d (t.dv)] S = some (.tup [.d (.sl 2 ((tadd l t).1.map Timer.dv)), .d (.int .i64 ((tadd l t).2))], S) :=
  ca_retT (ds := [.sl 2 (l.map Timer.dv), t.dv]) (ret_tadd l t hl) rfl (tab_opn (by kernel_rfl)) (tab_res (by kernel_rfl))
theorem ca_tadd {d dst : Nat} {S : St} (l : List Timer) (t_id : Int) (t_at_ : Int) (hl : l.length ≤ 1048000) : callA tab (callR tab) d dst 14 [.d (.sl 2 (l.map Timer.dv)), .d (.agg [.int .i64 t_id, .int .i64 t_at_])] S = some (.tup [.d (.sl 2 ((tadd l (Timer.mk t_id t_at_)).1.map Timer.dv)), .d (.int .i64 ((tadd l (Timer.mk t_id t_at_)).2))], S) :=
  ca_retT (ds := [.sl 2 (l.map Timer.dv), .agg [.int .i64 t_id, .int .i64 t_at_]]) (ret_tadd l (Timer.mk t_id t_at_) hl) rfl (tab_opn (by kernel_rfl)) (tab_res (by kernel_rfl))
end Go.Proofs.Ytghjhlngaigdiaa.Am
