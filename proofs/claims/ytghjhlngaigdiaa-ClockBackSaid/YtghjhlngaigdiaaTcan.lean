/- Timers sent away. -/
import Derived.Test.YtghjhlngaigdiaaTeq
set_option linter.unusedVariables false
set_option linter.unusedSimpArgs false
namespace Go.Proofs.Ytghjhlngaigdiaa.Am
open Go Go.RowKit
theorem ty_Tcan_16 : type_of% (And.intro (And.intro (And.intro (And.intro (And.intro @rs16 @lv16_0) (And.intro @lv16_1 @lv16_2)) (And.intro (And.intro @lv16_3 @lv16_4) (And.intro @lv16_5 (And.intro @lv16_6 @lv16_7)))) (And.intro (And.intro (And.intro @und3 @sz3) (And.intro @ag3 (And.intro @lv3 @inf3))) (And.intro (And.intro @und4 @sz4) (And.intro @ag4 (And.intro @lv4 @inf4))))) (And.intro (And.intro (And.intro (And.intro @und23 @sz23) (And.intro @ag23 @pT23)) (And.intro (And.intro @inf23 @und27) (And.intro @sz27 (And.intro @ag27 @fo27)))) (And.intro (And.intro (And.intro @bA27 @pT27_0) (And.intro @pT27_1 (And.intro @lv27 @inf27))) (And.intro (And.intro @und28 @sz28) (And.intro @ag28 (And.intro @lv28 @inf28)))))) := (And.intro (And.intro (And.intro (And.intro (And.intro @rs16 @lv16_0) (And.intro @lv16_1 @lv16_2)) (And.intro (And.intro @lv16_3 @lv16_4) (And.intro @lv16_5 (And.intro @lv16_6 @lv16_7)))) (And.intro (And.intro (And.intro @und3 @sz3) (And.intro @ag3 (And.intro @lv3 @inf3))) (And.intro (And.intro @und4 @sz4) (And.intro @ag4 (And.intro @lv4 @inf4))))) (And.intro (And.intro (And.intro (And.intro @und23 @sz23) (And.intro @ag23 @pT23)) (And.intro (And.intro @inf23 @und27) (And.intro @sz27 (And.intro @ag27 @fo27)))) (And.intro (And.intro (And.intro @bA27 @pT27_0) (And.intro @pT27_1 (And.intro @lv27 @inf27))) (And.intro (And.intro @und28 @sz28) (And.intro @ag28 (And.intro @lv28 @inf28))))))
set_option maxRecDepth 100000
set_option maxHeartbeats 40000000

def tcan (l : List Timer) (n : Int) : List Timer × Int :=
  if tchk l ≠ 0 then ([], tchk l) else match tidx n l with
    | none => ([], 5)
    | some k => (l.eraseIdx k, 0)
theorem tidx_lt {n : Int} : ∀ {l : List Timer} {k : Nat}, tidx n l = some k → k < l.length
  | [], k, h => by simp [tidx] at h
  | t :: r, k, h => by
    unfold tidx at h
    split at h
    · simp at h; subst h; simp
    · cases hr : tidx n r with
      | none => rw [hr] at h; simp at h
      | some j =>
        rw [hr] at h
        simp at h
        have := tidx_lt hr
        subst h
        simp; omega
theorem ret_tcan (l : List Timer) (n : Int) (hl : l.length ≤ 1048000) : RetT tab 16 [.d (.sl 2 (l.map Timer.dv)), .d (.int .i64 (n))] [.sl 2 ((tcan l n).1.map Timer.dv), .int .i64 ((tcan l n).2)] := by
  refine retq_good (1) fn16 rfl rfl ?_
  have f0 := fun (S : St) (d dst : Nat) => ca_tchk (d := d) (dst := dst) (S := S) l (by omega)
  have f1 := fun (S : St) (d dst : Nat) => ca_tidx (d := d) (dst := dst) (S := S) l n (by omega)
  unfold tcan
  unfold tidxI at f1
  generalize tchk l = e at *
  by_cases c0 : e = 0
  · have b0 : (e != 0) = false := by simp [c0]
    rw [if_neg (by simp [c0])]
    cases hx : tidx n l with
    | none =>
      simp only [hx] at f1
      simp only [amr, amc, List.getElem?_cons_zero, List.getElem?_cons_succ, if_true, if_false, List.nil_append, List.cons_append, List.append_eq, List.append_nil, List.map_nil, List.map_cons, List.contains_nil, List.contains_cons, List.flatMap_nil, List.flatMap_cons, List.cons.injEq, List.length_cons, List.length_nil, List.take_succ_cons, List.take_zero, List.take_nil, List.drop_succ_cons, List.drop_zero, List.drop_nil, List.head?_cons, List.all_cons, List.all_nil, ne_eq, Option.map_some, Option.map_none, Option.some.injEq, List.flatten_cons, List.flatten_nil, gt_iff_lt, List.any_nil, List.any_cons, List.map_append, List.length_map, List.length_append, Option.getD, argsT, Option.bind, Option.map, List.headD, List.tail, reduceIte, reduceDIte, Nat.reduceEqDiff, Nat.reduceAdd, Nat.reduceSub, Nat.reduceMul, Nat.reduceLT, reduceCtorEq, Int.reduceEq, Int.reduceLT, Int.reduceLE, Int.reduceNeg, Int.reduceToNat, Int.reduceBNe, Int.reduceBEq, Int.reduceAdd, Int.reduceSub, Int.reduceMul, opnsL, Nat.reduceLeDiff, Nat.reduceGT, List.replicate, Nat.reduceShiftRight, Nat.reduceMod, Nat.reduceBEq, lendsL, ty_Tcan_16, f0, f1, b0]
    | some k =>
      simp only [hx] at f1
      have hk := tidx_lt hx
      have hs : l = l.take k ++ l[k] :: l.drop (k + 1) := by rw [← List.drop_eq_getElem_cons hk, List.take_append_drop]
      have he : l.eraseIdx k = l.take k ++ l.drop (k + 1) := List.eraseIdx_eq_take_drop_succ ..
      have ha : (l.take k).length = k := by rw [List.length_take]; omega
      have hb : (l.drop (k + 1)).length = l.length - (k + 1) := List.length_drop
      simp only [he]
      have fc := fun (S : St) (d : Nat) => ca_cloneT (d := d) (dst := 19) (S := S) (j := 0) (l.map Timer.dv) (fun h => by have := congrArg List.length h; rw [List.length_map] at this; simp only [List.length_nil] at this; omega) (elt_t l) (by rw [List.length_map]; omega) (tab_thaw (by kernel_rfl))
      rw [List.length_map] at fc
      have w1 : IntKind.i64.wrap ((k : Int) + 1) = (k : Int) + 1 := wrap_in (by omega) (by omega)
      have b1 : decide ((k : Int) < 0) = false := decide_eq_false (by omega)
      have fd : ∀ (T : Tm) (id : Id) (g : List Nat) (d dst : Nat), callA tab (callR tab) d dst 41 [.arr id 0 l.length 2, .d (.int .i64 k), .d (.int .i64 ((k : Int) + 1))] ⟨T, [(id, .box (flatD (l.map Timer.dv)))], g⟩ =
          some (.arr id 0 (l.take k ++ l.drop (k + 1)).length 2, ⟨T, [(id, .box (flatD ((l.take k ++ l.drop (k + 1)).map Timer.dv) ++ [.d (.int .i64 0), .d (.int .i64 0)]))], 1 :: g⟩) := fun T id g d dst => by
        have h := ca_delT (d := d) (dst := dst) (T := T) (g := g) (id := id) ((l.take k).map Timer.dv) l[k].dv ((l.drop (k + 1)).map Timer.dv) (by
          rw [← List.map_cons, ← List.map_append, ← hs]; exact elt_t l) (by simp only [List.length_map, ha, hb]; omega)
        rw [← List.map_cons, ← List.map_append, ← List.map_append, ← hs] at h
        simp only [List.length_map, ha, hb] at h
        rw [show k + 1 + (l.length - (k + 1)) = l.length by omega] at h
        simp only [List.length_append, ha, hb]
        exact h
      have hlw : (l.take k ++ l.drop (k + 1)).length + 1 = l.length := by rw [List.length_append, ha, hb]; omega
      clear he hs
      generalize l.take k ++ l.drop (k + 1) = w at *
      by_cases hw : w = []
      · subst hw
        have f5 : ∀ (T : Tm) (id : Id) (g : List Nat) (d : Nat) (cs : List AV), callA tab (callR tab) d 24 40 [.arr id 0 0 2] ⟨T, [(id, .box cs)], g⟩ = some (.own 2 [] none, ⟨T, [(id, .box cs)], g⟩) := fun T id g d cs =>
          ca_cloneL0T (j := 0) (cs := cs) (by simp only [Heap.get, if_true]) (tab_thaw (by kernel_rfl))
        simp only [amr, amc, List.getElem?_cons_zero, List.getElem?_cons_succ, if_true, if_false, List.nil_append, List.cons_append, List.append_eq, List.append_nil, List.map_nil, List.map_cons, List.contains_nil, List.contains_cons, List.flatMap_nil, List.flatMap_cons, List.cons.injEq, List.length_cons, List.length_nil, List.take_succ_cons, List.take_zero, List.take_nil, List.drop_succ_cons, List.drop_zero, List.drop_nil, List.head?_cons, List.all_cons, List.all_nil, ne_eq, Option.map_some, Option.map_none, Option.some.injEq, List.flatten_cons, List.flatten_nil, gt_iff_lt, List.any_nil, List.any_cons, List.map_append, List.length_map, List.length_append, Option.getD, argsT, Option.bind, Option.map, List.headD, List.tail, reduceIte, reduceDIte, Nat.reduceEqDiff, Nat.reduceAdd, Nat.reduceSub, Nat.reduceMul, Nat.reduceLT, reduceCtorEq, Int.reduceEq, Int.reduceLT, Int.reduceLE, Int.reduceNeg, Int.reduceToNat, Int.reduceBNe, Int.reduceBEq, Int.reduceAdd, Int.reduceSub, Int.reduceMul, opnsL, Nat.reduceLeDiff, Nat.reduceGT, List.replicate, Nat.reduceShiftRight, Nat.reduceMod, Nat.reduceBEq, lendsL, ty_Tcan_16, f0, f1, b0, b1, fc, w1, fd, f5]
      · have f5 : ∀ (T : Tm) (id : Id) (g : List Nat) (d : Nat) (r : List AV), callA tab (callR tab) d 24 40 [.arr id 0 w.length 2] ⟨T, [(id, .box (flatD (w.map Timer.dv) ++ r))], g⟩ = some (.arr ⟨d, 24, 0 :: g⟩ 0 w.length 2, ⟨T, [(⟨d, 24, 0 :: g⟩, .box (flatD (w.map Timer.dv))), (id, .box (flatD (w.map Timer.dv) ++ r))], 1 :: g⟩) := fun T id g d r => by
          have h := ca_cloneLT (d := d) (dst := 24) (S := ⟨T, [(id, .box (flatD (w.map Timer.dv) ++ r))], g⟩) (j := 0) (n := w.length) (id := id) (rest := r) (w.map Timer.dv) (by simp only [Heap.get, if_true]) (by rw [List.length_map]) (fun h => hw (List.map_eq_nil_iff.1 h)) (elt_t w) (flat_t w) (by rw [List.length_map]; omega) (tab_thaw (by kernel_rfl))
          rw [List.length_map] at h
          exact h
        have f6 : ∀ (H : Heap) (id : Id), frzB ((id, .box (flatD (w.map Timer.dv))) :: H) (.arr id 0 w.length 2) = .d (.sl 2 (w.map Timer.dv)) := fun H id =>
          frz_list0 (by simp only [Heap.get, if_true]) (by rw [List.length_map]) (by decide) (elt_t w)
        simp only [amr, amc, List.getElem?_cons_zero, List.getElem?_cons_succ, if_true, if_false, List.nil_append, List.cons_append, List.append_eq, List.append_nil, List.map_nil, List.map_cons, List.contains_nil, List.contains_cons, List.flatMap_nil, List.flatMap_cons, List.cons.injEq, List.length_cons, List.length_nil, List.take_succ_cons, List.take_zero, List.take_nil, List.drop_succ_cons, List.drop_zero, List.drop_nil, List.head?_cons, List.all_cons, List.all_nil, ne_eq, Option.map_some, Option.map_none, Option.some.injEq, List.flatten_cons, List.flatten_nil, gt_iff_lt, List.any_nil, List.any_cons, List.map_append, List.length_map, List.length_append, Option.getD, argsT, Option.bind, Option.map, List.headD, List.tail, reduceIte, reduceDIte, Nat.reduceEqDiff, Nat.reduceAdd, Nat.reduceSub, Nat.reduceMul, Nat.reduceLT, reduceCtorEq, Int.reduceEq, Int.reduceLT, Int.reduceLE, Int.reduceNeg, Int.reduceToNat, Int.reduceBNe, Int.reduceBEq, Int.reduceAdd, Int.reduceSub, Int.reduceMul, opnsL, Nat.reduceLeDiff, Nat.reduceGT, List.replicate, Nat.reduceShiftRight, Nat.reduceMod, Nat.reduceBEq, lendsL, ty_Tcan_16, f0, f1, b0, b1, fc, w1, fd, f5, f6]
        rfl
  · have b0 : (e != 0) = true := by simp [c0]
    rw [if_pos c0]
    simp only [amr, amc, List.getElem?_cons_zero, List.getElem?_cons_succ, if_true, if_false, List.nil_append, List.cons_append, List.append_eq, List.append_nil, List.map_nil, List.map_cons, List.contains_nil, List.contains_cons, List.flatMap_nil, List.flatMap_cons, List.cons.injEq, List.length_cons, List.length_nil, List.take_succ_cons, List.take_zero, List.take_nil, List.drop_succ_cons, List.drop_zero, List.drop_nil, List.head?_cons, List.all_cons, List.all_nil, ne_eq, Option.map_some, Option.map_none, Option.some.injEq, List.flatten_cons, List.flatten_nil, gt_iff_lt, List.any_nil, List.any_cons, List.map_append, List.length_map, List.length_append, Option.getD, argsT, Option.bind, Option.map, List.headD, List.tail, reduceIte, reduceDIte, Nat.reduceEqDiff, Nat.reduceAdd, Nat.reduceSub, Nat.reduceMul, Nat.reduceLT, reduceCtorEq, Int.reduceEq, Int.reduceLT, Int.reduceLE, Int.reduceNeg, Int.reduceToNat, Int.reduceBNe, Int.reduceBEq, Int.reduceAdd, Int.reduceSub, Int.reduceMul, opnsL, Nat.reduceLeDiff, Nat.reduceGT, List.replicate, Nat.reduceShiftRight, Nat.reduceMod, Nat.reduceBEq, lendsL, ty_Tcan_16, f0, b0]
theorem ca_tcan {d dst : Nat} {S : St} (l : List Timer) (n : Int) (hl : l.length ≤ 1048000) : callA tab (callR tab) d dst 16 [.d (.sl 2 (l.map Timer.dv)), .d (.int .i64 (n))] S = some (.tup [.d (.sl 2 ((tcan l n).1.map Timer.dv)), .d (.int .i64 ((tcan l n).2))], S) :=
  ca_retT (ds := [.sl 2 (l.map Timer.dv), .int .i64 (n)]) (ret_tcan l n hl) rfl (tab_opn (by kernel_rfl)) (tab_res (by kernel_rfl))
end Go.Proofs.Ytghjhlngaigdiaa.Am
