/- Timers taken out. -/
import Derived.Test.YtghjhlngaigdiaaTadd
set_option linter.unusedVariables false
set_option linter.unusedSimpArgs false
namespace Go.Proofs.Ytghjhlngaigdiaa.Am
open Go Go.RowKit
theorem ty_Del_41 : type_of% (And.intro (And.intro (And.intro (And.intro (And.intro @rs41 @lv41_0) (And.intro @lv41_1 @mu23_13)) (And.intro (And.intro @lv41_2 @lv41_3) (And.intro @lv41_4 (And.intro @dr41_5 @lv41_5)))) (And.intro (And.intro (And.intro @mu23_22 @mu23_25) (And.intro @mu23_26 (And.intro @lv41_6 @mu23_31))) (And.intro (And.intro @lv41_7 @und3) (And.intro @sz3 (And.intro @ag3 @lv3))))) (And.intro (And.intro (And.intro (And.intro @inf3 @und4) (And.intro @sz4 (And.intro @ag4 @lv4))) (And.intro (And.intro @inf4 @und23) (And.intro @sz23 (And.intro @ag23 @pT23)))) (And.intro (And.intro (And.intro @inf23 @und27) (And.intro @sz27 (And.intro @ag27 @fo27))) (And.intro (And.intro @bA27 @pT27_0) (And.intro @pT27_1 (And.intro @lv27 @inf27)))))) := (And.intro (And.intro (And.intro (And.intro (And.intro @rs41 @lv41_0) (And.intro @lv41_1 @mu23_13)) (And.intro (And.intro @lv41_2 @lv41_3) (And.intro @lv41_4 (And.intro @dr41_5 @lv41_5)))) (And.intro (And.intro (And.intro @mu23_22 @mu23_25) (And.intro @mu23_26 (And.intro @lv41_6 @mu23_31))) (And.intro (And.intro @lv41_7 @und3) (And.intro @sz3 (And.intro @ag3 @lv3))))) (And.intro (And.intro (And.intro (And.intro @inf3 @und4) (And.intro @sz4 (And.intro @ag4 @lv4))) (And.intro (And.intro @inf4 @und23) (And.intro @sz23 (And.intro @ag23 @pT23)))) (And.intro (And.intro (And.intro @inf23 @und27) (And.intro @sz27 (And.intro @ag27 @fo27))) (And.intro (And.intro @bA27 @pT27_0) (And.intro @pT27_1 (And.intro @lv27 @inf27))))))
set_option maxRecDepth 100000
set_option maxHeartbeats 40000000

/-- One of a list's things is taken out where it stands. -/
theorem run_delT {d : Nat} {g : List Nat} {id : Id} (a : List DV) (x : DV) (b : List DV) (hx : ∀ y ∈ a ++ x :: b, Elt 2 y) (hl : a.length + 1 + b.length ≤ 1048576) :
    ∃ H', callR tab d 41 [.arr id 0 (a.length + 1 + b.length) 2, .d (.int .i64 a.length), .d (.int .i64 ((a.length : Int) + 1))] [(id, .box (flatD (a ++ x :: b)))] g = some (.arr id 0 (a.length + b.length) 2, H') ∧ H'.get id = some (.box (flatD (a ++ b) ++ [.d (.int .i64 0), .d (.int .i64 0)])) := by
  have hxa : ∀ y ∈ a, Elt 2 y := fun y hy => hx y (by simp [hy])
  have hxb : ∀ y ∈ b, Elt 2 y := fun y hy => hx y (by simp [hy])
  have hx0 : Elt 2 x := hx x (by simp)
  have la := flatD_len a hxa
  have lb := flatD_len b hxb
  have lc : (flatD (a ++ x :: b)).length = (a.length + 1 + b.length) * 2 := by rw [flatD_len _ hx]; simp only [List.length_append, List.length_cons]; congr 1; omega
  have lx := flatD_len [x] (by simpa using hx0)
  have hc : flatD (a ++ x :: b) = flatD a ++ flatD [x] ++ flatD b := by rw [← flatD_append, ← flatD_append]; simp
  generalize hn : a.length = n at *
  generalize hm : b.length = m at *
  have b0 : ((n : Int) == (n : Int) + 1) = false := by simp; omega
  refine ret_good rfl 1 fn41 rfl rfl ?_ (by simp [isAlt])
  have k1 : ((n + 1 + m) * 2 - 0) / 2 = n + 1 + m := by omega
  have k2 : (((n + 1 + m : Nat) : Int) ≤ ((n + 1 + m : Nat) : Int)) = True := eq_true (by omega)
  have k3 : ((n : Int) + 1 ≤ ((n + 1 + m : Nat) : Int)) = True := eq_true (by omega)
  have k4 : (0 ≤ (n + 1 + m) * 2) = True := eq_true (by omega)
  have k5 : ((n : Int) ≤ (n : Int) + 1) = True := eq_true (by omega)
  have k6 : ((n : Int) ≤ ((n + 1 + m : Nat) : Int)) = True := eq_true (by omega)
  have k7 : (0 ≤ (n : Int) + 1) = True := eq_true (by omega)
  have k8 : ((n : Int) ≤ ((n + 1 : Nat) : Int)) = True := eq_true (by omega)
  have k9 : n + 1 + m - n ≠ 0 := by omega
  have k10 : n + 1 - n = 1 := by omega
  have k11 : n + 1 + m - (n + 1) = m := by omega
  have k12 : (n ≤ 9223372036854775807) = True := eq_true (by omega)
  have k13 : (m ≤ 9223372036854775807) = True := eq_true (by omega)
  have k14 : (((n + 1 : Nat) : Int) ≤ ((n + 1 + m : Nat) : Int)) = True := eq_true (by omega)
  have k15 : (n + 1 + m ≤ 9223372036854775807) = True := eq_true (by omega)
  have k16 : (n + m) * 16 ≤ 140737488355328 := by omega
  have k17 : ((n + m) * 2 ≤ (n + 1 + m) * 2) = True := eq_true (by omega)
  have t1 : ((n : Int) + 1).toNat = n + 1 := by omega
  have h1 : List.take (m * 2) (List.drop ((n + 1) * 2) (flatD (a ++ x :: b))) = flatD b := by
    rw [hc, List.drop_append_of_le_length (by simp only [List.length_append, la, lx, List.length_cons, List.length_nil]; omega), List.drop_eq_nil_of_le (by simp only [List.length_append, la, lx, List.length_cons, List.length_nil]; omega), List.nil_append, List.take_of_length_le (by omega)]
  have h2 : List.take (n * 2) (flatD (a ++ x :: b)) = flatD a := by
    rw [hc, List.append_assoc, ← la, List.take_left]
  have h3 : flatD [] = [] := rfl
  have k18 : ((n + 1) * 2 + m * 2 ≤ (n + 1 + m) * 2) = True := eq_true (by omega)
  have k19 : (n * 2 ≤ (n + 1 + m) * 2) = True := eq_true (by omega)
  have k20 : n * 16 ≤ 140737488355328 := by omega
  generalize hC : flatD (a ++ x :: b) = C at *
  have hR : (List.drop (n * 2 + m * 2) C).length = 2 := by rw [List.length_drop, lc]; omega
  have k21 : (n * 2 + m * 2 + 2 - 0) / 2 = n + 1 + m := by omega
  have k22 : (((n + m : Nat) : Int) ≤ ((n + 1 + m : Nat) : Int)) = True := eq_true (by omega)
  have k23 : n + 1 + m - (n + m) = 1 := by omega
  have k24 : (n + m = n + 1 + m) = False := eq_false (by omega)
  have k25 : ((n + m) * 2 + 2 ≤ n * 2 + m * 2 + 2) = True := eq_true (by omega)
  by_cases hz : m = 0
  · have hR1 : (List.drop (n * 2) C).length = 2 := by rw [List.length_drop, lc]; omega
    have k31 : (n * 2 + 2 - 0) / 2 = n + 1 + m := by omega
    have k33 : n + 1 + m - n = 1 := by omega
    have k34 : (n = n + 1 + m) = False := eq_false (by omega)
    have k35 : (if n = 0 then AV.arr id 0 (n + 1 + m) 2 else AV.arr id (n * 2) 1 2) = AV.arr id (n * 2) 1 2 := by
      split
      · rename_i h; subst h; subst hz; rfl
      · rfl
    have z1 : (n + 1 = n + 1 + m) = True := eq_true (by omega)
    simp only [amr, amc, List.getElem?_cons_zero, List.getElem?_cons_succ, if_true, if_false, List.nil_append, List.cons_append, List.append_eq, List.append_nil, List.map_nil, List.map_cons, List.contains_nil, List.contains_cons, List.flatMap_nil, List.flatMap_cons, List.cons.injEq, List.length_cons, List.length_nil, List.take_succ_cons, List.take_zero, List.take_nil, List.drop_succ_cons, List.drop_zero, List.drop_nil, List.head?_cons, List.all_cons, List.all_nil, ne_eq, Option.map_some, Option.map_none, Option.some.injEq, List.flatten_cons, List.flatten_nil, gt_iff_lt, List.any_nil, List.any_cons, List.map_append, List.length_map, List.length_append, Option.getD, argsT, Option.bind, Option.map, List.headD, List.tail, reduceIte, reduceDIte, Nat.reduceEqDiff, Nat.reduceAdd, Nat.reduceSub, Nat.reduceMul, Nat.reduceLT, reduceCtorEq, Int.reduceEq, Int.reduceLT, Int.reduceLE, Int.reduceNeg, Int.reduceToNat, Int.reduceBNe, Int.reduceBEq, Int.reduceAdd, Int.reduceSub, Int.reduceMul, opnsL, Nat.reduceLeDiff, Nat.reduceGT, List.replicate, Nat.reduceShiftRight, Nat.reduceMod, Nat.reduceBEq, lendsL, ty_Del_41, b0, lc, k1, k2, k3, k4, k5, k6, k7, k8, k9, k10, k11, k12, k13, k14, k15, k16, k17, t1, h1, h2, h3, k18, k19, k20, la, lb, Nat.zero_le, hR, k21, k22, k23, k24, k25, hR1, k31, k33, k34, k35, z1]
    subst hz
    obtain rfl := List.eq_nil_of_length_eq_zero hm
    refine ⟨rfl, congrArg Place.box (by rw [List.append_nil]; exact fin_cells la hR1)⟩
  · have k36 : (n + m = 0) = False := eq_false (by omega)
    have z1 : (n + 1 = n + 1 + m) = False := eq_false (by omega)
    simp only [amr, amc, List.getElem?_cons_zero, List.getElem?_cons_succ, if_true, if_false, List.nil_append, List.cons_append, List.append_eq, List.append_nil, List.map_nil, List.map_cons, List.contains_nil, List.contains_cons, List.flatMap_nil, List.flatMap_cons, List.cons.injEq, List.length_cons, List.length_nil, List.take_succ_cons, List.take_zero, List.take_nil, List.drop_succ_cons, List.drop_zero, List.drop_nil, List.head?_cons, List.all_cons, List.all_nil, ne_eq, Option.map_some, Option.map_none, Option.some.injEq, List.flatten_cons, List.flatten_nil, gt_iff_lt, List.any_nil, List.any_cons, List.map_append, List.length_map, List.length_append, Option.getD, argsT, Option.bind, Option.map, List.headD, List.tail, reduceIte, reduceDIte, Nat.reduceEqDiff, Nat.reduceAdd, Nat.reduceSub, Nat.reduceMul, Nat.reduceLT, reduceCtorEq, Int.reduceEq, Int.reduceLT, Int.reduceLE, Int.reduceNeg, Int.reduceToNat, Int.reduceBNe, Int.reduceBEq, Int.reduceAdd, Int.reduceSub, Int.reduceMul, opnsL, Nat.reduceLeDiff, Nat.reduceGT, List.replicate, Nat.reduceShiftRight, Nat.reduceMod, Nat.reduceBEq, lendsL, ty_Del_41, b0, lc, k1, k2, k3, k4, k5, k6, k7, k8, k9, k10, k11, k12, k13, k14, k15, k16, k17, t1, h1, h2, h3, k18, k19, k20, la, lb, Nat.zero_le, hR, k21, k22, k23, k24, k25, k36, z1]
    exact congrArg Place.box (by rw [flatD_append]; exact fin_cells (by rw [List.length_append, la, lb]; omega) hR)
theorem ca_delT {d dst : Nat} {T : Tm} {g : List Nat} {id : Id} (a : List DV) (x : DV) (b : List DV) (hx : ∀ y ∈ a ++ x :: b, Elt 2 y) (hl : a.length + 1 + b.length ≤ 1048576) :
    callA tab (callR tab) d dst 41 [.arr id 0 (a.length + 1 + b.length) 2, .d (.int .i64 a.length), .d (.int .i64 ((a.length : Int) + 1))] ⟨T, [(id, .box (flatD (a ++ x :: b)))], g⟩ =
      some (.arr id 0 (a.length + b.length) 2, ⟨T, [(id, .box (flatD (a ++ b) ++ [.d (.int .i64 0), .d (.int .i64 0)]))], 1 :: g⟩) := by
  obtain ⟨H', h1, h2⟩ := run_delT (d := d + 1) (g := 0 :: g) (id := id) a x b hx hl
  have h := ca_open1 (d := d) (dst := dst) (S := ⟨T, [(id, .box (flatD (a ++ x :: b)))], g⟩) (id := id) (cs := flatD (a ++ x :: b)) (cs' := flatD (a ++ b) ++ [.d (.int .i64 0), .d (.int .i64 0)]) (by split <;> rfl) (lent_off (tab_lend (by kernel_rfl))) rfl (ids_flat _) (by rw [ids_app, ids_flat]; rfl)
    ⟨_, H', h1, soft_arr, h2⟩ (by show addIds [id] [id] = [id]; simp [addIds]) (by simp only [Heap.get, if_true])
  rw [h]
  simp only [upd, Heap.get, if_true, Option.getD_some]
theorem ca_delRT {d dst : Nat} {T : Tm} {g : List Nat} {id : Id} {rest : Heap} (hrest : ∀ p, upd [(id, p)] rest = rest) (a : List DV) (x : DV) (b : List DV) (hx : ∀ y ∈ a ++ x :: b, Elt 2 y) (hl : a.length + 1 + b.length ≤ 1048576) :
    callA tab (callR tab) d dst 41 [.arr id 0 (a.length + 1 + b.length) 2, .d (.int .i64 a.length), .d (.int .i64 ((a.length : Int) + 1))] ⟨T, (id, .box (flatD (a ++ x :: b))) :: rest, g⟩ =
      some (.arr id 0 (a.length + b.length) 2, ⟨T, (id, .box (flatD (a ++ b) ++ [.d (.int .i64 0), .d (.int .i64 0)])) :: rest, 1 :: g⟩) := by
  obtain ⟨H', h1, h2⟩ := run_delT (d := d + 1) (g := 0 :: g) (id := id) a x b hx hl
  have h := ca_open1 (d := d) (dst := dst) (S := ⟨T, (id, .box (flatD (a ++ x :: b))) :: rest, g⟩) (id := id) (cs := flatD (a ++ x :: b)) (cs' := flatD (a ++ b) ++ [.d (.int .i64 0), .d (.int .i64 0)]) (by split <;> rfl) (lent_off (tab_lend (by kernel_rfl))) rfl (ids_flat _) (by rw [ids_app, ids_flat]; rfl)
    ⟨_, H', h1, soft_arr, h2⟩ (by show addIds [id] [id] = [id]; simp [addIds]) (by simp only [Heap.get, if_true])
  rw [h]
  simp only [upd, Heap.get, if_true, Option.getD_some, hrest]
end Go.Proofs.Ytghjhlngaigdiaa.Am
