/- Fields turned round by the library. -/
import Derived.Test.YtnombkkfijlkfaaFmG
set_option linter.unusedVariables false
set_option linter.unusedSimpArgs false
namespace Go.Proofs.Ytnombkkfijlkfaa.Am
open Go Go.RowKit
theorem ty_FmR_44 : type_of% (ai (ai (ai (ai (ai @rs44 (ai @lv44_0 @lv44_1)) (ai (ai @dr44_3 @lv44_3) (ai @lv44_2 @kp44_1))) (ai (ai (ai @und3 @sz3) (ai @ag3 @lv3)) (ai (ai @inf3 @und4) (ai @sz4 @ag4)))) (ai (ai (ai (ai @lv4 @inf4) (ai @und9 @sz9)) (ai (ai @ag9 @lv9) (ai @inf9 @und23))) (ai (ai (ai @sz23 @ag23) (ai @pT23 @inf23)) (ai (ai @und29 @sz29) (ai @ag29 @fo29))))) (ai (ai (ai (ai @bA29 (ai @pT29_0 @pT29_1)) (ai (ai @pT29_2 @lv29) (ai @inf29 @und30))) (ai (ai (ai @sz30 @ag30) (ai @pT30 @inf30)) (ai (ai @und32 @sz32) (ai @ag32 @fo32)))) (ai (ai (ai (ai @bA32 @pT32_0) (ai @pT32_1 @pT32_2)) (ai (ai @pT32_3 @inf32) (ai @und34 @sz34))) (ai (ai (ai @ag34 @fo34) (ai @bA34 @pT34_0)) (ai (ai @pT34_1 @pT34_2) (ai @pT34_3 @inf34)))))) := (ai (ai (ai (ai (ai @rs44 (ai @lv44_0 @lv44_1)) (ai (ai @dr44_3 @lv44_3) (ai @lv44_2 @kp44_1))) (ai (ai (ai @und3 @sz3) (ai @ag3 @lv3)) (ai (ai @inf3 @und4) (ai @sz4 @ag4)))) (ai (ai (ai (ai @lv4 @inf4) (ai @und9 @sz9)) (ai (ai @ag9 @lv9) (ai @inf9 @und23))) (ai (ai (ai @sz23 @ag23) (ai @pT23 @inf23)) (ai (ai @und29 @sz29) (ai @ag29 @fo29))))) (ai (ai (ai (ai @bA29 (ai @pT29_0 @pT29_1)) (ai (ai @pT29_2 @lv29) (ai @inf29 @und30))) (ai (ai (ai @sz30 @ag30) (ai @pT30 @inf30)) (ai (ai @und32 @sz32) (ai @ag32 @fo32)))) (ai (ai (ai (ai @bA32 @pT32_0) (ai @pT32_1 @pT32_2)) (ai (ai @pT32_3 @inf32) (ai @und34 @sz34))) (ai (ai (ai @ag34 @fo34) (ai @bA34 @pT34_0)) (ai (ai @pT34_1 @pT34_2) (ai @pT34_3 @inf34))))))
set_option maxRecDepth 100000
set_option maxHeartbeats 40000000



def fcells (x : Field) : List AV := [.d (.str x.name), .d (.int .i64 x.kind), .d (.int .i64 x.ty), .d (.int .i64 x.source.op), .d (.int .i64 x.source.v.kind), .d (.int .i64 x.source.v.n), .d (.str x.source.v.s), .d (.str x.source.name), .d (.sl 6 (x.source.args.map Exp.dv))]
theorem fd_cons (x : Field) (r : List Field) : flatD ((x :: r).map Field.dv) = fcells x ++ flatD (r.map Field.dv) := by simp [flatD, Field.dv, DV.cells, fcells]
theorem fcells_len (x : Field) : (fcells x).length = 9 := rfl
theorem fset : ∀ (l : List Field) (k : Nat) (y : Field), k < l.length → (flatD (l.map Field.dv)).take (k * 9) ++ fcells y ++ (flatD (l.map Field.dv)).drop (k * 9 + 9) = flatD ((l.set k y).map Field.dv)
  | [], k, y, h => by simp at h
  | z :: r, 0, y, h => by
    rw [List.append_assoc, List.set_cons_zero, fd_cons, fd_cons, Nat.zero_mul, Nat.zero_add, List.take_zero, List.nil_append, List.drop_append, List.drop_eq_nil_of_le (by rw [fcells_len]; omega), fcells_len]
    simp
  | z :: r, k + 1, y, h => by
    have ih := fset r k y (by simpa using h)
    rw [List.append_assoc] at ih ⊢
    rw [List.set_cons_succ, fd_cons, fd_cons, ← ih, show (k + 1) * 9 = (fcells z).length + k * 9 by rw [fcells_len]; omega, List.take_append, List.take_of_length_le (by omega), Nat.add_sub_cancel_left, Nat.add_assoc, List.drop_append, List.drop_eq_nil_of_le (by omega), List.nil_append, Nat.add_sub_cancel_left, List.append_assoc]
theorem run_rev {d : Nat} {p : List Nat} (d0 t1 : Nat) (g1 : List Nat) (h : d0 < d) (xs : List Field) (hp : 0 < xs.length) (hl : xs.length ≤ 1048576) :
    ∃ x H', callR tab d 44 [.arr ⟨d0, t1, g1⟩ 0 xs.length 9] [(⟨d0, t1, g1⟩, fbox xs)] p = some (x, H') ∧ (soft tab 44 x = .tup [] ∧ H'.get ⟨d0, t1, g1⟩ = some (fbox xs.reverse)) := by
  have e1 : (d0 = d) = False := eq_false (by omega)
  have e2 : (d = d0) = False := eq_false (by omega)
  have hd1 : decide (d0 < d) = true := decide_eq_true h
  have hfb : ∀ xs, fbox xs = .box (flatD (xs.map Field.dv)) := fun xs => rfl
  have w0 : IntKind.i64.wrap ((xs.length : Int) - 1) = ((xs.length - 1 : Nat) : Int) := by rw [wrap_in (by omega) (by omega)]; omega
  rw [← turn_rev xs (List.length_pos_iff.1 hp)]
  refine retq_good (xs.length + 1) fn44 rfl rfl ?_
  simp only [amr, amc, amp, if_true, if_false, ne_eq, gt_iff_lt, Option.getD, argsT, Option.bind, Option.map, List.headD, List.tail, opnsL, List.replicate, lendsL, seval, ty_FmR_44, e1, e2, hd1, hfb, w0]
  refine good_loopR (α := Nat × Nat × List Field × List Nat) (fun x => x.1 + x.2.1 + 1 = xs.length ∧ x.2.2.1.length = xs.length ∧ ∃ m, m + x.1 = xs.length ∧ turn m x.1 x.2.1 x.2.2.1 = turn xs.length 0 (xs.length - 1) xs)
    (fun x => ⟨[(0, .arr ⟨d0, t1, g1⟩ 0 xs.length 9), (2, .d (.int .i64 (x.1 : Nat))), (3, .d (.int .i64 (x.2.1 : Nat)))], [(⟨d0, t1, g1⟩, .box (flatD (x.2.2.1.map Field.dv)))], x.2.2.2⟩) (fun x => xs.length - x.1)
    (fun _ => QX (.exit 0) (fun (_ : Unit) g => ⟨[], [(⟨d0, t1, g1⟩, .box (flatD ((turn xs.length 0 (xs.length - 1) xs).map Field.dv)))], g⟩) ()) (0, xs.length - 1, xs, p) kp44_1 (fun _ => up_qx ()) ⟨by simp only; omega, rfl, xs.length, by simp, rfl⟩ (by simp only; omega) ?_ ?_ ?_
  · rintro ⟨i, j, ys, g⟩ ⟨h1, h2, m, h3, h4⟩
    simp only at h1 h2 h3 h4
    by_cases hij : i < j
    · have b1 : decide ((i : Int) < (j : Int)) = true := decide_eq_true (by omega)
      have hi : i < ys.length := by omega
      have hj : j < ys.length := by omega
      have gi := List.getElem?_eq_getElem hi
      have gj := List.getElem?_eq_getElem hj
      have w1 : IntKind.i64.wrap ((i : Int) + 1) = ((i + 1 : Nat) : Int) := by rw [wrap_in (by omega) (by omega)]; rfl
      have w2 : IntKind.i64.wrap ((j : Int) - 1) = ((j - 1 : Nat) : Int) := by rw [wrap_in (by omega) (by omega)]; omega
      have k1 : ((i : Int) < (xs.length : Int)) = True := eq_true (by omega)
      have k2 : ((j : Int) < (xs.length : Int)) = True := eq_true (by omega)
      obtain ⟨R1, q1⟩ := fdrop' gi
      obtain ⟨R2, q2⟩ := fdrop' gj
      have s1 := fset ys i ys[j] hi
      have s2 := fset (ys.set i ys[j]) j ys[i] (by rw [List.length_set]; exact hj)
      have l1 : (flatD (ys.map Field.dv)).length = xs.length * 9 := by rw [flatD_len _ (elt_fd ys), List.length_map, h2]
      have l2 : (flatD ((ys.set i ys[j]).map Field.dv)).length = xs.length * 9 := by rw [flatD_len _ (elt_fd _), List.length_map, List.length_set, h2]
      have hm : ∃ m', m = m' + 1 := ⟨m - 1, by omega⟩
      obtain ⟨m', rfl⟩ := hm
      rw [turn, gi, gj] at h4
      simp only [if_pos hij] at h4
      have r1 : (9 ≤ R1.length + 1 + 1 + 1 + 1 + 1 + 1 + 1 + 1 + 1) = True := eq_true (by omega)
      have r2 : (9 ≤ R2.length + 1 + 1 + 1 + 1 + 1 + 1 + 1 + 1 + 1) = True := eq_true (by omega)
      have c1 : (i * 9 + 9 ≤ xs.length * 9) = True := eq_true (by omega)
      have c2 : (j * 9 + 9 ≤ xs.length * 9) = True := eq_true (by omega)
      simp only [fcells] at s1 s2
      generalize hzs : (ys.set i ys[j]).set j ys[i] = zs at *
      have hzl : zs.length = xs.length := by rw [← hzs]; simp [h2]
      clear hzs
      generalize ys[i] = x at *
      generalize ys[j] = y at *
      generalize flatD (ys.map Field.dv) = C at *
      generalize flatD ((ys.set i y).map Field.dv) = C1 at *
      simp only [amr, amc, amp, if_true, if_false, ne_eq, gt_iff_lt, Option.getD, argsT, Option.bind, Option.map, List.headD, List.tail, opnsL, List.replicate, lendsL, seval, ty_FmR_44, b1, e1, e2, hd1, k1, k2, q1, q2, r1, r2, w1, w2, l1, l2, c1, c2, s1, s2]
      refine loop_nrm (i + 1, j - 1, zs, 1 :: g) ⟨by simp only; omega, hzl, m', by omega, h4⟩ (by simp only; omega) (fun _ _ h => h) ?_
      simp only [amr, amc, amp, if_true, if_false, ne_eq, gt_iff_lt, Option.getD, argsT, Option.bind, Option.map, List.headD, List.tail, opnsL, List.replicate, lendsL, seval, e1, e2, hd1]
      trace_state
      (first | exact sub_mk subT_nil | skip) <;> (try simp only [amr, amc, amp, if_true, if_false, ne_eq, gt_iff_lt, Option.getD, argsT, Option.bind, Option.map, List.headD, List.tail, opnsL, List.replicate, lendsL, seval]) <;> exact sub_mk (by repeat first | exact subT_nil | refine subT_cons (by first | rfl | simp [Tm.get, *]) ?_)
    · have b1 : decide ((i : Int) < (j : Int)) = false := decide_eq_false (by omega)
      have hm : turn m i j ys = ys := by
        cases m with
        | zero => rfl
        | succ m =>
          unfold turn
          rw [List.getElem?_eq_getElem (show i < ys.length by omega), List.getElem?_eq_getElem (show j < ys.length by omega)]
          simp only [if_neg hij]
      rw [hm] at h4
      rw [← h4]
      simp only [amr, amc, amp, if_true, if_false, ne_eq, gt_iff_lt, Option.getD, argsT, Option.bind, Option.map, List.headD, List.tail, opnsL, List.replicate, lendsL, seval, ty_FmR_44, b1, e1, e2, hd1]
      refine loop_end (by simp) ⟨rfl, ?_⟩
      (apply Exists.intro; (try simp only [amr, amc, amp, if_true, if_false, ne_eq, gt_iff_lt, Option.getD, argsT, Option.bind, Option.map, List.headD, List.tail, opnsL, List.replicate, lendsL, seval, e1, e2, hd1]); exact sub_mk (by repeat first | exact subT_nil | refine subT_cons (by first | rfl | simp [Tm.get, *]) ?_))
  · simp only [amr, amc, amp, if_true, if_false, ne_eq, gt_iff_lt, Option.getD, argsT, Option.bind, Option.map, List.headD, List.tail, opnsL, List.replicate, lendsL, seval, e1, e2, hd1]
    (first | exact sub_mk subT_nil | skip) <;> (try simp only [amr, amc, amp, if_true, if_false, ne_eq, gt_iff_lt, Option.getD, argsT, Option.bind, Option.map, List.headD, List.tail, opnsL, List.replicate, lendsL, seval]) <;> exact sub_mk (by repeat first | exact subT_nil | refine subT_cons (by first | rfl | simp [Tm.get, *]) ?_)
  · rintro o S' ⟨rfl, g, hs⟩
    refine good_sub_cr up_finq hs ?_
    simp only [amr, amc, amp, if_true, if_false, ne_eq, gt_iff_lt, Option.getD, argsT, Option.bind, Option.map, List.headD, List.tail, opnsL, List.replicate, lendsL, seval, ty_FmR_44]
    have hs : soft tab 44 (.tup []) = .tup [] := by unfold soft; split <;> rfl
    exact ⟨rfl, hs, by simp [Heap.get]⟩
theorem ca_rev {d dst : Nat} {S : St} (d0 t1 : Nat) (g1 : List Nat) (h : d0 ≤ d) (xs : List Field) (hp : 0 < xs.length) (hl : xs.length ≤ 1048576) (hS : S.H.get ⟨d0, t1, g1⟩ = some (fbox xs)) :
    callA tab (callR tab) d dst 44 [.arr ⟨d0, t1, g1⟩ 0 xs.length 9] S = some (.tup [], ⟨S.T, upd [(⟨d0, t1, g1⟩, fbox xs.reverse)] S.H, 1 :: S.g⟩) := by
  obtain ⟨x, H', h1, h2, h3⟩ := run_rev (p := 0 :: S.g) d0 t1 g1 (Nat.lt_succ_of_le h) xs hp hl
  exact ca_open1 (by split <;> rfl) (lent_off (tab_lend (by kernel_rfl))) rfl (ids_flat _) (ids_flat _) ⟨x, H', h1, h2, h3⟩ rfl hS
end Go.Proofs.Ytnombkkfijlkfaa.Am
