/- ClockMoves, walked. -/
import Derived.Test.YtghjhlngaigdiaaTimers
import Derived.Test.YtghjhlngaigdiaaTdue
set_option linter.unusedVariables false
set_option linter.unusedSimpArgs false
namespace Go.Proofs.Ytghjhlngaigdiaa.Am
open Go Go.RowKit
theorem ty_ClkMoves_5 : type_of% (And.intro (And.intro (And.intro (And.intro (And.intro (And.intro @rs5 @lv5_0) (And.intro @lv5_1 @lv5_2)) (And.intro (And.intro @lv5_3 @lv5_4) (And.intro @lv5_5 @lv5_6))) (And.intro (And.intro (And.intro @inf1 @und2) (And.intro @sz2 @ag2)) (And.intro (And.intro @lv2 @inf2) (And.intro @und3 (And.intro @sz3 @ag3))))) (And.intro (And.intro (And.intro (And.intro @lv3 @inf3) (And.intro @und4 @sz4)) (And.intro (And.intro @ag4 @lv4) (And.intro @inf4 @und9))) (And.intro (And.intro (And.intro @sz9 @ag9) (And.intro @lv9 @inf9)) (And.intro (And.intro @und22 @sz22) (And.intro @ag22 (And.intro @pT22 @inf22)))))) (And.intro (And.intro (And.intro (And.intro (And.intro @und23 @sz23) (And.intro @ag23 @pT23)) (And.intro (And.intro @inf23 @und27) (And.intro @sz27 @ag27))) (And.intro (And.intro (And.intro @fo27 @bA27) (And.intro @pT27_0 @pT27_1)) (And.intro (And.intro @lv27 @inf27) (And.intro @und28 (And.intro @sz28 @ag28))))) (And.intro (And.intro (And.intro (And.intro @lv28 @inf28) (And.intro @und47 @sz47)) (And.intro (And.intro @ag47 @fo47) (And.intro @bA47 @pT47_0))) (And.intro (And.intro (And.intro @pT47_1 @pT47_2) (And.intro @pT47_3 @inf47)) (And.intro (And.intro @und79 @sz79) (And.intro @ag79 (And.intro @pT79 @inf79))))))) := (And.intro (And.intro (And.intro (And.intro (And.intro (And.intro @rs5 @lv5_0) (And.intro @lv5_1 @lv5_2)) (And.intro (And.intro @lv5_3 @lv5_4) (And.intro @lv5_5 @lv5_6))) (And.intro (And.intro (And.intro @inf1 @und2) (And.intro @sz2 @ag2)) (And.intro (And.intro @lv2 @inf2) (And.intro @und3 (And.intro @sz3 @ag3))))) (And.intro (And.intro (And.intro (And.intro @lv3 @inf3) (And.intro @und4 @sz4)) (And.intro (And.intro @ag4 @lv4) (And.intro @inf4 @und9))) (And.intro (And.intro (And.intro @sz9 @ag9) (And.intro @lv9 @inf9)) (And.intro (And.intro @und22 @sz22) (And.intro @ag22 (And.intro @pT22 @inf22)))))) (And.intro (And.intro (And.intro (And.intro (And.intro @und23 @sz23) (And.intro @ag23 @pT23)) (And.intro (And.intro @inf23 @und27) (And.intro @sz27 @ag27))) (And.intro (And.intro (And.intro @fo27 @bA27) (And.intro @pT27_0 @pT27_1)) (And.intro (And.intro @lv27 @inf27) (And.intro @und28 (And.intro @sz28 @ag28))))) (And.intro (And.intro (And.intro (And.intro @lv28 @inf28) (And.intro @und47 @sz47)) (And.intro (And.intro @ag47 @fo47) (And.intro @bA47 @pT47_0))) (And.intro (And.intro (And.intro @pT47_1 @pT47_2) (And.intro @pT47_3 @inf47)) (And.intro (And.intro @und79 @sz79) (And.intro @ag79 (And.intro @pT79 @inf79)))))))
set_option maxRecDepth 100000
set_option maxHeartbeats 40000000

theorem twn_add {α : Type} {q p : α → Bool} (hqp : ∀ x, q x = true → p x = true) : ∀ (l : List α), twn p l 0 = twn q l 0 + twn p (l.drop (twn q l 0)) 0
  | [] => rfl
  | x :: r => by
    by_cases h : q x = true
    · have e1 : twn p (x :: r) 0 = twn p r 0 + 1 := by rw [twn, if_pos (hqp x h), twn_eq, twn_eq]; omega
      have e2 : twn q (x :: r) 0 = twn q r 0 + 1 := by rw [twn, if_pos h, twn_eq, twn_eq]; omega
      rw [e1, e2, List.drop_succ_cons, twn_add hqp r]
      omega
    · have e2 : twn q (x :: r) 0 = 0 := by rw [twn, if_neg h]
      rw [e2]
      simp
theorem TOk.rest {l : List Timer} (h : TOk l) (n : Nat) : TOk (l.drop n) where
  len := by rw [List.length_drop]; have := h.len; omega
  rng := fun t ht => h.rng t (List.mem_of_mem_drop ht)
  ord := h.ord.sublist (List.drop_sublist n l)
  ids := h.ids.sublist (List.drop_sublist n l)
theorem TOk.due {l : List Timer} (h : TOk l) (m : Int) : tdue l m = (l.take (tdueN m l), l.drop (tdueN m l), 0) := by
  unfold tdue
  rw [if_neg (by rw [h.chk]; simp)]
theorem due_two {t : List Timer} (h : TOk t) {m n : Int} (hmn : m ≤ n) : ∃ x rest y left, tdue t m = (x, rest, 0) ∧ tdue rest n = (y, left, 0) ∧ tdue t n = (x ++ y, left, 0) ∧ rest.length ≤ 20 ∧ (x.length + y.length) ≤ 20 ∧ left.length ≤ 20 := by
  have hl := h.len
  have ha : tdueN n t = tdueN m t + tdueN n (t.drop (tdueN m t)) := twn_add (fun x hx => by simp only [decide_eq_true_eq] at hx ⊢; omega) t
  refine ⟨_, _, _, _, h.due m, (h.rest _).due n, ?_, ?_, ?_, ?_⟩
  · rw [h.due n, ha, List.drop_drop, List.take_add]
  · rw [List.length_drop]; omega
  · rw [← List.length_append, ← List.take_add, List.length_take]; omega
  · rw [List.length_drop, List.length_drop]; omega
theorem ret_ClockMoves (l : List Raw) (a b : Int) (hl : l.length ≤ 9223372036854775807) (hr : ∀ r ∈ l, r.ok) (ha : -9223372036854775808 ≤ a ∧ a ≤ 9223372036854775807) (hb : -9223372036854775808 ≤ b ∧ b ≤ 9223372036854775807) : Ret tab 5 [.d (.sl 4 (l.map Raw.dv)), .d (.int .i64 (a)), .d (.int .i64 (b))] (.d (.bool (true))) := by
  refine ret_of (1) fn5 rfl rfl ?_
  have f0 := fun (S : St) (d dst : Nat) => ca_timers (d := d) (dst := dst) (S := S) l hl hr
  have p1 := fun (S : St) (d dst : Nat) => ca_picked (d := d) (dst := dst) (S := S) a 40 (by decide)
  have p2 := fun (S : St) (d dst : Nat) => ca_picked (d := d) (dst := dst) (S := S) b 40 (by decide)
  have hi := tms_inv l hr
  have hlen := hi.len
  generalize tms l = t at *
  generalize pick a 40 = p at *
  generalize pick b 40 = q at *
  have hm : (if q < p then q else p) ≤ (if p < q then q else p) := by split <;> split <;> omega
  generalize hm1 : (if q < p then q else p) = m at *
  generalize hm2 : (if p < q then q else p) = n at *
  obtain ⟨x, rest, y, left, h1, h2, h3, l1, l2, l3⟩ := due_two hi.ok hm
  have f1 := fun (S : St) (d dst : Nat) => ca_Due (d := d) (dst := dst) (S := S) t m (by omega)
  have f2 := fun (S : St) (d dst : Nat) => ca_Due (d := d) (dst := dst) (S := S) rest n (by omega)
  have f3 := fun (S : St) (d dst : Nat) => ca_Due (d := d) (dst := dst) (S := S) t n (by omega)
  rw [h1] at f1
  rw [h2] at f2
  rw [h3] at f3
  have f4 := fun (S : St) (d dst : Nat) => ca_catT (d := d) (dst := dst) (S := S) (x.map Timer.dv) (y.map Timer.dv) (elt_t _) (elt_t _) (by rw [List.length_map, List.length_map]; omega)
  have f5 := fun (S : St) (d dst : Nat) => ca_EqT (d := d) (dst := dst) (S := S) (x ++ y) (x ++ y) (by rw [List.length_append]; omega)
  have f6 := fun (S : St) (d dst : Nat) => ca_EqT (d := d) (dst := dst) (S := S) left left (by omega)
  rw [show decide (x ++ y = x ++ y) = true from decide_eq_true rfl, List.map_append] at f5
  rw [show decide (left = left) = true from decide_eq_true rfl] at f6
  simp only [List.map_append] at f3
  clear h1 h2 h3 hm
  simp only [amr, amc, List.getElem?_cons_zero, List.getElem?_cons_succ, if_true, if_false, List.nil_append, List.cons_append, List.append_eq, List.append_nil, List.map_nil, List.map_cons, List.contains_nil, List.contains_cons, List.flatMap_nil, List.flatMap_cons, List.cons.injEq, List.length_cons, List.length_nil, List.take_succ_cons, List.take_zero, List.take_nil, List.drop_succ_cons, List.drop_zero, List.drop_nil, List.head?_cons, List.all_cons, List.all_nil, ne_eq, Option.map_some, Option.map_none, Option.some.injEq, List.flatten_cons, List.flatten_nil, gt_iff_lt, List.any_nil, List.any_cons, List.map_append, List.length_map, List.length_append, Option.getD, argsT, Option.bind, Option.map, List.headD, List.tail, reduceIte, reduceDIte, Nat.reduceEqDiff, Nat.reduceAdd, Nat.reduceSub, Nat.reduceMul, Nat.reduceLT, reduceCtorEq, Int.reduceEq, Int.reduceLT, Int.reduceLE, Int.reduceNeg, Int.reduceToNat, Int.reduceBNe, Int.reduceBEq, Int.reduceAdd, Int.reduceSub, Int.reduceMul, opnsL, Nat.reduceLeDiff, Nat.reduceGT, List.replicate, Nat.reduceShiftRight, Nat.reduceMod, Nat.reduceBEq, lendsL, ty_ClkMoves_5, f0, p1, p2, f1, f2, f3, f4, f5, f6, hm1, hm2]
theorem ca_ClockMoves {d dst : Nat} {S : St} (l : List Raw) (a b : Int) (hl : l.length ≤ 9223372036854775807) (hr : ∀ r ∈ l, r.ok) (ha : -9223372036854775808 ≤ a ∧ a ≤ 9223372036854775807) (hb : -9223372036854775808 ≤ b ∧ b ≤ 9223372036854775807) : callA tab (callR tab) d dst 5 [.d (.sl 4 (l.map Raw.dv)), .d (.int .i64 (a)), .d (.int .i64 (b))] S = some (.d (.bool (true)), S) :=
  ca_ret (ds := [.sl 4 (l.map Raw.dv), .int .i64 (a), .int .i64 (b)]) (ret_ClockMoves l a b hl hr ha hb) rfl (tab_opn (by kernel_rfl)) (tab_res (by kernel_rfl))
end Go.Proofs.Ytghjhlngaigdiaa.Am
