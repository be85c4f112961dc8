/- ClockBack, walked. -/
import Derived.Test.YtghjhlngaigdiaaTimers
import Derived.Test.YtghjhlngaigdiaaTcan
set_option linter.unusedVariables false
set_option linter.unusedSimpArgs false
namespace Go.Proofs.Ytghjhlngaigdiaa.Am
open Go Go.RowKit
theorem ty_ClkBack_4 : type_of% (And.intro (And.intro (And.intro (And.intro (And.intro @rs4 (And.intro @lv4_0 @lv4_1)) (And.intro (And.intro @lv4_2 @lv4_3) (And.intro @lv4_4 @lv4_5))) (And.intro (And.intro @lv4_6 (And.intro @inf1 @und3)) (And.intro (And.intro @sz3 @ag3) (And.intro @lv3 @inf3)))) (And.intro (And.intro (And.intro @und4 (And.intro @sz4 @ag4)) (And.intro (And.intro @lv4 @inf4) (And.intro @und9 @sz9))) (And.intro (And.intro (And.intro @ag9 @lv9) (And.intro @inf9 @und22)) (And.intro (And.intro @sz22 @ag22) (And.intro @pT22 @inf22))))) (And.intro (And.intro (And.intro (And.intro @und23 (And.intro @sz23 @ag23)) (And.intro (And.intro @pT23 @inf23) (And.intro @und27 @sz27))) (And.intro (And.intro @ag27 (And.intro @fo27 @bA27)) (And.intro (And.intro @pT27_0 @pT27_1) (And.intro @lv27 @inf27)))) (And.intro (And.intro (And.intro @und28 (And.intro @sz28 @ag28)) (And.intro (And.intro @lv28 @inf28) (And.intro @und47 @sz47))) (And.intro (And.intro (And.intro @ag47 @fo47) (And.intro @bA47 @pT47_0)) (And.intro (And.intro @pT47_1 @pT47_2) (And.intro @pT47_3 @inf47)))))) := (And.intro (And.intro (And.intro (And.intro (And.intro @rs4 (And.intro @lv4_0 @lv4_1)) (And.intro (And.intro @lv4_2 @lv4_3) (And.intro @lv4_4 @lv4_5))) (And.intro (And.intro @lv4_6 (And.intro @inf1 @und3)) (And.intro (And.intro @sz3 @ag3) (And.intro @lv3 @inf3)))) (And.intro (And.intro (And.intro @und4 (And.intro @sz4 @ag4)) (And.intro (And.intro @lv4 @inf4) (And.intro @und9 @sz9))) (And.intro (And.intro (And.intro @ag9 @lv9) (And.intro @inf9 @und22)) (And.intro (And.intro @sz22 @ag22) (And.intro @pT22 @inf22))))) (And.intro (And.intro (And.intro (And.intro @und23 (And.intro @sz23 @ag23)) (And.intro (And.intro @pT23 @inf23) (And.intro @und27 @sz27))) (And.intro (And.intro @ag27 (And.intro @fo27 @bA27)) (And.intro (And.intro @pT27_0 @pT27_1) (And.intro @lv27 @inf27)))) (And.intro (And.intro (And.intro @und28 (And.intro @sz28 @ag28)) (And.intro (And.intro @lv28 @inf28) (And.intro @und47 @sz47))) (And.intro (And.intro (And.intro @ag47 @fo47) (And.intro @bA47 @pT47_0)) (And.intro (And.intro @pT47_1 @pT47_2) (And.intro @pT47_3 @inf47))))))
set_option maxRecDepth 100000
set_option maxHeartbeats 40000000

theorem scan_two (f : Nat → Int) : ∀ (n a : Nat), (∀ k, a ≤ k → k < a + n → f k = 0 ∨ f k = 6) → (∃ k, a ≤ k ∧ k < a + n ∧ f k = 6) → scan f n a = 6
  | 0, a, _, ⟨k, h1, h2, _⟩ => by omega
  | n + 1, a, h, ⟨k, h1, h2, h3⟩ => by
    unfold scan
    by_cases h0 : f a = 0
    · rw [if_neg (by simp [h0])]
      refine scan_two f n (a + 1) (fun j hj1 hj2 => h j (by omega) (by omega)) ⟨k, ?_, by omega, h3⟩
      rcases Nat.lt_or_ge a k with hk | hk
      · exact hk
      · have : k = a := by omega
        subst this; omega
    · rw [if_pos h0]
      exact (h a (Nat.le_refl _) (by omega)).resolve_left h0
theorem tidx_some {n : Int} : ∀ {l : List Timer}, (∃ t ∈ l, t.id = n) → tidxI n l ≥ 0 := by
  intro l ⟨t, ht, hn⟩
  unfold tidxI
  cases hx : tidx n l with
  | some k => simp only; omega
  | none =>
    exfalso
    induction l with
    | nil => cases ht
    | cons u r ih =>
      unfold tidx at hx
      split at hx
      · cases hx
      · rename_i hu
        rcases List.mem_cons.1 ht with rfl | ht
        · exact hu hn
        · exact ih ht (by simpa using hx)
/-- Timers in order, two of one number among them. -/
theorem tchk_twice {l : List Timer} (h1 : l.length ≤ 20) (h2 : ∀ t ∈ l, 1 ≤ t.id ∧ 0 ≤ t.at_ ∧ t.at_ ≤ 1073741824) (h3 : l.Pairwise (fun a b => ¬ tlt b a)) (h4 : ¬ l.Pairwise (fun a b => a.id ≠ b.id)) : tchk l = 6 := by
  unfold tchk
  rw [if_neg (by omega)]
  refine scan_two _ _ _ (fun k _ hk => ?_) ?_
  · unfold tchkAt
    rw [List.getElem?_eq_getElem (by omega)]
    simp only
    unfold tchkOf
    have hr := h2 l[k] (List.getElem_mem (by omega))
    rw [if_neg (by omega)]
    split
    · exact .inr rfl
    · refine .inl ?_
      cases k with
      | zero => rfl
      | succ j =>
        simp only [tchkPr]
        rw [List.getElem?_eq_getElem (show j < l.length by omega)]
        simp only
        rw [if_neg]
        intro hc
        exact List.pairwise_iff_getElem.1 h3 j (j + 1) (by omega) (by omega) (by omega) (tcmp_pos.1 hc)
  · rw [List.pairwise_iff_getElem] at h4
    have h5 : ∃ i j, ∃ (hi : i < l.length) (hj : j < l.length), i < j ∧ l[i].id = l[j].id := by
      refine Classical.byContradiction fun hc => h4 fun i j hi hj hij he => hc ⟨i, j, hi, hj, hij, he⟩
    obtain ⟨i, j, hi, hj, hij, he⟩ := h5
    refine ⟨j, Nat.zero_le _, by omega, ?_⟩
    unfold tchkAt
    rw [List.getElem?_eq_getElem hj]
    simp only
    unfold tchkOf
    have hr := h2 l[j] (List.getElem_mem hj)
    rw [if_neg (by omega), if_pos]
    refine tidx_some ⟨l[i], ?_, he⟩
    exact List.mem_take_iff_getElem.2 ⟨i, by omega, rfl⟩
theorem tins_weak {l : List Timer} {t : Timer} (h : l.Pairwise tlt) : (tins l t).Pairwise (fun a b => ¬ tlt b a) := by
  obtain ⟨h1, h2⟩ := tplace_spec h t
  have ha : (l.take (tplace l t) ++ l.drop (tplace l t)).Pairwise (fun a b => ¬ tlt b a) := by
    rw [List.take_append_drop]
    exact h.imp fun h => tlt_irr h
  rw [List.pairwise_append] at ha
  unfold tins
  rw [List.pairwise_append, List.pairwise_cons]
  refine ⟨ha.1, ⟨h2, ha.2.1⟩, fun a h3 b h4 => ?_⟩
  rcases List.mem_cons.1 h4 with rfl | h4
  · exact tlt_irr (h1 a h3)
  · exact ha.2.2 a h3 b h4
theorem TOk.twice {l : List Timer} {t : Timer} (h : TOk l) (hl : l.length ≤ 19) (ht : 1 ≤ t.id ∧ 0 ≤ t.at_ ∧ t.at_ ≤ 1073741824) (hn : ∃ u ∈ l, u.id = t.id) : tadd l t = ([], 6) := by
  unfold tadd
  have h6 : tchk (tins l t) = 6 := by
    refine tchk_twice (by rw [tins_len]; omega) (fun u hu => ?_) (tins_weak h.ord) (fun hp => ?_)
    · rcases tins_mem.1 hu with rfl | hu
      · exact ht
      · exact h.rng u hu
    · have : (t :: l).Pairwise (fun a b : Timer => a.id ≠ b.id) := ((tins_perm l t).pairwise_iff (fun {a b} hab e => hab e.symm)).1 hp
      obtain ⟨u, hu, e⟩ := hn
      exact (List.pairwise_cons.1 this).1 u hu e.symm
  rw [if_neg (by rw [h.chk]; simp), if_pos (by rw [h6]; decide), h6]
theorem TOk.cancel {l : List Timer} {t : Timer} (h : TOk l) (hx : tchk (tins l t) = 0) (hn : ∀ u ∈ l, u.id ≠ t.id) : tcan (tins l t) t.id = (l, 0) := by
  have hp := (bsf_le (tless l t) l.length 0 l.length (Nat.zero_le _)).2
  change tplace l t ≤ l.length at hp
  have ha : (l.take (tplace l t)).length = tplace l t := by rw [List.length_take]; omega
  have ht : tidx t.id (tins l t) = some (tplace l t) := by
    have h1 : (tins l t).take (tplace l t) = l.take (tplace l t) := by
      unfold tins
      rw [List.take_append_of_le_length (by omega), List.take_of_length_le (by omega)]
    have h2 : (tins l t).drop (tplace l t) = t :: l.drop (tplace l t) := by
      unfold tins
      rw [List.drop_append_of_le_length (by omega), List.drop_eq_nil_of_le (by omega), List.nil_append]
    rw [tidx_ge t.id (tins l t) (tplace l t) (by rw [tins_len]; omega) (fun u hu => by rw [h1] at hu; exact hn u (List.mem_of_mem_take hu)), h2, tidx, if_pos rfl]
    simp
  unfold tcan
  rw [if_neg (by rw [hx]; simp), ht]
  simp only
  have he : (tins l t).eraseIdx (tplace l t) = l := by
    unfold tins
    rw [List.eraseIdx_append_of_length_le (by omega), ha, Nat.sub_self, List.eraseIdx_cons_zero, List.take_append_drop]
  rw [he]
theorem TOk.none {l : List Timer} {n : Int} (h : TOk l) (hn : ∀ u ∈ l, u.id ≠ n) : tcan l n = ([], 5) := by
  unfold tcan
  have := tidx_none hn
  unfold tidxI at this
  rw [if_neg (by rw [h.chk]; simp)]
  cases hx : tidx n l with
  | none => rfl
  | some k => rw [hx] at this; simp only at this; omega
theorem ret_ClockBack (l : List Raw) (a : Int) (hl : l.length ≤ 9223372036854775807) (hr : ∀ r ∈ l, r.ok) (ha : -9223372036854775808 ≤ a ∧ a ≤ 9223372036854775807) : Ret tab 4 [.d (.sl 4 (l.map Raw.dv)), .d (.int .i64 (a))] (.d (.bool (true))) := by
  refine ret_of (1) fn4 rfl rfl ?_
  have f0 := fun (S : St) (d dst : Nat) => ca_timers (d := d) (dst := dst) (S := S) l hl hr
  have p1 := fun (S : St) (d dst : Nat) => ca_picked (d := d) (dst := dst) (S := S) a 30 (by decide)
  have hp := pick_range a 30 ha.1 ha.2 (by decide)
  have hi := tms_inv l hr
  have hlen := hi.len
  generalize tms l = t at *
  generalize pick a 30 = p at *
  have hn : ∀ u ∈ t, u.id ≠ 99 := fun u hu e => by
    have h1 := hi.ids u hu
    have h2 := hi.ids2 u hu
    omega
  have hu : 1 ≤ (⟨99, p⟩ : Timer).id ∧ 0 ≤ (⟨99, p⟩ : Timer).at_ ∧ (⟨99, p⟩ : Timer).at_ ≤ 1073741824 := ⟨by simp, by simp only; omega, by simp only; omega⟩
  have hx := hi.ok.ins (t := ⟨99, p⟩) (by omega) hu hn
  have f1 := fun (S : St) (d dst : Nat) => ca_tadd (d := d) (dst := dst) (S := S) t 99 p (by omega)
  rw [hi.ok.add (t := ⟨99, p⟩) (by omega) hu hn] at f1
  have hxl := tins_len t ⟨99, p⟩
  have f2 := fun (S : St) (d dst : Nat) => ca_tadd (d := d) (dst := dst) (S := S) (tins t ⟨99, p⟩) 99 3 (by omega)
  rw [hx.twice (t := ⟨99, 3⟩) (by omega) ⟨by simp, by simp, by simp⟩ ⟨⟨99, p⟩, tins_mem.2 (.inl rfl), rfl⟩] at f2
  have f3 := fun (S : St) (d dst : Nat) => ca_tcan (d := d) (dst := dst) (S := S) (tins t ⟨99, p⟩) 99 (by omega)
  rw [hi.ok.cancel (t := ⟨99, p⟩) hx.chk hn] at f3
  have f4 := fun (S : St) (d dst : Nat) => ca_tcan (d := d) (dst := dst) (S := S) t 99 (by omega)
  rw [hi.ok.none hn] at f4
  have f5 := fun (S : St) (d dst : Nat) => ca_EqT (d := d) (dst := dst) (S := S) t t (by omega)
  have hd : decide (t = t) = true := decide_eq_true rfl
  generalize tins t ⟨99, p⟩ = x at *
  simp only [amr, amc, List.getElem?_cons_zero, List.getElem?_cons_succ, if_true, if_false, List.nil_append, List.cons_append, List.append_eq, List.append_nil, List.map_nil, List.map_cons, List.contains_nil, List.contains_cons, List.flatMap_nil, List.flatMap_cons, List.cons.injEq, List.length_cons, List.length_nil, List.take_succ_cons, List.take_zero, List.take_nil, List.drop_succ_cons, List.drop_zero, List.drop_nil, List.head?_cons, List.all_cons, List.all_nil, ne_eq, Option.map_some, Option.map_none, Option.some.injEq, List.flatten_cons, List.flatten_nil, gt_iff_lt, List.any_nil, List.any_cons, List.map_append, List.length_map, List.length_append, Option.getD, argsT, Option.bind, Option.map, List.headD, List.tail, reduceIte, reduceDIte, Nat.reduceEqDiff, Nat.reduceAdd, Nat.reduceSub, Nat.reduceMul, Nat.reduceLT, reduceCtorEq, Int.reduceEq, Int.reduceLT, Int.reduceLE, Int.reduceNeg, Int.reduceToNat, Int.reduceBNe, Int.reduceBEq, Int.reduceAdd, Int.reduceSub, Int.reduceMul, opnsL, Nat.reduceLeDiff, Nat.reduceGT, List.replicate, Nat.reduceShiftRight, Nat.reduceMod, Nat.reduceBEq, lendsL, ty_ClkBack_4, f0, p1, f1, f2, f3, f4, f5, hd]
theorem ca_ClockBack {d dst : Nat} {S : St} (l : List Raw) (a : Int) (hl : l.length ≤ 9223372036854775807) (hr : ∀ r ∈ l, r.ok) (ha : -9223372036854775808 ≤ a ∧ a ≤ 9223372036854775807) : callA tab (callR tab) d dst 4 [.d (.sl 4 (l.map Raw.dv)), .d (.int .i64 (a))] S = some (.d (.bool (true)), S) :=
  ca_ret (ds := [.sl 4 (l.map Raw.dv), .int .i64 (a)]) (ret_ClockBack l a hl hr ha) rfl (tab_opn (by kernel_rfl)) (tab_res (by kernel_rfl))
end Go.Proofs.Ytghjhlngaigdiaa.Am
