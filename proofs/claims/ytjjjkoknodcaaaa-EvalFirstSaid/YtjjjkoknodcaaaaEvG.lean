/- What formulas are by what fields are. -/
import Derived.Test.YtjjjkoknodcaaaaEvF
set_option linter.unusedVariables false
set_option linter.unusedSimpArgs false
namespace Go.Proofs.Ytjjjkoknodcaaaa.Am
open Go Go.RowKit
theorem ty_EvG_52 : type_of% (And.intro (And.intro (And.intro (And.intro (And.intro (And.intro @rs52 @lv52_0) (And.intro @lv52_1 @lv52_2)) (And.intro (And.intro @lv52_3 @lv52_4) (And.intro @lv52_5 @lv52_6))) (And.intro (And.intro (And.intro @lv52_7 @lv52_8) (And.intro @lv52_9 @lv52_10)) (And.intro (And.intro @lv52_11 @lv52_12) (And.intro @kp52_3 (And.intro @und1 @sz1))))) (And.intro (And.intro (And.intro (And.intro @ag1 @inf1) (And.intro @und2 @sz2)) (And.intro (And.intro @ag2 @lv2) (And.intro @inf2 @und3))) (And.intro (And.intro (And.intro @sz3 @ag3) (And.intro @lv3 @inf3)) (And.intro (And.intro @und4 @sz4) (And.intro @ag4 (And.intro @lv4 @inf4)))))) (And.intro (And.intro (And.intro (And.intro (And.intro @und9 @sz9) (And.intro @ag9 @lv9)) (And.intro (And.intro @inf9 @und24) (And.intro @sz24 @ag24))) (And.intro (And.intro (And.intro @fo24 @bA24) (And.intro @pT24_0 @pT24_1)) (And.intro (And.intro @pT24_2 @lv24) (And.intro @inf24 (And.intro @und34 @sz34))))) (And.intro (And.intro (And.intro (And.intro @ag34 @lv34) (And.intro @inf34 @und56)) (And.intro (And.intro @sz56 @ag56) (And.intro @pT56 (And.intro @inf56 @und65)))) (And.intro (And.intro (And.intro @sz65 @ag65) (And.intro @fo65 @bA65)) (And.intro (And.intro @pT65_0 @pT65_1) (And.intro @pT65_2 (And.intro @inf65 @und92))))))) := (And.intro (And.intro (And.intro (And.intro (And.intro (And.intro @rs52 @lv52_0) (And.intro @lv52_1 @lv52_2)) (And.intro (And.intro @lv52_3 @lv52_4) (And.intro @lv52_5 @lv52_6))) (And.intro (And.intro (And.intro @lv52_7 @lv52_8) (And.intro @lv52_9 @lv52_10)) (And.intro (And.intro @lv52_11 @lv52_12) (And.intro @kp52_3 (And.intro @und1 @sz1))))) (And.intro (And.intro (And.intro (And.intro @ag1 @inf1) (And.intro @und2 @sz2)) (And.intro (And.intro @ag2 @lv2) (And.intro @inf2 @und3))) (And.intro (And.intro (And.intro @sz3 @ag3) (And.intro @lv3 @inf3)) (And.intro (And.intro @und4 @sz4) (And.intro @ag4 (And.intro @lv4 @inf4)))))) (And.intro (And.intro (And.intro (And.intro (And.intro @und9 @sz9) (And.intro @ag9 @lv9)) (And.intro (And.intro @inf9 @und24) (And.intro @sz24 @ag24))) (And.intro (And.intro (And.intro @fo24 @bA24) (And.intro @pT24_0 @pT24_1)) (And.intro (And.intro @pT24_2 @lv24) (And.intro @inf24 (And.intro @und34 @sz34))))) (And.intro (And.intro (And.intro (And.intro @ag34 @lv34) (And.intro @inf34 @und56)) (And.intro (And.intro @sz56 @ag56) (And.intro @pT56 (And.intro @inf56 @und65)))) (And.intro (And.intro (And.intro @sz65 @ag65) (And.intro @fo65 @bA65)) (And.intro (And.intro @pT65_0 @pT65_1) (And.intro @pT65_2 (And.intro @inf65 @und92)))))))
theorem ty_EvG_31 : type_of% (And.intro (And.intro (And.intro (And.intro (And.intro (And.intro @rs31 @lv31_0) (And.intro @ro27_2_eval_go_156 @lv31_1)) (And.intro (And.intro @lv31_2 @lv31_3) (And.intro @lv31_4 (And.intro @lv31_5 @lv31_6)))) (And.intro (And.intro (And.intro @lv31_7 @und1) (And.intro @sz1 @ag1)) (And.intro (And.intro @inf1 @und3) (And.intro @sz3 (And.intro @ag3 @lv3))))) (And.intro (And.intro (And.intro (And.intro @inf3 @und4) (And.intro @sz4 @ag4)) (And.intro (And.intro @lv4 @inf4) (And.intro @und9 (And.intro @sz9 @ag9)))) (And.intro (And.intro (And.intro @lv9 @inf9) (And.intro @und24 (And.intro @sz24 @ag24))) (And.intro (And.intro @fo24 @bA24) (And.intro @pT24_0 (And.intro @pT24_1 @pT24_2)))))) (And.intro (And.intro (And.intro (And.intro (And.intro @lv24 @inf24) (And.intro @und25 @sz25)) (And.intro (And.intro @ag25 @pT25) (And.intro @inf25 (And.intro @und27 @sz27)))) (And.intro (And.intro (And.intro @ag27 @fo27) (And.intro @bA27 (And.intro @pT27_0 @pT27_1))) (And.intro (And.intro @pT27_2 @pT27_3) (And.intro @inf27 (And.intro @und34 @sz34))))) (And.intro (And.intro (And.intro (And.intro @ag34 @lv34) (And.intro @inf34 @und56)) (And.intro (And.intro @sz56 @ag56) (And.intro @pT56 (And.intro @inf56 @und65)))) (And.intro (And.intro (And.intro @sz65 @ag65) (And.intro @fo65 (And.intro @bA65 @pT65_0))) (And.intro (And.intro @pT65_1 @pT65_2) (And.intro @inf65 (And.intro @und92 @und95))))))) := (And.intro (And.intro (And.intro (And.intro (And.intro (And.intro @rs31 @lv31_0) (And.intro @ro27_2_eval_go_156 @lv31_1)) (And.intro (And.intro @lv31_2 @lv31_3) (And.intro @lv31_4 (And.intro @lv31_5 @lv31_6)))) (And.intro (And.intro (And.intro @lv31_7 @und1) (And.intro @sz1 @ag1)) (And.intro (And.intro @inf1 @und3) (And.intro @sz3 (And.intro @ag3 @lv3))))) (And.intro (And.intro (And.intro (And.intro @inf3 @und4) (And.intro @sz4 @ag4)) (And.intro (And.intro @lv4 @inf4) (And.intro @und9 (And.intro @sz9 @ag9)))) (And.intro (And.intro (And.intro @lv9 @inf9) (And.intro @und24 (And.intro @sz24 @ag24))) (And.intro (And.intro @fo24 @bA24) (And.intro @pT24_0 (And.intro @pT24_1 @pT24_2)))))) (And.intro (And.intro (And.intro (And.intro (And.intro @lv24 @inf24) (And.intro @und25 @sz25)) (And.intro (And.intro @ag25 @pT25) (And.intro @inf25 (And.intro @und27 @sz27)))) (And.intro (And.intro (And.intro @ag27 @fo27) (And.intro @bA27 (And.intro @pT27_0 @pT27_1))) (And.intro (And.intro @pT27_2 @pT27_3) (And.intro @inf27 (And.intro @und34 @sz34))))) (And.intro (And.intro (And.intro (And.intro @ag34 @lv34) (And.intro @inf34 @und56)) (And.intro (And.intro @sz56 @ag56) (And.intro @pT56 (And.intro @inf56 @und65)))) (And.intro (And.intro (And.intro @sz65 @ag65) (And.intro @fo65 (And.intro @bA65 @pT65_0))) (And.intro (And.intro @pT65_1 @pT65_2) (And.intro @inf65 (And.intro @und92 @und95)))))))
set_option maxRecDepth 100000
set_option maxHeartbeats 40000000


/-- What fields are, those that come first. -/
def fmap : VMap → List Fact → VMap
  | m, [] => m
  | m, f :: r => fmap (if (lookV m f.name).isSome = true then m else m ++ [(f.name, f.has)]) r
theorem look_app {m : VMap} {s t : List UInt8} {v w : Val} (h : lookV (m ++ [(s, v)]) t = some w) : lookV m t = some w ∨ w = v := by
  induction m with
  | nil =>
    simp only [List.nil_append, lookV] at h
    split at h
    · injection h with h; exact .inr h.symm
    · cases h
  | cons e r ih =>
    obtain ⟨k, u⟩ := e
    simp only [List.cons_append, lookV] at h ⊢
    split at h
    · rename_i hk; rw [if_pos hk]; exact .inl h
    · rename_i hk; rw [if_neg hk]; exact ih h
theorem mok_fmap : ∀ (l : List Fact) (m : VMap), MOK m → (∀ f ∈ l, VOK f.has) → MOK (fmap m l)
  | [], m, h, _ => h
  | f :: r, m, h, hl => by
    unfold fmap
    refine mok_fmap r _ ?_ fun g hg => hl g (by simp [hg])
    split
    · exact h
    · intro s v hs
      rcases look_app hs with h1 | h1
      · exact h s v h1
      · rw [h1]; exact hl f (by simp)
theorem mok_nil : MOK [] := fun s v h => by simp [lookV] at h
theorem ret_facts (l : List Fact) (hl : l.length ≤ 1048576) (h : ∀ f ∈ l, VOK f.has) : RetT tab 52 [.d (.sl 7 (l.map Fact.dv))] [.mp (mdv (fmap [] l)), .int .i64 0] := by
  refine retq_good (l.length + 1) fn52 rfl rfl ?_
  simp only [amr, amc, amp, if_true, if_false, ne_eq, gt_iff_lt, Option.getD, argsT, Option.bind, Option.map, List.headD, List.tail, reduceIte, reduceDIte, Nat.reduceEqDiff, Nat.reduceAdd, Nat.reduceSub, Nat.reduceMul, Nat.reduceLT, reduceCtorEq, Int.reduceEq, Int.reduceLT, Int.reduceLE, Int.reduceNeg, Int.reduceToNat, Int.reduceBNe, Int.reduceBEq, Int.reduceAdd, Int.reduceSub, Int.reduceMul, opnsL, Nat.reduceLeDiff, Nat.reduceGT, List.replicate, Nat.reduceShiftRight, Nat.reduceMod, Nat.reduceBEq, lendsL, ty_EvG_52]
  refine good_range l (fun k (m : VMap) g => ⟨[(4, .mp ⟨0, 10, [0]⟩), (11, .d (.sl 7 (l.map Fact.dv))), (12, .d (.int .i64 l.length)), (13, .d (.int .i64 (k : Nat)))], [(⟨0, 10, [0]⟩, .mpl (mdv m))], g⟩) (fun _ _ => True) (fun k m r => fmap m r)
    (QX (.exit 0) (fun m g => ⟨[(4, .mp ⟨0, 10, [0]⟩)], [(⟨0, 10, [0]⟩, .mpl (mdv m))], g⟩)) [] kp52_3 up_qx trivial (by omega) (by omega) ?_ ?_ ?_ ?_
  · rintro k m g x rest hk hget hd _ hb w1
    have hget' : (l.map Fact.dv)[k]? = some x.dv := by rw [List.getElem?_map, hget]; rfl
    have hv : valChk x.has = 0 := h x (List.mem_of_getElem? hget)
    have fv : ∀ (S : St) (d dst : Nat), callA tab (callR tab) d dst 56 [.d (.agg [.int .i64 x.has.kind, .int .i64 x.has.n, .str x.has.s])] S = some (.d (.int .i64 0), S) := fun S d dst => by rw [← hv]; exact ca_VCheck x.has.kind x.has.n x.has.s
    have fk := fk_mdv x.name m
    have hS : fmap m (x :: rest) = fmap (if (lookV m x.name).isSome = true then m else m ++ [(x.name, x.has)]) rest := rfl
    cases hl' : lookV m x.name with
    | none =>
      have st : setK .string (.str x.name) (.agg [.int .i64 x.has.kind, .int .i64 x.has.n, .str x.has.s]) (mdv m) = mdv (m ++ [(x.name, x.has)]) := stK_mdv x.name x.has m hl'
      rw [hl', Option.map_none] at fk
      rw [hl'] at hS
      simp only [amr, amc, amp, if_true, if_false, ne_eq, gt_iff_lt, Option.getD, argsT, Option.bind, Option.map, List.headD, List.tail, reduceIte, reduceDIte, Nat.reduceEqDiff, Nat.reduceAdd, Nat.reduceSub, Nat.reduceMul, Nat.reduceLT, reduceCtorEq, Int.reduceEq, Int.reduceLT, Int.reduceLE, Int.reduceNeg, Int.reduceToNat, Int.reduceBNe, Int.reduceBEq, Int.reduceAdd, Int.reduceSub, Int.reduceMul, opnsL, Nat.reduceLeDiff, Nat.reduceGT, List.replicate, Nat.reduceShiftRight, Nat.reduceMod, Nat.reduceBEq, lendsL, ty_EvG_52, Fact.dv, Val.dv, hb, hget', w1, fv, fk, st, beq_self_eq_true, bne_self_eq_false]
      refine step_nrm (m ++ [(x.name, x.has)]) trivial hS ?_
      (apply Exists.intro; (try simp only [amr, amc, amp, if_true, if_false, ne_eq, gt_iff_lt, Option.getD, argsT, Option.bind, Option.map, List.headD, List.tail, reduceIte, reduceDIte, Nat.reduceEqDiff, Nat.reduceAdd, Nat.reduceSub, Nat.reduceMul, Nat.reduceLT, reduceCtorEq, Int.reduceEq, Int.reduceLT, Int.reduceLE, Int.reduceNeg, Int.reduceToNat, Int.reduceBNe, Int.reduceBEq, Int.reduceAdd, Int.reduceSub, Int.reduceMul, opnsL, Nat.reduceLeDiff, Nat.reduceGT, List.replicate, Nat.reduceShiftRight, Nat.reduceMod, Nat.reduceBEq, lendsL]); exact sub_mk (by repeat first | exact subT_nil | refine subT_cons (by first | rfl | simp [Tm.get, *]) ?_))
    | some w =>
      rw [hl', Option.map_some] at fk
      rw [hl'] at hS
      simp only [amr, amc, amp, if_true, if_false, ne_eq, gt_iff_lt, Option.getD, argsT, Option.bind, Option.map, List.headD, List.tail, reduceIte, reduceDIte, Nat.reduceEqDiff, Nat.reduceAdd, Nat.reduceSub, Nat.reduceMul, Nat.reduceLT, reduceCtorEq, Int.reduceEq, Int.reduceLT, Int.reduceLE, Int.reduceNeg, Int.reduceToNat, Int.reduceBNe, Int.reduceBEq, Int.reduceAdd, Int.reduceSub, Int.reduceMul, opnsL, Nat.reduceLeDiff, Nat.reduceGT, List.replicate, Nat.reduceShiftRight, Nat.reduceMod, Nat.reduceBEq, lendsL, ty_EvG_52, Fact.dv, Val.dv, hb, hget', w1, fv, fk, beq_self_eq_true, bne_self_eq_false]
      refine step_nrm m trivial hS ?_
      (apply Exists.intro; (try simp only [amr, amc, amp, if_true, if_false, ne_eq, gt_iff_lt, Option.getD, argsT, Option.bind, Option.map, List.headD, List.tail, reduceIte, reduceDIte, Nat.reduceEqDiff, Nat.reduceAdd, Nat.reduceSub, Nat.reduceMul, Nat.reduceLT, reduceCtorEq, Int.reduceEq, Int.reduceLT, Int.reduceLE, Int.reduceNeg, Int.reduceToNat, Int.reduceBNe, Int.reduceBEq, Int.reduceAdd, Int.reduceSub, Int.reduceMul, opnsL, Nat.reduceLeDiff, Nat.reduceGT, List.replicate, Nat.reduceShiftRight, Nat.reduceMod, Nat.reduceBEq, lendsL]); exact sub_mk (by repeat first | exact subT_nil | refine subT_cons (by first | rfl | simp [Tm.get, *]) ?_))
  · rintro m g _ hb
    simp only [amr, amc, amp, if_true, if_false, ne_eq, gt_iff_lt, Option.getD, argsT, Option.bind, Option.map, List.headD, List.tail, reduceIte, reduceDIte, Nat.reduceEqDiff, Nat.reduceAdd, Nat.reduceSub, Nat.reduceMul, Nat.reduceLT, reduceCtorEq, Int.reduceEq, Int.reduceLT, Int.reduceLE, Int.reduceNeg, Int.reduceToNat, Int.reduceBNe, Int.reduceBEq, Int.reduceAdd, Int.reduceSub, Int.reduceMul, opnsL, Nat.reduceLeDiff, Nat.reduceGT, List.replicate, Nat.reduceShiftRight, Nat.reduceMod, Nat.reduceBEq, lendsL, ty_EvG_52, hb]
    refine last_end (by simp) ⟨rfl, ?_⟩
    (apply Exists.intro; (try simp only [amr, amc, amp, if_true, if_false, ne_eq, gt_iff_lt, Option.getD, argsT, Option.bind, Option.map, List.headD, List.tail, reduceIte, reduceDIte, Nat.reduceEqDiff, Nat.reduceAdd, Nat.reduceSub, Nat.reduceMul, Nat.reduceLT, reduceCtorEq, Int.reduceEq, Int.reduceLT, Int.reduceLE, Int.reduceNeg, Int.reduceToNat, Int.reduceBNe, Int.reduceBEq, Int.reduceAdd, Int.reduceSub, Int.reduceMul, opnsL, Nat.reduceLeDiff, Nat.reduceGT, List.replicate, Nat.reduceShiftRight, Nat.reduceMod, Nat.reduceBEq, lendsL]); exact sub_mk (by repeat first | exact subT_nil | refine subT_cons (by first | rfl | simp [Tm.get, *]) ?_))
  · simp only [mdv, List.map_nil]
    (apply Exists.intro; (try simp only [amr, amc, amp, if_true, if_false, ne_eq, gt_iff_lt, Option.getD, argsT, Option.bind, Option.map, List.headD, List.tail, reduceIte, reduceDIte, Nat.reduceEqDiff, Nat.reduceAdd, Nat.reduceSub, Nat.reduceMul, Nat.reduceLT, reduceCtorEq, Int.reduceEq, Int.reduceLT, Int.reduceLE, Int.reduceNeg, Int.reduceToNat, Int.reduceBNe, Int.reduceBEq, Int.reduceAdd, Int.reduceSub, Int.reduceMul, opnsL, Nat.reduceLeDiff, Nat.reduceGT, List.replicate, Nat.reduceShiftRight, Nat.reduceMod, Nat.reduceBEq, lendsL]); exact sub_mk (by repeat first | exact subT_nil | refine subT_cons (by first | rfl | simp [Tm.get, *]) ?_))
  · rintro o S' ⟨rfl, g, hs⟩
    refine good_sub_cr up_finq hs ?_
    generalize fmap [] l = m at *
    simp only [amr, amc, amp, if_true, if_false, ne_eq, gt_iff_lt, Option.getD, argsT, Option.bind, Option.map, List.headD, List.tail, reduceIte, reduceDIte, Nat.reduceEqDiff, Nat.reduceAdd, Nat.reduceSub, Nat.reduceMul, Nat.reduceLT, reduceCtorEq, Int.reduceEq, Int.reduceLT, Int.reduceLE, Int.reduceNeg, Int.reduceToNat, Int.reduceBNe, Int.reduceBEq, Int.reduceAdd, Int.reduceSub, Int.reduceMul, opnsL, Nat.reduceLeDiff, Nat.reduceGT, List.replicate, Nat.reduceShiftRight, Nat.reduceMod, Nat.reduceBEq, lendsL, ty_EvG_52, fzv_mp]
    rfl
theorem ca_facts (l : List Fact) (hl : l.length ≤ 1048576) (h : ∀ f ∈ l, VOK f.has) {d dst : Nat} {S : St} : callA tab (callR tab) d dst 52 [.d (.sl 7 (l.map Fact.dv))] S = some (.tup [.d (.mp (mdv (fmap [] l))), .d (.int .i64 0)], S) :=
  ca_retT (ds := [.sl 7 (l.map Fact.dv)]) (ret_facts l hl h) rfl (tab_opn (by kernel_rfl)) (tab_res (by kernel_rfl))
theorem ret_Of (x : Exp) (l : List Fact) (hx : chkE x = 0) (hB : x.nodes ≤ 1048576) (hw : x.wf) (hl : l.length ≤ 1048576) (h : ∀ f ∈ l, VOK f.has) : Ret tab 31 [.d x.dv, .d (.sl 7 (l.map Fact.dv))] (.tup [.d (evE (fmap [] l) x).dv, .d (.int .i64 0)]) := by
  have f1 := fun (S : St) (d dst : Nat) => ca_CheckE (d := d) (dst := dst) (S := S) x (by omega) hw
  have f2 := fun (S : St) (d dst : Nat) => ca_facts l hl h (d := d) (dst := dst) (S := S)
  have hm : MOK (fmap [] l) := mok_fmap l [] mok_nil h
  have f3 := fun (S : St) (d dst : Nat) => ca_of (of_ok hm x hB hw) (d := d) (dst := dst) (S := S)
  rw [hx] at f1
  rw [Exp.dv_eq x] at f1 ⊢
  generalize evE (fmap [] l) x = w at *
  generalize fmap [] l = m at *
  refine ret_of 1 fn31 rfl rfl ?_
  simp only [amr, amc, amp, if_true, if_false, ne_eq, gt_iff_lt, Option.getD, argsT, Option.bind, Option.map, List.headD, List.tail, reduceIte, reduceDIte, Nat.reduceEqDiff, Nat.reduceAdd, Nat.reduceSub, Nat.reduceMul, Nat.reduceLT, reduceCtorEq, Int.reduceEq, Int.reduceLT, Int.reduceLE, Int.reduceNeg, Int.reduceToNat, Int.reduceBNe, Int.reduceBEq, Int.reduceAdd, Int.reduceSub, Int.reduceMul, opnsL, Nat.reduceLeDiff, Nat.reduceGT, List.replicate, Nat.reduceShiftRight, Nat.reduceMod, Nat.reduceBEq, lendsL, ty_EvG_31, Val.dv, f1, f2, f3]
end Go.Proofs.Ytjjjkoknodcaaaa.Am
