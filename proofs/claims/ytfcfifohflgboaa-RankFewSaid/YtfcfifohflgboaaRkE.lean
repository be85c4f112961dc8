/- rank.Of, walked; the greatest and the least. -/
import Derived.Test.YtfcfifohflgboaaRkD
set_option linter.unusedVariables false
set_option linter.unusedSimpArgs false
namespace Go.Proofs.Ytfcfifohflgboaa.Am
open Go Go.RowKit
theorem ty_RkE_73 : type_of% (ai (ai @rs73 (ai @lw73 @kp73_2)) (ai (ai @tt3 @tt4) (ai @tt50 @tt89))) := (ai (ai @rs73 (ai @lw73 @kp73_2)) (ai (ai @tt3 @tt4) (ai @tt50 @tt89)))
theorem ty_RkE_49 : type_of% (ai (ai @rs49 (ai @lw49 @tt3)) (ai @tt4 (ai @tt50 @tt89))) := (ai (ai @rs49 (ai @lw49 @tt3)) (ai @tt4 (ai @tt50 @tt89)))
theorem ty_RkE_50 : type_of% (ai (ai @rs50 @lw50) (ai @tt3 @tt4)) := (ai (ai @rs50 @lw50) (ai @tt3 @tt4))
theorem ty_RkE_22 : type_of% (ai (ai (ai (ai @rs22 @lw22) (ai @mu31_39 @kp22_10)) (ai (ai @tt1 @tt3) (ai @tt4 (ai @tt9 @tt23)))) (ai (ai (ai @tt28 @tt31) (ai @tt33 @tt34)) (ai (ai @tt36 @tt48) (ai @tt50 (ai @tt85 @tt89))))) := (ai (ai (ai (ai @rs22 @lw22) (ai @mu31_39 @kp22_10)) (ai (ai @tt1 @tt3) (ai @tt4 (ai @tt9 @tt23)))) (ai (ai (ai @tt28 @tt31) (ai @tt33 @tt34)) (ai (ai @tt36 @tt48) (ai @tt50 (ai @tt85 @tt89)))))
theorem ty_RkE_52 : type_of% (ai (ai @rs52 (ai @lw52 @dr52_6)) (ai (ai @kp52_4 @tt3) (ai @tt4 @tt50))) := (ai (ai @rs52 (ai @lw52 @dr52_6)) (ai (ai @kp52_4 @tt3) (ai @tt4 @tt50)))
theorem ty_RkE_26 : type_of% (ai (ai @rs26 (ai @lw26 @kp26_5)) (ai (ai @tt3 @tt4) (ai @tt9 @tt50))) := (ai (ai @rs26 (ai @lw26 @kp26_5)) (ai (ai @tt3 @tt4) (ai @tt9 @tt50)))
theorem ty_RkE_27 : type_of% (ai (ai @rs27 (ai @lw27 @kp27_5)) (ai (ai @tt3 @tt4) (ai @tt9 @tt50))) := (ai (ai @rs27 (ai @lw27 @kp27_5)) (ai (ai @tt3 @tt4) (ai @tt9 @tt50)))
set_option maxRecDepth 100000
set_option maxHeartbeats 40000000





def intD (l : List Int) : DV := .sl 1 (l.map (DV.int .i64))
theorem ca_idxI {d dst : Nat} {S : St} (f : Nat) (caps : List DV) (p : Int → Bool) (hp : ∀ (S : St) (d dst : Nat) (t : Int), callA tab (callR tab) d dst f (.d ((DV.int .i64) t) :: caps.map .d) S = some (.d (.bool (p t)), S)) (l : List Int) (hl : l.length ≤ 1048576) :
    callA tab (callR tab) d dst 73 [.d (.sl 1 (l.map (DV.int .i64))), .d (.fn f caps)] S = some (.d (.int .i64 (fidx p l 0)), S) := by
  refine ca_ret (ds := [.sl 1 (l.map (DV.int .i64)), .fn f caps]) ?_ rfl (tab_opn (by kernel_rfl)) (tab_res (by kernel_rfl))
  refine ret_of (l.length + 1) fn73 rfl rfl ?_
  try simp only [if_true] at hp
  simp only [amr, amc, amp, if_true, if_false, ne_eq, gt_iff_lt, Option.getD, argsT, Option.bind, Option.map, List.headD, List.tail, opnsL, List.replicate, lendsL, seval, ty_RkE_73]
  refine good_range l (fun k (_ : Unit) g => ⟨[(0, .d (.sl 1 (l.map (DV.int .i64)))), (1, .d (.fn f caps)), (7, .d (.int .i64 l.length)), (8, .d (.int .i64 (k : Nat)))], [], g⟩) (fun _ _ => True) (fun k _ r => (if fidx p r k = -1 then .inr () else .inl (fidx p r k) : Sum Int Unit))
    (QO .ret (fun e g => ⟨[(4, .d (.int .i64 e))], [], g⟩) (.exit 0) (fun _ g => ⟨[], [], g⟩)) () kp73_2 up_qo trivial (by omega) (by omega) ?_ ?_ ?_ ?_
  · rintro k a g x rest hk hget hdr _ hb w1
    have hget' : (l.map (DV.int .i64))[k]? = some ((DV.int .i64) x) := by rw [List.getElem?_map, hget]; rfl
    cases hq : p x with
    | true =>
      simp only [amr, amc, amp, if_true, if_false, ne_eq, gt_iff_lt, Option.getD, argsT, Option.bind, Option.map, List.headD, List.tail, opnsL, List.replicate, lendsL, seval, ty_RkE_73, if_true, hb, hget', hp, hq, w1]
      refine step_end (r := .inl (k : Int)) (by simp) ?_ ⟨rfl, ?_⟩
      · simp only [fidx, hq, if_true]; rw [if_neg (by omega)]
      · (apply Exists.intro; (try simp only [amr, amc, amp, if_true, if_false, ne_eq, gt_iff_lt, Option.getD, argsT, Option.bind, Option.map, List.headD, List.tail, opnsL, List.replicate, lendsL, seval]); exact sub_mk (by repeat first | exact subT_nil | refine subT_cons (by first | rfl | simp [Tm.get, *]) ?_))
    | false =>
      simp only [amr, amc, amp, if_true, if_false, ne_eq, gt_iff_lt, Option.getD, argsT, Option.bind, Option.map, List.headD, List.tail, opnsL, List.replicate, lendsL, seval, ty_RkE_73, if_true, hb, hget', hp, hq, w1]
      refine step_nrm () trivial ?_ ?_
      · simp only [fidx, hq, Bool.false_eq_true, if_false]
      · (apply Exists.intro; (try simp only [amr, amc, amp, if_true, if_false, ne_eq, gt_iff_lt, Option.getD, argsT, Option.bind, Option.map, List.headD, List.tail, opnsL, List.replicate, lendsL, seval]); exact sub_mk (by repeat first | exact subT_nil | refine subT_cons (by first | rfl | simp [Tm.get, *]) ?_))
  · intro a g _ hb
    simp only [amr, amc, amp, if_true, if_false, ne_eq, gt_iff_lt, Option.getD, argsT, Option.bind, Option.map, List.headD, List.tail, opnsL, List.replicate, lendsL, seval, ty_RkE_73, hb]
    refine last_end (by simp) ?_
    simp only [fidx, if_true]
    refine ⟨rfl, ?_⟩
    (apply Exists.intro; (try simp only [amr, amc, amp, if_true, if_false, ne_eq, gt_iff_lt, Option.getD, argsT, Option.bind, Option.map, List.headD, List.tail, opnsL, List.replicate, lendsL, seval]); exact sub_mk (by repeat first | exact subT_nil | refine subT_cons (by first | rfl | simp [Tm.get, *]) ?_))
  · (apply Exists.intro; (try simp only [amr, amc, amp, if_true, if_false, ne_eq, gt_iff_lt, Option.getD, argsT, Option.bind, Option.map, List.headD, List.tail, opnsL, List.replicate, lendsL, seval]); exact sub_mk (by repeat first | exact subT_nil | refine subT_cons (by first | rfl | simp [Tm.get, *]) ?_))
  · intro o S' hq
    by_cases hz : fidx p l 0 = -1
    · rw [if_pos hz] at hq
      obtain ⟨rfl, g, hs⟩ := hq
      refine good_sub_cr up_fin hs ?_
      rw [hz]
      simp only [amr, amc, amp, if_true, if_false, ne_eq, gt_iff_lt, Option.getD, argsT, Option.bind, Option.map, List.headD, List.tail, opnsL, List.replicate, lendsL, seval, ty_RkE_73]
    · rw [if_neg hz] at hq
      obtain ⟨rfl, g, hs⟩ := hq
      refine good_sub_cr up_fin hs ?_
      simp only [amr, amc, amp, if_true, if_false, ne_eq, gt_iff_lt, Option.getD, argsT, Option.bind, Option.map, List.headD, List.tail, opnsL, List.replicate, lendsL, seval, ty_RkE_73]
theorem ca_confI {d dst : Nat} {S : St} (f : Nat) (caps : List DV) (p : Int → Bool) (hp : ∀ (S : St) (d dst : Nat) (t : Int), callA tab (callR tab) d dst f (.d ((DV.int .i64) t) :: caps.map .d) S = some (.d (.bool (p t)), S)) (l : List Int) (hl : l.length ≤ 1048576) :
    callA tab (callR tab) d dst 49 [.d (.sl 1 (l.map (DV.int .i64))), .d (.fn f caps)] S = some (.d (.bool (l.any p)), S) := by
  refine ca_ret (ds := [.sl 1 (l.map (DV.int .i64)), .fn f caps]) ?_ rfl (tab_opn (by kernel_rfl)) (tab_res (by kernel_rfl))
  have f1 := fun (S : St) (d dst : Nat) => ca_idxI (d := d) (dst := dst) (S := S) f caps p hp l hl
  have hz := fidx_any p l 0
  refine ret_of 1 fn49 rfl rfl ?_
  simp only [amr, amc, amp, if_true, if_false, ne_eq, gt_iff_lt, Option.getD, argsT, Option.bind, Option.map, List.headD, List.tail, opnsL, List.replicate, lendsL, seval, ty_RkE_49, f1, ge_iff_le] at hz ⊢
  simp only [hz]
theorem ret_neg (r : Int) : Ret tab 50 [.d (.int .i64 (r))] (.d (.bool (decide (r < 0)))) := by
  refine ret_of (1) fn50 rfl rfl ?_
  simp only [amr, amc, amp, if_true, if_false, ne_eq, gt_iff_lt, Option.getD, argsT, Option.bind, Option.map, List.headD, List.tail, opnsL, List.replicate, lendsL, seval, ty_RkE_50]
  repeat' ((first | refine good_ci (fun h => ?_) (fun h => ?_) | refine good_cgt (fun h => ?_) (fun h => ?_) | refine good_cgf (fun h => ?_) (fun h => ?_) | refine good_cqgt (fun h => ?_) (fun h => ?_) | refine good_cqgf (fun h => ?_) (fun h => ?_)) <;> simp only [amr, amc, amp, if_true, if_false, ne_eq, gt_iff_lt, Option.getD, argsT, Option.bind, Option.map, List.headD, List.tail, opnsL, List.replicate, lendsL, seval, ty_RkE_50, h])
  all_goals (simp [*])
theorem ca_neg {d dst : Nat} {S : St} (r : Int) : callA tab (callR tab) d dst 50 [.d (.int .i64 (r))] S = some (.d (.bool (decide (r < 0))), S) :=
  ca_ret (ds := [.int .i64 (r)]) (ret_neg r) rfl (tab_opn (by kernel_rfl)) (tab_res (by kernel_rfl))
theorem need_len {fs : List Field} (h : RkFs fs) : ∀ l ∈ fs.map (needR fs), l.length ≤ 60 ∧ ∀ k ∈ l, k < (fs.map (needR fs)).length := fun l hl => by
  obtain ⟨i, hi⟩ := List.getElem?_of_mem hl
  refine ⟨?_, need_lt h i l hi⟩
  obtain ⟨x, h1, h2, rfl⟩ := need_at hi
  unfold needR
  split
  · exact Nat.zero_le _
  · rename_i c
    rw [List.length_map]
    obtain ⟨_, s2, _⟩ := (h.ok.one x h2).src c
    obtain ⟨p1, p2⟩ := names_perm x.source.ex
    rw [ex_refs] at p2
    have h3 := nd_le _ _ p1 (fun s hs => (p2 s).1 hs)
    have h4 := refs_len x.source
    omega
theorem ret_OfR (k : Nat) (fs : List Field) (h : RkFs fs) : RetZT zR 64 (k + 2) 22 [.d (.sl 9 (fs.map Field.dv))] [intD (rkF fs), .sl 1 [], .int .i64 0] := by
  have hlen := h.ok.len
  have f0 := fun (S : St) (d dst : Nat) => (ca_Z (Z := zR) (N := 64) (k := k + 2) (by decide) (by decide)).trans (ca_CheckF (d := d) (dst := dst) (S := S) fs h.ok)
  have f1 := fun (S : St) (d dst : Nat) => ca_retZ (d := d) (dst := dst) (S := S) (args := [.d (.sl 9 (fs.map Field.dv))]) (ds := [.sl 9 (fs.map Field.dv)]) (by decide) (ret_needs k fs h.ok h.rl) rfl (tab_opn (by kernel_rfl)) (tab_res (by kernel_rfl))
  have f2 := fun (S : St) (d dst : Nat) => (ca_Z (Z := zR) (N := 64) (k := k + 2) (by decide) (by decide)).trans (ca_ranks (d := d) (dst := dst) (S := S) (fs.map (needR fs)) (by rw [List.length_map]; exact h.pos) (by rw [List.length_map]; exact hlen) (need_len h))
  have f3 := fun (S : St) (d dst : Nat) => (ca_Z (Z := zR) (N := 64) (k := k + 2) (by decide) (by decide)).trans (ca_confI (d := d) (dst := dst) (S := S) 50 [] (fun r => decide (r < 0)) (fun S d dst t => ca_neg t) (rkF fs) (by rw [rkF_len h]; omega))
  have hz : (rkF fs).any (fun r => decide (r < 0)) = false := by
    rw [List.any_eq_false]
    intro r hr
    obtain ⟨i, hi⟩ := List.getElem?_of_mem hr
    obtain ⟨hi1, hi2⟩ := List.getElem?_eq_some_iff.1 hi
    have := (rkF_lt h i (by rw [← rkF_len h]; exact hi1)).1
    rw [List.getD_eq_getElem?_getD, hi] at this
    simpa using this
  rw [hz] at f3
  have f2' : ∀ (S : St) (d dst : Nat), callA tab (callZ zR 64 (k + 2)) d dst 48 [.d (needD (fs.map (needR fs)))] S = some (.d (.sl 1 ((rkF fs).map (DV.int .i64))), S) := f2
  clear f2
  unfold intD
  generalize needD (fs.map (needR fs)) = nd at *
  generalize (rkF fs).map (DV.int .i64) = rd at *
  generalize fs.map Field.dv = fd at *
  refine stepq_good fn22 rfl rfl ?_
  simp only [amr, amc, amp, if_true, if_false, ne_eq, gt_iff_lt, Option.getD, argsT, Option.bind, Option.map, List.headD, List.tail, opnsL, List.replicate, lendsL, seval, ty_RkE_22, f0, f1, f2', f3, bne_self_eq_false]
theorem ca_eq3 {d dst : Nat} {S : St} : callA tab (callR tab) d dst 52 [.d (.sl 1 [.int .i64 1, .int .i64 0, .int .i64 2]), .own 1 [.int .i64 1, .int .i64 0, .int .i64 2] none] S = some (.d (.bool true), S) := by
  refine ca_ret (ds := [.sl 1 [.int .i64 1, .int .i64 0, .int .i64 2], .sl 1 [.int .i64 1, .int .i64 0, .int .i64 2]]) ?_ rfl (tab_opn (by kernel_rfl)) (tab_res (by kernel_rfl))
  refine ret_of 5 fn52 rfl rfl ?_
  simp only [amr, amc, amp, if_true, if_false, ne_eq, gt_iff_lt, Option.getD, argsT, Option.bind, Option.map, List.headD, List.tail, opnsL, List.replicate, lendsL, seval, ty_RkE_52, cx_loop, clp_s, nameOf, (show IntKind.i64.wrap 0 = 0 from rfl), (show IntKind.i64.wrap 1 = 1 from rfl), (show IntKind.i64.wrap 2 = 2 from rfl), (show IntKind.i64.wrap 3 = 3 from rfl), (show IntKind.i64.wrap 4 = 4 from rfl), (show IntKind.i64.wrap 5 = 5 from rfl), (show IntKind.i64.wrap 6 = 6 from rfl), (show IntKind.i64.wrap 7 = 7 from rfl), (show IntKind.i64.wrap 8 = 8 from rfl), (show IntKind.i64.wrap 9 = 9 from rfl), (show IntKind.i64.wrap 10 = 10 from rfl), (show IntKind.i64.wrap 11 = 11 from rfl), (show IntKind.i64.wrap 12 = 12 from rfl), (show IntKind.i64.wrap 13 = 13 from rfl), (show IntKind.i64.wrap 14 = 14 from rfl), bne_self_eq_false]
def minL : List Int → Int → Int
  | [], m => m
  | x :: r, m => minL r (if x < m then x else m)
def maxL : List Int → Int → Int
  | [], m => m
  | x :: r, m => maxL r (if x > m then x else m)
theorem minL_le : ∀ (l : List Int) (m : Int), minL l m ≤ m ∧ ∀ x ∈ l, minL l m ≤ x
  | [], m => ⟨Int.le_refl _, by simp⟩
  | x :: r, m => by
    have h := minL_le r (if x < m then x else m)
    unfold minL
    refine ⟨?_, fun y hy => ?_⟩
    · have := h.1; split at * <;> omega
    · rcases List.mem_cons.1 hy with rfl | hy
      · have := h.1; split at * <;> omega
      · exact h.2 y hy
theorem minL_ge {b : Int} : ∀ (l : List Int) (m : Int), b ≤ m → (∀ x ∈ l, b ≤ x) → b ≤ minL l m
  | [], m, h, _ => h
  | x :: r, m, h, hx => by
    unfold minL
    have := hx x (by simp)
    exact minL_ge r _ (by split <;> omega) (fun y hy => hx y (by simp [hy]))
theorem maxL_lt {b : Int} : ∀ (l : List Int) (m : Int), m < b → (∀ x ∈ l, x < b) → maxL l m < b
  | [], m, h, _ => h
  | x :: r, m, h, hx => by
    unfold maxL
    have := hx x (by simp)
    exact maxL_lt r _ (by split <;> omega) (fun y hy => hx y (by simp [hy]))
theorem ca_Min {d dst : Nat} {S : St} (x : Int) (xs : List Int) (hl : xs.length ≤ 1000) : callA tab (callR tab) d dst 26 [.d (intD (x :: xs))] S = some (.d (.int .i64 (minL xs x)), S) := by
  refine ca_ret (ds := [intD (x :: xs)]) ?_ rfl (tab_opn (by kernel_rfl)) (tab_res (by kernel_rfl))
  refine ret_of 1002 fn26 rfl rfl ?_
  have b0 : decide (((xs.length + 1 : Nat) : Int) < 1) = false := decide_eq_false (by omega)
  have g0 : ((x :: xs).map (DV.int .i64))[0]? = some (.int .i64 x) := rfl
  unfold intD
  have hln : ((x :: xs).map (DV.int .i64)).length = xs.length + 1 := by simp
  have hgx : ∀ k : Nat, ((x :: xs).map (DV.int .i64))[k + 1]? = (xs[k]?).map (DV.int .i64) := fun k => by simp
  generalize (x :: xs).map (DV.int .i64) = X at *
  simp only [amr, amc, amp, if_true, if_false, ne_eq, gt_iff_lt, Option.getD, argsT, Option.bind, Option.map, List.headD, List.tail, opnsL, List.replicate, lendsL, seval, ty_RkE_26, hln, b0, g0]
  refine good_range xs (fun k (m : Int) _ => ⟨[(0, .d (.sl 1 X)), (3, .d (.int .i64 m)), (4, .d (.int .i64 ((k + 1 : Nat) : Int)))], [], []⟩) (fun _ _ => True) (fun _ m r => minL r m)
    (QX (.exit 0) (fun (o : Int) _ => ⟨[(3, .d (.int .i64 o))], [], []⟩)) x kp26_5 up_qx trivial (by omega) (by omega) ?_ ?_ ?_ ?_
  · rintro k m g y rest hk hget hdr _ hb w1
    have hget' : X[k + 1]? = some (.int .i64 y) := by rw [hgx, hget]; rfl
    have hb' : decide (((k + 1 : Nat) : Int) < ((xs.length + 1 : Nat) : Int)) = true := decide_eq_true (by omega)
    have w2 : IntKind.i64.wrap (((k + 1 : Nat) : Int) + 1) = ((k + 1 + 1 : Nat) : Int) := by rw [wrap_in (by omega) (by omega)]; omega
    simp only [amr, amc, amp, if_true, if_false, ne_eq, gt_iff_lt, Option.getD, argsT, Option.bind, Option.map, List.headD, List.tail, opnsL, List.replicate, lendsL, seval, ty_RkE_26, hln, hb', hget', w2]
    refine step_nrm (if y < m then y else m) trivial rfl ?_
    (refine ⟨[], ?_⟩; (try simp only [amr, amc, amp, if_true, if_false, ne_eq, gt_iff_lt, Option.getD, argsT, Option.bind, Option.map, List.headD, List.tail, opnsL, List.replicate, lendsL, seval]); exact sub_mk (by repeat first | exact subT_nil | refine subT_cons (by first | rfl | simp [Tm.get, *]) ?_))
  · intro m g _ hb
    have hb' : decide (((xs.length + 1 : Nat) : Int) < ((xs.length + 1 : Nat) : Int)) = false := decide_eq_false (by omega)
    simp only [amr, amc, amp, if_true, if_false, ne_eq, gt_iff_lt, Option.getD, argsT, Option.bind, Option.map, List.headD, List.tail, opnsL, List.replicate, lendsL, seval, ty_RkE_26, hln, hb']
    refine last_end (by simp) ⟨rfl, ?_⟩
    simp only [minL]
    (refine ⟨[], ?_⟩; (try simp only [amr, amc, amp, if_true, if_false, ne_eq, gt_iff_lt, Option.getD, argsT, Option.bind, Option.map, List.headD, List.tail, opnsL, List.replicate, lendsL, seval]); exact sub_mk (by repeat first | exact subT_nil | refine subT_cons (by first | rfl | simp [Tm.get, *]) ?_))
  · (refine ⟨[], ?_⟩; (try simp only [amr, amc, amp, if_true, if_false, ne_eq, gt_iff_lt, Option.getD, argsT, Option.bind, Option.map, List.headD, List.tail, opnsL, List.replicate, lendsL, seval]); exact sub_mk (by repeat first | exact subT_nil | refine subT_cons (by first | rfl | simp [Tm.get, *]) ?_))
  · rintro o S' ⟨rfl, g, hs⟩
    refine good_sub_cr up_fin hs ?_
    simp only [amr, amc, amp, if_true, if_false, ne_eq, gt_iff_lt, Option.getD, argsT, Option.bind, Option.map, List.headD, List.tail, opnsL, List.replicate, lendsL, seval, ty_RkE_26]
theorem ca_Max {d dst : Nat} {S : St} (x : Int) (xs : List Int) (hl : xs.length ≤ 1000) : callA tab (callR tab) d dst 27 [.d (intD (x :: xs))] S = some (.d (.int .i64 (maxL xs x)), S) := by
  refine ca_ret (ds := [intD (x :: xs)]) ?_ rfl (tab_opn (by kernel_rfl)) (tab_res (by kernel_rfl))
  refine ret_of 1002 fn27 rfl rfl ?_
  have b0 : decide (((xs.length + 1 : Nat) : Int) < 1) = false := decide_eq_false (by omega)
  have g0 : ((x :: xs).map (DV.int .i64))[0]? = some (.int .i64 x) := rfl
  unfold intD
  have hln : ((x :: xs).map (DV.int .i64)).length = xs.length + 1 := by simp
  have hgx : ∀ k : Nat, ((x :: xs).map (DV.int .i64))[k + 1]? = (xs[k]?).map (DV.int .i64) := fun k => by simp
  generalize (x :: xs).map (DV.int .i64) = X at *
  simp only [amr, amc, amp, if_true, if_false, ne_eq, gt_iff_lt, Option.getD, argsT, Option.bind, Option.map, List.headD, List.tail, opnsL, List.replicate, lendsL, seval, ty_RkE_27, hln, b0, g0]
  refine good_range xs (fun k (m : Int) _ => ⟨[(0, .d (.sl 1 X)), (3, .d (.int .i64 m)), (4, .d (.int .i64 ((k + 1 : Nat) : Int)))], [], []⟩) (fun _ _ => True) (fun _ m r => maxL r m)
    (QX (.exit 0) (fun (o : Int) _ => ⟨[(3, .d (.int .i64 o))], [], []⟩)) x kp27_5 up_qx trivial (by omega) (by omega) ?_ ?_ ?_ ?_
  · rintro k m g y rest hk hget hdr _ hb w1
    have hget' : X[k + 1]? = some (.int .i64 y) := by rw [hgx, hget]; rfl
    have hb' : decide (((k + 1 : Nat) : Int) < ((xs.length + 1 : Nat) : Int)) = true := decide_eq_true (by omega)
    have w2 : IntKind.i64.wrap (((k + 1 : Nat) : Int) + 1) = ((k + 1 + 1 : Nat) : Int) := by rw [wrap_in (by omega) (by omega)]; omega
    simp only [amr, amc, amp, if_true, if_false, ne_eq, gt_iff_lt, Option.getD, argsT, Option.bind, Option.map, List.headD, List.tail, opnsL, List.replicate, lendsL, seval, ty_RkE_27, hln, hb', hget', w2]
    refine step_nrm (if y > m then y else m) trivial rfl ?_
    (refine ⟨[], ?_⟩; (try simp only [amr, amc, amp, if_true, if_false, ne_eq, gt_iff_lt, Option.getD, argsT, Option.bind, Option.map, List.headD, List.tail, opnsL, List.replicate, lendsL, seval]); exact sub_mk (by repeat first | exact subT_nil | refine subT_cons (by first | rfl | simp [Tm.get, *]) ?_))
  · intro m g _ hb
    have hb' : decide (((xs.length + 1 : Nat) : Int) < ((xs.length + 1 : Nat) : Int)) = false := decide_eq_false (by omega)
    simp only [amr, amc, amp, if_true, if_false, ne_eq, gt_iff_lt, Option.getD, argsT, Option.bind, Option.map, List.headD, List.tail, opnsL, List.replicate, lendsL, seval, ty_RkE_27, hln, hb']
    refine last_end (by simp) ⟨rfl, ?_⟩
    simp only [maxL]
    (refine ⟨[], ?_⟩; (try simp only [amr, amc, amp, if_true, if_false, ne_eq, gt_iff_lt, Option.getD, argsT, Option.bind, Option.map, List.headD, List.tail, opnsL, List.replicate, lendsL, seval]); exact sub_mk (by repeat first | exact subT_nil | refine subT_cons (by first | rfl | simp [Tm.get, *]) ?_))
  · (refine ⟨[], ?_⟩; (try simp only [amr, amc, amp, if_true, if_false, ne_eq, gt_iff_lt, Option.getD, argsT, Option.bind, Option.map, List.headD, List.tail, opnsL, List.replicate, lendsL, seval]); exact sub_mk (by repeat first | exact subT_nil | refine subT_cons (by first | rfl | simp [Tm.get, *]) ?_))
  · rintro o S' ⟨rfl, g, hs⟩
    refine good_sub_cr up_fin hs ?_
    simp only [amr, amc, amp, if_true, if_false, ne_eq, gt_iff_lt, Option.getD, argsT, Option.bind, Option.map, List.headD, List.tail, opnsL, List.replicate, lendsL, seval, ty_RkE_27]
end Go.Proofs.Ytfcfifohflgboaa.Am
