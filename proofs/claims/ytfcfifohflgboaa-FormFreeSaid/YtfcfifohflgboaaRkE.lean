/- rank.Of, walked; the greatest and the least. -/
import Derived.Test.YtfcfifohflgboaaRkD
set_option linter.unusedVariables false
set_option linter.unusedSimpArgs false
namespace Go.Proofs.Ytfcfifohflgboaa.Am
open Go Go.RowKit
theorem ty_RkE_73 : type_of% (ai (ai @rs73 (ai @lw73 @kp73_2)) (ai (ai @tt3 @tt4) (ai @tt50 @tt89))) := (ai (ai @rs73 (ai @lw73 @kp73_2)) (ai (ai @tt3 @tt4) (ai @tt50 @tt89)))
theorem ty_RkE_49 : type_of% (ai (ai @rs49 (ai @lw49 @tt3)) (ai @tt4 (ai @tt50 @tt89))) := (ai (ai @rs49 (ai @lw49 @tt3)) (ai @tt4 (ai @tt50 @tt89)))
theorem ty_RkE_50 : type_of% (ai (ai @rs50 @lw50) (ai @tt3 @tt4)) := (ai (ai @rs50 @lw50) (ai @tt3 @tt4))
theorem ty_RkE_22 : type_of% (ai (ai (ai (ai @rs22 @lw22) (ai @mu31_39 @kp22_10)) (ai (ai @tt1 @tt3) (ai @tt4 (ai @tt9 @tt23)))) (ai (ai (ai @tt28 @tt31) (ai @tt33 @tt34)) (ai (ai @tt36 @tt48) (ai @tt50 (ai @tt85 @tt89))))) := (ai (ai (ai (ai @rs22 @lw22) (ai @mu31_39 @kp22_10)) (ai (ai @tt1 @tt3) (ai @tt4 (ai @tt9 @tt23)))) (ai (ai (ai @tt28 @tt31) (ai @tt33 @tt34)) (ai (ai @tt36 @tt48) (ai @tt50 (ai @tt85 @tt89)))))
set_option maxRecDepth 100000
set_option maxHeartbeats 40000000





def intD (l : List Int) : DV := .sl 1 (l.map (DV.int .i64))
theorem ca_idxI {d dst : Nat} {S : St} (f : Nat) (caps : List DV) (p : Int → Bool) (hp : ∀ (S : St) (d dst : Nat) (t : Int), callA tab (callR tab) d dst f (.d ((DV.int .i64) t) :: caps.map .d) S = some (.d (.bool (p t)), S)) (l : List Int) (hl : l.length ≤ 1048576) :
    callA tab (callR tab) d dst 73 [.d (.sl 1 (l.map (DV.int .i64))), .d (.fn f caps)] S = some (.d (.int .i64 (fidx p l 0)), S) := by
  refine ca_ret (ds := [.sl 1 (l.map (DV.int .i64)), .fn f caps]) ?_ rfl (tab_opn (by kernel_rfl)) (tab_res (by kernel_rfl))
  refine ret_of (l.length + 1) fn73 rfl rfl ?_
  try simp only [if_true] at hp
  simp only [amr, amc, amp, amz, seval, ty_RkE_73]
  refine good_range l (fun k (_ : Unit) g => ⟨[(0, .d (.sl 1 (l.map (DV.int .i64)))), (1, .d (.fn f caps)), (7, .d (.int .i64 l.length)), (8, .d (.int .i64 (k : Nat)))], [], g⟩) (fun _ _ => True) (fun k _ r => (if fidx p r k = -1 then .inr () else .inl (fidx p r k) : Sum Int Unit))
    (QO .ret (fun e g => ⟨[(4, .d (.int .i64 e))], [], g⟩) (.exit 0) (fun _ g => ⟨[], [], g⟩)) () kp73_2 up_qo trivial (by omega) (by omega) ?_ ?_ ?_ ?_
  · rintro k a g x rest hk hget hdr _ hb w1
    have hget' : (l.map (DV.int .i64))[k]? = some ((DV.int .i64) x) := by rw [List.getElem?_map, hget]; rfl
    cases hq : p x with
    | true =>
      simp only [amr, amc, amp, amz, seval, ty_RkE_73, if_true, hb, hget', hp, hq, w1]
      refine step_end (r := .inl (k : Int)) (by simp) ?_ ⟨rfl, ?_⟩
      · simp only [fidx, hq, if_true]; rw [if_neg (by omega)]
      · (apply Exists.intro; (try simp only [amr, amc, amp, amz, seval]); exact sub_mk (by repeat first | exact subT_nil | refine subT_cons (by first | rfl | simp [Tm.get, *]) ?_))
    | false =>
      simp only [amr, amc, amp, amz, seval, ty_RkE_73, if_true, hb, hget', hp, hq, w1]
      refine step_nrm () trivial ?_ ?_
      · simp only [fidx, hq, Bool.false_eq_true, if_false]
      · (apply Exists.intro; (try simp only [amr, amc, amp, amz, seval]); exact sub_mk (by repeat first | exact subT_nil | refine subT_cons (by first | rfl | simp [Tm.get, *]) ?_))
  · intro a g _ hb
    simp only [amr, amc, amp, amz, seval, ty_RkE_73, hb]
    refine last_end (by simp) ?_
    simp only [fidx, if_true]
    refine ⟨rfl, ?_⟩
    (apply Exists.intro; (try simp only [amr, amc, amp, amz, seval]); exact sub_mk (by repeat first | exact subT_nil | refine subT_cons (by first | rfl | simp [Tm.get, *]) ?_))
  · (apply Exists.intro; (try simp only [amr, amc, amp, amz, seval]); exact sub_mk (by repeat first | exact subT_nil | refine subT_cons (by first | rfl | simp [Tm.get, *]) ?_))
  · intro o S' hq
    by_cases hz : fidx p l 0 = -1
    · rw [if_pos hz] at hq
      obtain ⟨rfl, g, hs⟩ := hq
      refine good_sub_cr up_fin hs ?_
      rw [hz]
      simp only [amr, amc, amp, amz, seval, ty_RkE_73]
    · rw [if_neg hz] at hq
      obtain ⟨rfl, g, hs⟩ := hq
      refine good_sub_cr up_fin hs ?_
      simp only [amr, amc, amp, amz, seval, ty_RkE_73]
theorem ca_confI {d dst : Nat} {S : St} (f : Nat) (caps : List DV) (p : Int → Bool) (hp : ∀ (S : St) (d dst : Nat) (t : Int), callA tab (callR tab) d dst f (.d ((DV.int .i64) t) :: caps.map .d) S = some (.d (.bool (p t)), S)) (l : List Int) (hl : l.length ≤ 1048576) :
    callA tab (callR tab) d dst 49 [.d (.sl 1 (l.map (DV.int .i64))), .d (.fn f caps)] S = some (.d (.bool (l.any p)), S) := by
  refine ca_ret (ds := [.sl 1 (l.map (DV.int .i64)), .fn f caps]) ?_ rfl (tab_opn (by kernel_rfl)) (tab_res (by kernel_rfl))
  have f1 := fun (S : St) (d dst : Nat) => ca_idxI (d := d) (dst := dst) (S := S) f caps p hp l hl
  have hz := fidx_any p l 0
  refine ret_of 1 fn49 rfl rfl ?_
  simp only [amr, amc, amp, amz, seval, ty_RkE_49, f1, ge_iff_le] at hz ⊢
  simp only [hz]
theorem ret_neg (r : Int) : Ret tab 50 [.d (.int .i64 (r))] (.d (.bool (decide (r < 0)))) := by
  refine ret_of (1) fn50 rfl rfl ?_
  simp only [amr, amc, amp, amz, seval, ty_RkE_50]
  repeat' ((first | refine good_ci (fun h => ?_) (fun h => ?_) | refine good_cgt (fun h => ?_) (fun h => ?_) | refine good_cgf (fun h => ?_) (fun h => ?_) | refine good_cqgt (fun h => ?_) (fun h => ?_) | refine good_cqgf (fun h => ?_) (fun h => ?_)) <;> simp only [amr, amc, amp, amz, seval, ty_RkE_50, h])
  all_goals (simp [*])
theorem ca_neg {d dst : Nat} {S : St} (r : Int) : callA tab (callR tab) d dst 50 [.d (.int .i64 (r))] S = some (.d (.bool (decide (r < 0))), S) :=
  ca_ret (ds := [.int .i64 (r)]) (ret_neg r) rfl (tab_opn (by kernel_rfl)) (tab_res (by kernel_rfl))
theorem need_len {fs : List Field} (h : RkFs fs) : ∀ l ∈ fs.map (needR fs), l.length ≤ 60 ∧ ∀ k ∈ l, k < (fs.map (needR fs)).length := fun l hl => by
  obtain ⟨i, hi⟩ := List.getElem?_of_mem hl
  refine ⟨?_, need_lt h i l hi⟩
  obtain ⟨x, h1, h2, rfl⟩ := need_at hi
  unfold needR
  split
  · exact Nat.zero_le _
  · rename_i c
    rw [List.length_map]
    obtain ⟨_, s2, _⟩ := (h.ok.one x h2).src c
    obtain ⟨p1, p2⟩ := names_perm x.source.ex
    rw [ex_refs] at p2
    have h3 := nd_le _ _ p1 (fun s hs => (p2 s).1 hs)
    have h4 := refs_len x.source
    omega
theorem ret_OfR (k : Nat) (fs : List Field) (h : RkFs fs) : RetZT zR 64 (k + 2) 22 [.d (.sl 9 (fs.map Field.dv))] [intD (rkF fs), .sl 1 [], .int .i64 0] := by
  have hlen := h.ok.len
  have f0 := fun (S : St) (d dst : Nat) => (ca_Z (Z := zR) (N := 64) (k := k + 2) (by decide) (by decide)).trans (ca_CheckF (d := d) (dst := dst) (S := S) fs h.ok)
  have f1 := fun (S : St) (d dst : Nat) => ca_retZ (d := d) (dst := dst) (S := S) (args := [.d (.sl 9 (fs.map Field.dv))]) (ds := [.sl 9 (fs.map Field.dv)]) (by decide) (ret_needs k fs h.ok h.rl) rfl (tab_opn (by kernel_rfl)) (tab_res (by kernel_rfl))
  have f2 := fun (S : St) (d dst : Nat) => (ca_Z (Z := zR) (N := 64) (k := k + 2) (by decide) (by decide)).trans (ca_ranks (d := d) (dst := dst) (S := S) (fs.map (needR fs)) (by rw [List.length_map]; exact h.pos) (by rw [List.length_map]; exact hlen) (need_len h))
  have f3 := fun (S : St) (d dst : Nat) => (ca_Z (Z := zR) (N := 64) (k := k + 2) (by decide) (by decide)).trans (ca_confI (d := d) (dst := dst) (S := S) 50 [] (fun r => decide (r < 0)) (fun S d dst t => ca_neg t) (rkF fs) (by rw [rkF_len h]; omega))
  have hz : (rkF fs).any (fun r => decide (r < 0)) = false := by
    rw [List.any_eq_false]
    intro r hr
    obtain ⟨i, hi⟩ := List.getElem?_of_mem hr
    obtain ⟨hi1, hi2⟩ := List.getElem?_eq_some_iff.1 hi
    have := (rkF_lt h i (by rw [← rkF_len h]; exact hi1)).1
    rw [List.getD_eq_getElem?_getD, hi] at this
    simpa using this
  rw [hz] at f3
  have f2' : ∀ (S : St) (d dst : Nat), callA tab (callZ zR 64 (k + 2)) d dst 48 [.d (needD (fs.map (needR fs)))] S = some (.d (.sl 1 ((rkF fs).map (DV.int .i64))), S) := f2
  clear f2
  unfold intD
  generalize needD (fs.map (needR fs)) = nd at *
  generalize (rkF fs).map (DV.int .i64) = rd at *
  generalize fs.map Field.dv = fd at *
  refine stepq_good fn22 rfl rfl ?_
  simp only [amr, amc, amp, amz, seval, ty_RkE_22, f0, f1, f2', f3, bne_self_eq_false]
end Go.Proofs.Ytfcfifohflgboaa.Am
