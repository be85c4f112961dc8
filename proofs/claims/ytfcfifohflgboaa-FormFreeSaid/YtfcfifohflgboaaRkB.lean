/- Ranks, walked. -/
import Derived.Test.YtfcfifohflgboaaFmV
set_option linter.unusedVariables false
set_option linter.unusedSimpArgs false
namespace Go.Proofs.Ytfcfifohflgboaa.Am
open Go Go.RowKit
theorem ty_RkB_48 : type_of% (ai (ai (ai @rs48 @lw48) (ai @kp48_3 (ai @kp48_8 @kp48_10))) (ai (ai @kp48_14 @tt3) (ai @tt4 (ai @tt50 @tt85)))) := (ai (ai (ai @rs48 @lw48) (ai @kp48_3 (ai @kp48_8 @kp48_10))) (ai (ai @kp48_14 @tt3) (ai @tt4 (ai @tt50 @tt85))))
set_option maxRecDepth 100000
set_option maxHeartbeats 40000000



theorem up_stepr {α β ρ : Type} {mk : Nat → β → List Nat → St} {I : Nat → β → Prop} {sp : Nat → β → List α → ρ} {Q : ρ → Out → St → Prop} {d : Nat} {ts hs : List Nat} {k : Nat} {a : β} {x : α} {rest : List α} (hQ : ∀ r, Up (Q r)) : Up (StepR mk I sp Q d ts hs k a x rest) := by
  rintro o S S' h (⟨h1, h2⟩ | ⟨h1, a', g', h2, h3, h4⟩)
  · exact .inl ⟨h1, hQ _ _ _ _ h h2⟩
  · exact .inr ⟨h1, a', g', h2, h3, h4.trans (sub_keep h d _)⟩
def cI (out : List Int) : List AV := out.map fun v => .d (.int .i64 v)
def rowD (l : List Nat) : DV := .sl 1 (l.map fun (k : Nat) => DV.int .i64 k)
def needD (need : List (List Nat)) : DV := .sl 1 (need.map rowD)
theorem cI_len (out : List Int) : (cI out).length = out.length := List.length_map ..
theorem cI_head {out : List Int} {i : Nat} (h : i < out.length) : (List.drop i (cI out)).head? = some (.d (.int .i64 (out.getD i 0))) := by
  rw [List.head?_drop]
  simp [cI, h]
theorem cI_set {out : List Int} {i : Nat} (v : Int) (h : i < out.length) : List.take i (cI out) ++ [.d (.int .i64 v)] ++ List.drop (i + 1) (cI out) = cI (out.set i v) := by
  unfold cI
  rw [← List.map_take, ← List.map_drop, List.set_eq_take_append_cons_drop, if_pos h]
  simp
theorem cI_flat : ∀ out : List Int, cI out = flatD (out.map (DV.int .i64))
  | [] => rfl
  | a :: r => by
    have := cI_flat r
    simp only [cI, flatD, List.map_cons, List.flatMap_cons, List.map_append] at *
    rw [this]
    rfl
def RkB (b : Int) (out : List Int) : Prop := ∀ i, -1 ≤ out.getD i 0 ∧ out.getD i 0 ≤ b
theorem mostR_le {out : List Int} {b : Int} (hB : RkB b out) (hb : 0 ≤ b) : ∀ (l : List Nat) (m : Int), -1 ≤ m → m ≤ b + 1 → -1 ≤ mostR out l m ∧ mostR out l m ≤ b + 1
  | [], m, h1, h2 => ⟨h1, h2⟩
  | k :: r, m, h1, h2 => by
    have h := hB k
    unfold mostR
    split
    · omega
    · split
      · exact mostR_le hB hb r _ (by omega) (by omega)
      · exact mostR_le hB hb r m h1 h2
theorem RkB.set {out : List Int} {b : Int} (hB : RkB b out) (hb : 0 ≤ b) (i : Nat) (l : List Nat) : RkB (b + 1) (out.set i (upR (out.getD i 0) (mostR out l 0))) := fun j => by
  have h1 := hB i
  have h2 := hB j
  have h3 := mostR_le hB hb l 0 (by omega) (by omega)
  rw [getD_set]
  split
  · unfold upR
    split <;> omega
  · omega
theorem sweep_B : ∀ (r : List (List Nat)) (i : Nat) (out : List Int) (b : Int), 0 ≤ b → RkB b out → RkB (b + r.length) (sweepR r i out)
  | [], i, out, b, hb, hB => by simpa [sweepR] using hB
  | l :: r, i, out, b, hb, hB => by
    have := sweep_B r (i + 1) _ (b + 1) (by omega) (hB.set hb i l)
    unfold sweepR
    have e : b + ((l :: r).length : Int) = b + 1 + (r.length : Int) := by simp only [List.length_cons]; omega
    rw [e]
    exact this
theorem sweep_len : ∀ (r : List (List Nat)) (i : Nat) (out : List Int), (sweepR r i out).length = out.length
  | [], i, out => rfl
  | l :: r, i, out => by unfold sweepR; rw [sweep_len r (i + 1) _, List.length_set]
theorem RkB.mono {b c : Int} {out : List Int} (h : RkB b out) (hc : b ≤ c) : RkB c out := fun i => ⟨(h i).1, by have := (h i).2; omega⟩
theorem rounds_len (need : List (List Nat)) : ∀ (t : Nat) (out : List Int), (roundsR need t out).length = out.length
  | 0, out => rfl
  | t + 1, out => by unfold roundsR; rw [rounds_len need t, sweep_len]
theorem ret_ranks (need : List (List Nat)) (h0 : 0 < need.length) (hn : need.length ≤ 14) (hl : ∀ l ∈ need, l.length ≤ 60 ∧ ∀ k ∈ l, k < need.length) : RetD tab 48 [.d (needD need)] (.sl 1 ((ranksL need).map (DV.int .i64))) := by
  have hsz : ((need.length : Int) * 8 ≤ 140737488355328 ∧ (need.length : Int) ≤ 9223372036854775807 ∧ 0 < (need.length : Int) * 1) = True := eq_true (by omega)
  have hfl : (List.replicate need.length [AV.d (DV.int IntKind.i64 0)]).flatten = cI (List.replicate need.length 0) := by
    unfold cI
    rw [List.map_replicate]
    generalize need.length = n
    induction n with
    | zero => rfl
    | succ n ih => rw [List.replicate_succ, List.flatten_cons, ih]; rfl
  refine retq_good 64 fn48 rfl rfl ?_
  unfold needD
  simp only [amr, amc, amp, amz, seval, ty_RkB_48, hsz, hfl]
  refine good_range (List.replicate need.length ()) (fun k (_ : Unit) _ => ⟨[(0, .d (.sl 1 (need.map rowD))), (3, .arr ⟨0, 12, [0]⟩ 0 need.length 1), (14, .d (.int .i64 need.length)), (15, .d (.int .i64 (k : Nat)))], [(⟨0, 12, [0]⟩, .box (cI (List.replicate k (-1) ++ List.replicate (need.length - k) 0)))], [1]⟩)
    (fun _ _ => True) (fun _ _ _ => ())
    (QX (.exit 0) (fun _ g => ⟨[(0, .d (.sl 1 (need.map rowD))), (3, .arr ⟨0, 12, [0]⟩ 0 need.length 1)], [(⟨0, 12, [0]⟩, .box (cI (List.replicate need.length (-1))))], [1]⟩)) () kp48_3 up_qx trivial (by simp only [List.length_replicate]; omega) (by simp only [List.length_replicate]; omega) ?_ ?_ ?_ ?_
  · rintro k a g x rest hk hget hdr _ hb w1
    simp only [List.length_replicate] at hk hb
    have hlt : (k : Int) < (need.length : Int) := by omega
    have hle : (List.replicate k (-1) ++ List.replicate (need.length - k) (0 : Int)).length = need.length := by simp; omega
    have f2 := cI_set (out := List.replicate k (-1) ++ List.replicate (need.length - k) 0) (-1) (by omega : k < _)
    have e : (List.replicate k (-1) ++ List.replicate (need.length - k) (0 : Int)).set k (-1) = List.replicate (k + 1) (-1) ++ List.replicate (need.length - (k + 1)) 0 := by
      rw [List.set_append_right _ _ (by simp), List.length_replicate, Nat.sub_self, show need.length - k = need.length - (k + 1) + 1 by omega, List.replicate_succ, List.set_cons_zero, List.replicate_succ']
      simp
    rw [e] at f2
    have f3 : k + 1 ≤ (cI (List.replicate k (-1) ++ List.replicate (need.length - k) 0)).length := by rw [cI_len, hle]; omega
    generalize cI (List.replicate k (-1) ++ List.replicate (need.length - k) 0) = U at *
    simp only [amr, amc, amp, amz, seval, ty_RkB_48, hb, hlt, w1, f2, f3, Nat.mul_one]
    refine step_nrm () trivial rfl ?_
    (refine ⟨[], ?_⟩; (try simp only [amr, amc, amp, amz, seval]); exact sub_mk (by repeat first | exact subT_nil | refine subT_cons (by first | rfl | simp [Tm.get, *]) ?_))
  · intro a g _ hb
    simp only [List.length_replicate, Nat.sub_self, List.replicate_zero, List.append_nil] at hb ⊢
    simp only [amr, amc, amp, amz, seval, ty_RkB_48, hb]
    refine last_end (by simp) ⟨rfl, ?_⟩
    (refine ⟨[], ?_⟩; (try simp only [amr, amc, amp, amz, seval]); exact sub_mk (by repeat first | exact subT_nil | refine subT_cons (by first | rfl | simp [Tm.get, *]) ?_))
  · simp only [List.replicate_zero, List.nil_append, Nat.sub_zero]
    (refine ⟨[], ?_⟩; (try simp only [amr, amc, amp, amz, seval]); exact sub_mk (by repeat first | exact subT_nil | refine subT_cons (by first | rfl | simp [Tm.get, *]) ?_))
  · rintro o S' ⟨rfl, g, hs⟩
    refine good_sub_cr up_finq hs ?_
    simp only [amr, amc, amp, amz, seval, ty_RkB_48]
    refine good_range need (fun k (a : List Int) _ => ⟨[(0, .d (.sl 1 (need.map rowD))), (3, .arr ⟨0, 12, [0]⟩ 0 need.length 1), (23, .d (.int .i64 need.length)), (24, .d (.int .i64 (k : Nat)))], [(⟨0, 12, [0]⟩, .box (cI a))], [1]⟩)
      (fun k a => a.length = need.length ∧ RkB (k * 14) a) (fun _ a r => roundsR need r.length a)
      (QX (.exit 2) (fun (o : List Int) g => ⟨[(3, .arr ⟨0, 12, [0]⟩ 0 need.length 1)], [(⟨0, 12, [0]⟩, .box (cI o))], [1]⟩)) (List.replicate need.length (-1)) kp48_8 up_qx ⟨by simp, fun i => by
        rw [List.getD_eq_getElem?_getD, List.getElem?_replicate]
        split <;> decide⟩ (by omega) (by omega) ?_ ?_ ?_ ?_
    · rintro k a g x rest hk hget hdr ⟨ha, hB⟩ hb w1
      simp only [amr, amc, amp, amz, seval, ty_RkB_48, hb, w1]
      refine good_range need (fun j (b : List Int) _ => ⟨[(0, .d (.sl 1 (need.map rowD))), (3, .arr ⟨0, 12, [0]⟩ 0 need.length 1), (23, .d (.int .i64 need.length)), (24, .d (.int .i64 (k : Nat))), (26, .d (.sl 1 (need.map rowD))), (27, .d (.int .i64 need.length)), (28, .d (.int .i64 (j : Nat)))], [(⟨0, 12, [0]⟩, .box (cI b))], [1]⟩)
        (fun j b => b.length = need.length ∧ RkB (k * 14 + j) b) (fun j b r => sweepR r j b)
        (QX (.exit 4) (fun (o : List Int) g => ⟨[(0, .d (.sl 1 (need.map rowD))), (3, .arr ⟨0, 12, [0]⟩ 0 need.length 1), (23, .d (.int .i64 need.length)), (24, .d (.int .i64 (k : Nat)))], [(⟨0, 12, [0]⟩, .box (cI o))], [1]⟩)) a kp48_10 up_qx ⟨ha, hB.mono (by omega)⟩ (by omega) (by omega) ?_ ?_ ?_ ?_
      · rintro j b g2 l rest2 hj hget2 hdr2 ⟨hbl, hBb⟩ hb2 w2
        have hget2' : (need.map rowD)[j]? = some (.sl 1 (l.map fun (k : Nat) => DV.int .i64 k)) := by rw [List.getElem?_map, hget2]; rfl
        have hjl : (j : Int) < (need.length : Int) := by omega
        obtain ⟨hll, hlk⟩ := hl l (List.mem_of_getElem? hget2)
        have hmb := mostR_le hBb (by omega) l 0 (by omega) (by omega)
        have hbj := hBb j
        have f1 := cI_head (out := b) (i := j) (by omega)
        have f3 : j + 1 ≤ (cI b).length := by rw [cI_len]; omega
        simp only [amr, amc, amp, amz, seval, ty_RkB_48, hb2, hget2', w2]
        refine good_range l (fun i (m : Int) _ => ⟨[(0, .d (.sl 1 (need.map rowD))), (3, .arr ⟨0, 12, [0]⟩ 0 need.length 1), (5, .d (.int .i64 (j : Nat))), (7, .d (.int .i64 m)), (23, .d (.int .i64 need.length)), (24, .d (.int .i64 (k : Nat))), (26, .d (.sl 1 (need.map rowD))), (27, .d (.int .i64 need.length)), (28, .d (.int .i64 (j : Nat))), (33, .d (.sl 1 (l.map fun (k : Nat) => DV.int .i64 k))), (34, .d (.int .i64 l.length)), (35, .d (.int .i64 (i : Nat)))], [(⟨0, 12, [0]⟩, .box (cI b))], [1]⟩)
          (fun i m => True) (fun i m r => mostR b r m)
          (QX (.exit 6) (fun (o : Int) g => ⟨[(0, .d (.sl 1 (need.map rowD))), (3, .arr ⟨0, 12, [0]⟩ 0 need.length 1), (5, .d (.int .i64 (j : Nat))), (7, .d (.int .i64 o)), (23, .d (.int .i64 need.length)), (24, .d (.int .i64 (k : Nat))), (26, .d (.sl 1 (need.map rowD))), (27, .d (.int .i64 need.length)), (28, .d (.int .i64 (j : Nat)))], [(⟨0, 12, [0]⟩, .box (cI b))], [1]⟩)) 0 kp48_14 up_qx trivial (by omega) (by omega) ?_ ?_ ?_ ?_
        · rintro i m g3 q rest3 hi hget3 hdr3 _ hb3 w3
          have hget3' : (l.map fun (k : Nat) => DV.int .i64 k)[i]? = some (.int .i64 q) := by rw [List.getElem?_map, hget3]; rfl
          have hq := hlk q (List.mem_of_getElem? hget3)
          have hql : (q : Int) < (need.length : Int) := by omega
          have fq := cI_head (out := b) (i := q) (by omega)
          have f4 : q + 1 ≤ (cI b).length := by rw [cI_len]; omega
          have hbq := hBb q
          have hM : mostR b (q :: rest3) m = if b.getD q 0 < 0 then -1 else mostR b rest3 (if b.getD q 0 + 1 > m then b.getD q 0 + 1 else m) := by rw [mostR]
          generalize b.getD q 0 = v at *
          have wv : IntKind.i64.wrap (v + 1) = v + 1 := wrap_in (by omega) (by omega)
          generalize cI b = U at *
          by_cases cv : v < 0
          · have b1 : decide (v < 0) = true := decide_eq_true cv
            rw [if_pos cv] at hM
            simp only [amr, amc, amp, amz, seval, ty_RkB_48, hb3, hget3', hql, fq, f4, b1, w3, Nat.mul_one]
            refine step_end (by simp) hM ⟨rfl, ?_⟩
            (refine ⟨[], ?_⟩; (try simp only [amr, amc, amp, amz, seval]); exact sub_mk (by repeat first | exact subT_nil | refine subT_cons (by first | rfl | simp [Tm.get, *]) ?_))
          · have b1 : decide (v < 0) = false := decide_eq_false cv
            rw [if_neg cv] at hM
            simp only [amr, amc, amp, amz, seval, ty_RkB_48, hb3, hget3', hql, fq, f4, b1, w3, wv, Nat.mul_one]
            refine step_nrm (if v + 1 > m then v + 1 else m) trivial hM ?_
            (refine ⟨[], ?_⟩; (try simp only [amr, amc, amp, amz, seval]); exact sub_mk (by repeat first | exact subT_nil | refine subT_cons (by first | rfl | simp [Tm.get, *]) ?_))
        · intro m g3 _ hb3
          simp only [amr, amc, amp, amz, seval, ty_RkB_48, hb3]
          refine last_end (by simp) ⟨rfl, ?_⟩
          (refine ⟨[], ?_⟩; (try simp only [amr, amc, amp, amz, seval]); exact sub_mk (by repeat first | exact subT_nil | refine subT_cons (by first | rfl | simp [Tm.get, *]) ?_))
        · (refine ⟨[], ?_⟩; (try simp only [amr, amc, amp, amz, seval]); exact sub_mk (by repeat first | exact subT_nil | refine subT_cons (by first | rfl | simp [Tm.get, *]) ?_))
        · rintro o S' ⟨rfl, g4, hs4⟩
          refine good_sub_cr (up_stepr up_qx) hs4 ?_
          have hsw : sweepR (l :: rest2) j b = sweepR rest2 (j + 1) (b.set j (upR (b.getD j 0) (mostR b l 0))) := by rw [sweepR]
          have f2 := cI_set (out := b) (i := j) (upR (b.getD j 0) (mostR b l 0)) (by omega)
          have hst : (b.set j (upR (b.getD j 0) (mostR b l 0))).length = need.length ∧ RkB (k * 14 + ((j + 1 : Nat) : Int)) (b.set j (upR (b.getD j 0) (mostR b l 0))) := ⟨by rw [List.length_set]; exact hbl, by
            have := hBb.set (by omega) j l
            have e : (k * 14 + (j : Int)) + 1 = k * 14 + ((j + 1 : Nat) : Int) := by omega
            rwa [e] at this⟩
          generalize b.set j (upR (b.getD j 0) (mostR b l 0)) = b' at *
          unfold upR at f2
          generalize mostR b l 0 = v at *
          generalize b.getD j 0 = o at *
          generalize cI b = U at *
          simp only [amr, amc, amp, amz, seval, ty_RkB_48, hjl, f1, f2, f3, w2, Nat.mul_one]
          refine step_nrm b' hst hsw ?_
          (refine ⟨[], ?_⟩; (try simp only [amr, amc, amp, amz, seval]); exact sub_mk (by repeat first | exact subT_nil | refine subT_cons (by first | rfl | simp [Tm.get, *]) ?_))
      · rintro b g2 _ hb2
        simp only [amr, amc, amp, amz, seval, ty_RkB_48, hb2]
        refine last_end (by simp) ⟨rfl, ?_⟩
        simp only [sweepR]
        (refine ⟨[], ?_⟩; (try simp only [amr, amc, amp, amz, seval]); exact sub_mk (by repeat first | exact subT_nil | refine subT_cons (by first | rfl | simp [Tm.get, *]) ?_))
      · (refine ⟨[], ?_⟩; (try simp only [amr, amc, amp, amz, seval]); exact sub_mk (by repeat first | exact subT_nil | refine subT_cons (by first | rfl | simp [Tm.get, *]) ?_))
      · rintro o S' ⟨rfl, g4, hs4⟩
        refine good_sub_cr (up_stepr up_qx) hs4 ?_
        simp only [amr, amc, amp, amz, seval, ty_RkB_48, w1]
        refine step_nrm (sweepR need 0 a) ⟨by rw [sweep_len]; exact ha, ?_⟩ (by rw [List.length_cons, roundsR]) ?_
        · exact (sweep_B need 0 a (k * 14) (by omega) hB).mono (by omega)
        · (refine ⟨[], ?_⟩; (try simp only [amr, amc, amp, amz, seval]); exact sub_mk (by repeat first | exact subT_nil | refine subT_cons (by first | rfl | simp [Tm.get, *]) ?_))
    · rintro a g _ hb
      simp only [amr, amc, amp, amz, seval, ty_RkB_48, hb]
      refine last_end (by simp) ⟨rfl, ?_⟩
      simp only [List.length_nil, roundsR]
      (refine ⟨[], ?_⟩; (try simp only [amr, amc, amp, amz, seval]); exact sub_mk (by repeat first | exact subT_nil | refine subT_cons (by first | rfl | simp [Tm.get, *]) ?_))
    · (refine ⟨[], ?_⟩; (try simp only [amr, amc, amp, amz, seval]); exact sub_mk (by repeat first | exact subT_nil | refine subT_cons (by first | rfl | simp [Tm.get, *]) ?_))
    · rintro o S' ⟨rfl, g, hs⟩
      refine good_sub_cr up_finq hs ?_
      have hL : (roundsR need need.length (List.replicate need.length (-1))).length = need.length := by rw [rounds_len, List.length_replicate]
      unfold ranksL
      generalize roundsR need need.length (List.replicate need.length (-1)) = O at *
      simp only [amr, amc, amp, amz, seval, ty_RkB_48]
      refine ⟨rfl, ?_⟩
      rw [← fzb_arr, frz_list0 (sz := 1) (n := need.length) (xs := O.map (DV.int .i64)) (by rw [cI_flat]; simp only [Heap.get, if_true]) (by rw [List.length_map, hL]) (by decide) (fun x hx => by
        obtain ⟨t, _, rfl⟩ := List.mem_map.1 hx
        exact ⟨rfl, rfl⟩)]
      rfl
theorem ca_ranks {d dst : Nat} {S : St} (need : List (List Nat)) (h0 : 0 < need.length) (hn : need.length ≤ 14) (hl : ∀ l ∈ need, l.length ≤ 60 ∧ ∀ k ∈ l, k < need.length) : callA tab (callR tab) d dst 48 [.d (needD need)] S = some (.d (.sl 1 ((ranksL need).map (DV.int .i64))), S) :=
  ca_retD (ds := [needD need]) (ret_ranks need h0 hn hl) rfl (tab_opn (by kernel_rfl)) (tab_res (by kernel_rfl))
end Go.Proofs.Ytfcfifohflgboaa.Am
