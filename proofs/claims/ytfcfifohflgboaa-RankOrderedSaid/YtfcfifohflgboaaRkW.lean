/- Ranks, walked. -/
import Derived.Test.YtfcfifohflgboaaFmV
import Derived.Test.YtfcfifohflgboaaOfQ
set_option linter.unusedVariables false
set_option linter.unusedSimpArgs false
namespace Go.Proofs.Ytfcfifohflgboaa.Am
open Go Go.RowKit
theorem ty_RkB_48 : type_of% (ai (ai (ai @rs48 @lw48) (ai @kp48_3 (ai @kp48_8 @kp48_10))) (ai (ai @kp48_14 @tt3) (ai @tt4 (ai @tt50 @tt85)))) := (ai (ai (ai @rs48 @lw48) (ai @kp48_3 (ai @kp48_8 @kp48_10))) (ai (ai @kp48_14 @tt3) (ai @tt4 (ai @tt50 @tt85))))
set_option maxRecDepth 100000
set_option maxHeartbeats 40000000



theorem up_stepr {α β ρ : Type} {mk : Nat → β → List Nat → St} {I : Nat → β → Prop} {sp : Nat → β → List α → ρ} {Q : ρ → Out → St → Prop} {d : Nat} {ts hs : List Nat} {k : Nat} {a : β} {x : α} {rest : List α} (hQ : ∀ r, Up (Q r)) : Up (StepR mk I sp Q d ts hs k a x rest) := by
  rintro o S S' h (⟨h1, h2⟩ | ⟨h1, a', g', h2, h3, h4⟩)
  · exact .inl ⟨h1, hQ _ _ _ _ h h2⟩
  · exact .inr ⟨h1, a', g', h2, h3, h4.trans (sub_keep h d _)⟩
def cI (out : List Int) : List AV := out.map fun v => .d (.int .i64 v)
def rowD (l : List Nat) : DV := .sl 1 (l.map fun (k : Nat) => DV.int .i64 k)
def needD (need : List (List Nat)) : DV := .sl 1 (need.map rowD)
theorem cI_len (out : List Int) : (cI out).length = out.length := List.length_map ..
theorem cI_head {out : List Int} {i : Nat} (h : i < out.length) : (List.drop i (cI out)).head? = some (.d (.int .i64 (out.getD i 0))) := by
  rw [List.head?_drop]
  simp [cI, h]
theorem cI_set {out : List Int} {i : Nat} (v : Int) (h : i < out.length) : List.take i (cI out) ++ [.d (.int .i64 v)] ++ List.drop (i + 1) (cI out) = cI (out.set i v) := by
  unfold cI
  rw [← List.map_take, ← List.map_drop, List.set_eq_take_append_cons_drop, if_pos h]
  simp
theorem cI_flat : ∀ out : List Int, cI out = flatD (out.map (DV.int .i64))
  | [] => rfl
  | a :: r => by
    have := cI_flat r
    simp only [cI, flatD, List.map_cons, List.flatMap_cons, List.map_append] at *
    rw [this]
    rfl
def RkB (b : Int) (out : List Int) : Prop := ∀ i, -1 ≤ out.getD i 0 ∧ out.getD i 0 ≤ b
theorem mostR_le {out : List Int} {b : Int} (hB : RkB b out) (hb : 0 ≤ b) : ∀ (l : List Nat) (m : Int), -1 ≤ m → m ≤ b + 1 → -1 ≤ mostR out l m ∧ mostR out l m ≤ b + 1
  | [], m, h1, h2 => ⟨h1, h2⟩
  | k :: r, m, h1, h2 => by
    have h := hB k
    unfold mostR
    split
    · omega
    · split
      · exact mostR_le hB hb r _ (by omega) (by omega)
      · exact mostR_le hB hb r m h1 h2
theorem RkB.set {out : List Int} {b : Int} (hB : RkB b out) (hb : 0 ≤ b) (i : Nat) (l : List Nat) : RkB (b + 1) (out.set i (upR (out.getD i 0) (mostR out l 0))) := fun j => by
  have h1 := hB i
  have h2 := hB j
  have h3 := mostR_le hB hb l 0 (by omega) (by omega)
  rw [getD_set]
  split
  · unfold upR
    split <;> omega
  · omega
theorem sweep_B : ∀ (r : List (List Nat)) (i : Nat) (out : List Int) (b : Int), 0 ≤ b → RkB b out → RkB (b + r.length) (sweepR r i out)
  | [], i, out, b, hb, hB => by simpa [sweepR] using hB
  | l :: r, i, out, b, hb, hB => by
    have := sweep_B r (i + 1) _ (b + 1) (by omega) (hB.set hb i l)
    unfold sweepR
    have e : b + ((l :: r).length : Int) = b + 1 + (r.length : Int) := by simp only [List.length_cons]; omega
    rw [e]
    exact this
theorem sweep_len : ∀ (r : List (List Nat)) (i : Nat) (out : List Int), (sweepR r i out).length = out.length
  | [], i, out => rfl
  | l :: r, i, out => by unfold sweepR; rw [sweep_len r (i + 1) _, List.length_set]
theorem RkB.mono {b c : Int} {out : List Int} (h : RkB b out) (hc : b ≤ c) : RkB c out := fun i => ⟨(h i).1, by have := (h i).2; omega⟩
theorem rounds_len (need : List (List Nat)) : ∀ (t : Nat) (out : List Int), (roundsR need t out).length = out.length
  | 0, out => rfl
  | t + 1, out => by unfold roundsR; rw [rounds_len need t, sweep_len]
theorem ret_ranks (need : List (List Nat)) (h0 : 0 < need.length) (hn : need.length ≤ 14) (hl : ∀ l ∈ need, l.length ≤ 60 ∧ ∀ k ∈ l, k < need.length) : RetD tab 48 [.d (needD need)] (.sl 1 ((ranksL need).map (DV.int .i64))) := by
  have hsz : ((need.length : Int) * 8 ≤ 140737488355328 ∧ (need.length : Int) ≤ 9223372036854775807 ∧ 0 < (need.length : Int) * 1) = True := eq_true (by omega)
  have hfl : (List.replicate need.length [AV.d (DV.int IntKind.i64 0)]).flatten = cI (List.replicate need.length 0) := by
    unfold cI
    rw [List.map_replicate]
    generalize need.length = n
    induction n with
    | zero => rfl
    | succ n ih => rw [List.replicate_succ, List.flatten_cons, ih]; rfl
  refine retq_good 64 fn48 rfl rfl ?_
  unfold needD
  simp only [amr, amc, amp, amz, seval, ty_RkB_48, hsz, hfl]
  refine good_range (List.replicate need.length ()) (fun k (_ : Unit) _ => ⟨[(0, .d (.sl 1 (need.map rowD))), (3, .arr ⟨0, 12, [0]⟩ 0 need.length 1), (14, .d (.int .i64 need.length)), (15, .d (.int .i64 (k : Nat)))], [(⟨0, 12, [0]⟩, .box (cI (List.replicate k (-1) ++ List.replicate (need.length - k) 0)))], [1]⟩)
    (fun _ _ => True) (fun _ _ _ => ())
    (QX (.exit 0) (fun _ g => ⟨[(0, .d (.sl 1 (need.map rowD))), (3, .arr ⟨0, 12, [0]⟩ 0 need.length 1)], [(⟨0, 12, [0]⟩, .box (cI (List.replicate need.length (-1))))], [1]⟩)) () kp48_3 up_qx trivial (by simp only [List.length_replicate]; omega) (by simp only [List.length_replicate]; omega) ?_ ?_ ?_ ?_
  · rintro k a g x rest hk hget hdr _ hb w1
    simp only [List.length_replicate] at hk hb
    have hlt : (k : Int) < (need.length : Int) := by omega
    have hle : (List.replicate k (-1) ++ List.replicate (need.length - k) (0 : Int)).length = need.length := by simp; omega
    have f2 := cI_set (out := List.replicate k (-1) ++ List.replicate (need.length - k) 0) (-1) (by omega : k < _)
    have e : (List.replicate k (-1) ++ List.replicate (need.length - k) (0 : Int)).set k (-1) = List.replicate (k + 1) (-1) ++ List.replicate (need.length - (k + 1)) 0 := by
      rw [List.set_append_right _ _ (by simp), List.length_replicate, Nat.sub_self, show need.length - k = need.length - (k + 1) + 1 by omega, List.replicate_succ, List.set_cons_zero, List.replicate_succ']
      simp
    rw [e] at f2
    have f3 : k + 1 ≤ (cI (List.replicate k (-1) ++ List.replicate (need.length - k) 0)).length := by rw [cI_len, hle]; omega
    generalize cI (List.replicate k (-1) ++ List.replicate (need.length - k) 0) = U at *
    simp only [amr, amc, amp, amz, seval, ty_RkB_48, hb, hlt, w1, f2, f3, Nat.mul_one]
    refine step_nrm () trivial rfl ?_
    (refine ⟨[], ?_⟩; (try simp only [amr, amc, amp, amz, seval]); exact sub_mk (by repeat first | exact subT_nil | refine subT_cons (by first | rfl | simp [Tm.get, *]) ?_))
  · intro a g _ hb
    simp only [List.length_replicate, Nat.sub_self, List.replicate_zero, List.append_nil] at hb ⊢
    simp only [amr, amc, amp, amz, seval, ty_RkB_48, hb]
    refine last_end (by simp) ⟨rfl, ?_⟩
    (refine ⟨[], ?_⟩; (try simp only [amr, amc, amp, amz, seval]); exact sub_mk (by repeat first | exact subT_nil | refine subT_cons (by first | rfl | simp [Tm.get, *]) ?_))
  · simp only [List.replicate_zero, List.nil_append, Nat.sub_zero]
    (refine ⟨[], ?_⟩; (try simp only [amr, amc, amp, amz, seval]); exact sub_mk (by repeat first | exact subT_nil | refine subT_cons (by first | rfl | simp [Tm.get, *]) ?_))
  · rintro o S' ⟨rfl, g, hs⟩
    refine good_sub_cr up_finq hs ?_
    simp only [amr, amc, amp, amz, seval, ty_RkB_48]
    refine good_range need (fun k (a : List Int) _ => ⟨[(0, .d (.sl 1 (need.map rowD))), (3, .arr ⟨0, 12, [0]⟩ 0 need.length 1), (23, .d (.int .i64 need.length)), (24, .d (.int .i64 (k : Nat)))], [(⟨0, 12, [0]⟩, .box (cI a))], [1]⟩)
      (fun k a => a.length = need.length ∧ RkB (k * 14) a) (fun _ a r => roundsR need r.length a)
      (QX (.exit 2) (fun (o : List Int) g => ⟨[(3, .arr ⟨0, 12, [0]⟩ 0 need.length 1)], [(⟨0, 12, [0]⟩, .box (cI o))], [1]⟩)) (List.replicate need.length (-1)) kp48_8 up_qx ⟨by simp, fun i => by
        rw [List.getD_eq_getElem?_getD, List.getElem?_replicate]
        split <;> decide⟩ (by omega) (by omega) ?_ ?_ ?_ ?_
    · rintro k a g x rest hk hget hdr ⟨ha, hB⟩ hb w1
      simp only [amr, amc, amp, amz, seval, ty_RkB_48, hb, w1]
      refine good_range need (fun j (b : List Int) _ => ⟨[(0, .d (.sl 1 (need.map rowD))), (3, .arr ⟨0, 12, [0]⟩ 0 need.length 1), (23, .d (.int .i64 need.length)), (24, .d (.int .i64 (k : Nat))), (26, .d (.sl 1 (need.map rowD))), (27, .d (.int .i64 need.length)), (28, .d (.int .i64 (j : Nat)))], [(⟨0, 12, [0]⟩, .box (cI b))], [1]⟩)
        (fun j b => b.length = need.length ∧ RkB (k * 14 + j) b) (fun j b r => sweepR r j b)
        (QX (.exit 4) (fun (o : List Int) g => ⟨[(0, .d (.sl 1 (need.map rowD))), (3, .arr ⟨0, 12, [0]⟩ 0 need.length 1), (23, .d (.int .i64 need.length)), (24, .d (.int .i64 (k : Nat)))], [(⟨0, 12, [0]⟩, .box (cI o))], [1]⟩)) a kp48_10 up_qx ⟨ha, hB.mono (by omega)⟩ (by omega) (by omega) ?_ ?_ ?_ ?_
      · rintro j b g2 l rest2 hj hget2 hdr2 ⟨hbl, hBb⟩ hb2 w2
        have hget2' : (need.map rowD)[j]? = some (.sl 1 (l.map fun (k : Nat) => DV.int .i64 k)) := by rw [List.getElem?_map, hget2]; rfl
        have hjl : (j : Int) < (need.length : Int) := by omega
        obtain ⟨hll, hlk⟩ := hl l (List.mem_of_getElem? hget2)
        have hmb := mostR_le hBb (by omega) l 0 (by omega) (by omega)
        have hbj := hBb j
        have f1 := cI_head (out := b) (i := j) (by omega)
        have f3 : j + 1 ≤ (cI b).length := by rw [cI_len]; omega
        simp only [amr, amc, amp, amz, seval, ty_RkB_48, hb2, hget2', w2]
        refine good_range l (fun i (m : Int) _ => ⟨[(0, .d (.sl 1 (need.map rowD))), (3, .arr ⟨0, 12, [0]⟩ 0 need.length 1), (5, .d (.int .i64 (j : Nat))), (7, .d (.int .i64 m)), (23, .d (.int .i64 need.length)), (24, .d (.int .i64 (k : Nat))), (26, .d (.sl 1 (need.map rowD))), (27, .d (.int .i64 need.length)), (28, .d (.int .i64 (j : Nat))), (33, .d (.sl 1 (l.map fun (k : Nat) => DV.int .i64 k))), (34, .d (.int .i64 l.length)), (35, .d (.int .i64 (i : Nat)))], [(⟨0, 12, [0]⟩, .box (cI b))], [1]⟩)
          (fun i m => True) (fun i m r => mostR b r m)
          (QX (.exit 6) (fun (o : Int) g => ⟨[(0, .d (.sl 1 (need.map rowD))), (3, .arr ⟨0, 12, [0]⟩ 0 need.length 1), (5, .d (.int .i64 (j : Nat))), (7, .d (.int .i64 o)), (23, .d (.int .i64 need.length)), (24, .d (.int .i64 (k : Nat))), (26, .d (.sl 1 (need.map rowD))), (27, .d (.int .i64 need.length)), (28, .d (.int .i64 (j : Nat)))], [(⟨0, 12, [0]⟩, .box (cI b))], [1]⟩)) 0 kp48_14 up_qx trivial (by omega) (by omega) ?_ ?_ ?_ ?_
        · rintro i m g3 q rest3 hi hget3 hdr3 _ hb3 w3
          have hget3' : (l.map fun (k : Nat) => DV.int .i64 k)[i]? = some (.int .i64 q) := by rw [List.getElem?_map, hget3]; rfl
          have hq := hlk q (List.mem_of_getElem? hget3)
          have hql : (q : Int) < (need.length : Int) := by omega
          have fq := cI_head (out := b) (i := q) (by omega)
          have f4 : q + 1 ≤ (cI b).length := by rw [cI_len]; omega
          have hbq := hBb q
          have hM : mostR b (q :: rest3) m = if b.getD q 0 < 0 then -1 else mostR b rest3 (if b.getD q 0 + 1 > m then b.getD q 0 + 1 else m) := by rw [mostR]
          generalize b.getD q 0 = v at *
          have wv : IntKind.i64.wrap (v + 1) = v + 1 := wrap_in (by omega) (by omega)
          generalize cI b = U at *
          by_cases cv : v < 0
          · have b1 : decide (v < 0) = true := decide_eq_true cv
            rw [if_pos cv] at hM
            simp only [amr, amc, amp, amz, seval, ty_RkB_48, hb3, hget3', hql, fq, f4, b1, w3, Nat.mul_one]
            refine step_end (by simp) hM ⟨rfl, ?_⟩
            (refine ⟨[], ?_⟩; (try simp only [amr, amc, amp, amz, seval]); exact sub_mk (by repeat first | exact subT_nil | refine subT_cons (by first | rfl | simp [Tm.get, *]) ?_))
          · have b1 : decide (v < 0) = false := decide_eq_false cv
            rw [if_neg cv] at hM
            simp only [amr, amc, amp, amz, seval, ty_RkB_48, hb3, hget3', hql, fq, f4, b1, w3, wv, Nat.mul_one]
            refine step_nrm (if v + 1 > m then v + 1 else m) trivial hM ?_
            (refine ⟨[], ?_⟩; (try simp only [amr, amc, amp, amz, seval]); exact sub_mk (by repeat first | exact subT_nil | refine subT_cons (by first | rfl | simp [Tm.get, *]) ?_))
        · intro m g3 _ hb3
          simp only [amr, amc, amp, amz, seval, ty_RkB_48, hb3]
          refine last_end (by simp) ⟨rfl, ?_⟩
          (refine ⟨[], ?_⟩; (try simp only [amr, amc, amp, amz, seval]); exact sub_mk (by repeat first | exact subT_nil | refine subT_cons (by first | rfl | simp [Tm.get, *]) ?_))
        · (refine ⟨[], ?_⟩; (try simp only [amr, amc, amp, amz, seval]); exact sub_mk (by repeat first | exact subT_nil | refine subT_cons (by first | rfl | simp [Tm.get, *]) ?_))
        · rintro o S' ⟨rfl, g4, hs4⟩
          refine good_sub_cr (up_stepr up_qx) hs4 ?_
          have hsw : sweepR (l :: rest2) j b = sweepR rest2 (j + 1) (b.set j (upR (b.getD j 0) (mostR b l 0))) := by rw [sweepR]
          have f2 := cI_set (out := b) (i := j) (upR (b.getD j 0) (mostR b l 0)) (by omega)
          have hst : (b.set j (upR (b.getD j 0) (mostR b l 0))).length = need.length ∧ RkB (k * 14 + ((j + 1 : Nat) : Int)) (b.set j (upR (b.getD j 0) (mostR b l 0))) := ⟨by rw [List.length_set]; exact hbl, by
            have := hBb.set (by omega) j l
            have e : (k * 14 + (j : Int)) + 1 = k * 14 + ((j + 1 : Nat) : Int) := by omega
            rwa [e] at this⟩
          generalize b.set j (upR (b.getD j 0) (mostR b l 0)) = b' at *
          unfold upR at f2
          generalize mostR b l 0 = v at *
          generalize b.getD j 0 = o at *
          generalize cI b = U at *
          simp only [amr, amc, amp, amz, seval, ty_RkB_48, hjl, f1, f2, f3, w2, Nat.mul_one]
          refine step_nrm b' hst hsw ?_
          (refine ⟨[], ?_⟩; (try simp only [amr, amc, amp, amz, seval]); exact sub_mk (by repeat first | exact subT_nil | refine subT_cons (by first | rfl | simp [Tm.get, *]) ?_))
      · rintro b g2 _ hb2
        simp only [amr, amc, amp, amz, seval, ty_RkB_48, hb2]
        refine last_end (by simp) ⟨rfl, ?_⟩
        simp only [sweepR]
        (refine ⟨[], ?_⟩; (try simp only [amr, amc, amp, amz, seval]); exact sub_mk (by repeat first | exact subT_nil | refine subT_cons (by first | rfl | simp [Tm.get, *]) ?_))
      · (refine ⟨[], ?_⟩; (try simp only [amr, amc, amp, amz, seval]); exact sub_mk (by repeat first | exact subT_nil | refine subT_cons (by first | rfl | simp [Tm.get, *]) ?_))
      · rintro o S' ⟨rfl, g4, hs4⟩
        refine good_sub_cr (up_stepr up_qx) hs4 ?_
        simp only [amr, amc, amp, amz, seval, ty_RkB_48, w1]
        refine step_nrm (sweepR need 0 a) ⟨by rw [sweep_len]; exact ha, ?_⟩ (by rw [List.length_cons, roundsR]) ?_
        · exact (sweep_B need 0 a (k * 14) (by omega) hB).mono (by omega)
        · (refine ⟨[], ?_⟩; (try simp only [amr, amc, amp, amz, seval]); exact sub_mk (by repeat first | exact subT_nil | refine subT_cons (by first | rfl | simp [Tm.get, *]) ?_))
    · rintro a g _ hb
      simp only [amr, amc, amp, amz, seval, ty_RkB_48, hb]
      refine last_end (by simp) ⟨rfl, ?_⟩
      simp only [List.length_nil, roundsR]
      (refine ⟨[], ?_⟩; (try simp only [amr, amc, amp, amz, seval]); exact sub_mk (by repeat first | exact subT_nil | refine subT_cons (by first | rfl | simp [Tm.get, *]) ?_))
    · (refine ⟨[], ?_⟩; (try simp only [amr, amc, amp, amz, seval]); exact sub_mk (by repeat first | exact subT_nil | refine subT_cons (by first | rfl | simp [Tm.get, *]) ?_))
    · rintro o S' ⟨rfl, g, hs⟩
      refine good_sub_cr up_finq hs ?_
      have hL : (roundsR need need.length (List.replicate need.length (-1))).length = need.length := by rw [rounds_len, List.length_replicate]
      unfold ranksL
      generalize roundsR need need.length (List.replicate need.length (-1)) = O at *
      simp only [amr, amc, amp, amz, seval, ty_RkB_48]
      refine ⟨rfl, ?_⟩
      rw [← fzb_arr, frz_list0 (sz := 1) (n := need.length) (xs := O.map (DV.int .i64)) (by rw [cI_flat]; simp only [Heap.get, if_true]) (by rw [List.length_map, hL]) (by decide) (fun x hx => by
        obtain ⟨t, _, rfl⟩ := List.mem_map.1 hx
        exact ⟨rfl, rfl⟩)]
      rfl
theorem ca_ranks {d dst : Nat} {S : St} (need : List (List Nat)) (h0 : 0 < need.length) (hn : need.length ≤ 14) (hl : ∀ l ∈ need, l.length ≤ 60 ∧ ∀ k ∈ l, k < need.length) : callA tab (callR tab) d dst 48 [.d (needD need)] S = some (.d (.sl 1 ((ranksL need).map (DV.int .i64))), S) :=
  ca_retD (ds := [needD need]) (ret_ranks need h0 hn hl) rfl (tab_opn (by kernel_rfl)) (tab_res (by kernel_rfl))
/- What each field needs, walked. -/
theorem ty_RkC_47 : type_of% (ai (ai (ai (ai @rs47 @lw47) (ai @mu50_43 @mu85_48)) (ai (ai @kp47_3 @kp47_9) (ai @tt1 (ai @tt3 @tt4)))) (ai (ai (ai @tt9 @tt23) (ai @tt28 (ai @tt31 @tt33))) (ai (ai @tt34 @tt36) (ai @tt48 (ai @tt50 @tt85))))) := (ai (ai (ai (ai @rs47 @lw47) (ai @mu50_43 @mu85_48)) (ai (ai @kp47_3 @kp47_9) (ai @tt1 (ai @tt3 @tt4)))) (ai (ai (ai @tt9 @tt23) (ai @tt28 (ai @tt31 @tt33))) (ai (ai @tt34 @tt36) (ai @tt48 (ai @tt50 @tt85)))))



def zR : Nat → Bool := fun f => f == 47 || f == 22 || f == 28 || f == 30 || f == 43 || f == 17 || f == 20 || f == 23
def needR (fs : List Field) (f : Field) : List Nat := if f.kind = 1 then [] else (namesR f.source.ex).map fun s => (ffind fs s).1.toNat
theorem nd_le : ∀ (l m : List (List UInt8)), l.Nodup → (∀ s ∈ l, s ∈ m) → l.length ≤ m.length
  | [], m, _, _ => Nat.zero_le _
  | a :: r, m, h, hs => by
    rw [List.nodup_cons] at h
    have h1 := nd_le r (m.erase a) h.2 (fun s hr => (List.mem_erase_of_ne (fun e => h.1 (by rw [← e]; exact hr))).2 (hs s (by simp [hr])))
    have h2 := hs a (by simp)
    have h3 := List.length_erase_of_mem h2
    have h4 := List.length_pos_of_mem h2
    simp only [List.length_cons]
    omega
theorem ffind_nat (fs : List Field) (s : List UInt8) : (((ffind fs s).1.toNat : Nat) : Int) = (ffind fs s).1 := by
  unfold ffind
  split <;> simp only <;> omega
theorem el_ow {sz : Nat} {xs s : List DV} {tok : Option Id} : el1 (some (.own sz xs tok)) (some s) = some (.sl sz xs :: s) := rfl
structure NdS where
  acc : List (List Nat)
  t : Option (List Nat)
  g : List Nat
structure NdT where
  acc : List Nat
  w : Option (List Nat)
  g : List Nat
theorem ret_needs (k : Nat) (fs : List Field) (h : FOKs fs) (hnm : ∀ f ∈ fs, f.kind ≠ 1 → ∀ s ∈ f.source.refs, s.length ≤ 1000) : RetZ zR 64 (k + 1) 47 [.d (.sl 9 (fs.map Field.dv))] (needD (fs.map (needR fs))) := by
  have hlen := h.len
  refine stepq_good fn47 rfl rfl ?_
  unfold needD
  simp only [amr, amc, amp, amz, seval, ty_RkC_47]
  refine good_range fs (fun k (a : NdS) _ => ⟨[(0, .d (.sl 9 (fs.map Field.dv))), (3, .own 1 (a.acc.map rowD) (tokD 0 48 a.t)), (13, .d (.sl 9 (fs.map Field.dv))), (14, .d (.int .i64 fs.length)), (15, .d (.int .i64 (k : Nat)))], tokP 0 48 (a.acc.length * 1) a.t, a.g⟩)
    (fun k a => a.acc.length = k) (fun k a r => a.acc ++ r.map (needR fs))
    (fun (o : List (List Nat)) (q : Out) (S : St) => q = .exit 0 ∧ ∃ t g, Sub ⟨[(3, .own 1 (o.map rowD) (tokD 0 48 t))], tokP 0 48 (o.length * 1) t, g⟩ S)
    ⟨[], none, []⟩ kp47_3 (fun _ => up_tok) rfl (by omega) (by omega) ?_ ?_ ?_ ?_
  · rintro j ⟨acc, t, g⟩ _ x rest hj hget hd hI hb w1
    simp only at hI
    have hx := h.one x (List.mem_of_getElem? hget)
    have hget' : (fs.map Field.dv)[j]? = some x.dv := by rw [List.getElem?_map, hget]; rfl
    have hA : ((acc.length + 1) * 24 ≤ 140737488355328) = True := eq_true (by omega)
    have hS : acc ++ (x :: rest).map (needR fs) = (acc ++ [needR fs x]) ++ rest.map (needR fs) := by simp
    rw [Field.dv_eq x] at hget'
    by_cases c : x.kind = 1
    · have b1 : (x.kind != 1) = false := by rw [c]; rfl
      have hR : needR fs x = [] := by unfold needR; rw [if_pos c]
      rw [hR] at hS
      rcases t with _ | t
      · simp only [amr, amc, amp, amz, seval, ty_RkC_47, hb, hget', w1, b1, hA, el_ow, tokD, tokP]
        refine step_nrm (NdS.mk (acc ++ [[]]) (some (1 :: g)) (1 :: 1 :: g)) (by show (acc ++ [[]]).length = j + 1; rw [List.length_append, hI]; rfl) hS ?_
        (refine ⟨[], ?_⟩; (try simp only [amr, amc, amp, amz, seval, tokD, tokP, rowD, List.map_nil]); exact sub_mk (by repeat first | exact subT_nil | refine subT_cons (by first | rfl | simp [Tm.get, *]) ?_))
      · simp only [amr, amc, amp, amz, seval, ty_RkC_47, hb, hget', w1, b1, hA, el_ow, tokD, tokP]
        refine step_nrm (NdS.mk (acc ++ [[]]) (some t) (1 :: g)) (by show (acc ++ [[]]).length = j + 1; rw [List.length_append, hI]; rfl) hS ?_
        (refine ⟨[], ?_⟩; (try simp only [amr, amc, amp, amz, seval, tokD, tokP, rowD, List.map_nil]); exact sub_mk (by repeat first | exact subT_nil | refine subT_cons (by first | rfl | simp [Tm.get, *]) ?_))
    · have b1 : (x.kind != 1) = true := by simp [c]
      obtain ⟨s1, s2, s3⟩ := hx.src c
      have hof := ofOk x.source (hnm x (List.mem_of_getElem? hget) c) ⟨s2, s3⟩ s1
      have f1 := fun (S : St) (d dst : Nat) => ca_OfZ (Z := zR) (N := 64) (k := k + 1) (d := d) (dst := dst) (S := S) (by decide) x.source.ex hof
      rw [ex_dv, Exp.dv_eq x.source] at f1
      have hNl : (namesR x.source.ex).length ≤ 60 := by
        obtain ⟨p1, p2⟩ := names_perm x.source.ex
        have h1 := refs_len x.source
        have h2 : (namesR x.source.ex).length ≤ x.source.refs.length := by
          refine nd_le _ _ p1 (fun s hs => ?_)
          have := (p2 s).1 hs
          rwa [ex_refs] at this
        omega
      have hR : needR fs x = (namesR x.source.ex).map fun s => (ffind fs s).1.toNat := by unfold needR; rw [if_neg c]
      generalize namesR x.source.ex = L at *
      rcases t with _ | t
      · simp only [amr, amc, amp, amz, seval, ty_RkC_47, hb, hget', w1, b1, f1, tokD, tokP]
        refine good_range L (fun i (a : NdT) _ => ⟨[(0, .d (.sl 9 (fs.map Field.dv))), (3, .own 1 (acc.map rowD) none), (6, .own 1 (a.acc.map fun (k : Nat) => DV.int .i64 k) (tokD 0 43 a.w)), (13, .d (.sl 9 (fs.map Field.dv))), (14, .d (.int .i64 fs.length)), (15, .d (.int .i64 (j : Nat))), (28, .d (.sl 1 (L.map DV.str))), (29, .d (.int .i64 L.length)), (30, .d (.int .i64 (i : Nat)))], tokP 0 43 (a.acc.length * 1) a.w ++ [(⟨0, 5, 0 :: g⟩, .box [.d (.str x.name), .d (.int .i64 x.kind), .d (.int .i64 x.ty), .d (.int .i64 x.source.op), .d (.int .i64 x.source.v.kind), .d (.int .i64 x.source.v.n), .d (.str x.source.v.s), .d (.str x.source.name), .d (.sl 6 (x.source.args.map Exp.dv))])], a.g⟩)
          (fun i a => a.acc.length = i) (fun i a r => a.acc ++ r.map fun s => (ffind fs s).1.toNat)
          (fun (o : List Nat) (q : Out) (S : St) => q = .exit 2 ∧ ∃ w g', Sub ⟨[(0, .d (.sl 9 (fs.map Field.dv))), (3, .own 1 (acc.map rowD) none), (6, .own 1 (o.map fun (k : Nat) => DV.int .i64 k) (tokD 0 43 w)), (13, .d (.sl 9 (fs.map Field.dv))), (14, .d (.int .i64 fs.length)), (15, .d (.int .i64 (j : Nat)))], tokP 0 43 (o.length * 1) w ++ [(⟨0, 5, 0 :: g⟩, .box [.d (.str x.name), .d (.int .i64 x.kind), .d (.int .i64 x.ty), .d (.int .i64 x.source.op), .d (.int .i64 x.source.v.kind), .d (.int .i64 x.source.v.n), .d (.str x.source.v.s), .d (.str x.source.name), .d (.sl 6 (x.source.args.map Exp.dv))])], g'⟩ S)
          ⟨[], none, 1 :: g⟩ kp47_9 (fun _ => up_tok) rfl (by omega) (by omega) ?_ ?_ ?_ ?_
        · rintro i ⟨acc2, w, g'⟩ _ s rest2 hi hget2 hd2 hI2 hb2 w2
          simp only at hI2
          have hget2' : (L.map DV.str)[i]? = some (.str s) := by rw [List.getElem?_map, hget2]; rfl
          have hB : ((acc2.length + 1) * 8 ≤ 140737488355328) = True := eq_true (by omega)
          have hS2 : acc2 ++ (s :: rest2).map (fun s => (ffind fs s).1.toNat) = (acc2 ++ [(ffind fs s).1.toNat]) ++ rest2.map fun s => (ffind fs s).1.toNat := by simp
          have f2 := fun (S : St) (d dst : Nat) => (ca_Z (Z := zR) (N := 64) (k := k + 1) (by decide) (by decide)).trans (ca_Find (d := d) (dst := dst) (S := S) fs s (by omega))
          have hq := ffind_nat fs s
          generalize ffind fs s = q at *
          rw [← hq] at f2
          generalize q.1.toNat = q1 at *
          generalize q.2 = q2 at *
          rcases w with _ | w
          · simp only [amr, amc, amp, amz, seval, ty_RkC_47, hb2, hget2', w2, f2, hB, tokD, tokP]
            refine step_nrm (NdT.mk (acc2 ++ [q1]) (some g') (1 :: g')) (by show (acc2 ++ [q1]).length = i + 1; rw [List.length_append, hI2]; rfl) hS2 ?_
            (refine ⟨[], ?_⟩; (try simp only [amr, amc, amp, amz, seval, tokD, tokP]); exact sub_mk (by repeat first | exact subT_nil | refine subT_cons (by first | rfl | simp [Tm.get, *]) ?_))
          · simp only [amr, amc, amp, amz, seval, ty_RkC_47, hb2, hget2', w2, f2, hB, tokD, tokP]
            refine step_nrm (NdT.mk (acc2 ++ [q1]) (some w) g') (by show (acc2 ++ [q1]).length = i + 1; rw [List.length_append, hI2]; rfl) hS2 ?_
            (refine ⟨[], ?_⟩; (try simp only [amr, amc, amp, amz, seval, tokD, tokP]); exact sub_mk (by repeat first | exact subT_nil | refine subT_cons (by first | rfl | simp [Tm.get, *]) ?_))
        · rintro ⟨acc2, w, g'⟩ _ hI2 hb2
          simp only [amr, amc, amp, amz, seval, ty_RkC_47, hb2]
          refine last_end (by simp) ⟨rfl, w, g', ?_⟩
          try simp only [List.map_nil, List.append_nil]
          exact sub_mk (by repeat first | exact subT_nil | refine subT_cons (by first | rfl | simp [Tm.get, *]) ?_)
        · (refine ⟨[], ?_⟩; (try simp only [amr, amc, amp, amz, seval, tokD, tokP]); exact sub_mk (by repeat first | exact subT_nil | refine subT_cons (by first | rfl | simp [Tm.get, *]) ?_))
        · rintro o S' ⟨rfl, w, g', hs'⟩
          refine good_sub_cr (up_stepr (fun r => up_tok)) hs' ?_
          simp only [List.nil_append] at hs' ⊢
          rw [← hR]
          generalize needR fs x = R at *
          rcases w with _ | w
          · simp only [amr, amc, amp, amz, seval, ty_RkC_47, w1, hA, el_ow, tokD, tokP]
            refine step_nrm (NdS.mk (acc ++ [R]) (some g') (1 :: g')) (by show (acc ++ [R]).length = j + 1; rw [List.length_append, hI]; rfl) hS ?_
            (refine ⟨[], ?_⟩; (try simp only [amr, amc, amp, amz, seval, tokD, tokP, rowD]); exact sub_mk (by repeat first | exact subT_nil | refine subT_cons (by first | rfl | simp [Tm.get, *]) ?_))
          · simp only [amr, amc, amp, amz, seval, ty_RkC_47, w1, hA, el_ow, tokD, tokP]
            refine step_nrm (NdS.mk (acc ++ [R]) (some g') (1 :: g')) (by show (acc ++ [R]).length = j + 1; rw [List.length_append, hI]; rfl) hS ?_
            (refine ⟨[], ?_⟩; (try simp only [amr, amc, amp, amz, seval, tokD, tokP, rowD]); exact sub_mk (by repeat first | exact subT_nil | refine subT_cons (by first | rfl | simp [Tm.get, *]) ?_))
      · simp only [amr, amc, amp, amz, seval, ty_RkC_47, hb, hget', w1, b1, f1, tokD, tokP]
        refine good_range L (fun i (a : NdT) _ => ⟨[(0, .d (.sl 9 (fs.map Field.dv))), (3, .own 1 (acc.map rowD) (some ⟨0, 48, 0 :: t⟩)), (6, .own 1 (a.acc.map fun (k : Nat) => DV.int .i64 k) (tokD 0 43 a.w)), (13, .d (.sl 9 (fs.map Field.dv))), (14, .d (.int .i64 fs.length)), (15, .d (.int .i64 (j : Nat))), (28, .d (.sl 1 (L.map DV.str))), (29, .d (.int .i64 L.length)), (30, .d (.int .i64 (i : Nat)))], tokP 0 43 (a.acc.length * 1) a.w ++ [(⟨0, 5, 0 :: g⟩, .box [.d (.str x.name), .d (.int .i64 x.kind), .d (.int .i64 x.ty), .d (.int .i64 x.source.op), .d (.int .i64 x.source.v.kind), .d (.int .i64 x.source.v.n), .d (.str x.source.v.s), .d (.str x.source.name), .d (.sl 6 (x.source.args.map Exp.dv))]), (⟨0, 48, 0 :: t⟩, .grow (acc.length * 1))], a.g⟩)
          (fun i a => a.acc.length = i) (fun i a r => a.acc ++ r.map fun s => (ffind fs s).1.toNat)
          (fun (o : List Nat) (q : Out) (S : St) => q = .exit 2 ∧ ∃ w g', Sub ⟨[(0, .d (.sl 9 (fs.map Field.dv))), (3, .own 1 (acc.map rowD) (some ⟨0, 48, 0 :: t⟩)), (6, .own 1 (o.map fun (k : Nat) => DV.int .i64 k) (tokD 0 43 w)), (13, .d (.sl 9 (fs.map Field.dv))), (14, .d (.int .i64 fs.length)), (15, .d (.int .i64 (j : Nat)))], tokP 0 43 (o.length * 1) w ++ [(⟨0, 5, 0 :: g⟩, .box [.d (.str x.name), .d (.int .i64 x.kind), .d (.int .i64 x.ty), .d (.int .i64 x.source.op), .d (.int .i64 x.source.v.kind), .d (.int .i64 x.source.v.n), .d (.str x.source.v.s), .d (.str x.source.name), .d (.sl 6 (x.source.args.map Exp.dv))]), (⟨0, 48, 0 :: t⟩, .grow (acc.length * 1))], g'⟩ S)
          ⟨[], none, 1 :: g⟩ kp47_9 (fun _ => up_tok) rfl (by omega) (by omega) ?_ ?_ ?_ ?_
        · rintro i ⟨acc2, w, g'⟩ _ s rest2 hi hget2 hd2 hI2 hb2 w2
          simp only at hI2
          have hget2' : (L.map DV.str)[i]? = some (.str s) := by rw [List.getElem?_map, hget2]; rfl
          have hB : ((acc2.length + 1) * 8 ≤ 140737488355328) = True := eq_true (by omega)
          have hS2 : acc2 ++ (s :: rest2).map (fun s => (ffind fs s).1.toNat) = (acc2 ++ [(ffind fs s).1.toNat]) ++ rest2.map fun s => (ffind fs s).1.toNat := by simp
          have f2 := fun (S : St) (d dst : Nat) => (ca_Z (Z := zR) (N := 64) (k := k + 1) (by decide) (by decide)).trans (ca_Find (d := d) (dst := dst) (S := S) fs s (by omega))
          have hq := ffind_nat fs s
          generalize ffind fs s = q at *
          rw [← hq] at f2
          generalize q.1.toNat = q1 at *
          generalize q.2 = q2 at *
          rcases w with _ | w
          · simp only [amr, amc, amp, amz, seval, ty_RkC_47, hb2, hget2', w2, f2, hB, tokD, tokP]
            refine step_nrm (NdT.mk (acc2 ++ [q1]) (some g') (1 :: g')) (by show (acc2 ++ [q1]).length = i + 1; rw [List.length_append, hI2]; rfl) hS2 ?_
            (refine ⟨[], ?_⟩; (try simp only [amr, amc, amp, amz, seval, tokD, tokP]); exact sub_mk (by repeat first | exact subT_nil | refine subT_cons (by first | rfl | simp [Tm.get, *]) ?_))
          · simp only [amr, amc, amp, amz, seval, ty_RkC_47, hb2, hget2', w2, f2, hB, tokD, tokP]
            refine step_nrm (NdT.mk (acc2 ++ [q1]) (some w) g') (by show (acc2 ++ [q1]).length = i + 1; rw [List.length_append, hI2]; rfl) hS2 ?_
            (refine ⟨[], ?_⟩; (try simp only [amr, amc, amp, amz, seval, tokD, tokP]); exact sub_mk (by repeat first | exact subT_nil | refine subT_cons (by first | rfl | simp [Tm.get, *]) ?_))
        · rintro ⟨acc2, w, g'⟩ _ hI2 hb2
          simp only [amr, amc, amp, amz, seval, ty_RkC_47, hb2]
          refine last_end (by simp) ⟨rfl, w, g', ?_⟩
          try simp only [List.map_nil, List.append_nil]
          exact sub_mk (by repeat first | exact subT_nil | refine subT_cons (by first | rfl | simp [Tm.get, *]) ?_)
        · (refine ⟨[], ?_⟩; (try simp only [amr, amc, amp, amz, seval, tokD, tokP]); exact sub_mk (by repeat first | exact subT_nil | refine subT_cons (by first | rfl | simp [Tm.get, *]) ?_))
        · rintro o S' ⟨rfl, w, g', hs'⟩
          refine good_sub_cr (up_stepr (fun r => up_tok)) hs' ?_
          simp only [List.nil_append] at hs' ⊢
          rw [← hR]
          generalize needR fs x = R at *
          rcases w with _ | w
          · simp only [amr, amc, amp, amz, seval, ty_RkC_47, w1, hA, el_ow, tokD, tokP]
            refine step_nrm (NdS.mk (acc ++ [R]) (some t) g') (by show (acc ++ [R]).length = j + 1; rw [List.length_append, hI]; rfl) hS ?_
            (refine ⟨[], ?_⟩; (try simp only [amr, amc, amp, amz, seval, tokD, tokP, rowD]); exact sub_mk (by repeat first | exact subT_nil | refine subT_cons (by first | rfl | simp [Tm.get, *]) ?_))
          · simp only [amr, amc, amp, amz, seval, ty_RkC_47, w1, hA, el_ow, tokD, tokP]
            refine step_nrm (NdS.mk (acc ++ [R]) (some t) g') (by show (acc ++ [R]).length = j + 1; rw [List.length_append, hI]; rfl) hS ?_
            (refine ⟨[], ?_⟩; (try simp only [amr, amc, amp, amz, seval, tokD, tokP, rowD]); exact sub_mk (by repeat first | exact subT_nil | refine subT_cons (by first | rfl | simp [Tm.get, *]) ?_))
  · rintro ⟨acc, t, g⟩ _ hI hb
    simp only [amr, amc, amp, amz, seval, ty_RkC_47, hb]
    refine last_end (by simp) ⟨rfl, t, g, ?_⟩
    try simp only [List.map_nil, List.append_nil]
    exact sub_mk (by repeat first | exact subT_nil | refine subT_cons (by first | rfl | simp [Tm.get, *]) ?_)
  · (refine ⟨[], ?_⟩; (try simp only [amr, amc, amp, amz, seval, tokD, tokP]); exact sub_mk (by repeat first | exact subT_nil | refine subT_cons (by first | rfl | simp [Tm.get, *]) ?_))
  · rintro o S' ⟨rfl, t, g, hs⟩
    refine good_sub_cr up_finq hs ?_
    simp only [List.nil_append]
    rcases t with _ | t
    · simp only [amr, amc, amp, amz, seval, ty_RkC_47, tokD, tokP]
    · simp only [amr, amc, amp, amz, seval, ty_RkC_47, tokD, tokP]
/- Fields that can be ranked; those of forms of raw things can. -/
structure RkFs (fs : List Field) : Prop where
  ok : FOKs fs
  pos : 0 < fs.length
  rf : ∀ f ∈ fs, ∀ s ∈ f.source.refs, ∃ g ∈ fs, g.name = s
  nl : ∀ f ∈ fs, f.name.length ≤ 1000
  ht : ∃ h : Nat → Nat, (∀ i x, fs[i]? = some x → ∀ k g, fs[k]? = some g → g.name ∈ x.source.refs → h k < h i) ∧ ∀ i, i < fs.length → h i < fs.length
theorem RkFs.rl {fs : List Field} (h : RkFs fs) : ∀ f ∈ fs, f.kind ≠ 1 → ∀ s ∈ f.source.refs, s.length ≤ 1000 := fun f hf _ s hs => by
  obtain ⟨g, hg, rfl⟩ := h.rf f hf s hs
  exact h.nl g hg
theorem RkFs.find {fs : List Field} (h : RkFs fs) {x : Field} (hx : x ∈ fs) {s : List UInt8} (hs : s ∈ x.source.refs) : ∃ (k : Nat) (g : Field), fs[k]? = some g ∧ g.name = s ∧ ffind fs s = ((k : Int), 0) := by
  obtain ⟨g, hg, rfl⟩ := h.rf x hx s hs
  obtain ⟨k, hk⟩ := List.getElem?_of_mem hg
  exact ⟨k, g, hk, rfl, ffind_at h.ok.nd hk⟩
theorem mem_need {fs : List Field} (h : RkFs fs) {x : Field} (hx : x ∈ fs) {k : Nat} : k ∈ needR fs x ↔ x.kind ≠ 1 ∧ ∃ g, fs[k]? = some g ∧ g.name ∈ x.source.refs := by
  unfold needR
  by_cases c : x.kind = 1
  · rw [if_pos c]
    exact ⟨fun h => (by cases h), fun h => absurd c h.1⟩
  · rw [if_neg c, List.mem_map]
    have hp := (names_perm x.source.ex).2
    rw [ex_refs] at hp
    constructor
    · rintro ⟨s, hs, rfl⟩
      obtain ⟨k, g, h1, h2, h3⟩ := h.find hx ((hp s).1 hs)
      rw [h3]
      exact ⟨c, g, h1, by rw [h2]; exact (hp s).1 hs⟩
    · rintro ⟨_, g, h1, h2⟩
      exact ⟨g.name, (hp _).2 h2, by rw [ffind_at h.ok.nd h1]; rfl⟩
theorem need_at {fs : List Field} {i : Nat} {l : List Nat} (hi : (fs.map (needR fs))[i]? = some l) : ∃ x, fs[i]? = some x ∧ x ∈ fs ∧ l = needR fs x := by
  rw [List.getElem?_map, Option.map_eq_some_iff] at hi
  obtain ⟨x, hx, rfl⟩ := hi
  exact ⟨x, hx, List.mem_of_getElem? hx, rfl⟩
theorem need_lt {fs : List Field} (h : RkFs fs) : ∀ (i : Nat) (l : List Nat), (fs.map (needR fs))[i]? = some l → ∀ k ∈ l, k < (fs.map (needR fs)).length := fun i l hi k hk => by
  obtain ⟨x, h1, h2, rfl⟩ := need_at hi
  obtain ⟨_, g, hg, _⟩ := (mem_need h h2).1 hk
  rw [List.length_map]
  exact (List.getElem?_eq_some_iff.1 hg).1
theorem need_ht {fs : List Field} (h : RkFs fs) : ∃ ht : Nat → Nat, (∀ i l, (fs.map (needR fs))[i]? = some l → ∀ k ∈ l, k < (fs.map (needR fs)).length ∧ ht k < ht i) ∧ ∀ i, i < (fs.map (needR fs)).length → ht i < (fs.map (needR fs)).length := by
  obtain ⟨ht, h1, h2⟩ := h.ht
  refine ⟨ht, fun i l hi k hk => ⟨need_lt h i l hi k hk, ?_⟩, by rw [List.length_map]; exact h2⟩
  obtain ⟨x, e1, e2, rfl⟩ := need_at hi
  obtain ⟨_, g, hg, hr⟩ := (mem_need h e2).1 hk
  exact h1 i x e1 k g hg hr
theorem RkFs.rk {fs : List Field} (h : RkFs fs) : RkOk (fs.map (needR fs)) (ranksL (fs.map (needR fs))) := by
  obtain ⟨ht, h1, h2⟩ := need_ht h
  exact ranks_ok h1 h2
noncomputable def rkF (fs : List Field) : List Int := ranksL (fs.map (needR fs))
theorem rkF_len {fs : List Field} (h : RkFs fs) : (rkF fs).length = fs.length := by
  have := h.rk.len
  rwa [List.length_map] at this
theorem rkF_lt {fs : List Field} (h : RkFs fs) : ∀ i, i < fs.length → 0 ≤ (rkF fs).getD i 0 ∧ (rkF fs).getD i 0 < fs.length := fun i hi => by
  obtain ⟨ht, h1, h2⟩ := need_ht h
  have hi' : i < (fs.map (needR fs)).length := by rw [List.length_map]; exact hi
  have h3 := h.rk.le h1 (ht i) i hi' (Nat.le_refl _)
  have h4 := h2 i hi'
  rw [List.length_map] at h4
  exact ⟨h.rk.pos i hi', by unfold rkF; omega⟩
theorem rkF_sup {fs : List Field} (h : RkFs fs) {i : Nat} {x : Field} (hi : fs[i]? = some x) : (∀ (k : Nat) (g : Field), x.kind ≠ 1 → fs[k]? = some g → g.name ∈ x.source.refs → (rkF fs).getD k 0 + 1 ≤ (rkF fs).getD i 0) ∧ ((rkF fs).getD i 0 = 0 ∨ ∃ k g, x.kind ≠ 1 ∧ fs[k]? = some g ∧ g.name ∈ x.source.refs ∧ (rkF fs).getD i 0 = (rkF fs).getD k 0 + 1) := by
  have hx := List.mem_of_getElem? hi
  have hi' : (fs.map (needR fs))[i]? = some (needR fs x) := by rw [List.getElem?_map, hi]; rfl
  obtain ⟨h1, h2⟩ := h.rk.ge hi' (need_lt h i _ hi')
  refine ⟨fun k g c hg hr => h1 k ((mem_need h hx).2 ⟨c, g, hg, hr⟩), ?_⟩
  rcases h2 with h2 | ⟨k, hk, h2⟩
  · exact .inl h2
  · obtain ⟨c, g, hg, hr⟩ := (mem_need h hx).1 hk
    exact .inr ⟨k, g, c, hg, hr, h2⟩
theorem gfields_pos (l : List Raw) : ∀ (m : Nat) (fs : List Field) (k : Nat), (gfields l m fs k).1.take fs.length = fs ∧ ∀ i f, fs.length ≤ i → (gfields l m fs k).1[i]? = some f → ∃ n, f = (gfield l ((gfields l m fs k).1.take i) i n).1
  | 0, fs, k => ⟨List.take_length, fun i f hi hf => by
      have : fs[i]? = some f := hf
      rw [List.getElem?_eq_none hi] at this
      cases this⟩
  | m + 1, fs, k => by
    unfold gfields
    obtain ⟨h1, h2⟩ := gfields_pos l m (fs ++ [(gfield l fs fs.length k).1]) (gfield l fs fs.length k).2
    generalize (gfields l m (fs ++ [(gfield l fs fs.length k).1]) (gfield l fs fs.length k).2).1 = R at *
    have h3 : R.take fs.length = fs := by
      have := congrArg (List.take fs.length) h1
      rw [List.take_take, List.length_append, Nat.min_eq_left (by simp), List.take_left'] at this
      · exact this
      · rfl
    refine ⟨h3, fun i f hi hf => ?_⟩
    by_cases c : i = fs.length
    · subst c
      rw [h3]
      refine ⟨k, ?_⟩
      have : (R.take (fs ++ [(gfield l fs fs.length k).1]).length)[fs.length]? = some f := by
        rw [List.getElem?_take_of_lt (by simp)]; exact hf
      rw [h1, List.getElem?_append_right (Nat.le_refl _), Nat.sub_self] at this
      simpa using this.symm
    · exact h2 i f (by simp; omega) hf
theorem ffields_at {l : List Raw} {i : Nat} {f : Field} (hf : (ffields l)[i]? = some f) : ∃ n, f = (gfield l ((ffields l).take i) i n).1 := (gfields_pos l (nfields l) [] (gat l 0)).2 i f (Nat.zero_le _) hf
theorem ffields_refs {l : List Raw} (hr : ∀ r ∈ l, r.ok) {i : Nat} {f : Field} (hf : (ffields l)[i]? = some f) : ∀ s ∈ f.source.refs, ∃ k g, k < i ∧ (ffields l)[k]? = some g ∧ g.name = s := fun s hs => by
  obtain ⟨n, he⟩ := ffields_at hf
  have hlen := nfields_le hr
  have hl : ((ffields l).take i).length ≤ 1048576 := by rw [List.length_take, ffields_len]; omega
  have hg : ∃ g ∈ (ffields l).take i, g.name = s := by
    have hss : f.source = (gsrc l ((ffields l).take i) (1 + pick (gnext l n).kind 3) (1 + pick (gnext l n).b 3) (gnext l n) (gat l n)).1 := by rw [he]; rfl
    rw [hss] at hs
    unfold gsrc at hs
    split at hs
    · exact gexpr_refs hl hr _ _ _ s hs
    · split at hs
      · exact gexpr_refs hl hr _ _ _ s hs
      · simp [Exp.zero, Exp.refs, Exp.refsL] at hs
  obtain ⟨g, hg, rfl⟩ := hg
  obtain ⟨k, hk, he2⟩ := List.getElem_of_mem hg
  rw [List.length_take] at hk
  rw [List.getElem_take] at he2
  exact ⟨k, g, by omega, by rw [List.getElem?_eq_getElem (by omega), he2], rfl⟩
theorem fnm_len : ∀ s ∈ fnm, s.length ≤ 1000 := by
  intro s hs
  simp only [fnm, List.mem_cons, List.not_mem_nil, or_false] at hs
  rcases hs with rfl | rfl | rfl | rfl | rfl | rfl | rfl | rfl | rfl | rfl <;> decide
theorem rkfs_form {l : List Raw} (hr : ∀ r ∈ l, r.ok) {fs : List Field} (hm : ∀ f, f ∈ fs ↔ f ∈ ffields l) (hn : (fs.map Field.name).Nodup) (h0 : 0 < fs.length) (hlen : fs.length ≤ 14) (hl : fs.length = (ffields l).length) : RkFs fs := by
  have hpl : ∀ {i : Nat} {x : Field}, fs[i]? = some x → ∃ j, j < (ffields l).length ∧ (ffields l)[j]? = some x ∧ (ffind (ffields l) x.name).1.toNat = j := fun {i x} hi => by
    obtain ⟨j, hj⟩ := List.getElem?_of_mem ((hm x).1 (List.mem_of_getElem? hi))
    exact ⟨j, (List.getElem?_eq_some_iff.1 hj).1, hj, by rw [ffind_at (ffields_nodup hr) hj]; rfl⟩
  refine ⟨foks_form hr hm hn hlen, h0, fun f hf s hs => ?_, fun f hf => fnm_len _ (ffields_name hr f ((hm f).1 hf)), ⟨fun i => (ffind (ffields l) ((fs.map Field.name).getD i [])).1.toNat, fun i x hi k g hg hk => ?_, fun i hi => ?_⟩⟩
  · obtain ⟨i, hi⟩ := List.getElem?_of_mem ((hm f).1 hf)
    obtain ⟨k, g, _, hg, he⟩ := ffields_refs hr hi s hs
    exact ⟨g, (hm g).2 (List.mem_of_getElem? hg), he⟩
  · have e1 : (fs.map Field.name).getD i [] = x.name := by simp [List.getD_eq_getElem?_getD, hi]
    have e2 : (fs.map Field.name).getD k [] = g.name := by simp [List.getD_eq_getElem?_getD, hg]
    simp only [e1, e2]
    obtain ⟨j, _, hj, hjf⟩ := hpl hi
    rw [hjf]
    obtain ⟨q, g2, hq, hg2, hne⟩ := ffields_refs hr hj _ hk
    rw [← hne, ffind_at (ffields_nodup hr) hg2]
    exact hq
  · have e1 : (fs.map Field.name).getD i [] = fs[i].name := by simp [List.getD_eq_getElem?_getD, hi]
    simp only [e1]
    obtain ⟨j, hj1, _, hjf⟩ := hpl (List.getElem?_eq_getElem hi)
    rw [hjf, hl]
    exact hj1
theorem rkfs {l : List Raw} (hr : ∀ r ∈ l, r.ok) : RkFs (mkForm l).fields := by
  have h := fields_len hr
  refine rkfs_form hr (fields_perm l) (fields_nodup hr) (by omega) (by omega) ?_
  unfold mkForm
  simp only
  split
  · exact List.length_reverse
  · rfl
/- rank.Of, walked; the greatest and the least. -/
theorem ty_RkE_73 : type_of% (ai (ai @rs73 (ai @lw73 @kp73_2)) (ai (ai @tt3 @tt4) (ai @tt50 @tt89))) := (ai (ai @rs73 (ai @lw73 @kp73_2)) (ai (ai @tt3 @tt4) (ai @tt50 @tt89)))
theorem ty_RkE_49 : type_of% (ai (ai @rs49 (ai @lw49 @tt3)) (ai @tt4 (ai @tt50 @tt89))) := (ai (ai @rs49 (ai @lw49 @tt3)) (ai @tt4 (ai @tt50 @tt89)))
theorem ty_RkE_50 : type_of% (ai (ai @rs50 @lw50) (ai @tt3 @tt4)) := (ai (ai @rs50 @lw50) (ai @tt3 @tt4))
theorem ty_RkE_22 : type_of% (ai (ai (ai (ai @rs22 @lw22) (ai @mu31_39 @kp22_10)) (ai (ai @tt1 @tt3) (ai @tt4 (ai @tt9 @tt23)))) (ai (ai (ai @tt28 @tt31) (ai @tt33 @tt34)) (ai (ai @tt36 @tt48) (ai @tt50 (ai @tt85 @tt89))))) := (ai (ai (ai (ai @rs22 @lw22) (ai @mu31_39 @kp22_10)) (ai (ai @tt1 @tt3) (ai @tt4 (ai @tt9 @tt23)))) (ai (ai (ai @tt28 @tt31) (ai @tt33 @tt34)) (ai (ai @tt36 @tt48) (ai @tt50 (ai @tt85 @tt89)))))
theorem ty_RkE_52 : type_of% (ai (ai @rs52 (ai @lw52 @dr52_6)) (ai (ai @kp52_4 @tt3) (ai @tt4 @tt50))) := (ai (ai @rs52 (ai @lw52 @dr52_6)) (ai (ai @kp52_4 @tt3) (ai @tt4 @tt50)))





def intD (l : List Int) : DV := .sl 1 (l.map (DV.int .i64))
theorem ca_idxI {d dst : Nat} {S : St} (f : Nat) (caps : List DV) (p : Int → Bool) (hp : ∀ (S : St) (d dst : Nat) (t : Int), callA tab (callR tab) d dst f (.d ((DV.int .i64) t) :: caps.map .d) S = some (.d (.bool (p t)), S)) (l : List Int) (hl : l.length ≤ 1048576) :
    callA tab (callR tab) d dst 73 [.d (.sl 1 (l.map (DV.int .i64))), .d (.fn f caps)] S = some (.d (.int .i64 (fidx p l 0)), S) := by
  refine ca_ret (ds := [.sl 1 (l.map (DV.int .i64)), .fn f caps]) ?_ rfl (tab_opn (by kernel_rfl)) (tab_res (by kernel_rfl))
  refine ret_of (l.length + 1) fn73 rfl rfl ?_
  try simp only [if_true] at hp
  simp only [amr, amc, amp, amz, seval, ty_RkE_73]
  refine good_range l (fun k (_ : Unit) g => ⟨[(0, .d (.sl 1 (l.map (DV.int .i64)))), (1, .d (.fn f caps)), (7, .d (.int .i64 l.length)), (8, .d (.int .i64 (k : Nat)))], [], g⟩) (fun _ _ => True) (fun k _ r => (if fidx p r k = -1 then .inr () else .inl (fidx p r k) : Sum Int Unit))
    (QO .ret (fun e g => ⟨[(4, .d (.int .i64 e))], [], g⟩) (.exit 0) (fun _ g => ⟨[], [], g⟩)) () kp73_2 up_qo trivial (by omega) (by omega) ?_ ?_ ?_ ?_
  · rintro k a g x rest hk hget hdr _ hb w1
    have hget' : (l.map (DV.int .i64))[k]? = some ((DV.int .i64) x) := by rw [List.getElem?_map, hget]; rfl
    cases hq : p x with
    | true =>
      simp only [amr, amc, amp, amz, seval, ty_RkE_73, if_true, hb, hget', hp, hq, w1]
      refine step_end (r := .inl (k : Int)) (by simp) ?_ ⟨rfl, ?_⟩
      · simp only [fidx, hq, if_true]; rw [if_neg (by omega)]
      · (apply Exists.intro; (try simp only [amr, amc, amp, amz, seval]); exact sub_mk (by repeat first | exact subT_nil | refine subT_cons (by first | rfl | simp [Tm.get, *]) ?_))
    | false =>
      simp only [amr, amc, amp, amz, seval, ty_RkE_73, if_true, hb, hget', hp, hq, w1]
      refine step_nrm () trivial ?_ ?_
      · simp only [fidx, hq, Bool.false_eq_true, if_false]
      · (apply Exists.intro; (try simp only [amr, amc, amp, amz, seval]); exact sub_mk (by repeat first | exact subT_nil | refine subT_cons (by first | rfl | simp [Tm.get, *]) ?_))
  · intro a g _ hb
    simp only [amr, amc, amp, amz, seval, ty_RkE_73, hb]
    refine last_end (by simp) ?_
    simp only [fidx, if_true]
    refine ⟨rfl, ?_⟩
    (apply Exists.intro; (try simp only [amr, amc, amp, amz, seval]); exact sub_mk (by repeat first | exact subT_nil | refine subT_cons (by first | rfl | simp [Tm.get, *]) ?_))
  · (apply Exists.intro; (try simp only [amr, amc, amp, amz, seval]); exact sub_mk (by repeat first | exact subT_nil | refine subT_cons (by first | rfl | simp [Tm.get, *]) ?_))
  · intro o S' hq
    by_cases hz : fidx p l 0 = -1
    · rw [if_pos hz] at hq
      obtain ⟨rfl, g, hs⟩ := hq
      refine good_sub_cr up_fin hs ?_
      rw [hz]
      simp only [amr, amc, amp, amz, seval, ty_RkE_73]
    · rw [if_neg hz] at hq
      obtain ⟨rfl, g, hs⟩ := hq
      refine good_sub_cr up_fin hs ?_
      simp only [amr, amc, amp, amz, seval, ty_RkE_73]
theorem ca_confI {d dst : Nat} {S : St} (f : Nat) (caps : List DV) (p : Int → Bool) (hp : ∀ (S : St) (d dst : Nat) (t : Int), callA tab (callR tab) d dst f (.d ((DV.int .i64) t) :: caps.map .d) S = some (.d (.bool (p t)), S)) (l : List Int) (hl : l.length ≤ 1048576) :
    callA tab (callR tab) d dst 49 [.d (.sl 1 (l.map (DV.int .i64))), .d (.fn f caps)] S = some (.d (.bool (l.any p)), S) := by
  refine ca_ret (ds := [.sl 1 (l.map (DV.int .i64)), .fn f caps]) ?_ rfl (tab_opn (by kernel_rfl)) (tab_res (by kernel_rfl))
  have f1 := fun (S : St) (d dst : Nat) => ca_idxI (d := d) (dst := dst) (S := S) f caps p hp l hl
  have hz := fidx_any p l 0
  refine ret_of 1 fn49 rfl rfl ?_
  simp only [amr, amc, amp, amz, seval, ty_RkE_49, f1, ge_iff_le] at hz ⊢
  simp only [hz]
theorem ret_neg (r : Int) : Ret tab 50 [.d (.int .i64 (r))] (.d (.bool (decide (r < 0)))) := by
  refine ret_of (1) fn50 rfl rfl ?_
  simp only [amr, amc, amp, amz, seval, ty_RkE_50]
  repeat' ((first | refine good_ci (fun h => ?_) (fun h => ?_) | refine good_cgt (fun h => ?_) (fun h => ?_) | refine good_cgf (fun h => ?_) (fun h => ?_) | refine good_cqgt (fun h => ?_) (fun h => ?_) | refine good_cqgf (fun h => ?_) (fun h => ?_)) <;> simp only [amr, amc, amp, amz, seval, ty_RkE_50, h])
  all_goals (simp [*])
theorem ca_neg {d dst : Nat} {S : St} (r : Int) : callA tab (callR tab) d dst 50 [.d (.int .i64 (r))] S = some (.d (.bool (decide (r < 0))), S) :=
  ca_ret (ds := [.int .i64 (r)]) (ret_neg r) rfl (tab_opn (by kernel_rfl)) (tab_res (by kernel_rfl))
theorem need_len {fs : List Field} (h : RkFs fs) : ∀ l ∈ fs.map (needR fs), l.length ≤ 60 ∧ ∀ k ∈ l, k < (fs.map (needR fs)).length := fun l hl => by
  obtain ⟨i, hi⟩ := List.getElem?_of_mem hl
  refine ⟨?_, need_lt h i l hi⟩
  obtain ⟨x, h1, h2, rfl⟩ := need_at hi
  unfold needR
  split
  · exact Nat.zero_le _
  · rename_i c
    rw [List.length_map]
    obtain ⟨_, s2, _⟩ := (h.ok.one x h2).src c
    obtain ⟨p1, p2⟩ := names_perm x.source.ex
    rw [ex_refs] at p2
    have h3 := nd_le _ _ p1 (fun s hs => (p2 s).1 hs)
    have h4 := refs_len x.source
    omega
theorem ret_OfR (k : Nat) (fs : List Field) (h : RkFs fs) : RetZT zR 64 (k + 2) 22 [.d (.sl 9 (fs.map Field.dv))] [intD (rkF fs), .sl 1 [], .int .i64 0] := by
  have hlen := h.ok.len
  have f0 := fun (S : St) (d dst : Nat) => (ca_Z (Z := zR) (N := 64) (k := k + 2) (by decide) (by decide)).trans (ca_CheckF (d := d) (dst := dst) (S := S) fs h.ok)
  have f1 := fun (S : St) (d dst : Nat) => ca_retZ (d := d) (dst := dst) (S := S) (args := [.d (.sl 9 (fs.map Field.dv))]) (ds := [.sl 9 (fs.map Field.dv)]) (by decide) (ret_needs k fs h.ok h.rl) rfl (tab_opn (by kernel_rfl)) (tab_res (by kernel_rfl))
  have f2 := fun (S : St) (d dst : Nat) => (ca_Z (Z := zR) (N := 64) (k := k + 2) (by decide) (by decide)).trans (ca_ranks (d := d) (dst := dst) (S := S) (fs.map (needR fs)) (by rw [List.length_map]; exact h.pos) (by rw [List.length_map]; exact hlen) (need_len h))
  have f3 := fun (S : St) (d dst : Nat) => (ca_Z (Z := zR) (N := 64) (k := k + 2) (by decide) (by decide)).trans (ca_confI (d := d) (dst := dst) (S := S) 50 [] (fun r => decide (r < 0)) (fun S d dst t => ca_neg t) (rkF fs) (by rw [rkF_len h]; omega))
  have hz : (rkF fs).any (fun r => decide (r < 0)) = false := by
    rw [List.any_eq_false]
    intro r hr
    obtain ⟨i, hi⟩ := List.getElem?_of_mem hr
    obtain ⟨hi1, hi2⟩ := List.getElem?_eq_some_iff.1 hi
    have := (rkF_lt h i (by rw [← rkF_len h]; exact hi1)).1
    rw [List.getD_eq_getElem?_getD, hi] at this
    simpa using this
  rw [hz] at f3
  have f2' : ∀ (S : St) (d dst : Nat), callA tab (callZ zR 64 (k + 2)) d dst 48 [.d (needD (fs.map (needR fs)))] S = some (.d (.sl 1 ((rkF fs).map (DV.int .i64))), S) := f2
  clear f2
  unfold intD
  generalize needD (fs.map (needR fs)) = nd at *
  generalize (rkF fs).map (DV.int .i64) = rd at *
  generalize fs.map Field.dv = fd at *
  refine stepq_good fn22 rfl rfl ?_
  simp only [amr, amc, amp, amz, seval, ty_RkE_22, f0, f1, f2', f3, bne_self_eq_false]
theorem ca_eq3 {d dst : Nat} {S : St} : callA tab (callR tab) d dst 52 [.d (.sl 1 [.int .i64 1, .int .i64 0, .int .i64 2]), .own 1 [.int .i64 1, .int .i64 0, .int .i64 2] none] S = some (.d (.bool true), S) := by
  refine ca_ret (ds := [.sl 1 [.int .i64 1, .int .i64 0, .int .i64 2], .sl 1 [.int .i64 1, .int .i64 0, .int .i64 2]]) ?_ rfl (tab_opn (by kernel_rfl)) (tab_res (by kernel_rfl))
  refine ret_of 5 fn52 rfl rfl ?_
  simp only [amr, amc, amp, amz, seval, ty_RkE_52, cx_loop, clp_s, nameOf, (show IntKind.i64.wrap 0 = 0 from rfl), (show IntKind.i64.wrap 1 = 1 from rfl), (show IntKind.i64.wrap 2 = 2 from rfl), (show IntKind.i64.wrap 3 = 3 from rfl), (show IntKind.i64.wrap 4 = 4 from rfl), (show IntKind.i64.wrap 5 = 5 from rfl), (show IntKind.i64.wrap 6 = 6 from rfl), (show IntKind.i64.wrap 7 = 7 from rfl), (show IntKind.i64.wrap 8 = 8 from rfl), (show IntKind.i64.wrap 9 = 9 from rfl), (show IntKind.i64.wrap 10 = 10 from rfl), (show IntKind.i64.wrap 11 = 11 from rfl), (show IntKind.i64.wrap 12 = 12 from rfl), (show IntKind.i64.wrap 13 = 13 from rfl), (show IntKind.i64.wrap 14 = 14 from rfl), bne_self_eq_false]
/- The small form's ranks. -/
theorem ty_RkF_23 : type_of% (ai (ai (ai (ai @rs23 @lw23) (ai @tt1 @tt2)) (ai (ai @tt3 @tt4) (ai @tt9 (ai @tt23 @tt24)))) (ai (ai (ai @tt26 @tt28) (ai @tt31 @tt33)) (ai (ai @tt34 @tt36) (ai @tt38 (ai @tt48 @tt50))))) := (ai (ai (ai (ai @rs23 @lw23) (ai @tt1 @tt2)) (ai (ai @tt3 @tt4) (ai @tt9 (ai @tt23 @tt24)))) (ai (ai (ai @tt26 @tt28) (ai @tt31 @tt33)) (ai (ai @tt34 @tt36) (ai @tt38 (ai @tt48 @tt50)))))





theorem names_one {X : Ex} {s : List UInt8} (h : X.refs = [s]) : namesR X = [s] := by
  obtain ⟨p1, p2⟩ := names_perm X
  rw [h] at p2
  generalize namesR X = L at *
  match L, p1, p2 with
  | [], _, p2 => exact absurd ((p2 s).2 (by simp)) (by simp)
  | [a], _, p2 => rw [List.mem_singleton.1 ((p2 a).1 (by simp))]
  | a :: b :: r, p1, p2 =>
    have h1 := List.mem_singleton.1 ((p2 a).1 (by simp))
    have h2 := List.mem_singleton.1 ((p2 b).1 (by simp))
    subst h1
    subst h2
    simp at p1
def srcB : Exp := .mk 8 Val.zero [] [.mk 2 Val.zero [97] [], .mk 1 ⟨1, 1, []⟩ [] []]
def srcC : Exp := .mk 2 Val.zero [98] []
theorem small_eq : smallF.fields = [⟨[98], 2, 1, srcB⟩, ⟨[97], 1, 1, Exp.zero⟩, ⟨[99], 3, 3, srcC⟩] := rfl
theorem wfB : srcB.wf := ⟨⟨by decide, by decide, rfl, by rw [if_neg (by decide), if_neg (by decide)]; exact ⟨rfl, rfl⟩⟩, ⟨⟨by decide, by decide, rfl, by rw [if_neg (by decide), if_pos rfl]; exact ⟨by kernel_rfl, rfl⟩⟩, trivial⟩, ⟨⟨by decide, by decide, rfl, by rw [if_pos rfl]; exact ⟨rfl, rfl, by decide⟩⟩, trivial⟩, trivial⟩
theorem wfC : srcC.wf := ⟨⟨by decide, by decide, rfl, by rw [if_neg (by decide), if_pos rfl]; exact ⟨by kernel_rfl, rfl⟩⟩, trivial⟩
theorem small_ok : RkFs smallF.fields := by
  have hm : ∀ f, f ∈ smallF.fields → f = ⟨[98], 2, 1, srcB⟩ ∨ f = ⟨[97], 1, 1, Exp.zero⟩ ∨ f = ⟨[99], 3, 3, srcC⟩ := fun f hf => by
    rw [small_eq] at hf
    simpa using hf
  have rB : srcB.refs = [[97]] := rfl
  have rC : srcC.refs = [[98]] := rfl
  have rZ : Exp.zero.refs = [] := rfl
  refine ⟨⟨by decide, by decide, fun f hf => ?_⟩, by decide, fun f hf s hs => ?_, fun f hf => ?_, ⟨fun i => match i with | 0 => 1 | 1 => 0 | _ => 2, fun i x hi k g hg hk => ?_, fun i hi => ?_⟩⟩
  · rcases hm f hf with rfl | rfl | rfl
    · exact ⟨by kernel_rfl, .inr (.inl rfl), .inl rfl, fun h => absurd h (by decide), fun _ => ⟨wfB, by decide, by decide⟩, fun _ => by kernel_rfl, fun h => absurd h (by decide)⟩
    · exact ⟨by kernel_rfl, .inl rfl, .inl rfl, fun _ => rfl, fun h => absurd rfl h, fun h => absurd h (by decide), fun h => absurd h (by decide)⟩
    · exact ⟨by kernel_rfl, .inr (.inr rfl), .inr (.inr rfl), fun h => absurd h (by decide), fun _ => ⟨wfC, by decide, by decide⟩, fun h => absurd h (by decide), fun _ => by
        have : Exp.ty (tmap smallF.fields) srcC = 1 := by kernel_rfl
        simp only
        rw [this]
        decide⟩
  · rw [small_eq]
    rcases hm f hf with rfl | rfl | rfl
    · simp only [rB, List.mem_singleton] at hs
      exact ⟨⟨[97], 1, 1, Exp.zero⟩, by simp, hs.symm⟩
    · simp [rZ] at hs
    · simp only [rC, List.mem_singleton] at hs
      exact ⟨⟨[98], 2, 1, srcB⟩, by simp, hs.symm⟩
  · rcases hm f hf with rfl | rfl | rfl <;> decide
  · rw [small_eq] at hi hg
    match i, hi with
    | 0, hi =>
      obtain rfl : _ = x := by simpa using hi
      simp only [rB, List.mem_singleton] at hk
      match k, hg with
      | 0, hg => obtain rfl : _ = g := by simpa using hg
                 simp at hk
      | 1, hg => decide
      | 2, hg => obtain rfl : _ = g := by simpa using hg
                 simp at hk
      | k + 3, hg => simp at hg
    | 1, hi =>
      obtain rfl : _ = x := by simpa using hi
      simp [rZ] at hk
    | 2, hi =>
      obtain rfl : _ = x := by simpa using hi
      simp only [rC, List.mem_singleton] at hk
      match k, hg with
      | 0, hg => decide
      | 1, hg => decide
      | 2, hg => obtain rfl : _ = g := by simpa using hg
                 simp at hk
      | k + 3, hg => simp at hg
    | i + 3, hi => simp at hi
  · match i, hi with
    | 0, _ => decide
    | 1, _ => decide
    | 2, _ => decide
    | i + 3, hi => have : smallF.fields.length = 3 := rfl
                   omega
theorem small_rk : rkF smallF.fields = [1, 0, 2] := by
  have nB : namesR srcB.ex = [[97]] := names_one (by rw [ex_refs]; rfl)
  have nC : namesR srcC.ex = [[98]] := names_one (by rw [ex_refs]; rfl)
  have e : smallF.fields.map (needR smallF.fields) = [[1], [], [0]] := by
    conv => lhs; arg 2; rw [small_eq]
    simp only [List.map_cons, List.map_nil, needR, nB, nC]
    kernel_rfl
  have e2 : ranksL [[1], [], [0]] = [1, 0, 2] := by decide
  unfold rkF
  rw [e, e2]
theorem ret_ranked (k : Nat) : RetZ zR 64 (k + 3) 23 [] (.bool true) := by
  have f0 := fun (S : St) (d dst : Nat) => (ca_Z (Z := zR) (N := 64) (k := k + 3) (by decide) (by decide)).trans (ca_small (d := d) (dst := dst) (S := S))
  have f1 := fun (S : St) (d dst : Nat) => ca_retZT (d := d) (dst := dst) (S := S) (args := [.d (.sl 9 (smallF.fields.map Field.dv))]) (ds := [.sl 9 (smallF.fields.map Field.dv)]) (by decide) (ret_OfR k smallF.fields small_ok) rfl (tab_opn (by kernel_rfl)) (tab_res (by kernel_rfl))
  have f2 := fun (S : St) (d dst : Nat) => (ca_Z (Z := zR) (N := 64) (k := k + 3) (by decide) (by decide)).trans (ca_eq3 (d := d) (dst := dst) (S := S))
  rw [small_rk] at f1
  simp only [Frm.dv] at f0
  simp only [intD, List.map_cons, List.map_nil] at f1
  generalize smallF.fields.map Field.dv = fd at *
  generalize smallF.pages.map Page.dv = pd at *
  refine stepq_good fn23 rfl rfl ?_
  simp only [amr, amc, amp, amz, seval, ty_RkF_23, f0, f1, f2, beq_self_eq_true]
/- RankFew, RankRises, walked. -/





/- RankRises, walked. -/





/- Pages: found; on which a field stands; never passed over. -/
theorem ty_RkI_44 : type_of% (ai (ai @rs44 (ai @lw44 @kp44_2)) (ai (ai @tt3 @tt4) (ai @tt9 @tt31))) := (ai (ai @rs44 (ai @lw44 @kp44_2)) (ai (ai @tt3 @tt4) (ai @tt9 @tt31)))
theorem ty_RkI_19 : type_of% (ai (ai @rs19 (ai @lw19 @tt3)) (ai @tt4 (ai @tt9 @tt31))) := (ai (ai @rs19 (ai @lw19 @tt3)) (ai @tt4 (ai @tt9 @tt31)))





theorem Page.dv_eq (x : Page) : x.dv = .agg [.str x.name, .sl 1 (x.fields.map DV.str), .int .i64 x.skip.op, .int .i64 x.skip.v.kind, .int .i64 x.skip.v.n, .str x.skip.v.s, .str x.skip.name, .sl 6 (x.skip.args.map Exp.dv)] := rfl
theorem ret_ixS (l : List Str) (s : Str) (hl : l.length ≤ 1048576) : Ret tab 44 [.d (.sl 1 (l.map DV.str)), .d (DV.str s)] (.d (.int .i64 (fidx (fun x => s == x) l 0))) := by
  refine ret_of (l.length + 1) fn44 rfl rfl ?_
  simp only [amr, amc, amp, amz, seval, ty_RkI_44]
  refine good_range l (fun k (_ : Unit) g => ⟨[(0, .d (.sl 1 (l.map DV.str))), (1, .d (DV.str s)), (7, .d (.int .i64 l.length)), (8, .d (.int .i64 (k : Nat)))], [], g⟩) (fun _ _ => True) (fun k _ r => (if fidx (fun x => s == x) r k = -1 then .inr () else .inl (fidx (fun x => s == x) r k) : Sum Int Unit))
    (QO .ret (fun e g => ⟨[(4, .d (.int .i64 e))], [], g⟩) (.exit 0) (fun _ g => ⟨[], [], g⟩)) () kp44_2 up_qo trivial (by omega) (by omega) ?_ ?_ ?_ ?_
  · rintro k a g x rest hk hget hdr _ hb w1
    have hget' : (l.map DV.str)[k]? = some (DV.str x) := by rw [List.getElem?_map, hget]; rfl
    cases hq : (s == x) with
    | true =>
      simp only [amr, amc, amp, amz, seval, ty_RkI_44, hb, hget', hq, w1]
      refine step_end (r := .inl (k : Int)) (by simp) ?_ ⟨rfl, ?_⟩
      · simp only [fidx, hq, if_true]; rw [if_neg (by omega)]
      · (apply Exists.intro; (try simp only [amr, amc, amp, amz, seval]); exact sub_mk (by repeat first | exact subT_nil | refine subT_cons (by first | rfl | simp [Tm.get, *]) ?_))
    | false =>
      simp only [amr, amc, amp, amz, seval, ty_RkI_44, hb, hget', hq, w1]
      refine step_nrm () trivial ?_ ?_
      · simp only [fidx, hq, Bool.false_eq_true, if_false]
      · (apply Exists.intro; (try simp only [amr, amc, amp, amz, seval]); exact sub_mk (by repeat first | exact subT_nil | refine subT_cons (by first | rfl | simp [Tm.get, *]) ?_))
  · intro a g _ hb
    simp only [amr, amc, amp, amz, seval, ty_RkI_44, hb]
    refine last_end (by simp) ?_
    simp only [fidx, if_true]
    refine ⟨rfl, ?_⟩
    (apply Exists.intro; (try simp only [amr, amc, amp, amz, seval]); exact sub_mk (by repeat first | exact subT_nil | refine subT_cons (by first | rfl | simp [Tm.get, *]) ?_))
  · (apply Exists.intro; (try simp only [amr, amc, amp, amz, seval]); exact sub_mk (by repeat first | exact subT_nil | refine subT_cons (by first | rfl | simp [Tm.get, *]) ?_))
  · intro o S' hq
    by_cases hz : fidx (fun x => s == x) l 0 = -1
    · rw [if_pos hz] at hq
      obtain ⟨rfl, g, hs⟩ := hq
      refine good_sub_cr up_fin hs ?_
      rw [hz]
      simp only [amr, amc, amp, amz, seval, ty_RkI_44]
    · rw [if_neg hz] at hq
      obtain ⟨rfl, g, hs⟩ := hq
      refine good_sub_cr up_fin hs ?_
      simp only [amr, amc, amp, amz, seval, ty_RkI_44]
theorem ret_conS (l : List Str) (s : Str) (hl : l.length ≤ 1048576) : Ret tab 19 [.d (.sl 1 (l.map DV.str)), .d (DV.str s)] (.d (.bool (l.any fun x => s == x))) := by
  have f1 := fun (S : St) (d dst : Nat) => ca_ret (d := d) (dst := dst) (S := S) (args := [.d (.sl 1 (l.map DV.str)), .d (DV.str s)]) (ds := [.sl 1 (l.map DV.str), DV.str s]) (ret_ixS l s hl) rfl (tab_opn (by kernel_rfl)) (tab_res (by kernel_rfl))
  have hz := fidx_any (fun x => s == x) l 0
  generalize fidx (fun x => s == x) l 0 = k at *
  generalize (l.any fun x => s == x) = b at *
  generalize l.map DV.str = ld at *
  refine ret_of 1 fn19 rfl rfl ?_
  simp only [amr, amc, amp, amz, seval, ty_RkI_19, f1, ge_iff_le] at hz ⊢
  simp only [hz]
theorem ca_conOS {d dst : Nat} {S : St} {tok : Option Id} (l : List Str) (s : Str) (hl : l.length ≤ 1048576) : callA tab (callR tab) d dst 19 [.own 1 (l.map DV.str) tok, .d (DV.str s)] S = some (.d (.bool (l.any fun x => s == x)), S) :=
  ca_ret (ds := [.sl 1 (l.map DV.str), DV.str s]) (ret_conS l s hl) rfl (tab_opn (by kernel_rfl)) (tab_res (by kernel_rfl))
/- page.Check, walked where pages may be. -/





theorem up_cp {k : Out} {Q : Tm} : Up (fun (q : Out) S => q = k ∧ ∃ H g, Sub ⟨Q, H, g⟩ S) := fun o S S' h ⟨h1, H, g, h2⟩ => ⟨h1, H, g, h2.trans h⟩
structure PcS where
  acc : List Str
  t : Option (List Nat)
  g : List Nat
/- The pages of forms of raw things may be. -/
/- sheet.Check, Free, Inputs: walked. -/





theorem Frm.dv_eq (f : Frm) : f.dv = .agg [.sl 9 (f.fields.map Field.dv), .sl 8 (f.pages.map Page.dv)] := rfl
/- FormFree, walked. -/





/- The library's sort of few things: the plain law. -/
def bub (lt : Int → Int → Bool) : Nat → List Int → List Int
  | 0, xs => xs
  | j + 1, xs => if lt (xs.getD (j + 1) 0) (xs.getD j 0) = true then bub lt j ((xs.set (j + 1) (xs.getD j 0)).set j (xs.getD (j + 1) 0)) else xs
def insS (lt : Int → Int → Bool) : Nat → Nat → List Int → List Int
  | 0, _, xs => xs
  | m + 1, i, xs => insS lt m (i + 1) (bub lt i xs)
theorem bub_len (lt : Int → Int → Bool) : ∀ (j : Nat) (xs : List Int), (bub lt j xs).length = xs.length
  | 0, xs => rfl
  | j + 1, xs => by
    unfold bub
    split
    · rw [bub_len lt j, List.length_set, List.length_set]
    · rfl
theorem getD_app (A : List Int) (a b : Int) (C : List Int) : (A ++ a :: b :: C).getD A.length 0 = a ∧ (A ++ a :: b :: C).getD (A.length + 1) 0 = b := by
  constructor
  · rw [List.getD_eq_getElem?_getD, List.getElem?_append_right (Nat.le_refl _), Nat.sub_self]; rfl
  · rw [List.getD_eq_getElem?_getD, List.getElem?_append_right (by omega), Nat.add_sub_cancel_left]; rfl
theorem swap_app (A : List Int) (a b : Int) (C : List Int) : ((A ++ a :: b :: C).set (A.length + 1) a).set A.length b = A ++ b :: a :: C := by
  rw [List.set_append_right _ _ (by omega), Nat.add_sub_cancel_left, List.set_append_right _ _ (Nat.le_refl _), Nat.sub_self]
  rfl
theorem bub_spec {r : Int → Int} : ∀ (n : Nat) (P : List Int) (x : Int) (C : List Int), P.length = n → P.Pairwise (fun a b => r a ≤ r b) →
    ∃ Q, bub (fun a b => decide (r a < r b)) n (P ++ x :: C) = Q ++ C ∧ Q.Perm (P ++ [x]) ∧ Q.Pairwise (fun a b => r a ≤ r b)
  | 0, P, x, C, hn, hs => by
    obtain rfl := List.eq_nil_of_length_eq_zero hn
    exact ⟨[x], rfl, .refl _, by simp⟩
  | n + 1, P, x, C, hn, hs => by
    rcases List.eq_nil_or_concat P with rfl | ⟨P', y, rfl⟩
    · simp at hn
    · have hn' : P'.length = n := by simpa using hn
      subst hn'
      rw [List.concat_eq_append] at *
      rw [List.pairwise_append] at hs
      obtain ⟨hs1, _, hs3⟩ := hs
      have e : (P' ++ [y]) ++ x :: C = P' ++ y :: x :: C := by simp
      obtain ⟨g1, g2⟩ := getD_app P' y x C
      rw [e]
      unfold bub
      rw [g1, g2, swap_app]
      by_cases c : r x < r y
      · rw [if_pos (decide_eq_true c)]
        obtain ⟨Q, q1, q2, q3⟩ := bub_spec P'.length P' x (y :: C) rfl hs1
        refine ⟨Q ++ [y], by rw [q1]; simp, ?_, ?_⟩
        · have h := (q2.append_right [y])
          refine h.trans ?_
          rw [List.append_assoc, List.append_assoc]
          exact List.Perm.append_left _ (.swap _ _ _)
        · rw [List.pairwise_append]
          refine ⟨q3, by simp, fun a ha b hb => ?_⟩
          obtain rfl := List.mem_singleton.1 hb
          rcases List.mem_append.1 (q2.mem_iff.1 ha) with h | h
          · exact hs3 a h b (by simp)
          · obtain rfl := List.mem_singleton.1 h
            omega
      · rw [if_neg (by simpa using c)]
        refine ⟨P' ++ [y] ++ [x], by simp, .refl _, ?_⟩
        rw [List.pairwise_append]
        refine ⟨List.pairwise_append.2 ⟨hs1, by simp, hs3⟩, by simp, fun a ha b hb => ?_⟩
        obtain rfl := List.mem_singleton.1 hb
        rcases List.mem_append.1 ha with h | h
        · have := hs3 a h y (by simp)
          omega
        · obtain rfl := List.mem_singleton.1 h
          omega
theorem insS_spec {r : Int → Int} : ∀ (R P : List Int), P.Pairwise (fun a b => r a ≤ r b) → ∃ Q, insS (fun a b => decide (r a < r b)) R.length P.length (P ++ R) = Q ∧ Q.Perm (P ++ R) ∧ Q.Pairwise (fun a b => r a ≤ r b)
  | [], P, hs => ⟨P, by simp [insS], by simp, hs⟩
  | x :: R, P, hs => by
    obtain ⟨Q, q1, q2, q3⟩ := bub_spec (r := r) P.length P x R rfl hs
    obtain ⟨Z, z1, z2, z3⟩ := insS_spec (r := r) R Q q3
    refine ⟨Z, ?_, ?_, z3⟩
    · rw [List.length_cons, insS, q1]
      have : Q.length = P.length + 1 := by rw [q2.length_eq]; simp
      rw [← this]
      exact z1
    · refine z2.trans ((q2.append_right R).trans ?_)
      simp
theorem sort_spec {r : Int → Int} (x : Int) (xs : List Int) : (insS (fun a b => decide (r a < r b)) xs.length 1 (x :: xs)).Perm (x :: xs) ∧ (insS (fun a b => decide (r a < r b)) xs.length 1 (x :: xs)).Pairwise (fun a b => r a ≤ r b) := by
  obtain ⟨Q, q1, q2, q3⟩ := insS_spec (r := r) xs [x] (by simp)
  have q1' : insS (fun a b => decide (r a < r b)) xs.length 1 (x :: xs) = Q := q1
  rw [q1']
  exact ⟨q2, q3⟩
/- The library's stable sort of few numbers by their ranks, walked. -/
theorem ty_RkP_78 : type_of% (ai (ai @rs78 @lw78) (ai @tt3 @tt4)) := (ai (ai @rs78 @lw78) (ai @tt3 @tt4))
theorem ty_RkP_58 : type_of% (ai (ai @rs58 @lw58) (ai @tt3 @tt4)) := (ai (ai @rs58 @lw58) (ai @tt3 @tt4))
theorem ty_RkP_57 : type_of% (ai (ai @rs57 @lw57) (ai @dr57_1 (ai @tt3 @tt50))) := (ai (ai @rs57 @lw57) (ai @dr57_1 (ai @tt3 @tt50)))
theorem ty_RkP_89 : type_of% (ai (ai (ai @rs89 @lw89) (ai @dr89_4 (ai @dr89_6 @kp89_1))) (ai (ai @kp89_4 @tt3) (ai @tt4 (ai @tt41 @tt50)))) := (ai (ai (ai @rs89 @lw89) (ai @dr89_4 (ai @dr89_6 @kp89_1))) (ai (ai @kp89_4 @tt3) (ai @tt4 (ai @tt41 @tt50))))
theorem ty_RkP_77 : type_of% (ai (ai (ai @rs77 @lw77) (ai @kp77_2 @kp77_7)) (ai (ai @kp77_9 @tt3) (ai @tt4 (ai @tt41 @tt50)))) := (ai (ai (ai @rs77 @lw77) (ai @kp77_2 @kp77_7)) (ai (ai @kp77_9 @tt3) (ai @tt4 (ai @tt41 @tt50))))
theorem ty_RkP_56 : type_of% (ai (ai @rs56 @lw56) (ai @tt3 (ai @tt41 @tt50))) := (ai (ai @rs56 @lw56) (ai @tt3 (ai @tt41 @tt50)))



theorem ret_isnan (a : Int) : Ret tab 78 [.d (.int .i64 (a))] (.d (.bool (false))) := by
  refine ret_of (1) fn78 rfl rfl ?_
  have b1 : (a != a) = false := by simp
  simp only [amr, amc, amp, amz, seval, ty_RkP_78, b1]
theorem ca_isnan {d dst : Nat} {S : St} (a : Int) : callA tab (callR tab) d dst 78 [.d (.int .i64 (a))] S = some (.d (.bool (false)), S) :=
  ca_ret (ds := [.int .i64 (a)]) (ret_isnan a) rfl (tab_opn (by kernel_rfl)) (tab_res (by kernel_rfl))
def cmpV (a b : Int) : Int := if a < b then -1 else if b < a then 1 else 0
theorem ret_cmpi (a b : Int) : Ret tab 58 [.d (.int .i64 (a)), .d (.int .i64 (b))] (.d (.int .i64 (cmpV a b))) := by
  refine ret_of (1) fn58 rfl rfl ?_
  unfold cmpV
  have f1 := fun (x : Int) (S : St) (d dst : Nat) => ca_isnan (d := d) (dst := dst) (S := S) x
  by_cases h1 : a < b
  · have b1 : decide (a < b) = true := decide_eq_true h1
    rw [if_pos h1]
    simp only [amr, amc, amp, amz, seval, ty_RkP_58, f1, b1]
  · have b1 : decide (a < b) = false := decide_eq_false h1
    rw [if_neg h1]
    by_cases h2 : b < a
    · have b2 : decide (a > b) = true := decide_eq_true h2
      have b3 : decide (b < a) = true := decide_eq_true h2
      rw [if_pos h2]
      simp only [amr, amc, amp, amz, seval, ty_RkP_58, f1, b1, b2, b3]
    · have b2 : decide (a > b) = false := decide_eq_false h2
      have b3 : decide (b < a) = false := decide_eq_false h2
      rw [if_neg h2]
      simp only [amr, amc, amp, amz, seval, ty_RkP_58, f1, b1, b2, b3]
theorem ca_cmpi {d dst : Nat} {S : St} (a b : Int) : callA tab (callR tab) d dst 58 [.d (.int .i64 (a)), .d (.int .i64 (b))] S = some (.d (.int .i64 (cmpV a b)), S) :=
  ca_ret (ds := [.int .i64 (a), .int .i64 (b)]) (ret_cmpi a b) rfl (tab_opn (by kernel_rfl)) (tab_res (by kernel_rfl))
theorem cmpV_lt (a b : Int) : decide (cmpV a b < 0) = decide (a < b) := by
  unfold cmpV
  by_cases h1 : a < b
  · rw [if_pos h1, decide_eq_true h1]; rfl
  · rw [if_neg h1, decide_eq_false h1]
    split <;> rfl
theorem ca_ord {d dst : Nat} {T : Tm} {g : List Nat} (d0 : Nat) (g1 q : List Nat) (h : d0 ≤ d) (R : List Int) (C : List AV) (a b : Nat) (ha : a < R.length) (hb : b < R.length) : callA tab (callR tab) d dst 57 [.d (.int .i64 a), .d (.int .i64 b), .ptr ⟨d0, 4, q⟩ 0] ⟨T, [(⟨d0, 26, g1⟩, .box C), (⟨d0, 4, q⟩, .box [.d (.sl 1 (R.map (DV.int .i64)))])], g⟩ = some (.d (.int .i64 (cmpV (R.getD a 0) (R.getD b 0))), ⟨T, [(⟨d0, 26, g1⟩, .box C), (⟨d0, 4, q⟩, .box [.d (.sl 1 (R.map (DV.int .i64)))])], 1 :: g⟩) := by
  have k1 : (R.map (DV.int .i64))[a]? = some (.int .i64 (R.getD a 0)) := by rw [List.getElem?_map, List.getD_eq_getElem?_getD, List.getElem?_eq_getElem ha]; rfl
  have k2 : (R.map (DV.int .i64))[b]? = some (.int .i64 (R.getD b 0)) := by rw [List.getElem?_map, List.getD_eq_getElem?_getD, List.getElem?_eq_getElem hb]; rfl
  generalize R.map (DV.int .i64) = rd at *
  generalize R.getD a 0 = x at *
  generalize R.getD b 0 = y at *
  have f1 := fun (S : St) (d dst : Nat) => ca_cmpi (d := d) (dst := dst) (S := S) x y
  have hr : ∃ H', callR tab (d + 1) 57 [.d (.int .i64 a), .d (.int .i64 b), .ptr ⟨d0, 4, q⟩ 0] [(⟨d0, 4, q⟩, .box [.d (.sl 1 rd)])] (0 :: g) = some (.d (.int .i64 (cmpV x y)), H') ∧ H'.get ⟨d0, 4, q⟩ = some (.box [.d (.sl 1 rd)]) := by
    refine ret_good rfl 1 fn57 rfl rfl ?_
    have e1 : (d0 = d + 1) = False := eq_false (by omega)
    have e2 : (d + 1 = d0) = False := eq_false (by omega)
    simp only [amr, amc, amp, amz, seval, ty_RkP_57, k1, k2, f1, e1, e2]
  obtain ⟨H', h1, h2⟩ := hr
  have h3 := ca_open1 (d := d) (dst := dst) (S := ⟨T, [(⟨d0, 26, g1⟩, .box C), (⟨d0, 4, q⟩, .box [.d (.sl 1 rd)])], g⟩) (id := ⟨d0, 4, q⟩) (cs := [.d (.sl 1 rd)]) (cs' := [.d (.sl 1 rd)]) (by split <;> rfl) (lent_off (tab_lend (by kernel_rfl))) rfl rfl rfl ⟨_, H', h1, soft_d, h2⟩ rfl (by simp [Heap.get])
  rw [h3]
  simp [upd, Heap.get]
def ltR (R : List Int) : Int → Int → Bool := fun a b => decide (R.getD a.toNat 0 < R.getD b.toNat 0)
theorem run_ins {d : Nat} {p : List Nat} (d0 : Nat) (g1 q : List Nat) (h : d0 < d) (R : List Int) (xs : List Int) (hp : 0 < xs.length) (hl : xs.length ≤ 14) (hR : ∀ v ∈ xs, 0 ≤ v ∧ v.toNat < R.length) :
    ∃ x H', callR tab d 89 [.arr ⟨d0, 26, g1⟩ 0 xs.length 1, .d (.int .i64 0), .d (.int .i64 xs.length), .fn 57 [.ptr ⟨d0, 4, q⟩ 0]] [(⟨d0, 26, g1⟩, .box (cI xs)), (⟨d0, 4, q⟩, .box [.d (.sl 1 (R.map (DV.int .i64)))])] p = some (x, H') ∧ (soft tab 89 x = .tup [] ∧ H'.get ⟨d0, 26, g1⟩ = some (.box (cI (insS (ltR R) (xs.length - 1) 1 xs))) ∧ H'.get ⟨d0, 4, q⟩ = some (.box [.d (.sl 1 (R.map (DV.int .i64)))])) := by
  have e1 : (d0 = d) = False := eq_false (by omega)
  have e2 : (d = d0) = False := eq_false (by omega)
  have hd1 : decide (d0 < d) = true := decide_eq_true h
  have fO := fun (a b : Nat) (ha : a < R.length) (hb : b < R.length) (T : Tm) (g : List Nat) (dst : Nat) (C : List AV) => ca_ord (d := d) (dst := dst) (T := T) (g := g) d0 g1 q (Nat.le_of_lt h) R C a b ha hb
  have fR : ∀ (Q : Tm) (C : List AV) (p : List Nat) (a b : DV), ftC ⟨Q, [(⟨d0, 26, g1⟩, .box C), (⟨d0, 4, q⟩, .box [.d (.sl 1 (R.map (DV.int .i64)))])], p⟩ [.d a, .d b, .ptr ⟨d0, 4, q⟩ 0] none = ⟨[], [⟨d0, 4, q⟩], true⟩ := fun Q C p a b => ftC_1 (cs := [.d (.sl 1 (R.map (DV.int .i64)))]) rfl (by simp [Heap.get]) rfl
  refine retq_good 64 fn89 rfl rfl ?_
  simp only [amr, amc, amp, amz, seval, ty_RkP_89, e1, e2, hd1]
  refine good_range (List.replicate (xs.length - 1) ()) (fun k (ys : List Int) g => ⟨[(0, .arr ⟨d0, 26, g1⟩ 0 xs.length 1), (1, .d (.int .i64 0)), (2, .d (.int .i64 xs.length)), (3, .fn 57 [.ptr ⟨d0, 4, q⟩ 0]), (8, .d (.int .i64 ((k + 1 : Nat) : Int)))], [(⟨d0, 26, g1⟩, .box (cI ys)), (⟨d0, 4, q⟩, .box [.d (.sl 1 (R.map (DV.int .i64)))])], g⟩)
    (fun _ ys => ys.length = xs.length ∧ ∀ v ∈ ys, 0 ≤ v ∧ v.toNat < R.length) (fun k ys r => insS (ltR R) r.length (k + 1) ys)
    (QX (.exit 0) (fun (o : List Int) g => ⟨[], [(⟨d0, 26, g1⟩, .box (cI o)), (⟨d0, 4, q⟩, .box [.d (.sl 1 (R.map (DV.int .i64)))])], g⟩)) xs kp89_1 up_qx ⟨rfl, hR⟩ (by simp only [List.length_replicate]; omega) (by simp only [List.length_replicate]; omega) ?_ ?_ ?_ ?_
  · rintro k ys g x rest hk hget hdr ⟨hy, hyR⟩ hb w1
    simp only [List.length_replicate] at hk hb
    have hb' : decide (((k + 1 : Nat) : Int) < (xs.length : Int)) = true := decide_eq_true (by omega)
    have w2 : IntKind.i64.wrap (((k + 1 : Nat) : Int) + 1) = ((k + 1 + 1 : Nat) : Int) := by rw [wrap_in (by omega) (by omega)]; omega
    simp only [amr, amc, amp, amz, seval, ty_RkP_89, e1, e2, hd1, hb', w2]
    refine good_loopR (α := Nat × List Int × List Nat) (fun x => x.1 ≤ k + 1 ∧ x.2.1.length = xs.length ∧ (∀ v ∈ x.2.1, 0 ≤ v ∧ v.toNat < R.length) ∧ bub (ltR R) x.1 x.2.1 = bub (ltR R) (k + 1) ys)
      (fun x => ⟨[(0, .arr ⟨d0, 26, g1⟩ 0 xs.length 1), (1, .d (.int .i64 0)), (2, .d (.int .i64 xs.length)), (3, .fn 57 [.ptr ⟨d0, 4, q⟩ 0]), (8, .d (.int .i64 ((k + 1 : Nat) : Int))), (9, .d (.int .i64 (x.1 : Nat)))], [(⟨d0, 26, g1⟩, .box (cI x.2.1)), (⟨d0, 4, q⟩, .box [.d (.sl 1 (R.map (DV.int .i64)))])], x.2.2⟩) (fun x => x.1)
      (fun _ => fun (o : Out) S => (o = .exit 2 ∧ ∃ zs g', (zs.length = xs.length ∧ (∀ v ∈ zs, 0 ≤ v ∧ v.toNat < R.length) ∧ zs = bub (ltR R) (k + 1) ys) ∧ Sub ⟨[(0, .arr ⟨d0, 26, g1⟩ 0 xs.length 1), (1, .d (.int .i64 0)), (2, .d (.int .i64 xs.length)), (3, .fn 57 [.ptr ⟨d0, 4, q⟩ 0]), (8, .d (.int .i64 ((k + 1 : Nat) : Int)))], [(⟨d0, 26, g1⟩, .box (cI zs)), (⟨d0, 4, q⟩, .box [.d (.sl 1 (R.map (DV.int .i64)))])], g'⟩ S)) (k + 1, ys, g) kp89_4 (fun _ => fun o S S' h ⟨h1, zs, g', h3, h2⟩ => ⟨h1, zs, g', h3, h2.trans h⟩) ⟨Nat.le_refl _, hy, hyR, rfl⟩ (by simp only; omega) ?_ ?_ ?_
    · rintro ⟨j, zs, g2⟩ ⟨j1, j2, j3, j4⟩
      simp only at j1 j2 j3 j4
      cases j with
      | zero =>
        have hb0 : bub (ltR R) 0 zs = zs := rfl
        rw [hb0] at j4
        simp only [amr, amc, amp, amz, seval, ty_RkP_89, e1, e2, hd1, (show decide (((0 : Nat) : Int) > 0) = false from rfl)]
        refine loop_end (by simp) ⟨rfl, zs, 1 :: g2, ⟨j2, j3, j4⟩, ?_⟩
        (first | exact sub_mk subT_nil | skip) <;> (try simp only [amr, amc, amp, amz, seval]) <;> exact sub_mk (by repeat first | exact subT_nil | refine subT_cons (by first | rfl | simp [Tm.get, *]) ?_)
      | succ j =>
        have b1 : decide (((j + 1 : Nat) : Int) > 0) = true := decide_eq_true (by omega)
        have b1' : decide (0 < ((j + 1 : Nat) : Int)) = true := b1
        have w3 : IntKind.i64.wrap (((j + 1 : Nat) : Int) - 1) = (j : Int) := by rw [wrap_in (by omega) (by omega)]; omega
        have hj1 : j + 1 < zs.length := by omega
        have hj0 : j < zs.length := by omega
        have k1 : (((j + 1 : Nat) : Int) < (xs.length : Int)) = True := eq_true (by omega)
        have k2 : ((j : Int) < (xs.length : Int)) = True := eq_true (by omega)
        have f1 := cI_head hj1
        have f2 := cI_head hj0
        have m1 : zs.getD (j + 1) 0 ∈ zs := by rw [List.getD_eq_getElem?_getD, List.getElem?_eq_getElem hj1]; exact List.getElem_mem hj1
        have m2 : zs.getD j 0 ∈ zs := by rw [List.getD_eq_getElem?_getD, List.getElem?_eq_getElem hj0]; exact List.getElem_mem hj0
        have s1 := cI_set (out := zs) (i := j + 1) (zs.getD j 0) hj1
        have s2 := cI_set (out := zs.set (j + 1) (zs.getD j 0)) (i := j) (zs.getD (j + 1) 0) (by rw [List.length_set]; exact hj0)
        have l1 : (cI zs).length = xs.length := by rw [cI_len, j2]
        have l2 : (cI (zs.set (j + 1) (zs.getD j 0))).length = xs.length := by rw [cI_len, List.length_set, j2]
        have c1 : (j + 1 + 1 ≤ xs.length) = True := eq_true (by omega)
        have c2 : (j + 1 ≤ xs.length) = True := eq_true (by omega)
        have hB : bub (ltR R) (j + 1) zs = if ltR R (zs.getD (j + 1) 0) (zs.getD j 0) = true then bub (ltR R) j ((zs.set (j + 1) (zs.getD j 0)).set j (zs.getD (j + 1) 0)) else zs := rfl
        have hz3 : ∀ v ∈ (zs.set (j + 1) (zs.getD j 0)).set j (zs.getD (j + 1) 0), 0 ≤ v ∧ v.toNat < R.length := fun v hv => by
          rcases List.mem_or_eq_of_mem_set hv with hv | rfl
          · rcases List.mem_or_eq_of_mem_set hv with hv | rfl
            · exact j3 v hv
            · exact j3 _ m2
          · exact j3 _ m1
        have hzl : ((zs.set (j + 1) (zs.getD j 0)).set j (zs.getD (j + 1) 0)).length = xs.length := by simp [j2]
        obtain ⟨a, ha⟩ : ∃ a : Nat, zs.getD (j + 1) 0 = a := ⟨(zs.getD (j + 1) 0).toNat, by have := (j3 _ m1).1; omega⟩
        obtain ⟨b, hb2⟩ : ∃ b : Nat, zs.getD j 0 = b := ⟨(zs.getD j 0).toNat, by have := (j3 _ m2).1; omega⟩
        have ha2 := (j3 _ m1).2
        have hb3 := (j3 _ m2).2
        rw [ha] at ha2
        rw [hb2] at hb3
        have fO' := fO a b ha2 hb3
        have hlt := cmpV_lt (R.getD a 0) (R.getD b 0)
        have hL : ltR R (a : Int) (b : Int) = decide (R.getD a 0 < R.getD b 0) := rfl
        rw [hB] at j4
        simp only [ha, hb2] at j4 s1 s2 hz3 hzl l2
        rw [ha] at f1
        rw [hb2] at f2
        rw [hL] at j4
        generalize R.getD a 0 = ra at *
        generalize R.getD b 0 = rb at *
        generalize cmpV ra rb = cv at *
        by_cases c : ra < rb
        · rw [decide_eq_true c] at hlt j4
          rw [if_pos rfl] at j4
          generalize hzz : (zs.set (j + 1) (b : Int)).set j (a : Int) = zz at *
          generalize cI (zs.set (j + 1) (b : Int)) = C1 at *
          generalize cI zs = C at *
          simp only [amr, amc, amp, amz, seval, ty_RkP_89, e1, e2, hd1, b1, b1', w3, k1, k2, f1, f2, fO', fR, hlt, s1, s2, l1, l2, c1, c2, Nat.mul_one]
          refine loop_nrm (j, zz, 1 :: 1 :: g2) ⟨by simp only; omega, hzl, hz3, j4⟩ (by simp only; omega) (fun _ _ h => h) ?_
          simp only [amr, amc, amp, amz, seval, e1, e2, hd1]
          (first | exact sub_mk subT_nil | skip) <;> (try simp only [amr, amc, amp, amz, seval]) <;> exact sub_mk (by repeat first | exact subT_nil | refine subT_cons (by first | rfl | simp [Tm.get, *]) ?_)
        · rw [decide_eq_false c] at hlt j4
          rw [if_neg (by decide)] at j4
          simp only [amr, amc, amp, amz, seval, ty_RkP_89, e1, e2, hd1, b1, b1', w3, k1, k2, f1, f2, fO', fR, hlt, l1, c1, c2, Nat.mul_one]
          refine loop_end (by simp) ⟨rfl, zs, 1 :: g2, ⟨j2, j3, j4⟩, ?_⟩
          (first | exact sub_mk subT_nil | skip) <;> (try simp only [amr, amc, amp, amz, seval]) <;> exact sub_mk (by repeat first | exact subT_nil | refine subT_cons (by first | rfl | simp [Tm.get, *]) ?_)
    · simp only [amr, amc, amp, amz, seval, e1, e2, hd1]
      (first | exact sub_mk subT_nil | skip) <;> (try simp only [amr, amc, amp, amz, seval]) <;> exact sub_mk (by repeat first | exact subT_nil | refine subT_cons (by first | rfl | simp [Tm.get, *]) ?_)
    · rintro o S' ⟨rfl, zs, g', ⟨z1, z2, z3⟩, hs⟩
      refine good_sub_cr (up_stepr up_qx) hs ?_
      simp only [amr, amc, amp, amz, seval, ty_RkP_89, e1, e2, hd1, w2]
      refine step_nrm zs ⟨z1, z2⟩ (by rw [List.length_cons, insS, ← z3]) ?_
      (apply Exists.intro; (try simp only [amr, amc, amp, amz, seval, e1, e2, hd1]); exact sub_mk (by repeat first | exact subT_nil | refine subT_cons (by first | rfl | simp [Tm.get, *]) ?_))
  · rintro ys g ⟨hy, hyR⟩ hb
    have hb' : decide ((((List.replicate (xs.length - 1) ()).length + 1 : Nat) : Int) < (xs.length : Int)) = false := decide_eq_false (by rw [List.length_replicate]; omega)
    simp only [amr, amc, amp, amz, seval, ty_RkP_89, e1, e2, hd1, hb']
    refine last_end (by simp) ⟨rfl, ?_⟩
    simp only [insS, List.length_nil]
    (apply Exists.intro; (try simp only [amr, amc, amp, amz, seval, e1, e2, hd1]); exact sub_mk (by repeat first | exact subT_nil | refine subT_cons (by first | rfl | simp [Tm.get, *]) ?_))
  · (apply Exists.intro; (try simp only [amr, amc, amp, amz, seval, e1, e2, hd1]); exact sub_mk (by repeat first | exact subT_nil | refine subT_cons (by first | rfl | simp [Tm.get, *]) ?_))
  · rintro o S' ⟨rfl, g, hs⟩
    refine good_sub_cr up_finq hs ?_
    simp only [List.length_replicate]
    simp only [amr, amc, amp, amz, seval, ty_RkP_89]
    have hs : soft tab 89 (.tup []) = .tup [] := by unfold soft; split <;> rfl
    exact ⟨rfl, hs, by simp [Heap.get], by simp [Heap.get]⟩
theorem ca_ins {d dst : Nat} {S : St} (d0 : Nat) (g1 q : List Nat) (h : d0 ≤ d) (R xs : List Int) (hp : 0 < xs.length) (hl : xs.length ≤ 14) (hR : ∀ v ∈ xs, 0 ≤ v ∧ v.toNat < R.length) (hS : S.H.get ⟨d0, 26, g1⟩ = some (.box (cI xs))) (hT : S.H.get ⟨d0, 4, q⟩ = some (.box [.d (.sl 1 (R.map (DV.int .i64)))])) :
    callA tab (callR tab) d dst 89 [.arr ⟨d0, 26, g1⟩ 0 xs.length 1, .d (.int .i64 0), .d (.int .i64 xs.length), .fn 57 [.ptr ⟨d0, 4, q⟩ 0]] S = some (.tup [], ⟨S.T, upd [(⟨d0, 26, g1⟩, .box (cI (insS (ltR R) (xs.length - 1) 1 xs))), (⟨d0, 4, q⟩, .box [.d (.sl 1 (R.map (DV.int .i64)))])] S.H, 1 :: S.g⟩) := by
  obtain ⟨x, H', h1, h2, h3, h4⟩ := run_ins (p := 0 :: S.g) d0 g1 q (Nat.lt_succ_of_le h) R xs hp hl hR
  exact ca_open2 (fc := [.d (.sl 1 (R.map (DV.int .i64)))]) (by split <;> rfl) (lent_off (tab_lend (by kernel_rfl))) (id_ne (by decide)) rfl (by rw [cI_flat]; exact ids_flat _) (by rw [cI_flat]; exact ids_flat _) rfl ⟨x, H', h1, h2, h3, h4⟩ rfl hS hT
theorem run_stb {d : Nat} {p : List Nat} (d0 : Nat) (g1 q : List Nat) (h : d0 < d) (R xs : List Int) (hp : 0 < xs.length) (hl : xs.length ≤ 14) (hR : ∀ v ∈ xs, 0 ≤ v ∧ v.toNat < R.length) :
    ∃ x H', callR tab d 77 [.arr ⟨d0, 26, g1⟩ 0 xs.length 1, .d (.int .i64 xs.length), .fn 57 [.ptr ⟨d0, 4, q⟩ 0]] [(⟨d0, 26, g1⟩, .box (cI xs)), (⟨d0, 4, q⟩, .box [.d (.sl 1 (R.map (DV.int .i64)))])] p = some (x, H') ∧ (soft tab 77 x = .tup [] ∧ H'.get ⟨d0, 26, g1⟩ = some (.box (cI (insS (ltR R) (xs.length - 1) 1 xs))) ∧ H'.get ⟨d0, 4, q⟩ = some (.box [.d (.sl 1 (R.map (DV.int .i64)))])) := by
  have e1 : (d0 = d) = False := eq_false (by omega)
  have e2 : (d = d0) = False := eq_false (by omega)
  have hd1 : decide (d0 < d) = true := decide_eq_true h
  have b1 : decide ((20 : Int) ≤ (xs.length : Int)) = false := decide_eq_false (by omega)
  have b2 : decide ((20 : Int) < (xs.length : Int)) = false := decide_eq_false (by omega)
  have fI : ∀ (T : Tm) (g : List Nat) (dst : Nat), callA tab (callR tab) d dst 89 [.arr ⟨d0, 26, g1⟩ 0 xs.length 1, .d (.int .i64 0), .d (.int .i64 xs.length), .fn 57 [.ptr ⟨d0, 4, q⟩ 0]] ⟨T, [(⟨d0, 26, g1⟩, .box (cI xs)), (⟨d0, 4, q⟩, .box [.d (.sl 1 (R.map (DV.int .i64)))])], g⟩ = some (.tup [], ⟨T, [(⟨d0, 26, g1⟩, .box (cI (insS (ltR R) (xs.length - 1) 1 xs))), (⟨d0, 4, q⟩, .box [.d (.sl 1 (R.map (DV.int .i64)))])], 1 :: g⟩) := fun T g dst => by
    rw [ca_ins (d := d) (dst := dst) (S := ⟨T, [(⟨d0, 26, g1⟩, .box (cI xs)), (⟨d0, 4, q⟩, .box [.d (.sl 1 (R.map (DV.int .i64)))])], g⟩) d0 g1 q (Nat.le_of_lt h) R xs hp hl hR (by simp [Heap.get]) (by simp [Heap.get])]
    simp [upd, Heap.get]
  generalize insS (ltR R) (xs.length - 1) 1 xs = zs at *
  generalize R.map (DV.int .i64) = rd at *
  refine retq_good 3 fn77 rfl rfl ?_
  simp only [amr, amc, amp, amz, seval, ty_RkP_77, e1, e2, hd1, b1, b2, fI, cx_loop, clp_s, nameOf]
  have hs : soft tab 77 (.tup []) = .tup [] := by unfold soft; split <;> rfl
  exact ⟨rfl, hs, by simp [Heap.get], by simp [Heap.get]⟩
theorem ca_stb {d dst : Nat} {S : St} (d0 : Nat) (g1 q : List Nat) (h : d0 ≤ d) (R xs : List Int) (hp : 0 < xs.length) (hl : xs.length ≤ 14) (hR : ∀ v ∈ xs, 0 ≤ v ∧ v.toNat < R.length) (hS : S.H.get ⟨d0, 26, g1⟩ = some (.box (cI xs))) (hT : S.H.get ⟨d0, 4, q⟩ = some (.box [.d (.sl 1 (R.map (DV.int .i64)))])) :
    callA tab (callR tab) d dst 77 [.arr ⟨d0, 26, g1⟩ 0 xs.length 1, .d (.int .i64 xs.length), .fn 57 [.ptr ⟨d0, 4, q⟩ 0]] S = some (.tup [], ⟨S.T, upd [(⟨d0, 26, g1⟩, .box (cI (insS (ltR R) (xs.length - 1) 1 xs))), (⟨d0, 4, q⟩, .box [.d (.sl 1 (R.map (DV.int .i64)))])] S.H, 1 :: S.g⟩) := by
  obtain ⟨x, H', h1, h2, h3, h4⟩ := run_stb (p := 0 :: S.g) d0 g1 q (Nat.lt_succ_of_le h) R xs hp hl hR
  exact ca_open2 (fc := [.d (.sl 1 (R.map (DV.int .i64)))]) (by split <;> rfl) (lent_off (tab_lend (by kernel_rfl))) (id_ne (by decide)) rfl (by rw [cI_flat]; exact ids_flat _) (by rw [cI_flat]; exact ids_flat _) rfl ⟨x, H', h1, h2, h3, h4⟩ rfl hS hT
theorem run_srt {d : Nat} {p : List Nat} (d0 : Nat) (g1 q : List Nat) (h : d0 < d) (R xs : List Int) (hp : 0 < xs.length) (hl : xs.length ≤ 14) (hR : ∀ v ∈ xs, 0 ≤ v ∧ v.toNat < R.length) :
    ∃ x H', callR tab d 56 [.arr ⟨d0, 26, g1⟩ 0 xs.length 1, .fn 57 [.ptr ⟨d0, 4, q⟩ 0]] [(⟨d0, 26, g1⟩, .box (cI xs)), (⟨d0, 4, q⟩, .box [.d (.sl 1 (R.map (DV.int .i64)))])] p = some (x, H') ∧ (soft tab 56 x = .tup [] ∧ H'.get ⟨d0, 26, g1⟩ = some (.box (cI (insS (ltR R) (xs.length - 1) 1 xs))) ∧ H'.get ⟨d0, 4, q⟩ = some (.box [.d (.sl 1 (R.map (DV.int .i64)))])) := by
  have e1 : (d0 = d) = False := eq_false (by omega)
  have e2 : (d = d0) = False := eq_false (by omega)
  have hd1 : decide (d0 < d) = true := decide_eq_true h
  have b1 : decide ((20 : Int) ≤ (xs.length : Int)) = false := decide_eq_false (by omega)
  have b2 : decide ((20 : Int) < (xs.length : Int)) = false := decide_eq_false (by omega)
  have fI : ∀ (T : Tm) (g : List Nat) (dst : Nat), callA tab (callR tab) d dst 77 [.arr ⟨d0, 26, g1⟩ 0 xs.length 1, .d (.int .i64 xs.length), .fn 57 [.ptr ⟨d0, 4, q⟩ 0]] ⟨T, [(⟨d0, 26, g1⟩, .box (cI xs)), (⟨d0, 4, q⟩, .box [.d (.sl 1 (R.map (DV.int .i64)))])], g⟩ = some (.tup [], ⟨T, [(⟨d0, 26, g1⟩, .box (cI (insS (ltR R) (xs.length - 1) 1 xs))), (⟨d0, 4, q⟩, .box [.d (.sl 1 (R.map (DV.int .i64)))])], 1 :: g⟩) := fun T g dst => by
    rw [ca_stb (d := d) (dst := dst) (S := ⟨T, [(⟨d0, 26, g1⟩, .box (cI xs)), (⟨d0, 4, q⟩, .box [.d (.sl 1 (R.map (DV.int .i64)))])], g⟩) d0 g1 q (Nat.le_of_lt h) R xs hp hl hR (by simp [Heap.get]) (by simp [Heap.get])]
    simp [upd, Heap.get]
  generalize insS (ltR R) (xs.length - 1) 1 xs = zs at *
  generalize R.map (DV.int .i64) = rd at *
  refine retq_good 3 fn56 rfl rfl ?_
  simp only [amr, amc, amp, amz, seval, ty_RkP_56, e1, e2, hd1, b1, b2, fI, cx_loop, clp_s, nameOf]
  have hs : soft tab 56 (.tup []) = .tup [] := by unfold soft; split <;> rfl
  exact ⟨rfl, hs, by simp [Heap.get], by simp [Heap.get]⟩
theorem ca_srt {d dst : Nat} {S : St} (d0 : Nat) (g1 q : List Nat) (h : d0 ≤ d) (R xs : List Int) (hp : 0 < xs.length) (hl : xs.length ≤ 14) (hR : ∀ v ∈ xs, 0 ≤ v ∧ v.toNat < R.length) (hS : S.H.get ⟨d0, 26, g1⟩ = some (.box (cI xs))) (hT : S.H.get ⟨d0, 4, q⟩ = some (.box [.d (.sl 1 (R.map (DV.int .i64)))])) :
    callA tab (callR tab) d dst 56 [.arr ⟨d0, 26, g1⟩ 0 xs.length 1, .fn 57 [.ptr ⟨d0, 4, q⟩ 0]] S = some (.tup [], ⟨S.T, upd [(⟨d0, 26, g1⟩, .box (cI (insS (ltR R) (xs.length - 1) 1 xs))), (⟨d0, 4, q⟩, .box [.d (.sl 1 (R.map (DV.int .i64)))])] S.H, 1 :: S.g⟩) := by
  obtain ⟨x, H', h1, h2, h3, h4⟩ := run_srt (p := 0 :: S.g) d0 g1 q (Nat.lt_succ_of_le h) R xs hp hl hR
  exact ca_open2 (fc := [.d (.sl 1 (R.map (DV.int .i64)))]) (by split <;> rfl) (lent_off (tab_lend (by kernel_rfl))) (id_ne (by decide)) rfl (by rw [cI_flat]; exact ids_flat _) (by rw [cI_flat]; exact ids_flat _) rfl ⟨x, H', h1, h2, h3, h4⟩ rfl hS hT
/- rank.Order, walked. -/
theorem ty_RkQ_28 : type_of% (ai (ai (ai (ai @rs28 @lw28) (ai @mu50_26 @kp28_6)) (ai (ai @tt1 @tt2) (ai @tt3 (ai @tt4 @tt9)))) (ai (ai (ai @tt23 @tt28) (ai @tt31 @tt33)) (ai (ai @tt34 @tt36) (ai @tt41 (ai @tt48 @tt50))))) := (ai (ai (ai (ai @rs28 @lw28) (ai @mu50_26 @kp28_6)) (ai (ai @tt1 @tt2) (ai @tt3 (ai @tt4 @tt9)))) (ai (ai (ai @tt23 @tt28) (ai @tt31 @tt33)) (ai (ai @tt34 @tt36) (ai @tt41 (ai @tt48 @tt50)))))



def idxL (n : Nat) : List Int := (List.range n).map fun (i : Nat) => (i : Int)
theorem idxL_succ (n : Nat) : idxL (n + 1) = idxL n ++ [(n : Int)] := by simp [idxL, List.range_succ]
theorem idxL_len (n : Nat) : (idxL n).length = n := by simp [idxL]
theorem insS_len (lt : Int → Int → Bool) : ∀ (m i : Nat) (xs : List Int), (insS lt m i xs).length = xs.length
  | 0, i, xs => rfl
  | m + 1, i, xs => by rw [insS, insS_len lt m, bub_len]
def oaD (t : Option (List Nat)) (xs : List Int) : AV := match t with
  | none => .own 1 [] none
  | some q => .arr ⟨0, 26, 0 :: q⟩ 0 xs.length 1
def oaP (t : Option (List Nat)) (xs : List Int) : Heap := match t with
  | none => []
  | some q => [(⟨0, 26, 0 :: q⟩, .box (cI xs))]
def oaI (t : Option (List Nat)) (xs : List Int) (g : List Nat) : Prop := match t with
  | none => xs = []
  | some q => ¬ g <:+ (0 :: q)
theorem cI_app (xs : List Int) (v : Int) : cI (xs ++ [v]) = cI xs ++ [.d (.int .i64 v)] := by simp [cI]
noncomputable def ordL (fs : List Field) : List Int := insS (ltR (rkF fs)) (fs.length - 1) 1 (idxL fs.length)
structure OrS where
  xs : List Int
  t : Option (List Nat)
  g : List Nat
theorem ret_Order (k : Nat) (fs : List Field) (h : RkFs fs) : RetZT zR 64 (k + 3) 28 [.d (.sl 9 (fs.map Field.dv))] [intD (ordL fs), .int .i64 0] := by
  have hlen := h.ok.len
  have hpos := h.pos
  have f1 := fun (S : St) (d dst : Nat) => ca_retZT (d := d) (dst := dst) (S := S) (args := [.d (.sl 9 (fs.map Field.dv))]) (ds := [.sl 9 (fs.map Field.dv)]) (by decide) (ret_OfR k fs h) rfl (tab_opn (by kernel_rfl)) (tab_res (by kernel_rfl))
  have hRl := rkF_len h
  have hln2 : (fs.map Field.dv).length = fs.length := by simp
  unfold intD at f1 ⊢
  unfold ordL
  generalize rkF fs = R at *
  generalize fs.map Field.dv = fd at *
  refine stepq_good fn28 rfl rfl ?_
  simp only [amr, amc, amp, amz, seval, ty_RkQ_28, f1, hln2, bne_self_eq_false]
  refine good_range fs (fun k (x : OrS) _ => ⟨[(4, .ptr ⟨0, 4, [0]⟩ 0), (7, oaD x.t x.xs), (19, .d (.int .i64 fs.length)), (20, .d (.int .i64 (k : Nat)))], oaP x.t x.xs ++ [(⟨0, 4, [0]⟩, .box [.d (.sl 1 (R.map (DV.int .i64)))])], x.g⟩)
    (fun k x => x.xs = idxL k ∧ oaI x.t x.xs x.g) (fun _ _ _ => ())
    (fun (_ : Unit) (q : Out) (S : St) => q = .exit 0 ∧ ∃ t g, oaI t (idxL fs.length) g ∧ Sub ⟨[(4, .ptr ⟨0, 4, [0]⟩ 0), (7, oaD t (idxL fs.length))], oaP t (idxL fs.length) ++ [(⟨0, 4, [0]⟩, .box [.d (.sl 1 (R.map (DV.int .i64)))])], g⟩ S)
    ⟨[], none, [1]⟩ kp28_6 (fun r => up_fm) ⟨rfl, rfl⟩ (by omega) (by omega) ?_ ?_ ?_ ?_
  · rintro j ⟨xs, t, g⟩ _ x rest hj hget hd ⟨h1, h2⟩ hb w1
    have fl : ∀ v : Int, flatD [DV.int .i64 v] = [.d (.int .i64 v)] := fun _ => rfl
    simp only at h1 h2
    have hS := idxL_succ j
    rw [← h1] at hS
    have hxl : xs.length = j := by rw [h1, idxL_len]
    rcases t with _ | t
    · have h2 : xs = [] := h2
      subst h2
      obtain rfl : 0 = j := hxl
      have hb0 : decide ((0 : Int) < (fs.length : Int)) = true := decide_eq_true (by omega)
      simp only [amr, amc, amp, amz, seval, ty_RkQ_28, hb0, (show IntKind.i64.wrap 0 = 0 from rfl), (show IntKind.i64.wrap 1 = 1 from rfl), (show IntKind.i64.wrap 2 = 2 from rfl), (show IntKind.i64.wrap 3 = 3 from rfl), (show IntKind.i64.wrap 4 = 4 from rfl), (show IntKind.i64.wrap 5 = 5 from rfl), (show IntKind.i64.wrap 6 = 6 from rfl), (show IntKind.i64.wrap 7 = 7 from rfl), (show IntKind.i64.wrap 8 = 8 from rfl), (show IntKind.i64.wrap 9 = 9 from rfl), (show IntKind.i64.wrap 10 = 10 from rfl), (show IntKind.i64.wrap 11 = 11 from rfl), (show IntKind.i64.wrap 12 = 12 from rfl), (show IntKind.i64.wrap 13 = 13 from rfl), (show IntKind.i64.wrap 14 = 14 from rfl), fl, oaD, oaP]
      refine step_nrm (OrS.mk ([] ++ [((0 : Nat) : Int)]) (some g) (1 :: g)) ⟨hS.symm, fresh_0 (by decide)⟩ rfl ?_
      (refine ⟨[], ?_⟩; (try simp only [amr, amc, amp, amz, seval, oaD, oaP, cI, List.map_cons, List.map_nil]); exact sub_mk (by repeat first | exact subT_nil | refine subT_cons (by first | rfl | simp [Tm.get, *]) ?_))
    · have h2 : ¬ g <:+ (0 :: t) := h2
      have c1 : (xs.length + 1 ≤ xs.length) = False := eq_false (by omega)
      have hA : ((xs.length + 1) * 8 ≤ 140737488355328) = True := eq_true (by omega)
      have lC := cI_len xs
      have hC := cI_app xs (j : Int)
      simp only [amr, amc, amp, amz, seval, ty_RkQ_28, hb, w1, c1, hA, lC, fl, oaD, oaP, Nat.mul_one, suf1 h2, suf2 h2, sfx_f4 h2, sfx_f5 h2, sfx_f6 h2]
      refine step_nrm (OrS.mk (xs ++ [(j : Int)]) (some g) (1 :: g)) ⟨hS.symm, fresh_0 (by decide)⟩ rfl ?_
      (refine ⟨[], ?_⟩; (try simp only [amr, amc, amp, amz, seval, oaD, oaP, hC]); exact sub_mk (by repeat first | exact subT_nil | refine subT_cons (by first | rfl | simp [Tm.get, *]) ?_))
  · rintro ⟨xs, t, g⟩ _ ⟨h1, h2⟩ hb
    simp only at h1 h2
    subst h1
    simp only [amr, amc, amp, amz, seval, ty_RkQ_28, hb]
    refine last_end (by simp) ⟨rfl, t, g, h2, ?_⟩
    exact sub_mk (by repeat first | exact subT_nil | refine subT_cons (by first | rfl | simp [Tm.get, *]) ?_)
  · (refine ⟨[], ?_⟩; (try simp only [amr, amc, amp, amz, seval, oaD, oaP]); exact sub_mk (by repeat first | exact subT_nil | refine subT_cons (by first | rfl | simp [Tm.get, *]) ?_))
  · rintro o S' ⟨rfl, t, g, hI, hs⟩
    refine good_sub_cr up_finq hs ?_
    rcases t with _ | t
    · have hI : idxL fs.length = [] := hI
      have := idxL_len fs.length
      rw [hI] at this
      simp at this
      omega
    · have hI : ¬ g <:+ (0 :: t) := hI
      have hxl := idxL_len fs.length
      have hR : ∀ v ∈ idxL fs.length, 0 ≤ v ∧ v.toNat < R.length := fun v hv => by
        simp only [idxL, List.mem_map, List.mem_range] at hv
        obtain ⟨i, hi, rfl⟩ := hv
        omega
      have fs1 := fun (T : Tm) (g : List Nat) (H : Heap) (dst : Nat) (hS : H.get ⟨0, 26, 0 :: t⟩ = some (.box (cI (idxL fs.length)))) (hT : H.get ⟨0, 4, [0]⟩ = some (.box [.d (.sl 1 (R.map (DV.int .i64)))])) => (ca_Z (Z := zR) (N := 64) (k := k + 3) (by decide) (by decide)).trans (ca_srt (d := 0) (dst := dst) (S := ⟨T, H, g⟩) 0 (0 :: t) [0] (Nat.le_refl _) R (idxL fs.length) (by omega) (by omega) hR hS hT)
      rw [hxl] at fs1
      have hzl : (insS (ltR R) (fs.length - 1) 1 (idxL fs.length)).length = fs.length := by
        rw [insS_len, hxl]
      generalize insS (ltR R) (fs.length - 1) 1 (idxL fs.length) = zs at *
      simp only [amr, amc, amp, amz, seval, ty_RkQ_28, oaD, oaP, fs1, hxl, upd, Option.getD_some, Option.getD_none]
      refine ⟨rfl, ?_⟩
      rw [← fzb_arr, frz_list0 (sz := 1) (n := fs.length) (xs := zs.map (DV.int .i64)) (by rw [← cI_flat]; simp [Heap.get]) (by rw [List.length_map, hzl]) (by decide) (fun x hx => by
        obtain ⟨t, _, rfl⟩ := List.mem_map.1 hx
        exact ⟨rfl, rfl⟩)]
      rfl
/- RankOrdered, walked. -/
theorem ty_RkS_91 : type_of% (ai (ai (ai @rs91 (ai @lw91 @ro36_1_expr_go_50)) (ai (ai @dr91_3 @tt1) (ai @tt2 @tt3))) (ai (ai (ai @tt4 @tt9) (ai @tt28 @tt33)) (ai (ai @tt34 @tt36) (ai @tt138 @tt139)))) := (ai (ai (ai @rs91 (ai @lw91 @ro36_1_expr_go_50)) (ai (ai @dr91_3 @tt1) (ai @tt2 @tt3))) (ai (ai (ai @tt4 @tt9) (ai @tt28 @tt33)) (ai (ai @tt34 @tt36) (ai @tt138 @tt139))))
theorem ty_RkS_80 : type_of% (ai (ai (ai @rs80 @lw80) (ai @ro36_1_expr_go_75 (ai @kp80_5 @tt3))) (ai (ai @tt4 (ai @tt9 @tt28)) (ai @tt33 (ai @tt34 @tt36)))) := (ai (ai (ai @rs80 @lw80) (ai @ro36_1_expr_go_75 (ai @kp80_5 @tt3))) (ai (ai @tt4 (ai @tt9 @tt28)) (ai @tt33 (ai @tt34 @tt36))))
theorem ty_RkS_59 : type_of% (ai (ai (ai @rs59 @lw59) (ai @ro36_1_expr_go_88 (ai @tt1 @tt3))) (ai (ai @tt4 (ai @tt9 @tt28)) (ai @tt33 (ai @tt34 @tt36)))) := (ai (ai (ai @rs59 @lw59) (ai @ro36_1_expr_go_88 (ai @tt1 @tt3))) (ai (ai @tt4 (ai @tt9 @tt28)) (ai @tt33 (ai @tt34 @tt36))))
theorem ty_RkS_29 : type_of% (ai (ai (ai @rs29 (ai @lw29 @ro36_1_names_go_34)) (ai @tt3 (ai @tt4 @tt9))) (ai (ai @tt28 (ai @tt31 @tt33)) (ai (ai @tt34 @tt36) (ai @tt93 @tt99)))) := (ai (ai (ai @rs29 (ai @lw29 @ro36_1_names_go_34)) (ai @tt3 (ai @tt4 @tt9))) (ai (ai @tt28 (ai @tt31 @tt33)) (ai (ai @tt34 @tt36) (ai @tt93 @tt99))))





theorem ret_CheckZ0 : Ret tab 59 [.d Exp.zero.dv] (.d (.int .i64 2)) := by
  have f0 := fun (S : St) (d dst : Nat) => ca_Size (d := d) (dst := dst) (S := S) Exp.zero (by decide)
  have fp : ∀ (S : St) (d dst : Nat), callA tab (callR tab) d dst 91 [.d (.agg [.int .i64 0, .int .i64 0, .int .i64 0, .str [], .str [], .sl 6 []])] S = some (.d (.int .i64 2), S) := fun S d dst => by
    refine ca_ret (ds := [.agg [.int .i64 0, .int .i64 0, .int .i64 0, .str [], .str [], .sl 6 []]]) ?_ rfl (tab_opn (by kernel_rfl)) (tab_res (by kernel_rfl))
    refine ret_of 1 fn91 rfl rfl ?_
    simp only [amr, amc, amp, amz, seval, ty_RkS_91]
  have f1 : ∀ (S : St) (d dst : Nat), callA tab (callR tab) d dst 80 [.d (.agg [.int .i64 0, .int .i64 0, .int .i64 0, .str [], .str [], .sl 6 []])] S = some (.d (.int .i64 2), S) := fun S d dst => by
    refine ca_ret (ds := [.agg [.int .i64 0, .int .i64 0, .int .i64 0, .str [], .str [], .sl 6 []]]) ?_ rfl (tab_opn (by kernel_rfl)) (tab_res (by kernel_rfl))
    refine ret_of 1 fn80 rfl rfl ?_
    simp only [amr, amc, amp, amz, seval, ty_RkS_80, fp]
  have e0 : Exp.zero.nodes = 1 := rfl
  have e1 : Exp.zero.deep = 1 := rfl
  have e2 : Exp.zero.dv = .agg [.int .i64 0, .int .i64 0, .int .i64 0, .str [], .str [], .sl 6 []] := rfl
  rw [e0, e1, e2] at f0
  rw [e2]
  refine ret_of 1 fn59 rfl rfl ?_
  simp only [amr, amc, amp, amz, seval, ty_RkS_59, f0, f1]
theorem ca_CheckZ {d dst : Nat} {S : St} : callA tab (callR tab) d dst 59 [.d (.agg [.int .i64 0, .int .i64 0, .int .i64 0, .str [], .str [], .sl 6 []])] S = some (.d (.int .i64 2), S) :=
  ca_ret (ds := [Exp.zero.dv]) ret_CheckZ0 rfl (tab_opn (by kernel_rfl)) (tab_res (by kernel_rfl))
theorem zero_dv : Exp.zero.dv = .agg [.int .i64 0, .int .i64 0, .int .i64 0, .str [], .str [], .sl 6 []] := rfl
theorem ret_OfZ0 : RetT tab 29 [.d Exp.zero.dv] [.sl 1 [], .int .i64 2] := by
  rw [zero_dv]
  refine retq_good 1 fn29 rfl rfl ?_
  simp only [amr, amc, amp, amz, seval, ty_RkS_29, ca_CheckZ]
theorem ca_OfZ0 {Z : Nat → Bool} {N k d dst : Nat} {S : St} (hz : Z 29 = false) : callA tab (callZ Z N k) d dst 29 [.d Exp.zero.dv] S = some (.tup [.d (.sl 1 []), .d (.int .i64 2)], S) := by
  refine (callA_f (callZ_other hz k)).trans ?_
  have h := ca_OfBad (d := d) (dst := dst) (S := S) Exp.zero.ex (e := 2) (by decide) (by rw [ex_dv]; exact ret_CheckZ0) (by rw [ex_dv]; exact ret_OfZ0)
  rwa [ex_dv] at h
theorem ord_spec {fs : List Field} (h : RkFs fs) : (ordL fs).Perm (idxL fs.length) ∧ (ordL fs).Pairwise (fun a b => (rkF fs).getD a.toNat 0 ≤ (rkF fs).getD b.toNat 0) := by
  have hl := idxL_len fs.length
  have hp := h.pos
  unfold ordL
  generalize idxL fs.length = L at *
  cases L with
  | nil => simp at hl; omega
  | cons x xs =>
    have e : fs.length - 1 = xs.length := by simp at hl; omega
    rw [e]
    exact sort_spec (r := fun v => (rkF fs).getD v.toNat 0) x xs
theorem idx_nodup (n : Nat) : (idxL n).Nodup := by
  unfold idxL
  refine map_nodup (fun a _ b _ e => by have e : (a : Int) = b := e; omega) List.nodup_range
theorem mem_idx {n : Nat} {v : Int} : v ∈ idxL n ↔ ∃ i : Nat, i < n ∧ v = i := by
  unfold idxL
  rw [List.mem_map]
  constructor
  · rintro ⟨i, hi, rfl⟩; exact ⟨i, List.mem_range.1 hi, rfl⟩
  · rintro ⟨i, hi, rfl⟩; exact ⟨i, List.mem_range.2 hi, rfl⟩
theorem ord_mem {fs : List Field} (h : RkFs fs) {v : Int} : v ∈ ordL fs ↔ ∃ i : Nat, i < fs.length ∧ v = i := by rw [(ord_spec h).1.mem_iff, mem_idx]
theorem ord_nodup {fs : List Field} (h : RkFs fs) : (ordL fs).Nodup := (ord_spec h).1.nodup_iff.2 (idx_nodup _)
theorem ord_len {fs : List Field} (h : RkFs fs) : (ordL fs).length = fs.length := by rw [(ord_spec h).1.length_eq, idxL_len]
theorem ord_ahead {fs : List Field} (h : RkFs fs) {j i k : Nat} {x g : Field} (hj : (ordL fs)[j]? = some (i : Int)) (hi : fs[i]? = some x) (c : x.kind ≠ 1) (hk : fs[k]? = some g) (hr : g.name ∈ x.source.refs) : (k : Int) ∈ (ordL fs).take j := by
  have h1 := (rkF_sup h hi).1 k g c hk hr
  have hkm : (k : Int) ∈ ordL fs := (ord_mem h).2 ⟨k, (List.getElem?_eq_some_iff.1 hk).1, rfl⟩
  obtain ⟨q, hq⟩ := List.getElem?_of_mem hkm
  obtain ⟨hj1, hj2⟩ := List.getElem?_eq_some_iff.1 hj
  obtain ⟨hq1, hq2⟩ := List.getElem?_eq_some_iff.1 hq
  rcases Nat.lt_trichotomy q j with hlt | heq | hgt
  · have : ((ordL fs).take j)[q]? = some (k : Int) := by rw [List.getElem?_take_of_lt hlt]; exact hq
    exact List.mem_of_getElem? this
  · subst heq
    rw [hj] at hq
    have e : (i : Int) = k := Option.some.inj hq
    have e2 : i = k := by omega
    subst e2
    omega
  · have := (List.pairwise_iff_getElem.1 (ord_spec h).2) j q hj1 hq1 hgt
    rw [hj2, hq2] at this
    simp only [Int.toNat_natCast] at this
    omega
def nmL (fs : List Field) (l : List Int) : List Str := l.map fun v => (fs.map Field.name).getD v.toNat []
theorem nm_at {fs : List Field} {i : Nat} {x : Field} (hi : fs[i]? = some x) : (fs.map Field.name).getD ((i : Int)).toNat [] = x.name := by simp [List.getD_eq_getElem?_getD, hi]
theorem nm_new {fs : List Field} (h : RkFs fs) {j i : Nat} {x : Field} (hj : (ordL fs)[j]? = some (i : Int)) (hi : fs[i]? = some x) : ((nmL fs ((ordL fs).take j)).any fun z => x.name == z) = false := by
  refine List.any_eq_false.2 (fun z hz => ?_)
  intro e
  have e : x.name = z := by simpa using e
  obtain ⟨v, hv, hvz⟩ := List.mem_map.1 hz
  obtain ⟨q, hq⟩ := List.getElem?_of_mem hv
  have hqj : q < j := by
    have := (List.getElem?_eq_some_iff.1 hq).1
    rw [List.length_take] at this
    omega
  rw [List.getElem?_take_of_lt hqj] at hq
  obtain ⟨k, hk, rfl⟩ := (ord_mem h).1 (List.mem_of_getElem? hq)
  have hk' := List.getElem?_eq_getElem hk
  rw [nm_at hk'] at hvz
  have e1 := ffind_at h.ok.nd hk'
  have e2 := ffind_at h.ok.nd hi
  rw [hvz, ← e, e2] at e1
  have e3 : (i : Int) = k := congrArg Prod.fst e1
  have e4 : i = k := by omega
  subst e4
  obtain ⟨hj1, hj2⟩ := List.getElem?_eq_some_iff.1 hj
  obtain ⟨hq1, hq2⟩ := List.getElem?_eq_some_iff.1 hq
  exact (List.pairwise_iff_getElem.1 (ord_nodup h)) q j hq1 hj1 hqj (by rw [hj2, hq2])
theorem nm_met {fs : List Field} (h : RkFs fs) {j i : Nat} {x : Field} (hj : (ordL fs)[j]? = some (i : Int)) (hi : fs[i]? = some x) (c : x.kind ≠ 1) {s : Str} (hs : s ∈ x.source.refs) : ((nmL fs ((ordL fs).take j)).any fun z => s == z) = true := by
  obtain ⟨k, g, h1, rfl, _⟩ := h.find (List.mem_of_getElem? hi) hs
  refine List.any_eq_true.2 ⟨g.name, List.mem_map.2 ⟨k, ord_ahead h hj hi c h1 hs, nm_at h1⟩, by simp⟩
/- RankOrdered, walked. -/
theorem ty_RkT_8 : type_of% (ai (ai (ai (ai @rs8 @lw8) (ai @mu31_92 (ai @kp8_7 @kp8_13))) (ai (ai @tt1 (ai @tt3 @tt4)) (ai @tt9 (ai @tt22 @tt23)))) (ai (ai (ai @tt24 @tt26) (ai @tt28 (ai @tt31 @tt33))) (ai (ai @tt34 (ai @tt36 @tt38)) (ai @tt48 (ai @tt50 @tt69))))) := (ai (ai (ai (ai @rs8 @lw8) (ai @mu31_92 (ai @kp8_7 @kp8_13))) (ai (ai @tt1 (ai @tt3 @tt4)) (ai @tt9 (ai @tt22 @tt23)))) (ai (ai (ai @tt24 @tt26) (ai @tt28 (ai @tt31 @tt33))) (ai (ai @tt34 (ai @tt36 @tt38)) (ai @tt48 (ai @tt50 @tt69)))))





theorem names_at {fs : List Field} (h : RkFs fs) {x : Field} (hx : x ∈ fs) : ∃ (L : List Str) (e : Int), (∀ (S : St) (d dst : Nat), callA tab (callZ zR 64 20) d dst 29 [.d x.source.dv] S = some (.tup [.d (.sl 1 (L.map DV.str)), .d (.int .i64 e)], S)) ∧ L.length ≤ 60 ∧ ∀ s ∈ L, x.kind ≠ 1 ∧ s ∈ x.source.refs := by
  have h1 := h.ok.one x hx
  by_cases c : x.kind = 1
  · refine ⟨[], 2, fun S d dst => ?_, by simp, fun s hs => by cases hs⟩
    rw [h1.inp c]
    exact ca_OfZ0 (by decide)
  · obtain ⟨s1, s2, s3⟩ := h1.src c
    have hof := ofOk x.source (h.rl x hx c) ⟨s2, s3⟩ s1
    obtain ⟨p1, p2⟩ := names_perm x.source.ex
    rw [ex_refs] at p2
    refine ⟨namesR x.source.ex, 0, fun S d dst => ?_, ?_, fun s hs => ⟨c, (p2 s).1 hs⟩⟩
    · have f1 := ca_OfZ (Z := zR) (N := 64) (k := 20) (d := d) (dst := dst) (S := S) (by decide) x.source.ex hof
      rwa [ex_dv] at f1
    · have h3 := nd_le _ _ p1 (fun s hs => (p2 s).1 hs)
      have h4 := refs_len x.source
      omega
theorem ret_RankOrdered (l : List Raw) (hl : l.length ≤ 9223372036854775807) (hr : ∀ r ∈ l, r.ok) : ∃ x H', stepA tab (callZ zR 64 20) 64 0 8 ([.sl 4 (l.map Raw.dv)].map AV.d) [] [] = some (x, H') ∧ x = .d (.bool true) := by
  have hk := rkfs hr
  have fF := fun (S : St) (d dst : Nat) => (ca_Z (Z := zR) (N := 64) (k := 20) (by decide) (by decide)).trans (ca_Form (d := d) (dst := dst) (S := S) l hl hr)
  have f1 := fun (S : St) (d dst : Nat) => ca_retZT (d := d) (dst := dst) (S := S) (args := [.d (.sl 9 ((mkForm l).fields.map Field.dv))]) (ds := [.sl 9 ((mkForm l).fields.map Field.dv)]) (by decide) (ret_Order 16 (mkForm l).fields hk) rfl (tab_opn (by kernel_rfl)) (tab_res (by kernel_rfl))
  have f2 := fun (S : St) (d dst : Nat) => ca_retZ (d := d) (dst := dst) (S := S) (args := []) (ds := []) (by decide) (ret_ranked 16) rfl (tab_opn (by kernel_rfl)) (tab_res (by kernel_rfl))
  simp only [Frm.dv] at fF
  generalize (mkForm l).pages.map Page.dv = ps at *
  generalize (mkForm l).fields = fs at *
  have hlen := ord_len hk
  have h14 := hk.ok.len
  have hln : ((ordL fs).map (DV.int .i64)).length = fs.length := by simp [hlen]
  have hln2 : (fs.map Field.dv).length = fs.length := by simp
  have hog : ∀ (k : Nat) (v : Int), (ordL fs)[k]? = some v → ((ordL fs).map (DV.int .i64))[k]? = some (.int .i64 v) := fun k v h => by rw [List.getElem?_map, h]; rfl
  have hfg : ∀ (k : Nat) (x : Field), fs[k]? = some x → (fs.map Field.dv)[k]? = some x.dv := fun k x h => by rw [List.getElem?_map, h]; rfl
  unfold intD at *
  generalize (ordL fs).map (DV.int .i64) = od at *
  generalize fs.map Field.dv = fd at *
  have bz : ((fs.length : Int) != (fs.length : Int)) = false := by simp
  refine stepq_good fn8 rfl rfl ?_
  simp only [amr, amc, amp, amz, seval, ty_RkT_8, fF, f1, f2, hln, hln2, bz, bne_self_eq_false]
  have e0 : (fs.length : Int) = ((ordL fs).length : Int) := by rw [hlen]
  refine good_range (ordL fs) (fun k (a : PcS) _ => ⟨[(3, .d (.sl 9 fd)), (6, .own 1 (a.acc.map DV.str) (tokD 0 92 a.t)), (34, .d (.sl 1 od)), (35, .d (.int .i64 fs.length)), (36, .d (.int .i64 (k : Nat)))], tokP 0 92 (a.acc.length * 1) a.t, a.g⟩)
    (fun k a => a.acc = nmL fs ((ordL fs).take k)) (fun _ _ _ => ())
    (fun (o : Unit) (q : Out) (S : St) => q = .exit 0 ∧ ∃ H g, Sub ⟨[], H, g⟩ S)
    ⟨[], none, []⟩ kp8_7 (fun _ => up_cp) rfl (by omega) (by omega) ?_ ?_ ?_ ?_
  · rintro j ⟨acc, t, g⟩ _ v rest hj hget hdr hI hb w1
    simp only at hI
    rw [hlen] at hj hb
    obtain ⟨i, hi, rfl⟩ := (ord_mem hk).1 (List.mem_of_getElem? hget)
    have hxi := List.getElem?_eq_getElem hi
    generalize fs[i] = x at *
    have hget' := hog j _ hget
    have hgx := hfg i x hxi
    rw [Field.dv_eq x] at hgx
    have hnew := nm_new hk hget hxi
    have hmet := fun (s : Str) (c : x.kind ≠ 1) (hs : s ∈ x.source.refs) => nm_met hk hget hxi c hs
    have hnm : nmL fs ((ordL fs).take (j + 1)) = nmL fs ((ordL fs).take j) ++ [x.name] := by
      obtain ⟨q1, q2⟩ := List.getElem?_eq_some_iff.1 hget
      rw [List.take_succ_eq_append_getElem q1, q2]
      unfold nmL
      rw [List.map_append, List.map_cons, List.map_nil, nm_at hxi]
    rw [← hI] at hnew hmet hnm
    have hnext := hnm.symm
    have hal : acc.length ≤ 14 := by rw [hI]; unfold nmL; rw [List.length_map, List.length_take]; omega
    clear hI hnm
    have hA : ((acc.length + 1) * 16 ≤ 140737488355328) = True := eq_true (by omega)
    have d1 : decide ((i : Int) < 0) = false := decide_eq_false (by omega)
    have d2 : decide ((i : Int) ≥ (fs.length : Int)) = false := decide_eq_false (by omega)
    have d2' : decide ((fs.length : Int) ≤ (i : Int)) = false := d2
    have fC := fun {d dst : Nat} {S : St} {tok : Option Id} (s : Str) => (ca_Z (Z := zR) (N := 64) (k := 20) (by decide) (by decide)).trans (ca_conOS (d := d) (dst := dst) (S := S) (tok := tok) acc s (by omega))
    have fM := fun (S : St) (d dst : Nat) (tok : Option Id) => fC (d := d) (dst := dst) (S := S) (tok := tok) x.name
    rw [hnew] at fM
    obtain ⟨L, e, fL, hLl, hL⟩ := names_at hk (List.mem_of_getElem? hxi)
    rw [Exp.dv_eq x.source] at fL
    rcases t with _ | t
    · simp only [amr, amc, amp, amz, seval, ty_RkT_8, hb, hget', w1, hgx, hln2, d1, d2, d2', fM, fL, tokD, tokP]
      refine good_range L (fun q (_ : Unit) _ => ⟨[(3, .d (.sl 9 fd)), (6, .own 1 (acc.map DV.str) none), (8, .d (.int .i64 (i : Nat))), (34, .d (.sl 1 od)), (35, .d (.int .i64 fs.length)), (36, .d (.int .i64 (j : Nat))), (66, .d (.sl 1 (L.map DV.str))), (67, .d (.int .i64 L.length)), (68, .d (.int .i64 (q : Nat)))], [], g⟩) (fun _ _ => True) (fun _ _ _ => ())
        (QX (.exit 2) (fun _ _ => ⟨[(3, .d (.sl 9 fd)), (6, .own 1 (acc.map DV.str) none), (8, .d (.int .i64 (i : Nat))), (34, .d (.sl 1 od)), (35, .d (.int .i64 fs.length)), (36, .d (.int .i64 (j : Nat)))], [], g⟩)) () kp8_13 up_qx trivial (by omega) (by omega) ?_ ?_ ?_ ?_
      · rintro q a g2 s rest2 hq hget2 hdr2 _ hb2 w2
        obtain ⟨c, hs⟩ := hL s (List.mem_of_getElem? hget2)
        have hget2' : (L.map DV.str)[q]? = some (.str s) := by rw [List.getElem?_map, hget2]; rfl
        have b1 : (x.kind != 1) = true := by simp [c]
        have fS := fun (S : St) (d dst : Nat) (tok : Option Id) => fC (d := d) (dst := dst) (S := S) (tok := tok) s
        rw [hmet s c hs] at fS
        simp only [amr, amc, amp, amz, seval, ty_RkT_8, hb2, hget2', hgx, w2, b1, fS, Bool.not_true]
        refine step_nrm () trivial rfl ?_
        (refine ⟨[], ?_⟩; (try simp only [amr, amc, amp, amz, seval]); exact sub_mk (by repeat first | exact subT_nil | refine subT_cons (by first | rfl | simp [Tm.get, *]) ?_))
      · intro a g2 _ hb2
        simp only [amr, amc, amp, amz, seval, ty_RkT_8, hb2]
        refine last_end (by simp) ⟨rfl, ?_⟩
        (refine ⟨[], ?_⟩; (try simp only [amr, amc, amp, amz, seval]); exact sub_mk (by repeat first | exact subT_nil | refine subT_cons (by first | rfl | simp [Tm.get, *]) ?_))
      · (refine ⟨[], ?_⟩; (try simp only [amr, amc, amp, amz, seval]); exact sub_mk (by repeat first | exact subT_nil | refine subT_cons (by first | rfl | simp [Tm.get, *]) ?_))
      · rintro o S' ⟨rfl, g2, hs⟩
        refine good_sub_cr (up_stepr (fun r => up_cp)) hs ?_
        simp only [amr, amc, amp, amz, seval, ty_RkT_8, hgx, hA, w1]
        refine step_nrm (PcS.mk (acc ++ [x.name]) (some g) (1 :: g)) hnext rfl ?_
        (refine ⟨[], ?_⟩; (try simp only [amr, amc, amp, amz, seval, tokD, tokP]); exact sub_mk (by repeat first | exact subT_nil | refine subT_cons (by first | rfl | simp [Tm.get, *]) ?_))
    · simp only [amr, amc, amp, amz, seval, ty_RkT_8, hb, hget', w1, hgx, hln2, d1, d2, d2', fM, fL, tokD, tokP]
      refine good_range L (fun q (_ : Unit) _ => ⟨[(3, .d (.sl 9 fd)), (6, .own 1 (acc.map DV.str) (some ⟨0, 92, 0 :: t⟩)), (8, .d (.int .i64 (i : Nat))), (34, .d (.sl 1 od)), (35, .d (.int .i64 fs.length)), (36, .d (.int .i64 (j : Nat))), (66, .d (.sl 1 (L.map DV.str))), (67, .d (.int .i64 L.length)), (68, .d (.int .i64 (q : Nat)))], [(⟨0, 92, 0 :: t⟩, .grow (acc.length * 1))], g⟩) (fun _ _ => True) (fun _ _ _ => ())
        (QX (.exit 2) (fun _ _ => ⟨[(3, .d (.sl 9 fd)), (6, .own 1 (acc.map DV.str) (some ⟨0, 92, 0 :: t⟩)), (8, .d (.int .i64 (i : Nat))), (34, .d (.sl 1 od)), (35, .d (.int .i64 fs.length)), (36, .d (.int .i64 (j : Nat)))], [(⟨0, 92, 0 :: t⟩, .grow (acc.length * 1))], g⟩)) () kp8_13 up_qx trivial (by omega) (by omega) ?_ ?_ ?_ ?_
      · rintro q a g2 s rest2 hq hget2 hdr2 _ hb2 w2
        obtain ⟨c, hs⟩ := hL s (List.mem_of_getElem? hget2)
        have hget2' : (L.map DV.str)[q]? = some (.str s) := by rw [List.getElem?_map, hget2]; rfl
        have b1 : (x.kind != 1) = true := by simp [c]
        have fS := fun (S : St) (d dst : Nat) (tok : Option Id) => fC (d := d) (dst := dst) (S := S) (tok := tok) s
        rw [hmet s c hs] at fS
        simp only [amr, amc, amp, amz, seval, ty_RkT_8, hb2, hget2', hgx, w2, b1, fS, Bool.not_true]
        refine step_nrm () trivial rfl ?_
        (refine ⟨[], ?_⟩; (try simp only [amr, amc, amp, amz, seval]); exact sub_mk (by repeat first | exact subT_nil | refine subT_cons (by first | rfl | simp [Tm.get, *]) ?_))
      · intro a g2 _ hb2
        simp only [amr, amc, amp, amz, seval, ty_RkT_8, hb2]
        refine last_end (by simp) ⟨rfl, ?_⟩
        (refine ⟨[], ?_⟩; (try simp only [amr, amc, amp, amz, seval]); exact sub_mk (by repeat first | exact subT_nil | refine subT_cons (by first | rfl | simp [Tm.get, *]) ?_))
      · (refine ⟨[], ?_⟩; (try simp only [amr, amc, amp, amz, seval]); exact sub_mk (by repeat first | exact subT_nil | refine subT_cons (by first | rfl | simp [Tm.get, *]) ?_))
      · rintro o S' ⟨rfl, g2, hs⟩
        refine good_sub_cr (up_stepr (fun r => up_cp)) hs ?_
        simp only [amr, amc, amp, amz, seval, ty_RkT_8, hgx, hA, w1]
        refine step_nrm (PcS.mk (acc ++ [x.name]) (some t) g) hnext rfl ?_
        (refine ⟨[], ?_⟩; (try simp only [amr, amc, amp, amz, seval, tokD, tokP]); exact sub_mk (by repeat first | exact subT_nil | refine subT_cons (by first | rfl | simp [Tm.get, *]) ?_))
  · rintro ⟨acc, t, g⟩ _ hI hb
    rw [hlen] at hb
    rw [hlen]
    simp only [amr, amc, amp, amz, seval, ty_RkT_8, hb]
    refine last_end (by simp) ⟨rfl, tokP 0 92 (acc.length * 1) t, g, ?_⟩
    exact sub_mk subT_nil
  · (refine ⟨[], ?_⟩; (try simp only [amr, amc, amp, amz, seval, tokD, tokP]); exact sub_mk (by repeat first | exact subT_nil | refine subT_cons (by first | rfl | simp [Tm.get, *]) ?_))
  · rintro o S' ⟨rfl, H, g, hs⟩
    refine good_sub_cr up_finq hs ?_
    simp only [amr, amc, amp, amz, seval, ty_RkT_8]
end Go.Proofs.Ytfcfifohflgboaa.Am
