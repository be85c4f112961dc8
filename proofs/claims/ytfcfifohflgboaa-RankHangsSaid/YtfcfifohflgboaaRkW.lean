/- Ranks, walked. -/
import Derived.Test.YtfcfifohflgboaaFmV
import Derived.Test.YtfcfifohflgboaaOfQ
set_option linter.unusedVariables false
set_option linter.unusedSimpArgs false
namespace Go.Proofs.Ytfcfifohflgboaa.Am
open Go Go.RowKit
theorem ty_RkB_48 : type_of% (ai (ai (ai @rs48 @lw48) (ai @kp48_3 (ai @kp48_8 @kp48_10))) (ai (ai @kp48_14 @tt3) (ai @tt4 (ai @tt50 @tt85)))) := (ai (ai (ai @rs48 @lw48) (ai @kp48_3 (ai @kp48_8 @kp48_10))) (ai (ai @kp48_14 @tt3) (ai @tt4 (ai @tt50 @tt85))))
set_option maxRecDepth 100000
set_option maxHeartbeats 40000000



theorem up_stepr {α β ρ : Type} {mk : Nat → β → List Nat → St} {I : Nat → β → Prop} {sp : Nat → β → List α → ρ} {Q : ρ → Out → St → Prop} {d : Nat} {ts hs : List Nat} {k : Nat} {a : β} {x : α} {rest : List α} (hQ : ∀ r, Up (Q r)) : Up (StepR mk I sp Q d ts hs k a x rest) := by
  rintro o S S' h (⟨h1, h2⟩ | ⟨h1, a', g', h2, h3, h4⟩)
  · exact .inl ⟨h1, hQ _ _ _ _ h h2⟩
  · exact .inr ⟨h1, a', g', h2, h3, h4.trans (sub_keep h d _)⟩
def cI (out : List Int) : List AV := out.map fun v => .d (.int .i64 v)
def rowD (l : List Nat) : DV := .sl 1 (l.map fun (k : Nat) => DV.int .i64 k)
def needD (need : List (List Nat)) : DV := .sl 1 (need.map rowD)
theorem cI_len (out : List Int) : (cI out).length = out.length := List.length_map ..
theorem cI_head {out : List Int} {i : Nat} (h : i < out.length) : (List.drop i (cI out)).head? = some (.d (.int .i64 (out.getD i 0))) := by
  rw [List.head?_drop]
  simp [cI, h]
theorem cI_set {out : List Int} {i : Nat} (v : Int) (h : i < out.length) : List.take i (cI out) ++ [.d (.int .i64 v)] ++ List.drop (i + 1) (cI out) = cI (out.set i v) := by
  unfold cI
  rw [← List.map_take, ← List.map_drop, List.set_eq_take_append_cons_drop, if_pos h]
  simp
theorem cI_flat : ∀ out : List Int, cI out = flatD (out.map (DV.int .i64))
  | [] => rfl
  | a :: r => by
    have := cI_flat r
    simp only [cI, flatD, List.map_cons, List.flatMap_cons, List.map_append] at *
    rw [this]
    rfl
def RkB (b : Int) (out : List Int) : Prop := ∀ i, -1 ≤ out.getD i 0 ∧ out.getD i 0 ≤ b
theorem mostR_le {out : List Int} {b : Int} (hB : RkB b out) (hb : 0 ≤ b) : ∀ (l : List Nat) (m : Int), -1 ≤ m → m ≤ b + 1 → -1 ≤ mostR out l m ∧ mostR out l m ≤ b + 1
  | [], m, h1, h2 => ⟨h1, h2⟩
  | k :: r, m, h1, h2 => by
    have h := hB k
    unfold mostR
    split
    · omega
    · split
      · exact mostR_le hB hb r _ (by omega) (by omega)
      · exact mostR_le hB hb r m h1 h2
theorem RkB.set {out : List Int} {b : Int} (hB : RkB b out) (hb : 0 ≤ b) (i : Nat) (l : List Nat) : RkB (b + 1) (out.set i (upR (out.getD i 0) (mostR out l 0))) := fun j => by
  have h1 := hB i
  have h2 := hB j
  have h3 := mostR_le hB hb l 0 (by omega) (by omega)
  rw [getD_set]
  split
  · unfold upR
    split <;> omega
  · omega
theorem sweep_B : ∀ (r : List (List Nat)) (i : Nat) (out : List Int) (b : Int), 0 ≤ b → RkB b out → RkB (b + r.length) (sweepR r i out)
  | [], i, out, b, hb, hB => by simpa [sweepR] using hB
  | l :: r, i, out, b, hb, hB => by
    have := sweep_B r (i + 1) _ (b + 1) (by omega) (hB.set hb i l)
    unfold sweepR
    have e : b + ((l :: r).length : Int) = b + 1 + (r.length : Int) := by simp only [List.length_cons]; omega
    rw [e]
    exact this
theorem sweep_len : ∀ (r : List (List Nat)) (i : Nat) (out : List Int), (sweepR r i out).length = out.length
  | [], i, out => rfl
  | l :: r, i, out => by unfold sweepR; rw [sweep_len r (i + 1) _, List.length_set]
theorem RkB.mono {b c : Int} {out : List Int} (h : RkB b out) (hc : b ≤ c) : RkB c out := fun i => ⟨(h i).1, by have := (h i).2; omega⟩
theorem rounds_len (need : List (List Nat)) : ∀ (t : Nat) (out : List Int), (roundsR need t out).length = out.length
  | 0, out => rfl
  | t + 1, out => by unfold roundsR; rw [rounds_len need t, sweep_len]
theorem ret_ranks (need : List (List Nat)) (h0 : 0 < need.length) (hn : need.length ≤ 14) (hl : ∀ l ∈ need, l.length ≤ 60 ∧ ∀ k ∈ l, k < need.length) : RetD tab 48 [.d (needD need)] (.sl 1 ((ranksL need).map (DV.int .i64))) := by
  have hsz : ((need.length : Int) * 8 ≤ 140737488355328 ∧ (need.length : Int) ≤ 9223372036854775807 ∧ 0 < (need.length : Int) * 1) = True := eq_true (by omega)
  have hfl : (List.replicate need.length [AV.d (DV.int IntKind.i64 0)]).flatten = cI (List.replicate need.length 0) := by
    unfold cI
    rw [List.map_replicate]
    generalize need.length = n
    induction n with
    | zero => rfl
    | succ n ih => rw [List.replicate_succ, List.flatten_cons, ih]; rfl
  refine retq_good 64 fn48 rfl rfl ?_
  unfold needD
  simp only [amx, seval, ty_RkB_48, hsz, hfl]
  refine good_range (List.replicate need.length ()) (fun k (_ : Unit) _ => ⟨[(0, .d (.sl 1 (need.map rowD))), (3, .arr ⟨0, 12, [0]⟩ 0 need.length 1), (14, .d (.int .i64 need.length)), (15, .d (.int .i64 (k : Nat)))], [(⟨0, 12, [0]⟩, .box (cI (List.replicate k (-1) ++ List.replicate (need.length - k) 0)))], [1]⟩)
    (fun _ _ => True) (fun _ _ _ => ())
    (QX (.exit 0) (fun _ g => ⟨[(0, .d (.sl 1 (need.map rowD))), (3, .arr ⟨0, 12, [0]⟩ 0 need.length 1)], [(⟨0, 12, [0]⟩, .box (cI (List.replicate need.length (-1))))], [1]⟩)) () kp48_3 up_qx trivial (by simp only [List.length_replicate]; omega) (by simp only [List.length_replicate]; omega) ?_ ?_ ?_ ?_
  · rintro k a g x rest hk hget hdr _ hb w1
    simp only [List.length_replicate] at hk hb
    have hlt : (k : Int) < (need.length : Int) := by omega
    have hle : (List.replicate k (-1) ++ List.replicate (need.length - k) (0 : Int)).length = need.length := by simp; omega
    have f2 := cI_set (out := List.replicate k (-1) ++ List.replicate (need.length - k) 0) (-1) (by omega : k < _)
    have e : (List.replicate k (-1) ++ List.replicate (need.length - k) (0 : Int)).set k (-1) = List.replicate (k + 1) (-1) ++ List.replicate (need.length - (k + 1)) 0 := by
      rw [List.set_append_right _ _ (by simp), List.length_replicate, Nat.sub_self, show need.length - k = need.length - (k + 1) + 1 by omega, List.replicate_succ, List.set_cons_zero, List.replicate_succ']
      simp
    rw [e] at f2
    have f3 : k + 1 ≤ (cI (List.replicate k (-1) ++ List.replicate (need.length - k) 0)).length := by rw [cI_len, hle]; omega
    generalize cI (List.replicate k (-1) ++ List.replicate (need.length - k) 0) = U at *
    simp only [amx, seval, ty_RkB_48, hb, hlt, w1, f2, f3, Nat.mul_one]
    refine step_nrm () trivial rfl ?_
    (refine ⟨[], ?_⟩; (try simp only [amx, seval]); exact sub_mk (by repeat first | exact subT_nil | refine subT_cons (by first | rfl | simp [Tm.get, *]) ?_))
  · intro a g _ hb
    simp only [List.length_replicate, Nat.sub_self, List.replicate_zero, List.append_nil] at hb ⊢
    simp only [amx, seval, ty_RkB_48, hb]
    refine last_end (by simp) ⟨rfl, ?_⟩
    (refine ⟨[], ?_⟩; (try simp only [amx, seval]); exact sub_mk (by repeat first | exact subT_nil | refine subT_cons (by first | rfl | simp [Tm.get, *]) ?_))
  · simp only [List.replicate_zero, List.nil_append, Nat.sub_zero]
    (refine ⟨[], ?_⟩; (try simp only [amx, seval]); exact sub_mk (by repeat first | exact subT_nil | refine subT_cons (by first | rfl | simp [Tm.get, *]) ?_))
  · rintro o S' ⟨rfl, g, hs⟩
    refine good_sub_cr up_finq hs ?_
    simp only [amx, seval, ty_RkB_48]
    refine good_range need (fun k (a : List Int) _ => ⟨[(0, .d (.sl 1 (need.map rowD))), (3, .arr ⟨0, 12, [0]⟩ 0 need.length 1), (23, .d (.int .i64 need.length)), (24, .d (.int .i64 (k : Nat)))], [(⟨0, 12, [0]⟩, .box (cI a))], [1]⟩)
      (fun k a => a.length = need.length ∧ RkB (k * 14) a) (fun _ a r => roundsR need r.length a)
      (QX (.exit 2) (fun (o : List Int) g => ⟨[(3, .arr ⟨0, 12, [0]⟩ 0 need.length 1)], [(⟨0, 12, [0]⟩, .box (cI o))], [1]⟩)) (List.replicate need.length (-1)) kp48_8 up_qx ⟨by simp, fun i => by
        rw [List.getD_eq_getElem?_getD, List.getElem?_replicate]
        split <;> decide⟩ (by omega) (by omega) ?_ ?_ ?_ ?_
    · rintro k a g x rest hk hget hdr ⟨ha, hB⟩ hb w1
      simp only [amx, seval, ty_RkB_48, hb, w1]
      refine good_range need (fun j (b : List Int) _ => ⟨[(0, .d (.sl 1 (need.map rowD))), (3, .arr ⟨0, 12, [0]⟩ 0 need.length 1), (23, .d (.int .i64 need.length)), (24, .d (.int .i64 (k : Nat))), (26, .d (.sl 1 (need.map rowD))), (27, .d (.int .i64 need.length)), (28, .d (.int .i64 (j : Nat)))], [(⟨0, 12, [0]⟩, .box (cI b))], [1]⟩)
        (fun j b => b.length = need.length ∧ RkB (k * 14 + j) b) (fun j b r => sweepR r j b)
        (QX (.exit 4) (fun (o : List Int) g => ⟨[(0, .d (.sl 1 (need.map rowD))), (3, .arr ⟨0, 12, [0]⟩ 0 need.length 1), (23, .d (.int .i64 need.length)), (24, .d (.int .i64 (k : Nat)))], [(⟨0, 12, [0]⟩, .box (cI o))], [1]⟩)) a kp48_10 up_qx ⟨ha, hB.mono (by omega)⟩ (by omega) (by omega) ?_ ?_ ?_ ?_
      · rintro j b g2 l rest2 hj hget2 hdr2 ⟨hbl, hBb⟩ hb2 w2
        have hget2' : (need.map rowD)[j]? = some (.sl 1 (l.map fun (k : Nat) => DV.int .i64 k)) := by rw [List.getElem?_map, hget2]; rfl
        have hjl : (j : Int) < (need.length : Int) := by omega
        obtain ⟨hll, hlk⟩ := hl l (List.mem_of_getElem? hget2)
        have hmb := mostR_le hBb (by omega) l 0 (by omega) (by omega)
        have hbj := hBb j
        have f1 := cI_head (out := b) (i := j) (by omega)
        have f3 : j + 1 ≤ (cI b).length := by rw [cI_len]; omega
        simp only [amx, seval, ty_RkB_48, hb2, hget2', w2]
        refine good_range l (fun i (m : Int) _ => ⟨[(0, .d (.sl 1 (need.map rowD))), (3, .arr ⟨0, 12, [0]⟩ 0 need.length 1), (5, .d (.int .i64 (j : Nat))), (7, .d (.int .i64 m)), (23, .d (.int .i64 need.length)), (24, .d (.int .i64 (k : Nat))), (26, .d (.sl 1 (need.map rowD))), (27, .d (.int .i64 need.length)), (28, .d (.int .i64 (j : Nat))), (33, .d (.sl 1 (l.map fun (k : Nat) => DV.int .i64 k))), (34, .d (.int .i64 l.length)), (35, .d (.int .i64 (i : Nat)))], [(⟨0, 12, [0]⟩, .box (cI b))], [1]⟩)
          (fun i m => True) (fun i m r => mostR b r m)
          (QX (.exit 6) (fun (o : Int) g => ⟨[(0, .d (.sl 1 (need.map rowD))), (3, .arr ⟨0, 12, [0]⟩ 0 need.length 1), (5, .d (.int .i64 (j : Nat))), (7, .d (.int .i64 o)), (23, .d (.int .i64 need.length)), (24, .d (.int .i64 (k : Nat))), (26, .d (.sl 1 (need.map rowD))), (27, .d (.int .i64 need.length)), (28, .d (.int .i64 (j : Nat)))], [(⟨0, 12, [0]⟩, .box (cI b))], [1]⟩)) 0 kp48_14 up_qx trivial (by omega) (by omega) ?_ ?_ ?_ ?_
        · rintro i m g3 q rest3 hi hget3 hdr3 _ hb3 w3
          have hget3' : (l.map fun (k : Nat) => DV.int .i64 k)[i]? = some (.int .i64 q) := by rw [List.getElem?_map, hget3]; rfl
          have hq := hlk q (List.mem_of_getElem? hget3)
          have hql : (q : Int) < (need.length : Int) := by omega
          have fq := cI_head (out := b) (i := q) (by omega)
          have f4 : q + 1 ≤ (cI b).length := by rw [cI_len]; omega
          have hbq := hBb q
          have hM : mostR b (q :: rest3) m = if b.getD q 0 < 0 then -1 else mostR b rest3 (if b.getD q 0 + 1 > m then b.getD q 0 + 1 else m) := by rw [mostR]
          generalize b.getD q 0 = v at *
          have wv : IntKind.i64.wrap (v + 1) = v + 1 := wrap_in (by omega) (by omega)
          generalize cI b = U at *
          by_cases cv : v < 0
          · have b1 : decide (v < 0) = true := decide_eq_true cv
            rw [if_pos cv] at hM
            simp only [amx, seval, ty_RkB_48, hb3, hget3', hql, fq, f4, b1, w3, Nat.mul_one]
            refine step_end (by simp) hM ⟨rfl, ?_⟩
            (refine ⟨[], ?_⟩; (try simp only [amx, seval]); exact sub_mk (by repeat first | exact subT_nil | refine subT_cons (by first | rfl | simp [Tm.get, *]) ?_))
          · have b1 : decide (v < 0) = false := decide_eq_false cv
            rw [if_neg cv] at hM
            simp only [amx, seval, ty_RkB_48, hb3, hget3', hql, fq, f4, b1, w3, wv, Nat.mul_one]
            refine step_nrm (if v + 1 > m then v + 1 else m) trivial hM ?_
            (refine ⟨[], ?_⟩; (try simp only [amx, seval]); exact sub_mk (by repeat first | exact subT_nil | refine subT_cons (by first | rfl | simp [Tm.get, *]) ?_))
        · intro m g3 _ hb3
          simp only [amx, seval, ty_RkB_48, hb3]
          refine last_end (by simp) ⟨rfl, ?_⟩
          (refine ⟨[], ?_⟩; (try simp only [amx, seval]); exact sub_mk (by repeat first | exact subT_nil | refine subT_cons (by first | rfl | simp [Tm.get, *]) ?_))
        · (refine ⟨[], ?_⟩; (try simp only [amx, seval]); exact sub_mk (by repeat first | exact subT_nil | refine subT_cons (by first | rfl | simp [Tm.get, *]) ?_))
        · rintro o S' ⟨rfl, g4, hs4⟩
          refine good_sub_cr (up_stepr up_qx) hs4 ?_
          have hsw : sweepR (l :: rest2) j b = sweepR rest2 (j + 1) (b.set j (upR (b.getD j 0) (mostR b l 0))) := by rw [sweepR]
          have f2 := cI_set (out := b) (i := j) (upR (b.getD j 0) (mostR b l 0)) (by omega)
          have hst : (b.set j (upR (b.getD j 0) (mostR b l 0))).length = need.length ∧ RkB (k * 14 + ((j + 1 : Nat) : Int)) (b.set j (upR (b.getD j 0) (mostR b l 0))) := ⟨by rw [List.length_set]; exact hbl, by
            have := hBb.set (by omega) j l
            have e : (k * 14 + (j : Int)) + 1 = k * 14 + ((j + 1 : Nat) : Int) := by omega
            rwa [e] at this⟩
          generalize b.set j (upR (b.getD j 0) (mostR b l 0)) = b' at *
          unfold upR at f2
          generalize mostR b l 0 = v at *
          generalize b.getD j 0 = o at *
          generalize cI b = U at *
          simp only [amx, seval, ty_RkB_48, hjl, f1, f2, f3, w2, Nat.mul_one]
          refine step_nrm b' hst hsw ?_
          (refine ⟨[], ?_⟩; (try simp only [amx, seval]); exact sub_mk (by repeat first | exact subT_nil | refine subT_cons (by first | rfl | simp [Tm.get, *]) ?_))
      · rintro b g2 _ hb2
        simp only [amx, seval, ty_RkB_48, hb2]
        refine last_end (by simp) ⟨rfl, ?_⟩
        simp only [sweepR]
        (refine ⟨[], ?_⟩; (try simp only [amx, seval]); exact sub_mk (by repeat first | exact subT_nil | refine subT_cons (by first | rfl | simp [Tm.get, *]) ?_))
      · (refine ⟨[], ?_⟩; (try simp only [amx, seval]); exact sub_mk (by repeat first | exact subT_nil | refine subT_cons (by first | rfl | simp [Tm.get, *]) ?_))
      · rintro o S' ⟨rfl, g4, hs4⟩
        refine good_sub_cr (up_stepr up_qx) hs4 ?_
        simp only [amx, seval, ty_RkB_48, w1]
        refine step_nrm (sweepR need 0 a) ⟨by rw [sweep_len]; exact ha, ?_⟩ (by rw [List.length_cons, roundsR]) ?_
        · exact (sweep_B need 0 a (k * 14) (by omega) hB).mono (by omega)
        · (refine ⟨[], ?_⟩; (try simp only [amx, seval]); exact sub_mk (by repeat first | exact subT_nil | refine subT_cons (by first | rfl | simp [Tm.get, *]) ?_))
    · rintro a g _ hb
      simp only [amx, seval, ty_RkB_48, hb]
      refine last_end (by simp) ⟨rfl, ?_⟩
      simp only [List.length_nil, roundsR]
      (refine ⟨[], ?_⟩; (try simp only [amx, seval]); exact sub_mk (by repeat first | exact subT_nil | refine subT_cons (by first | rfl | simp [Tm.get, *]) ?_))
    · (refine ⟨[], ?_⟩; (try simp only [amx, seval]); exact sub_mk (by repeat first | exact subT_nil | refine subT_cons (by first | rfl | simp [Tm.get, *]) ?_))
    · rintro o S' ⟨rfl, g, hs⟩
      refine good_sub_cr up_finq hs ?_
      have hL : (roundsR need need.length (List.replicate need.length (-1))).length = need.length := by rw [rounds_len, List.length_replicate]
      unfold ranksL
      generalize roundsR need need.length (List.replicate need.length (-1)) = O at *
      simp only [amx, seval, ty_RkB_48]
      refine ⟨rfl, ?_⟩
      rw [← fzb_arr, frz_list0 (sz := 1) (n := need.length) (xs := O.map (DV.int .i64)) (by rw [cI_flat]; simp only [Heap.get, if_true]) (by rw [List.length_map, hL]) (by decide) (fun x hx => by
        obtain ⟨t, _, rfl⟩ := List.mem_map.1 hx
        exact ⟨rfl, rfl⟩)]
      rfl
theorem ca_ranks {d dst : Nat} {S : St} (need : List (List Nat)) (h0 : 0 < need.length) (hn : need.length ≤ 14) (hl : ∀ l ∈ need, l.length ≤ 60 ∧ ∀ k ∈ l, k < need.length) : callA tab (callR tab) d dst 48 [.d (needD need)] S = some (.d (.sl 1 ((ranksL need).map (DV.int .i64))), S) :=
  ca_retD (ds := [needD need]) (ret_ranks need h0 hn hl) rfl (tab_opn (by kernel_rfl)) (tab_res (by kernel_rfl))
/- What each field needs, walked. -/
theorem ty_RkC_47 : type_of% (ai (ai (ai (ai @rs47 @lw47) (ai @mu50_43 @mu85_48)) (ai (ai @kp47_3 @kp47_9) (ai @tt1 (ai @tt3 @tt4)))) (ai (ai (ai @tt9 @tt23) (ai @tt28 (ai @tt31 @tt33))) (ai (ai @tt34 @tt36) (ai @tt48 (ai @tt50 @tt85))))) := (ai (ai (ai (ai @rs47 @lw47) (ai @mu50_43 @mu85_48)) (ai (ai @kp47_3 @kp47_9) (ai @tt1 (ai @tt3 @tt4)))) (ai (ai (ai @tt9 @tt23) (ai @tt28 (ai @tt31 @tt33))) (ai (ai @tt34 @tt36) (ai @tt48 (ai @tt50 @tt85)))))



def zR : Nat → Bool := fun f => f == 47 || f == 22 || f == 28 || f == 30 || f == 43 || f == 17 || f == 20 || f == 23
def needR (fs : List Field) (f : Field) : List Nat := if f.kind = 1 then [] else (namesR f.source.ex).map fun s => (ffind fs s).1.toNat
theorem nd_le : ∀ (l m : List (List UInt8)), l.Nodup → (∀ s ∈ l, s ∈ m) → l.length ≤ m.length
  | [], m, _, _ => Nat.zero_le _
  | a :: r, m, h, hs => by
    rw [List.nodup_cons] at h
    have h1 := nd_le r (m.erase a) h.2 (fun s hr => (List.mem_erase_of_ne (fun e => h.1 (by rw [← e]; exact hr))).2 (hs s (by simp [hr])))
    have h2 := hs a (by simp)
    have h3 := List.length_erase_of_mem h2
    have h4 := List.length_pos_of_mem h2
    simp only [List.length_cons]
    omega
theorem ffind_nat (fs : List Field) (s : List UInt8) : (((ffind fs s).1.toNat : Nat) : Int) = (ffind fs s).1 := by
  unfold ffind
  split <;> simp only <;> omega
theorem el_ow {sz : Nat} {xs s : List DV} {tok : Option Id} : el1 (some (.own sz xs tok)) (some s) = some (.sl sz xs :: s) := rfl
structure NdS where
  acc : List (List Nat)
  t : Option (List Nat)
  g : List Nat
structure NdT where
  acc : List Nat
  w : Option (List Nat)
  g : List Nat
theorem ret_needs (k : Nat) (fs : List Field) (h : FOKs fs) (hnm : ∀ f ∈ fs, f.kind ≠ 1 → ∀ s ∈ f.source.refs, s.length ≤ 1000) : RetZ zR 64 (k + 1) 47 [.d (.sl 9 (fs.map Field.dv))] (needD (fs.map (needR fs))) := by
  have hlen := h.len
  refine stepq_good fn47 rfl rfl ?_
  unfold needD
  simp only [amx, seval, ty_RkC_47]
  refine good_range fs (fun k (a : NdS) _ => ⟨[(0, .d (.sl 9 (fs.map Field.dv))), (3, .own 1 (a.acc.map rowD) (tokD 0 48 a.t)), (13, .d (.sl 9 (fs.map Field.dv))), (14, .d (.int .i64 fs.length)), (15, .d (.int .i64 (k : Nat)))], tokP 0 48 (a.acc.length * 1) a.t, a.g⟩)
    (fun k a => a.acc.length = k) (fun k a r => a.acc ++ r.map (needR fs))
    (fun (o : List (List Nat)) (q : Out) (S : St) => q = .exit 0 ∧ ∃ t g, Sub ⟨[(3, .own 1 (o.map rowD) (tokD 0 48 t))], tokP 0 48 (o.length * 1) t, g⟩ S)
    ⟨[], none, []⟩ kp47_3 (fun _ => up_tok) rfl (by omega) (by omega) ?_ ?_ ?_ ?_
  · rintro j ⟨acc, t, g⟩ _ x rest hj hget hd hI hb w1
    simp only at hI
    have hx := h.one x (List.mem_of_getElem? hget)
    have hget' : (fs.map Field.dv)[j]? = some x.dv := by rw [List.getElem?_map, hget]; rfl
    have hA : ((acc.length + 1) * 24 ≤ 140737488355328) = True := eq_true (by omega)
    have hS : acc ++ (x :: rest).map (needR fs) = (acc ++ [needR fs x]) ++ rest.map (needR fs) := by simp
    rw [Field.dv_eq x] at hget'
    by_cases c : x.kind = 1
    · have b1 : (x.kind != 1) = false := by rw [c]; rfl
      have hR : needR fs x = [] := by unfold needR; rw [if_pos c]
      rw [hR] at hS
      rcases t with _ | t
      · simp only [amx, seval, ty_RkC_47, hb, hget', w1, b1, hA, el_ow, tokD, tokP]
        refine step_nrm (NdS.mk (acc ++ [[]]) (some (1 :: g)) (1 :: 1 :: g)) (by show (acc ++ [[]]).length = j + 1; rw [List.length_append, hI]; rfl) hS ?_
        (refine ⟨[], ?_⟩; (try simp only [amx, seval, tokD, tokP, rowD, List.map_nil]); exact sub_mk (by repeat first | exact subT_nil | refine subT_cons (by first | rfl | simp [Tm.get, *]) ?_))
      · simp only [amx, seval, ty_RkC_47, hb, hget', w1, b1, hA, el_ow, tokD, tokP]
        refine step_nrm (NdS.mk (acc ++ [[]]) (some t) (1 :: g)) (by show (acc ++ [[]]).length = j + 1; rw [List.length_append, hI]; rfl) hS ?_
        (refine ⟨[], ?_⟩; (try simp only [amx, seval, tokD, tokP, rowD, List.map_nil]); exact sub_mk (by repeat first | exact subT_nil | refine subT_cons (by first | rfl | simp [Tm.get, *]) ?_))
    · have b1 : (x.kind != 1) = true := by simp [c]
      obtain ⟨s1, s2, s3⟩ := hx.src c
      have hof := ofOk x.source (hnm x (List.mem_of_getElem? hget) c) ⟨s2, s3⟩ s1
      have f1 := fun (S : St) (d dst : Nat) => ca_OfZ (Z := zR) (N := 64) (k := k + 1) (d := d) (dst := dst) (S := S) (by decide) x.source.ex hof
      rw [ex_dv, Exp.dv_eq x.source] at f1
      have hNl : (namesR x.source.ex).length ≤ 60 := by
        obtain ⟨p1, p2⟩ := names_perm x.source.ex
        have h1 := refs_len x.source
        have h2 : (namesR x.source.ex).length ≤ x.source.refs.length := by
          refine nd_le _ _ p1 (fun s hs => ?_)
          have := (p2 s).1 hs
          rwa [ex_refs] at this
        omega
      have hR : needR fs x = (namesR x.source.ex).map fun s => (ffind fs s).1.toNat := by unfold needR; rw [if_neg c]
      generalize namesR x.source.ex = L at *
      rcases t with _ | t
      · simp only [amx, seval, ty_RkC_47, hb, hget', w1, b1, f1, tokD, tokP]
        refine good_range L (fun i (a : NdT) _ => ⟨[(0, .d (.sl 9 (fs.map Field.dv))), (3, .own 1 (acc.map rowD) none), (6, .own 1 (a.acc.map fun (k : Nat) => DV.int .i64 k) (tokD 0 43 a.w)), (13, .d (.sl 9 (fs.map Field.dv))), (14, .d (.int .i64 fs.length)), (15, .d (.int .i64 (j : Nat))), (28, .d (.sl 1 (L.map DV.str))), (29, .d (.int .i64 L.length)), (30, .d (.int .i64 (i : Nat)))], tokP 0 43 (a.acc.length * 1) a.w ++ [(⟨0, 5, 0 :: g⟩, .box [.d (.str x.name), .d (.int .i64 x.kind), .d (.int .i64 x.ty), .d (.int .i64 x.source.op), .d (.int .i64 x.source.v.kind), .d (.int .i64 x.source.v.n), .d (.str x.source.v.s), .d (.str x.source.name), .d (.sl 6 (x.source.args.map Exp.dv))])], a.g⟩)
          (fun i a => a.acc.length = i) (fun i a r => a.acc ++ r.map fun s => (ffind fs s).1.toNat)
          (fun (o : List Nat) (q : Out) (S : St) => q = .exit 2 ∧ ∃ w g', Sub ⟨[(0, .d (.sl 9 (fs.map Field.dv))), (3, .own 1 (acc.map rowD) none), (6, .own 1 (o.map fun (k : Nat) => DV.int .i64 k) (tokD 0 43 w)), (13, .d (.sl 9 (fs.map Field.dv))), (14, .d (.int .i64 fs.length)), (15, .d (.int .i64 (j : Nat)))], tokP 0 43 (o.length * 1) w ++ [(⟨0, 5, 0 :: g⟩, .box [.d (.str x.name), .d (.int .i64 x.kind), .d (.int .i64 x.ty), .d (.int .i64 x.source.op), .d (.int .i64 x.source.v.kind), .d (.int .i64 x.source.v.n), .d (.str x.source.v.s), .d (.str x.source.name), .d (.sl 6 (x.source.args.map Exp.dv))])], g'⟩ S)
          ⟨[], none, 1 :: g⟩ kp47_9 (fun _ => up_tok) rfl (by omega) (by omega) ?_ ?_ ?_ ?_
        · rintro i ⟨acc2, w, g'⟩ _ s rest2 hi hget2 hd2 hI2 hb2 w2
          simp only at hI2
          have hget2' : (L.map DV.str)[i]? = some (.str s) := by rw [List.getElem?_map, hget2]; rfl
          have hB : ((acc2.length + 1) * 8 ≤ 140737488355328) = True := eq_true (by omega)
          have hS2 : acc2 ++ (s :: rest2).map (fun s => (ffind fs s).1.toNat) = (acc2 ++ [(ffind fs s).1.toNat]) ++ rest2.map fun s => (ffind fs s).1.toNat := by simp
          have f2 := fun (S : St) (d dst : Nat) => (ca_Z (Z := zR) (N := 64) (k := k + 1) (by decide) (by decide)).trans (ca_Find (d := d) (dst := dst) (S := S) fs s (by omega))
          have hq := ffind_nat fs s
          generalize ffind fs s = q at *
          rw [← hq] at f2
          generalize q.1.toNat = q1 at *
          generalize q.2 = q2 at *
          rcases w with _ | w
          · simp only [amx, seval, ty_RkC_47, hb2, hget2', w2, f2, hB, tokD, tokP]
            refine step_nrm (NdT.mk (acc2 ++ [q1]) (some g') (1 :: g')) (by show (acc2 ++ [q1]).length = i + 1; rw [List.length_append, hI2]; rfl) hS2 ?_
            (refine ⟨[], ?_⟩; (try simp only [amx, seval, tokD, tokP]); exact sub_mk (by repeat first | exact subT_nil | refine subT_cons (by first | rfl | simp [Tm.get, *]) ?_))
          · simp only [amx, seval, ty_RkC_47, hb2, hget2', w2, f2, hB, tokD, tokP]
            refine step_nrm (NdT.mk (acc2 ++ [q1]) (some w) g') (by show (acc2 ++ [q1]).length = i + 1; rw [List.length_append, hI2]; rfl) hS2 ?_
            (refine ⟨[], ?_⟩; (try simp only [amx, seval, tokD, tokP]); exact sub_mk (by repeat first | exact subT_nil | refine subT_cons (by first | rfl | simp [Tm.get, *]) ?_))
        · rintro ⟨acc2, w, g'⟩ _ hI2 hb2
          simp only [amx, seval, ty_RkC_47, hb2]
          refine last_end (by simp) ⟨rfl, w, g', ?_⟩
          try simp only [List.map_nil, List.append_nil]
          exact sub_mk (by repeat first | exact subT_nil | refine subT_cons (by first | rfl | simp [Tm.get, *]) ?_)
        · (refine ⟨[], ?_⟩; (try simp only [amx, seval, tokD, tokP]); exact sub_mk (by repeat first | exact subT_nil | refine subT_cons (by first | rfl | simp [Tm.get, *]) ?_))
        · rintro o S' ⟨rfl, w, g', hs'⟩
          refine good_sub_cr (up_stepr (fun r => up_tok)) hs' ?_
          simp only [List.nil_append] at hs' ⊢
          rw [← hR]
          generalize needR fs x = R at *
          rcases w with _ | w
          · simp only [amx, seval, ty_RkC_47, w1, hA, el_ow, tokD, tokP]
            refine step_nrm (NdS.mk (acc ++ [R]) (some g') (1 :: g')) (by show (acc ++ [R]).length = j + 1; rw [List.length_append, hI]; rfl) hS ?_
            (refine ⟨[], ?_⟩; (try simp only [amx, seval, tokD, tokP, rowD]); exact sub_mk (by repeat first | exact subT_nil | refine subT_cons (by first | rfl | simp [Tm.get, *]) ?_))
          · simp only [amx, seval, ty_RkC_47, w1, hA, el_ow, tokD, tokP]
            refine step_nrm (NdS.mk (acc ++ [R]) (some g') (1 :: g')) (by show (acc ++ [R]).length = j + 1; rw [List.length_append, hI]; rfl) hS ?_
            (refine ⟨[], ?_⟩; (try simp only [amx, seval, tokD, tokP, rowD]); exact sub_mk (by repeat first | exact subT_nil | refine subT_cons (by first | rfl | simp [Tm.get, *]) ?_))
      · simp only [amx, seval, ty_RkC_47, hb, hget', w1, b1, f1, tokD, tokP]
        refine good_range L (fun i (a : NdT) _ => ⟨[(0, .d (.sl 9 (fs.map Field.dv))), (3, .own 1 (acc.map rowD) (some ⟨0, 48, 0 :: t⟩)), (6, .own 1 (a.acc.map fun (k : Nat) => DV.int .i64 k) (tokD 0 43 a.w)), (13, .d (.sl 9 (fs.map Field.dv))), (14, .d (.int .i64 fs.length)), (15, .d (.int .i64 (j : Nat))), (28, .d (.sl 1 (L.map DV.str))), (29, .d (.int .i64 L.length)), (30, .d (.int .i64 (i : Nat)))], tokP 0 43 (a.acc.length * 1) a.w ++ [(⟨0, 5, 0 :: g⟩, .box [.d (.str x.name), .d (.int .i64 x.kind), .d (.int .i64 x.ty), .d (.int .i64 x.source.op), .d (.int .i64 x.source.v.kind), .d (.int .i64 x.source.v.n), .d (.str x.source.v.s), .d (.str x.source.name), .d (.sl 6 (x.source.args.map Exp.dv))]), (⟨0, 48, 0 :: t⟩, .grow (acc.length * 1))], a.g⟩)
          (fun i a => a.acc.length = i) (fun i a r => a.acc ++ r.map fun s => (ffind fs s).1.toNat)
          (fun (o : List Nat) (q : Out) (S : St) => q = .exit 2 ∧ ∃ w g', Sub ⟨[(0, .d (.sl 9 (fs.map Field.dv))), (3, .own 1 (acc.map rowD) (some ⟨0, 48, 0 :: t⟩)), (6, .own 1 (o.map fun (k : Nat) => DV.int .i64 k) (tokD 0 43 w)), (13, .d (.sl 9 (fs.map Field.dv))), (14, .d (.int .i64 fs.length)), (15, .d (.int .i64 (j : Nat)))], tokP 0 43 (o.length * 1) w ++ [(⟨0, 5, 0 :: g⟩, .box [.d (.str x.name), .d (.int .i64 x.kind), .d (.int .i64 x.ty), .d (.int .i64 x.source.op), .d (.int .i64 x.source.v.kind), .d (.int .i64 x.source.v.n), .d (.str x.source.v.s), .d (.str x.source.name), .d (.sl 6 (x.source.args.map Exp.dv))]), (⟨0, 48, 0 :: t⟩, .grow (acc.length * 1))], g'⟩ S)
          ⟨[], none, 1 :: g⟩ kp47_9 (fun _ => up_tok) rfl (by omega) (by omega) ?_ ?_ ?_ ?_
        · rintro i ⟨acc2, w, g'⟩ _ s rest2 hi hget2 hd2 hI2 hb2 w2
          simp only at hI2
          have hget2' : (L.map DV.str)[i]? = some (.str s) := by rw [List.getElem?_map, hget2]; rfl
          have hB : ((acc2.length + 1) * 8 ≤ 140737488355328) = True := eq_true (by omega)
          have hS2 : acc2 ++ (s :: rest2).map (fun s => (ffind fs s).1.toNat) = (acc2 ++ [(ffind fs s).1.toNat]) ++ rest2.map fun s => (ffind fs s).1.toNat := by simp
          have f2 := fun (S : St) (d dst : Nat) => (ca_Z (Z := zR) (N := 64) (k := k + 1) (by decide) (by decide)).trans (ca_Find (d := d) (dst := dst) (S := S) fs s (by omega))
          have hq := ffind_nat fs s
          generalize ffind fs s = q at *
          rw [← hq] at f2
          generalize q.1.toNat = q1 at *
          generalize q.2 = q2 at *
          rcases w with _ | w
          · simp only [amx, seval, ty_RkC_47, hb2, hget2', w2, f2, hB, tokD, tokP]
            refine step_nrm (NdT.mk (acc2 ++ [q1]) (some g') (1 :: g')) (by show (acc2 ++ [q1]).length = i + 1; rw [List.length_append, hI2]; rfl) hS2 ?_
            (refine ⟨[], ?_⟩; (try simp only [amx, seval, tokD, tokP]); exact sub_mk (by repeat first | exact subT_nil | refine subT_cons (by first | rfl | simp [Tm.get, *]) ?_))
          · simp only [amx, seval, ty_RkC_47, hb2, hget2', w2, f2, hB, tokD, tokP]
            refine step_nrm (NdT.mk (acc2 ++ [q1]) (some w) g') (by show (acc2 ++ [q1]).length = i + 1; rw [List.length_append, hI2]; rfl) hS2 ?_
            (refine ⟨[], ?_⟩; (try simp only [amx, seval, tokD, tokP]); exact sub_mk (by repeat first | exact subT_nil | refine subT_cons (by first | rfl | simp [Tm.get, *]) ?_))
        · rintro ⟨acc2, w, g'⟩ _ hI2 hb2
          simp only [amx, seval, ty_RkC_47, hb2]
          refine last_end (by simp) ⟨rfl, w, g', ?_⟩
          try simp only [List.map_nil, List.append_nil]
          exact sub_mk (by repeat first | exact subT_nil | refine subT_cons (by first | rfl | simp [Tm.get, *]) ?_)
        · (refine ⟨[], ?_⟩; (try simp only [amx, seval, tokD, tokP]); exact sub_mk (by repeat first | exact subT_nil | refine subT_cons (by first | rfl | simp [Tm.get, *]) ?_))
        · rintro o S' ⟨rfl, w, g', hs'⟩
          refine good_sub_cr (up_stepr (fun r => up_tok)) hs' ?_
          simp only [List.nil_append] at hs' ⊢
          rw [← hR]
          generalize needR fs x = R at *
          rcases w with _ | w
          · simp only [amx, seval, ty_RkC_47, w1, hA, el_ow, tokD, tokP]
            refine step_nrm (NdS.mk (acc ++ [R]) (some t) g') (by show (acc ++ [R]).length = j + 1; rw [List.length_append, hI]; rfl) hS ?_
            (refine ⟨[], ?_⟩; (try simp only [amx, seval, tokD, tokP, rowD]); exact sub_mk (by repeat first | exact subT_nil | refine subT_cons (by first | rfl | simp [Tm.get, *]) ?_))
          · simp only [amx, seval, ty_RkC_47, w1, hA, el_ow, tokD, tokP]
            refine step_nrm (NdS.mk (acc ++ [R]) (some t) g') (by show (acc ++ [R]).length = j + 1; rw [List.length_append, hI]; rfl) hS ?_
            (refine ⟨[], ?_⟩; (try simp only [amx, seval, tokD, tokP, rowD]); exact sub_mk (by repeat first | exact subT_nil | refine subT_cons (by first | rfl | simp [Tm.get, *]) ?_))
  · rintro ⟨acc, t, g⟩ _ hI hb
    simp only [amx, seval, ty_RkC_47, hb]
    refine last_end (by simp) ⟨rfl, t, g, ?_⟩
    try simp only [List.map_nil, List.append_nil]
    exact sub_mk (by repeat first | exact subT_nil | refine subT_cons (by first | rfl | simp [Tm.get, *]) ?_)
  · (refine ⟨[], ?_⟩; (try simp only [amx, seval, tokD, tokP]); exact sub_mk (by repeat first | exact subT_nil | refine subT_cons (by first | rfl | simp [Tm.get, *]) ?_))
  · rintro o S' ⟨rfl, t, g, hs⟩
    refine good_sub_cr up_finq hs ?_
    simp only [List.nil_append]
    rcases t with _ | t
    · simp only [amx, seval, ty_RkC_47, tokD, tokP]
    · simp only [amx, seval, ty_RkC_47, tokD, tokP]
/- Fields that can be ranked; those of forms of raw things can. -/
structure RkFs (fs : List Field) : Prop where
  ok : FOKs fs
  pos : 0 < fs.length
  rf : ∀ f ∈ fs, ∀ s ∈ f.source.refs, ∃ g ∈ fs, g.name = s
  nl : ∀ f ∈ fs, f.name.length ≤ 1000
  ht : ∃ h : Nat → Nat, (∀ i x, fs[i]? = some x → ∀ k g, fs[k]? = some g → g.name ∈ x.source.refs → h k < h i) ∧ ∀ i, i < fs.length → h i < fs.length
theorem RkFs.rl {fs : List Field} (h : RkFs fs) : ∀ f ∈ fs, f.kind ≠ 1 → ∀ s ∈ f.source.refs, s.length ≤ 1000 := fun f hf _ s hs => by
  obtain ⟨g, hg, rfl⟩ := h.rf f hf s hs
  exact h.nl g hg
theorem RkFs.find {fs : List Field} (h : RkFs fs) {x : Field} (hx : x ∈ fs) {s : List UInt8} (hs : s ∈ x.source.refs) : ∃ (k : Nat) (g : Field), fs[k]? = some g ∧ g.name = s ∧ ffind fs s = ((k : Int), 0) := by
  obtain ⟨g, hg, rfl⟩ := h.rf x hx s hs
  obtain ⟨k, hk⟩ := List.getElem?_of_mem hg
  exact ⟨k, g, hk, rfl, ffind_at h.ok.nd hk⟩
theorem mem_need {fs : List Field} (h : RkFs fs) {x : Field} (hx : x ∈ fs) {k : Nat} : k ∈ needR fs x ↔ x.kind ≠ 1 ∧ ∃ g, fs[k]? = some g ∧ g.name ∈ x.source.refs := by
  unfold needR
  by_cases c : x.kind = 1
  · rw [if_pos c]
    exact ⟨fun h => (by cases h), fun h => absurd c h.1⟩
  · rw [if_neg c, List.mem_map]
    have hp := (names_perm x.source.ex).2
    rw [ex_refs] at hp
    constructor
    · rintro ⟨s, hs, rfl⟩
      obtain ⟨k, g, h1, h2, h3⟩ := h.find hx ((hp s).1 hs)
      rw [h3]
      exact ⟨c, g, h1, by rw [h2]; exact (hp s).1 hs⟩
    · rintro ⟨_, g, h1, h2⟩
      exact ⟨g.name, (hp _).2 h2, by rw [ffind_at h.ok.nd h1]; rfl⟩
theorem need_at {fs : List Field} {i : Nat} {l : List Nat} (hi : (fs.map (needR fs))[i]? = some l) : ∃ x, fs[i]? = some x ∧ x ∈ fs ∧ l = needR fs x := by
  rw [List.getElem?_map, Option.map_eq_some_iff] at hi
  obtain ⟨x, hx, rfl⟩ := hi
  exact ⟨x, hx, List.mem_of_getElem? hx, rfl⟩
theorem need_lt {fs : List Field} (h : RkFs fs) : ∀ (i : Nat) (l : List Nat), (fs.map (needR fs))[i]? = some l → ∀ k ∈ l, k < (fs.map (needR fs)).length := fun i l hi k hk => by
  obtain ⟨x, h1, h2, rfl⟩ := need_at hi
  obtain ⟨_, g, hg, _⟩ := (mem_need h h2).1 hk
  rw [List.length_map]
  exact (List.getElem?_eq_some_iff.1 hg).1
theorem need_ht {fs : List Field} (h : RkFs fs) : ∃ ht : Nat → Nat, (∀ i l, (fs.map (needR fs))[i]? = some l → ∀ k ∈ l, k < (fs.map (needR fs)).length ∧ ht k < ht i) ∧ ∀ i, i < (fs.map (needR fs)).length → ht i < (fs.map (needR fs)).length := by
  obtain ⟨ht, h1, h2⟩ := h.ht
  refine ⟨ht, fun i l hi k hk => ⟨need_lt h i l hi k hk, ?_⟩, by rw [List.length_map]; exact h2⟩
  obtain ⟨x, e1, e2, rfl⟩ := need_at hi
  obtain ⟨_, g, hg, hr⟩ := (mem_need h e2).1 hk
  exact h1 i x e1 k g hg hr
theorem RkFs.rk {fs : List Field} (h : RkFs fs) : RkOk (fs.map (needR fs)) (ranksL (fs.map (needR fs))) := by
  obtain ⟨ht, h1, h2⟩ := need_ht h
  exact ranks_ok h1 h2
noncomputable def rkF (fs : List Field) : List Int := ranksL (fs.map (needR fs))
theorem rkF_len {fs : List Field} (h : RkFs fs) : (rkF fs).length = fs.length := by
  have := h.rk.len
  rwa [List.length_map] at this
theorem rkF_lt {fs : List Field} (h : RkFs fs) : ∀ i, i < fs.length → 0 ≤ (rkF fs).getD i 0 ∧ (rkF fs).getD i 0 < fs.length := fun i hi => by
  obtain ⟨ht, h1, h2⟩ := need_ht h
  have hi' : i < (fs.map (needR fs)).length := by rw [List.length_map]; exact hi
  have h3 := h.rk.le h1 (ht i) i hi' (Nat.le_refl _)
  have h4 := h2 i hi'
  rw [List.length_map] at h4
  exact ⟨h.rk.pos i hi', by unfold rkF; omega⟩
theorem rkF_sup {fs : List Field} (h : RkFs fs) {i : Nat} {x : Field} (hi : fs[i]? = some x) : (∀ (k : Nat) (g : Field), x.kind ≠ 1 → fs[k]? = some g → g.name ∈ x.source.refs → (rkF fs).getD k 0 + 1 ≤ (rkF fs).getD i 0) ∧ ((rkF fs).getD i 0 = 0 ∨ ∃ k g, x.kind ≠ 1 ∧ fs[k]? = some g ∧ g.name ∈ x.source.refs ∧ (rkF fs).getD i 0 = (rkF fs).getD k 0 + 1) := by
  have hx := List.mem_of_getElem? hi
  have hi' : (fs.map (needR fs))[i]? = some (needR fs x) := by rw [List.getElem?_map, hi]; rfl
  obtain ⟨h1, h2⟩ := h.rk.ge hi' (need_lt h i _ hi')
  refine ⟨fun k g c hg hr => h1 k ((mem_need h hx).2 ⟨c, g, hg, hr⟩), ?_⟩
  rcases h2 with h2 | ⟨k, hk, h2⟩
  · exact .inl h2
  · obtain ⟨c, g, hg, hr⟩ := (mem_need h hx).1 hk
    exact .inr ⟨k, g, c, hg, hr, h2⟩
theorem gfields_pos (l : List Raw) : ∀ (m : Nat) (fs : List Field) (k : Nat), (gfields l m fs k).1.take fs.length = fs ∧ ∀ i f, fs.length ≤ i → (gfields l m fs k).1[i]? = some f → ∃ n, f = (gfield l ((gfields l m fs k).1.take i) i n).1
  | 0, fs, k => ⟨List.take_length, fun i f hi hf => by
      have : fs[i]? = some f := hf
      rw [List.getElem?_eq_none hi] at this
      cases this⟩
  | m + 1, fs, k => by
    unfold gfields
    obtain ⟨h1, h2⟩ := gfields_pos l m (fs ++ [(gfield l fs fs.length k).1]) (gfield l fs fs.length k).2
    generalize (gfields l m (fs ++ [(gfield l fs fs.length k).1]) (gfield l fs fs.length k).2).1 = R at *
    have h3 : R.take fs.length = fs := by
      have := congrArg (List.take fs.length) h1
      rw [List.take_take, List.length_append, Nat.min_eq_left (by simp), List.take_left'] at this
      · exact this
      · rfl
    refine ⟨h3, fun i f hi hf => ?_⟩
    by_cases c : i = fs.length
    · subst c
      rw [h3]
      refine ⟨k, ?_⟩
      have : (R.take (fs ++ [(gfield l fs fs.length k).1]).length)[fs.length]? = some f := by
        rw [List.getElem?_take_of_lt (by simp)]; exact hf
      rw [h1, List.getElem?_append_right (Nat.le_refl _), Nat.sub_self] at this
      simpa using this.symm
    · exact h2 i f (by simp; omega) hf
theorem ffields_at {l : List Raw} {i : Nat} {f : Field} (hf : (ffields l)[i]? = some f) : ∃ n, f = (gfield l ((ffields l).take i) i n).1 := (gfields_pos l (nfields l) [] (gat l 0)).2 i f (Nat.zero_le _) hf
theorem ffields_refs {l : List Raw} (hr : ∀ r ∈ l, r.ok) {i : Nat} {f : Field} (hf : (ffields l)[i]? = some f) : ∀ s ∈ f.source.refs, ∃ k g, k < i ∧ (ffields l)[k]? = some g ∧ g.name = s := fun s hs => by
  obtain ⟨n, he⟩ := ffields_at hf
  have hlen := nfields_le hr
  have hl : ((ffields l).take i).length ≤ 1048576 := by rw [List.length_take, ffields_len]; omega
  have hg : ∃ g ∈ (ffields l).take i, g.name = s := by
    have hss : f.source = (gsrc l ((ffields l).take i) (1 + pick (gnext l n).kind 3) (1 + pick (gnext l n).b 3) (gnext l n) (gat l n)).1 := by rw [he]; rfl
    rw [hss] at hs
    unfold gsrc at hs
    split at hs
    · exact gexpr_refs hl hr _ _ _ s hs
    · split at hs
      · exact gexpr_refs hl hr _ _ _ s hs
      · simp [Exp.zero, Exp.refs, Exp.refsL] at hs
  obtain ⟨g, hg, rfl⟩ := hg
  obtain ⟨k, hk, he2⟩ := List.getElem_of_mem hg
  rw [List.length_take] at hk
  rw [List.getElem_take] at he2
  exact ⟨k, g, by omega, by rw [List.getElem?_eq_getElem (by omega), he2], rfl⟩
theorem fnm_len : ∀ s ∈ fnm, s.length ≤ 1000 := by
  intro s hs
  simp only [fnm, List.mem_cons, List.not_mem_nil, or_false] at hs
  rcases hs with rfl | rfl | rfl | rfl | rfl | rfl | rfl | rfl | rfl | rfl <;> decide
theorem rkfs_form {l : List Raw} (hr : ∀ r ∈ l, r.ok) {fs : List Field} (hm : ∀ f, f ∈ fs ↔ f ∈ ffields l) (hn : (fs.map Field.name).Nodup) (h0 : 0 < fs.length) (hlen : fs.length ≤ 14) (hl : fs.length = (ffields l).length) : RkFs fs := by
  have hpl : ∀ {i : Nat} {x : Field}, fs[i]? = some x → ∃ j, j < (ffields l).length ∧ (ffields l)[j]? = some x ∧ (ffind (ffields l) x.name).1.toNat = j := fun {i x} hi => by
    obtain ⟨j, hj⟩ := List.getElem?_of_mem ((hm x).1 (List.mem_of_getElem? hi))
    exact ⟨j, (List.getElem?_eq_some_iff.1 hj).1, hj, by rw [ffind_at (ffields_nodup hr) hj]; rfl⟩
  refine ⟨foks_form hr hm hn hlen, h0, fun f hf s hs => ?_, fun f hf => fnm_len _ (ffields_name hr f ((hm f).1 hf)), ⟨fun i => (ffind (ffields l) ((fs.map Field.name).getD i [])).1.toNat, fun i x hi k g hg hk => ?_, fun i hi => ?_⟩⟩
  · obtain ⟨i, hi⟩ := List.getElem?_of_mem ((hm f).1 hf)
    obtain ⟨k, g, _, hg, he⟩ := ffields_refs hr hi s hs
    exact ⟨g, (hm g).2 (List.mem_of_getElem? hg), he⟩
  · have e1 : (fs.map Field.name).getD i [] = x.name := by simp [List.getD_eq_getElem?_getD, hi]
    have e2 : (fs.map Field.name).getD k [] = g.name := by simp [List.getD_eq_getElem?_getD, hg]
    simp only [e1, e2]
    obtain ⟨j, _, hj, hjf⟩ := hpl hi
    rw [hjf]
    obtain ⟨q, g2, hq, hg2, hne⟩ := ffields_refs hr hj _ hk
    rw [← hne, ffind_at (ffields_nodup hr) hg2]
    exact hq
  · have e1 : (fs.map Field.name).getD i [] = fs[i].name := by simp [List.getD_eq_getElem?_getD, hi]
    simp only [e1]
    obtain ⟨j, hj1, _, hjf⟩ := hpl (List.getElem?_eq_getElem hi)
    rw [hjf, hl]
    exact hj1
theorem rkfs {l : List Raw} (hr : ∀ r ∈ l, r.ok) : RkFs (mkForm l).fields := by
  have h := fields_len hr
  refine rkfs_form hr (fields_perm l) (fields_nodup hr) (by omega) (by omega) ?_
  unfold mkForm
  simp only
  split
  · exact List.length_reverse
  · rfl
/- rank.Of, walked; the greatest and the least. -/
theorem ty_RkE_73 : type_of% (ai (ai @rs73 (ai @lw73 @kp73_2)) (ai (ai @tt3 @tt4) (ai @tt50 @tt89))) := (ai (ai @rs73 (ai @lw73 @kp73_2)) (ai (ai @tt3 @tt4) (ai @tt50 @tt89)))
theorem ty_RkE_49 : type_of% (ai (ai @rs49 (ai @lw49 @tt3)) (ai @tt4 (ai @tt50 @tt89))) := (ai (ai @rs49 (ai @lw49 @tt3)) (ai @tt4 (ai @tt50 @tt89)))
theorem ty_RkE_50 : type_of% (ai (ai @rs50 @lw50) (ai @tt3 @tt4)) := (ai (ai @rs50 @lw50) (ai @tt3 @tt4))
theorem ty_RkE_22 : type_of% (ai (ai (ai (ai @rs22 @lw22) (ai @mu31_39 @kp22_10)) (ai (ai @tt1 @tt3) (ai @tt4 (ai @tt9 @tt23)))) (ai (ai (ai @tt28 @tt31) (ai @tt33 @tt34)) (ai (ai @tt36 @tt48) (ai @tt50 (ai @tt85 @tt89))))) := (ai (ai (ai (ai @rs22 @lw22) (ai @mu31_39 @kp22_10)) (ai (ai @tt1 @tt3) (ai @tt4 (ai @tt9 @tt23)))) (ai (ai (ai @tt28 @tt31) (ai @tt33 @tt34)) (ai (ai @tt36 @tt48) (ai @tt50 (ai @tt85 @tt89)))))
theorem ty_RkE_52 : type_of% (ai (ai @rs52 (ai @lw52 @dr52_6)) (ai (ai @kp52_4 @tt3) (ai @tt4 @tt50))) := (ai (ai @rs52 (ai @lw52 @dr52_6)) (ai (ai @kp52_4 @tt3) (ai @tt4 @tt50)))





def intD (l : List Int) : DV := .sl 1 (l.map (DV.int .i64))
theorem ca_idxI {d dst : Nat} {S : St} (f : Nat) (caps : List DV) (p : Int → Bool) (hp : ∀ (S : St) (d dst : Nat) (t : Int), callA tab (callR tab) d dst f (.d ((DV.int .i64) t) :: caps.map .d) S = some (.d (.bool (p t)), S)) (l : List Int) (hl : l.length ≤ 1048576) :
    callA tab (callR tab) d dst 73 [.d (.sl 1 (l.map (DV.int .i64))), .d (.fn f caps)] S = some (.d (.int .i64 (fidx p l 0)), S) := by
  refine ca_ret (ds := [.sl 1 (l.map (DV.int .i64)), .fn f caps]) ?_ rfl (tab_opn (by kernel_rfl)) (tab_res (by kernel_rfl))
  refine ret_of (l.length + 1) fn73 rfl rfl ?_
  try simp only [if_true] at hp
  simp only [amx, seval, ty_RkE_73]
  refine good_range l (fun k (_ : Unit) g => ⟨[(0, .d (.sl 1 (l.map (DV.int .i64)))), (1, .d (.fn f caps)), (7, .d (.int .i64 l.length)), (8, .d (.int .i64 (k : Nat)))], [], g⟩) (fun _ _ => True) (fun k _ r => (if fidx p r k = -1 then .inr () else .inl (fidx p r k) : Sum Int Unit))
    (QO .ret (fun e g => ⟨[(4, .d (.int .i64 e))], [], g⟩) (.exit 0) (fun _ g => ⟨[], [], g⟩)) () kp73_2 up_qo trivial (by omega) (by omega) ?_ ?_ ?_ ?_
  · rintro k a g x rest hk hget hdr _ hb w1
    have hget' : (l.map (DV.int .i64))[k]? = some ((DV.int .i64) x) := by rw [List.getElem?_map, hget]; rfl
    cases hq : p x with
    | true =>
      simp only [amx, seval, ty_RkE_73, if_true, hb, hget', hp, hq, w1]
      refine step_end (r := .inl (k : Int)) (by simp) ?_ ⟨rfl, ?_⟩
      · simp only [fidx, hq, if_true]; rw [if_neg (by omega)]
      · (apply Exists.intro; (try simp only [amx, seval]); exact sub_mk (by repeat first | exact subT_nil | refine subT_cons (by first | rfl | simp [Tm.get, *]) ?_))
    | false =>
      simp only [amx, seval, ty_RkE_73, if_true, hb, hget', hp, hq, w1]
      refine step_nrm () trivial ?_ ?_
      · simp only [fidx, hq, Bool.false_eq_true, if_false]
      · (apply Exists.intro; (try simp only [amx, seval]); exact sub_mk (by repeat first | exact subT_nil | refine subT_cons (by first | rfl | simp [Tm.get, *]) ?_))
  · intro a g _ hb
    simp only [amx, seval, ty_RkE_73, hb]
    refine last_end (by simp) ?_
    simp only [fidx, if_true]
    refine ⟨rfl, ?_⟩
    (apply Exists.intro; (try simp only [amx, seval]); exact sub_mk (by repeat first | exact subT_nil | refine subT_cons (by first | rfl | simp [Tm.get, *]) ?_))
  · (apply Exists.intro; (try simp only [amx, seval]); exact sub_mk (by repeat first | exact subT_nil | refine subT_cons (by first | rfl | simp [Tm.get, *]) ?_))
  · intro o S' hq
    by_cases hz : fidx p l 0 = -1
    · rw [if_pos hz] at hq
      obtain ⟨rfl, g, hs⟩ := hq
      refine good_sub_cr up_fin hs ?_
      rw [hz]
      simp only [amx, seval, ty_RkE_73]
    · rw [if_neg hz] at hq
      obtain ⟨rfl, g, hs⟩ := hq
      refine good_sub_cr up_fin hs ?_
      simp only [amx, seval, ty_RkE_73]
theorem ca_confI {d dst : Nat} {S : St} (f : Nat) (caps : List DV) (p : Int → Bool) (hp : ∀ (S : St) (d dst : Nat) (t : Int), callA tab (callR tab) d dst f (.d ((DV.int .i64) t) :: caps.map .d) S = some (.d (.bool (p t)), S)) (l : List Int) (hl : l.length ≤ 1048576) :
    callA tab (callR tab) d dst 49 [.d (.sl 1 (l.map (DV.int .i64))), .d (.fn f caps)] S = some (.d (.bool (l.any p)), S) := by
  refine ca_ret (ds := [.sl 1 (l.map (DV.int .i64)), .fn f caps]) ?_ rfl (tab_opn (by kernel_rfl)) (tab_res (by kernel_rfl))
  have f1 := fun (S : St) (d dst : Nat) => ca_idxI (d := d) (dst := dst) (S := S) f caps p hp l hl
  have hz := fidx_any p l 0
  refine ret_of 1 fn49 rfl rfl ?_
  simp only [amx, seval, ty_RkE_49, f1, ge_iff_le] at hz ⊢
  simp only [hz]
theorem ret_neg (r : Int) : Ret tab 50 [.d (.int .i64 (r))] (.d (.bool (decide (r < 0)))) := by
  refine ret_of (1) fn50 rfl rfl ?_
  simp only [amx, seval, ty_RkE_50]
  repeat' ((first | refine good_ci (fun h => ?_) (fun h => ?_) | refine good_cgt (fun h => ?_) (fun h => ?_) | refine good_cgf (fun h => ?_) (fun h => ?_) | refine good_cqgt (fun h => ?_) (fun h => ?_) | refine good_cqgf (fun h => ?_) (fun h => ?_)) <;> simp only [amx, seval, ty_RkE_50, h])
  all_goals (simp [*])
theorem ca_neg {d dst : Nat} {S : St} (r : Int) : callA tab (callR tab) d dst 50 [.d (.int .i64 (r))] S = some (.d (.bool (decide (r < 0))), S) :=
  ca_ret (ds := [.int .i64 (r)]) (ret_neg r) rfl (tab_opn (by kernel_rfl)) (tab_res (by kernel_rfl))
theorem need_len {fs : List Field} (h : RkFs fs) : ∀ l ∈ fs.map (needR fs), l.length ≤ 60 ∧ ∀ k ∈ l, k < (fs.map (needR fs)).length := fun l hl => by
  obtain ⟨i, hi⟩ := List.getElem?_of_mem hl
  refine ⟨?_, need_lt h i l hi⟩
  obtain ⟨x, h1, h2, rfl⟩ := need_at hi
  unfold needR
  split
  · exact Nat.zero_le _
  · rename_i c
    rw [List.length_map]
    obtain ⟨_, s2, _⟩ := (h.ok.one x h2).src c
    obtain ⟨p1, p2⟩ := names_perm x.source.ex
    rw [ex_refs] at p2
    have h3 := nd_le _ _ p1 (fun s hs => (p2 s).1 hs)
    have h4 := refs_len x.source
    omega
theorem ret_OfR (k : Nat) (fs : List Field) (h : RkFs fs) : RetZT zR 64 (k + 2) 22 [.d (.sl 9 (fs.map Field.dv))] [intD (rkF fs), .sl 1 [], .int .i64 0] := by
  have hlen := h.ok.len
  have f0 := fun (S : St) (d dst : Nat) => (ca_Z (Z := zR) (N := 64) (k := k + 2) (by decide) (by decide)).trans (ca_CheckF (d := d) (dst := dst) (S := S) fs h.ok)
  have f1 := fun (S : St) (d dst : Nat) => ca_retZ (d := d) (dst := dst) (S := S) (args := [.d (.sl 9 (fs.map Field.dv))]) (ds := [.sl 9 (fs.map Field.dv)]) (by decide) (ret_needs k fs h.ok h.rl) rfl (tab_opn (by kernel_rfl)) (tab_res (by kernel_rfl))
  have f2 := fun (S : St) (d dst : Nat) => (ca_Z (Z := zR) (N := 64) (k := k + 2) (by decide) (by decide)).trans (ca_ranks (d := d) (dst := dst) (S := S) (fs.map (needR fs)) (by rw [List.length_map]; exact h.pos) (by rw [List.length_map]; exact hlen) (need_len h))
  have f3 := fun (S : St) (d dst : Nat) => (ca_Z (Z := zR) (N := 64) (k := k + 2) (by decide) (by decide)).trans (ca_confI (d := d) (dst := dst) (S := S) 50 [] (fun r => decide (r < 0)) (fun S d dst t => ca_neg t) (rkF fs) (by rw [rkF_len h]; omega))
  have hz : (rkF fs).any (fun r => decide (r < 0)) = false := by
    rw [List.any_eq_false]
    intro r hr
    obtain ⟨i, hi⟩ := List.getElem?_of_mem hr
    obtain ⟨hi1, hi2⟩ := List.getElem?_eq_some_iff.1 hi
    have := (rkF_lt h i (by rw [← rkF_len h]; exact hi1)).1
    rw [List.getD_eq_getElem?_getD, hi] at this
    simpa using this
  rw [hz] at f3
  have f2' : ∀ (S : St) (d dst : Nat), callA tab (callZ zR 64 (k + 2)) d dst 48 [.d (needD (fs.map (needR fs)))] S = some (.d (.sl 1 ((rkF fs).map (DV.int .i64))), S) := f2
  clear f2
  unfold intD
  generalize needD (fs.map (needR fs)) = nd at *
  generalize (rkF fs).map (DV.int .i64) = rd at *
  generalize fs.map Field.dv = fd at *
  refine stepq_good fn22 rfl rfl ?_
  simp only [amx, seval, ty_RkE_22, f0, f1, f2', f3, bne_self_eq_false]
theorem ca_eq3 {d dst : Nat} {S : St} : callA tab (callR tab) d dst 52 [.d (.sl 1 [.int .i64 1, .int .i64 0, .int .i64 2]), .own 1 [.int .i64 1, .int .i64 0, .int .i64 2] none] S = some (.d (.bool true), S) := by
  refine ca_ret (ds := [.sl 1 [.int .i64 1, .int .i64 0, .int .i64 2], .sl 1 [.int .i64 1, .int .i64 0, .int .i64 2]]) ?_ rfl (tab_opn (by kernel_rfl)) (tab_res (by kernel_rfl))
  refine ret_of 5 fn52 rfl rfl ?_
  simp only [amx, seval, ty_RkE_52, cx_loop, clp_s, nameOf, (show IntKind.i64.wrap 0 = 0 from rfl), (show IntKind.i64.wrap 1 = 1 from rfl), (show IntKind.i64.wrap 2 = 2 from rfl), (show IntKind.i64.wrap 3 = 3 from rfl), (show IntKind.i64.wrap 4 = 4 from rfl), (show IntKind.i64.wrap 5 = 5 from rfl), (show IntKind.i64.wrap 6 = 6 from rfl), (show IntKind.i64.wrap 7 = 7 from rfl), (show IntKind.i64.wrap 8 = 8 from rfl), (show IntKind.i64.wrap 9 = 9 from rfl), (show IntKind.i64.wrap 10 = 10 from rfl), (show IntKind.i64.wrap 11 = 11 from rfl), (show IntKind.i64.wrap 12 = 12 from rfl), (show IntKind.i64.wrap 13 = 13 from rfl), (show IntKind.i64.wrap 14 = 14 from rfl), bne_self_eq_false]
/- The small form's ranks. -/
theorem ty_RkF_23 : type_of% (ai (ai (ai (ai @rs23 @lw23) (ai @tt1 @tt2)) (ai (ai @tt3 @tt4) (ai @tt9 (ai @tt23 @tt24)))) (ai (ai (ai @tt26 @tt28) (ai @tt31 @tt33)) (ai (ai @tt34 @tt36) (ai @tt38 (ai @tt48 @tt50))))) := (ai (ai (ai (ai @rs23 @lw23) (ai @tt1 @tt2)) (ai (ai @tt3 @tt4) (ai @tt9 (ai @tt23 @tt24)))) (ai (ai (ai @tt26 @tt28) (ai @tt31 @tt33)) (ai (ai @tt34 @tt36) (ai @tt38 (ai @tt48 @tt50)))))





theorem names_one {X : Ex} {s : List UInt8} (h : X.refs = [s]) : namesR X = [s] := by
  obtain ⟨p1, p2⟩ := names_perm X
  rw [h] at p2
  generalize namesR X = L at *
  match L, p1, p2 with
  | [], _, p2 => exact absurd ((p2 s).2 (by simp)) (by simp)
  | [a], _, p2 => rw [List.mem_singleton.1 ((p2 a).1 (by simp))]
  | a :: b :: r, p1, p2 =>
    have h1 := List.mem_singleton.1 ((p2 a).1 (by simp))
    have h2 := List.mem_singleton.1 ((p2 b).1 (by simp))
    subst h1
    subst h2
    simp at p1
def srcB : Exp := .mk 8 Val.zero [] [.mk 2 Val.zero [97] [], .mk 1 ⟨1, 1, []⟩ [] []]
def srcC : Exp := .mk 2 Val.zero [98] []
theorem small_eq : smallF.fields = [⟨[98], 2, 1, srcB⟩, ⟨[97], 1, 1, Exp.zero⟩, ⟨[99], 3, 3, srcC⟩] := rfl
theorem wfB : srcB.wf := ⟨⟨by decide, by decide, rfl, by rw [if_neg (by decide), if_neg (by decide)]; exact ⟨rfl, rfl⟩⟩, ⟨⟨by decide, by decide, rfl, by rw [if_neg (by decide), if_pos rfl]; exact ⟨by kernel_rfl, rfl⟩⟩, trivial⟩, ⟨⟨by decide, by decide, rfl, by rw [if_pos rfl]; exact ⟨rfl, rfl, by decide⟩⟩, trivial⟩, trivial⟩
theorem wfC : srcC.wf := ⟨⟨by decide, by decide, rfl, by rw [if_neg (by decide), if_pos rfl]; exact ⟨by kernel_rfl, rfl⟩⟩, trivial⟩
theorem small_ok : RkFs smallF.fields := by
  have hm : ∀ f, f ∈ smallF.fields → f = ⟨[98], 2, 1, srcB⟩ ∨ f = ⟨[97], 1, 1, Exp.zero⟩ ∨ f = ⟨[99], 3, 3, srcC⟩ := fun f hf => by
    rw [small_eq] at hf
    simpa using hf
  have rB : srcB.refs = [[97]] := rfl
  have rC : srcC.refs = [[98]] := rfl
  have rZ : Exp.zero.refs = [] := rfl
  refine ⟨⟨by decide, by decide, fun f hf => ?_⟩, by decide, fun f hf s hs => ?_, fun f hf => ?_, ⟨fun i => match i with | 0 => 1 | 1 => 0 | _ => 2, fun i x hi k g hg hk => ?_, fun i hi => ?_⟩⟩
  · rcases hm f hf with rfl | rfl | rfl
    · exact ⟨by kernel_rfl, .inr (.inl rfl), .inl rfl, fun h => absurd h (by decide), fun _ => ⟨wfB, by decide, by decide⟩, fun _ => by kernel_rfl, fun h => absurd h (by decide)⟩
    · exact ⟨by kernel_rfl, .inl rfl, .inl rfl, fun _ => rfl, fun h => absurd rfl h, fun h => absurd h (by decide), fun h => absurd h (by decide)⟩
    · exact ⟨by kernel_rfl, .inr (.inr rfl), .inr (.inr rfl), fun h => absurd h (by decide), fun _ => ⟨wfC, by decide, by decide⟩, fun h => absurd h (by decide), fun _ => by
        have : Exp.ty (tmap smallF.fields) srcC = 1 := by kernel_rfl
        simp only
        rw [this]
        decide⟩
  · rw [small_eq]
    rcases hm f hf with rfl | rfl | rfl
    · simp only [rB, List.mem_singleton] at hs
      exact ⟨⟨[97], 1, 1, Exp.zero⟩, by simp, hs.symm⟩
    · simp [rZ] at hs
    · simp only [rC, List.mem_singleton] at hs
      exact ⟨⟨[98], 2, 1, srcB⟩, by simp, hs.symm⟩
  · rcases hm f hf with rfl | rfl | rfl <;> decide
  · rw [small_eq] at hi hg
    match i, hi with
    | 0, hi =>
      obtain rfl : _ = x := by simpa using hi
      simp only [rB, List.mem_singleton] at hk
      match k, hg with
      | 0, hg => obtain rfl : _ = g := by simpa using hg
                 simp at hk
      | 1, hg => decide
      | 2, hg => obtain rfl : _ = g := by simpa using hg
                 simp at hk
      | k + 3, hg => simp at hg
    | 1, hi =>
      obtain rfl : _ = x := by simpa using hi
      simp [rZ] at hk
    | 2, hi =>
      obtain rfl : _ = x := by simpa using hi
      simp only [rC, List.mem_singleton] at hk
      match k, hg with
      | 0, hg => decide
      | 1, hg => decide
      | 2, hg => obtain rfl : _ = g := by simpa using hg
                 simp at hk
      | k + 3, hg => simp at hg
    | i + 3, hi => simp at hi
  · match i, hi with
    | 0, _ => decide
    | 1, _ => decide
    | 2, _ => decide
    | i + 3, hi => have : smallF.fields.length = 3 := rfl
                   omega
theorem small_rk : rkF smallF.fields = [1, 0, 2] := by
  have nB : namesR srcB.ex = [[97]] := names_one (by rw [ex_refs]; rfl)
  have nC : namesR srcC.ex = [[98]] := names_one (by rw [ex_refs]; rfl)
  have e : smallF.fields.map (needR smallF.fields) = [[1], [], [0]] := by
    conv => lhs; arg 2; rw [small_eq]
    simp only [List.map_cons, List.map_nil, needR, nB, nC]
    kernel_rfl
  have e2 : ranksL [[1], [], [0]] = [1, 0, 2] := by decide
  unfold rkF
  rw [e, e2]
theorem ret_ranked (k : Nat) : RetZ zR 64 (k + 3) 23 [] (.bool true) := by
  have f0 := fun (S : St) (d dst : Nat) => (ca_Z (Z := zR) (N := 64) (k := k + 3) (by decide) (by decide)).trans (ca_small (d := d) (dst := dst) (S := S))
  have f1 := fun (S : St) (d dst : Nat) => ca_retZT (d := d) (dst := dst) (S := S) (args := [.d (.sl 9 (smallF.fields.map Field.dv))]) (ds := [.sl 9 (smallF.fields.map Field.dv)]) (by decide) (ret_OfR k smallF.fields small_ok) rfl (tab_opn (by kernel_rfl)) (tab_res (by kernel_rfl))
  have f2 := fun (S : St) (d dst : Nat) => (ca_Z (Z := zR) (N := 64) (k := k + 3) (by decide) (by decide)).trans (ca_eq3 (d := d) (dst := dst) (S := S))
  rw [small_rk] at f1
  simp only [Frm.dv] at f0
  simp only [intD, List.map_cons, List.map_nil] at f1
  generalize smallF.fields.map Field.dv = fd at *
  generalize smallF.pages.map Page.dv = pd at *
  refine stepq_good fn23 rfl rfl ?_
  simp only [amx, seval, ty_RkF_23, f0, f1, f2, beq_self_eq_true]
/- RankFew, RankRises, walked. -/





/- RankRises, walked. -/





/- Pages: found; on which a field stands; never passed over. -/
theorem ty_RkI_45 : type_of% (ai (ai @rs45 (ai @lw45 @kp45_2)) (ai @tt3 (ai @tt4 @tt50))) := (ai (ai @rs45 (ai @lw45 @kp45_2)) (ai @tt3 (ai @tt4 @tt50)))
theorem ty_RkI_21 : type_of% (ai (ai @rs21 @lw21) (ai @tt3 (ai @tt4 @tt50))) := (ai (ai @rs21 @lw21) (ai @tt3 (ai @tt4 @tt50)))





theorem Page.dv_eq (x : Page) : x.dv = .agg [.str x.name, .sl 1 (x.fields.map DV.str), .int .i64 x.skip.op, .int .i64 x.skip.v.kind, .int .i64 x.skip.v.n, .str x.skip.v.s, .str x.skip.name, .sl 6 (x.skip.args.map Exp.dv)] := rfl
theorem ret_ixI (l : List Int) (s : Int) (hl : l.length ≤ 1048576) : Ret tab 45 [.d (.sl 1 (l.map (DV.int .i64))), .d ((DV.int .i64) s)] (.d (.int .i64 (fidx (fun x => s == x) l 0))) := by
  refine ret_of (l.length + 1) fn45 rfl rfl ?_
  simp only [amx, seval, ty_RkI_45]
  refine good_range l (fun k (_ : Unit) g => ⟨[(0, .d (.sl 1 (l.map (DV.int .i64)))), (1, .d ((DV.int .i64) s)), (7, .d (.int .i64 l.length)), (8, .d (.int .i64 (k : Nat)))], [], g⟩) (fun _ _ => True) (fun k _ r => (if fidx (fun x => s == x) r k = -1 then .inr () else .inl (fidx (fun x => s == x) r k) : Sum Int Unit))
    (QO .ret (fun e g => ⟨[(4, .d (.int .i64 e))], [], g⟩) (.exit 0) (fun _ g => ⟨[], [], g⟩)) () kp45_2 up_qo trivial (by omega) (by omega) ?_ ?_ ?_ ?_
  · rintro k a g x rest hk hget hdr _ hb w1
    have hget' : (l.map (DV.int .i64))[k]? = some ((DV.int .i64) x) := by rw [List.getElem?_map, hget]; rfl
    cases hq : (s == x) with
    | true =>
      simp only [amx, seval, ty_RkI_45, hb, hget', hq, w1]
      refine step_end (r := .inl (k : Int)) (by simp) ?_ ⟨rfl, ?_⟩
      · simp only [fidx, hq, if_true]; rw [if_neg (by omega)]
      · (apply Exists.intro; (try simp only [amx, seval]); exact sub_mk (by repeat first | exact subT_nil | refine subT_cons (by first | rfl | simp [Tm.get, *]) ?_))
    | false =>
      simp only [amx, seval, ty_RkI_45, hb, hget', hq, w1]
      refine step_nrm () trivial ?_ ?_
      · simp only [fidx, hq, Bool.false_eq_true, if_false]
      · (apply Exists.intro; (try simp only [amx, seval]); exact sub_mk (by repeat first | exact subT_nil | refine subT_cons (by first | rfl | simp [Tm.get, *]) ?_))
  · intro a g _ hb
    simp only [amx, seval, ty_RkI_45, hb]
    refine last_end (by simp) ?_
    simp only [fidx, if_true]
    refine ⟨rfl, ?_⟩
    (apply Exists.intro; (try simp only [amx, seval]); exact sub_mk (by repeat first | exact subT_nil | refine subT_cons (by first | rfl | simp [Tm.get, *]) ?_))
  · (apply Exists.intro; (try simp only [amx, seval]); exact sub_mk (by repeat first | exact subT_nil | refine subT_cons (by first | rfl | simp [Tm.get, *]) ?_))
  · intro o S' hq
    by_cases hz : fidx (fun x => s == x) l 0 = -1
    · rw [if_pos hz] at hq
      obtain ⟨rfl, g, hs⟩ := hq
      refine good_sub_cr up_fin hs ?_
      rw [hz]
      simp only [amx, seval, ty_RkI_45]
    · rw [if_neg hz] at hq
      obtain ⟨rfl, g, hs⟩ := hq
      refine good_sub_cr up_fin hs ?_
      simp only [amx, seval, ty_RkI_45]
theorem ret_conI (l : List Int) (s : Int) (hl : l.length ≤ 1048576) : Ret tab 21 [.d (.sl 1 (l.map (DV.int .i64))), .d ((DV.int .i64) s)] (.d (.bool (l.any fun x => s == x))) := by
  have f1 := fun (S : St) (d dst : Nat) => ca_ret (d := d) (dst := dst) (S := S) (args := [.d (.sl 1 (l.map (DV.int .i64))), .d ((DV.int .i64) s)]) (ds := [.sl 1 (l.map (DV.int .i64)), (DV.int .i64) s]) (ret_ixI l s hl) rfl (tab_opn (by kernel_rfl)) (tab_res (by kernel_rfl))
  have hz := fidx_any (fun x => s == x) l 0
  generalize fidx (fun x => s == x) l 0 = k at *
  generalize (l.any fun x => s == x) = b at *
  generalize l.map (DV.int .i64) = ld at *
  refine ret_of 1 fn21 rfl rfl ?_
  simp only [amx, seval, ty_RkI_21, f1, ge_iff_le] at hz ⊢
  simp only [hz]
theorem ca_conI {d dst : Nat} {S : St} (l : List Int) (s : Int) (hl : l.length ≤ 1048576) : callA tab (callR tab) d dst 21 [.d (.sl 1 (l.map (DV.int .i64))), .d ((DV.int .i64) s)] S = some (.d (.bool (l.any fun x => s == x)), S) :=
  ca_ret (ds := [.sl 1 (l.map (DV.int .i64)), (DV.int .i64) s]) (ret_conI l s hl) rfl (tab_opn (by kernel_rfl)) (tab_res (by kernel_rfl))
/- page.Check, walked where pages may be. -/





/- The pages of forms of raw things may be. -/
/- sheet.Check, Free, Inputs: walked. -/





theorem Frm.dv_eq (f : Frm) : f.dv = .agg [.sl 9 (f.fields.map Field.dv), .sl 8 (f.pages.map Page.dv)] := rfl
/- FormFree, walked. -/





/- The library's sort of few things: the plain law. -/
def bub (lt : Int → Int → Bool) : Nat → List Int → List Int
  | 0, xs => xs
  | j + 1, xs => if lt (xs.getD (j + 1) 0) (xs.getD j 0) = true then bub lt j ((xs.set (j + 1) (xs.getD j 0)).set j (xs.getD (j + 1) 0)) else xs
def insS (lt : Int → Int → Bool) : Nat → Nat → List Int → List Int
  | 0, _, xs => xs
  | m + 1, i, xs => insS lt m (i + 1) (bub lt i xs)
theorem bub_len (lt : Int → Int → Bool) : ∀ (j : Nat) (xs : List Int), (bub lt j xs).length = xs.length
  | 0, xs => rfl
  | j + 1, xs => by
    unfold bub
    split
    · rw [bub_len lt j, List.length_set, List.length_set]
    · rfl
theorem getD_app (A : List Int) (a b : Int) (C : List Int) : (A ++ a :: b :: C).getD A.length 0 = a ∧ (A ++ a :: b :: C).getD (A.length + 1) 0 = b := by
  constructor
  · rw [List.getD_eq_getElem?_getD, List.getElem?_append_right (Nat.le_refl _), Nat.sub_self]; rfl
  · rw [List.getD_eq_getElem?_getD, List.getElem?_append_right (by omega), Nat.add_sub_cancel_left]; rfl
theorem swap_app (A : List Int) (a b : Int) (C : List Int) : ((A ++ a :: b :: C).set (A.length + 1) a).set A.length b = A ++ b :: a :: C := by
  rw [List.set_append_right _ _ (by omega), Nat.add_sub_cancel_left, List.set_append_right _ _ (Nat.le_refl _), Nat.sub_self]
  rfl
theorem bub_spec {r : Int → Int} : ∀ (n : Nat) (P : List Int) (x : Int) (C : List Int), P.length = n → P.Pairwise (fun a b => r a ≤ r b) →
    ∃ Q, bub (fun a b => decide (r a < r b)) n (P ++ x :: C) = Q ++ C ∧ Q.Perm (P ++ [x]) ∧ Q.Pairwise (fun a b => r a ≤ r b)
  | 0, P, x, C, hn, hs => by
    obtain rfl := List.eq_nil_of_length_eq_zero hn
    exact ⟨[x], rfl, .refl _, by simp⟩
  | n + 1, P, x, C, hn, hs => by
    rcases List.eq_nil_or_concat P with rfl | ⟨P', y, rfl⟩
    · simp at hn
    · have hn' : P'.length = n := by simpa using hn
      subst hn'
      rw [List.concat_eq_append] at *
      rw [List.pairwise_append] at hs
      obtain ⟨hs1, _, hs3⟩ := hs
      have e : (P' ++ [y]) ++ x :: C = P' ++ y :: x :: C := by simp
      obtain ⟨g1, g2⟩ := getD_app P' y x C
      rw [e]
      unfold bub
      rw [g1, g2, swap_app]
      by_cases c : r x < r y
      · rw [if_pos (decide_eq_true c)]
        obtain ⟨Q, q1, q2, q3⟩ := bub_spec P'.length P' x (y :: C) rfl hs1
        refine ⟨Q ++ [y], by rw [q1]; simp, ?_, ?_⟩
        · have h := (q2.append_right [y])
          refine h.trans ?_
          rw [List.append_assoc, List.append_assoc]
          exact List.Perm.append_left _ (.swap _ _ _)
        · rw [List.pairwise_append]
          refine ⟨q3, by simp, fun a ha b hb => ?_⟩
          obtain rfl := List.mem_singleton.1 hb
          rcases List.mem_append.1 (q2.mem_iff.1 ha) with h | h
          · exact hs3 a h b (by simp)
          · obtain rfl := List.mem_singleton.1 h
            omega
      · rw [if_neg (by simpa using c)]
        refine ⟨P' ++ [y] ++ [x], by simp, .refl _, ?_⟩
        rw [List.pairwise_append]
        refine ⟨List.pairwise_append.2 ⟨hs1, by simp, hs3⟩, by simp, fun a ha b hb => ?_⟩
        obtain rfl := List.mem_singleton.1 hb
        rcases List.mem_append.1 ha with h | h
        · have := hs3 a h y (by simp)
          omega
        · obtain rfl := List.mem_singleton.1 h
          omega
theorem insS_spec {r : Int → Int} : ∀ (R P : List Int), P.Pairwise (fun a b => r a ≤ r b) → ∃ Q, insS (fun a b => decide (r a < r b)) R.length P.length (P ++ R) = Q ∧ Q.Perm (P ++ R) ∧ Q.Pairwise (fun a b => r a ≤ r b)
  | [], P, hs => ⟨P, by simp [insS], by simp, hs⟩
  | x :: R, P, hs => by
    obtain ⟨Q, q1, q2, q3⟩ := bub_spec (r := r) P.length P x R rfl hs
    obtain ⟨Z, z1, z2, z3⟩ := insS_spec (r := r) R Q q3
    refine ⟨Z, ?_, ?_, z3⟩
    · rw [List.length_cons, insS, q1]
      have : Q.length = P.length + 1 := by rw [q2.length_eq]; simp
      rw [← this]
      exact z1
    · refine z2.trans ((q2.append_right R).trans ?_)
      simp
theorem sort_spec {r : Int → Int} (x : Int) (xs : List Int) : (insS (fun a b => decide (r a < r b)) xs.length 1 (x :: xs)).Perm (x :: xs) ∧ (insS (fun a b => decide (r a < r b)) xs.length 1 (x :: xs)).Pairwise (fun a b => r a ≤ r b) := by
  obtain ⟨Q, q1, q2, q3⟩ := insS_spec (r := r) xs [x] (by simp)
  have q1' : insS (fun a b => decide (r a < r b)) xs.length 1 (x :: xs) = Q := q1
  rw [q1']
  exact ⟨q2, q3⟩
/- The library's stable sort of few numbers by their ranks, walked. -/
theorem ty_RkP_78 : type_of% (ai (ai @rs78 @lw78) (ai @tt3 @tt4)) := (ai (ai @rs78 @lw78) (ai @tt3 @tt4))
theorem ty_RkP_58 : type_of% (ai (ai @rs58 @lw58) (ai @tt3 @tt4)) := (ai (ai @rs58 @lw58) (ai @tt3 @tt4))
theorem ty_RkP_57 : type_of% (ai (ai @rs57 @lw57) (ai @dr57_1 (ai @tt3 @tt50))) := (ai (ai @rs57 @lw57) (ai @dr57_1 (ai @tt3 @tt50)))
theorem ty_RkP_89 : type_of% (ai (ai (ai @rs89 @lw89) (ai @dr89_4 (ai @dr89_6 @kp89_1))) (ai (ai @kp89_4 @tt3) (ai @tt4 (ai @tt41 @tt50)))) := (ai (ai (ai @rs89 @lw89) (ai @dr89_4 (ai @dr89_6 @kp89_1))) (ai (ai @kp89_4 @tt3) (ai @tt4 (ai @tt41 @tt50))))
theorem ty_RkP_77 : type_of% (ai (ai (ai @rs77 @lw77) (ai @kp77_2 @kp77_7)) (ai (ai @kp77_9 @tt3) (ai @tt4 (ai @tt41 @tt50)))) := (ai (ai (ai @rs77 @lw77) (ai @kp77_2 @kp77_7)) (ai (ai @kp77_9 @tt3) (ai @tt4 (ai @tt41 @tt50))))
theorem ty_RkP_56 : type_of% (ai (ai @rs56 @lw56) (ai @tt3 (ai @tt41 @tt50))) := (ai (ai @rs56 @lw56) (ai @tt3 (ai @tt41 @tt50)))



theorem ret_isnan (a : Int) : Ret tab 78 [.d (.int .i64 (a))] (.d (.bool (false))) := by
  refine ret_of (1) fn78 rfl rfl ?_
  have b1 : (a != a) = false := by simp
  simp only [amx, seval, ty_RkP_78, b1]
theorem ca_isnan {d dst : Nat} {S : St} (a : Int) : callA tab (callR tab) d dst 78 [.d (.int .i64 (a))] S = some (.d (.bool (false)), S) :=
  ca_ret (ds := [.int .i64 (a)]) (ret_isnan a) rfl (tab_opn (by kernel_rfl)) (tab_res (by kernel_rfl))
def cmpV (a b : Int) : Int := if a < b then -1 else if b < a then 1 else 0
theorem ret_cmpi (a b : Int) : Ret tab 58 [.d (.int .i64 (a)), .d (.int .i64 (b))] (.d (.int .i64 (cmpV a b))) := by
  refine ret_of (1) fn58 rfl rfl ?_
  unfold cmpV
  have f1 := fun (x : Int) (S : St) (d dst : Nat) => ca_isnan (d := d) (dst := dst) (S := S) x
  by_cases h1 : a < b
  · have b1 : decide (a < b) = true := decide_eq_true h1
    rw [if_pos h1]
    simp only [amx, seval, ty_RkP_58, f1, b1]
  · have b1 : decide (a < b) = false := decide_eq_false h1
    rw [if_neg h1]
    by_cases h2 : b < a
    · have b2 : decide (a > b) = true := decide_eq_true h2
      have b3 : decide (b < a) = true := decide_eq_true h2
      rw [if_pos h2]
      simp only [amx, seval, ty_RkP_58, f1, b1, b2, b3]
    · have b2 : decide (a > b) = false := decide_eq_false h2
      have b3 : decide (b < a) = false := decide_eq_false h2
      rw [if_neg h2]
      simp only [amx, seval, ty_RkP_58, f1, b1, b2, b3]
theorem ca_cmpi {d dst : Nat} {S : St} (a b : Int) : callA tab (callR tab) d dst 58 [.d (.int .i64 (a)), .d (.int .i64 (b))] S = some (.d (.int .i64 (cmpV a b)), S) :=
  ca_ret (ds := [.int .i64 (a), .int .i64 (b)]) (ret_cmpi a b) rfl (tab_opn (by kernel_rfl)) (tab_res (by kernel_rfl))
theorem cmpV_lt (a b : Int) : decide (cmpV a b < 0) = decide (a < b) := by
  unfold cmpV
  by_cases h1 : a < b
  · rw [if_pos h1, decide_eq_true h1]; rfl
  · rw [if_neg h1, decide_eq_false h1]
    split <;> rfl
theorem ca_ord {d dst : Nat} {T : Tm} {g : List Nat} (d0 : Nat) (g1 q : List Nat) (h : d0 ≤ d) (R : List Int) (C : List AV) (a b : Nat) (ha : a < R.length) (hb : b < R.length) : callA tab (callR tab) d dst 57 [.d (.int .i64 a), .d (.int .i64 b), .ptr ⟨d0, 4, q⟩ 0] ⟨T, [(⟨d0, 26, g1⟩, .box C), (⟨d0, 4, q⟩, .box [.d (.sl 1 (R.map (DV.int .i64)))])], g⟩ = some (.d (.int .i64 (cmpV (R.getD a 0) (R.getD b 0))), ⟨T, [(⟨d0, 26, g1⟩, .box C), (⟨d0, 4, q⟩, .box [.d (.sl 1 (R.map (DV.int .i64)))])], 1 :: g⟩) := by
  have k1 : (R.map (DV.int .i64))[a]? = some (.int .i64 (R.getD a 0)) := by rw [List.getElem?_map, List.getD_eq_getElem?_getD, List.getElem?_eq_getElem ha]; rfl
  have k2 : (R.map (DV.int .i64))[b]? = some (.int .i64 (R.getD b 0)) := by rw [List.getElem?_map, List.getD_eq_getElem?_getD, List.getElem?_eq_getElem hb]; rfl
  generalize R.map (DV.int .i64) = rd at *
  generalize R.getD a 0 = x at *
  generalize R.getD b 0 = y at *
  have f1 := fun (S : St) (d dst : Nat) => ca_cmpi (d := d) (dst := dst) (S := S) x y
  have hr : ∃ H', callR tab (d + 1) 57 [.d (.int .i64 a), .d (.int .i64 b), .ptr ⟨d0, 4, q⟩ 0] [(⟨d0, 4, q⟩, .box [.d (.sl 1 rd)])] (0 :: g) = some (.d (.int .i64 (cmpV x y)), H') ∧ H'.get ⟨d0, 4, q⟩ = some (.box [.d (.sl 1 rd)]) := by
    refine ret_good rfl 1 fn57 rfl rfl ?_
    have e1 : (d0 = d + 1) = False := eq_false (by omega)
    have e2 : (d + 1 = d0) = False := eq_false (by omega)
    simp only [amx, seval, ty_RkP_57, k1, k2, f1, e1, e2]
  obtain ⟨H', h1, h2⟩ := hr
  have h3 := ca_open1 (d := d) (dst := dst) (S := ⟨T, [(⟨d0, 26, g1⟩, .box C), (⟨d0, 4, q⟩, .box [.d (.sl 1 rd)])], g⟩) (id := ⟨d0, 4, q⟩) (cs := [.d (.sl 1 rd)]) (cs' := [.d (.sl 1 rd)]) (by split <;> rfl) (lent_off (tab_lend (by kernel_rfl))) rfl rfl rfl ⟨_, H', h1, soft_d, h2⟩ rfl (by simp [Heap.get])
  rw [h3]
  simp [upd, Heap.get]
def ltR (R : List Int) : Int → Int → Bool := fun a b => decide (R.getD a.toNat 0 < R.getD b.toNat 0)
theorem run_ins {d : Nat} {p : List Nat} (d0 : Nat) (g1 q : List Nat) (h : d0 < d) (R : List Int) (xs : List Int) (hp : 0 < xs.length) (hl : xs.length ≤ 14) (hR : ∀ v ∈ xs, 0 ≤ v ∧ v.toNat < R.length) :
    ∃ x H', callR tab d 89 [.arr ⟨d0, 26, g1⟩ 0 xs.length 1, .d (.int .i64 0), .d (.int .i64 xs.length), .fn 57 [.ptr ⟨d0, 4, q⟩ 0]] [(⟨d0, 26, g1⟩, .box (cI xs)), (⟨d0, 4, q⟩, .box [.d (.sl 1 (R.map (DV.int .i64)))])] p = some (x, H') ∧ (soft tab 89 x = .tup [] ∧ H'.get ⟨d0, 26, g1⟩ = some (.box (cI (insS (ltR R) (xs.length - 1) 1 xs))) ∧ H'.get ⟨d0, 4, q⟩ = some (.box [.d (.sl 1 (R.map (DV.int .i64)))])) := by
  have e1 : (d0 = d) = False := eq_false (by omega)
  have e2 : (d = d0) = False := eq_false (by omega)
  have hd1 : decide (d0 < d) = true := decide_eq_true h
  have fO := fun (a b : Nat) (ha : a < R.length) (hb : b < R.length) (T : Tm) (g : List Nat) (dst : Nat) (C : List AV) => ca_ord (d := d) (dst := dst) (T := T) (g := g) d0 g1 q (Nat.le_of_lt h) R C a b ha hb
  have fR : ∀ (Q : Tm) (C : List AV) (p : List Nat) (a b : DV), ftC ⟨Q, [(⟨d0, 26, g1⟩, .box C), (⟨d0, 4, q⟩, .box [.d (.sl 1 (R.map (DV.int .i64)))])], p⟩ [.d a, .d b, .ptr ⟨d0, 4, q⟩ 0] none = ⟨[], [⟨d0, 4, q⟩], true⟩ := fun Q C p a b => ftC_1 (cs := [.d (.sl 1 (R.map (DV.int .i64)))]) rfl (by simp [Heap.get]) rfl
  refine retq_good 64 fn89 rfl rfl ?_
  simp only [amx, seval, ty_RkP_89, e1, e2, hd1]
  refine good_range (List.replicate (xs.length - 1) ()) (fun k (ys : List Int) g => ⟨[(0, .arr ⟨d0, 26, g1⟩ 0 xs.length 1), (1, .d (.int .i64 0)), (2, .d (.int .i64 xs.length)), (3, .fn 57 [.ptr ⟨d0, 4, q⟩ 0]), (8, .d (.int .i64 ((k + 1 : Nat) : Int)))], [(⟨d0, 26, g1⟩, .box (cI ys)), (⟨d0, 4, q⟩, .box [.d (.sl 1 (R.map (DV.int .i64)))])], g⟩)
    (fun _ ys => ys.length = xs.length ∧ ∀ v ∈ ys, 0 ≤ v ∧ v.toNat < R.length) (fun k ys r => insS (ltR R) r.length (k + 1) ys)
    (QX (.exit 0) (fun (o : List Int) g => ⟨[], [(⟨d0, 26, g1⟩, .box (cI o)), (⟨d0, 4, q⟩, .box [.d (.sl 1 (R.map (DV.int .i64)))])], g⟩)) xs kp89_1 up_qx ⟨rfl, hR⟩ (by simp only [List.length_replicate]; omega) (by simp only [List.length_replicate]; omega) ?_ ?_ ?_ ?_
  · rintro k ys g x rest hk hget hdr ⟨hy, hyR⟩ hb w1
    simp only [List.length_replicate] at hk hb
    have hb' : decide (((k + 1 : Nat) : Int) < (xs.length : Int)) = true := decide_eq_true (by omega)
    have w2 : IntKind.i64.wrap (((k + 1 : Nat) : Int) + 1) = ((k + 1 + 1 : Nat) : Int) := by rw [wrap_in (by omega) (by omega)]; omega
    simp only [amx, seval, ty_RkP_89, e1, e2, hd1, hb', w2]
    refine good_loopR (α := Nat × List Int × List Nat) (fun x => x.1 ≤ k + 1 ∧ x.2.1.length = xs.length ∧ (∀ v ∈ x.2.1, 0 ≤ v ∧ v.toNat < R.length) ∧ bub (ltR R) x.1 x.2.1 = bub (ltR R) (k + 1) ys)
      (fun x => ⟨[(0, .arr ⟨d0, 26, g1⟩ 0 xs.length 1), (1, .d (.int .i64 0)), (2, .d (.int .i64 xs.length)), (3, .fn 57 [.ptr ⟨d0, 4, q⟩ 0]), (8, .d (.int .i64 ((k + 1 : Nat) : Int))), (9, .d (.int .i64 (x.1 : Nat)))], [(⟨d0, 26, g1⟩, .box (cI x.2.1)), (⟨d0, 4, q⟩, .box [.d (.sl 1 (R.map (DV.int .i64)))])], x.2.2⟩) (fun x => x.1)
      (fun _ => fun (o : Out) S => (o = .exit 2 ∧ ∃ zs g', (zs.length = xs.length ∧ (∀ v ∈ zs, 0 ≤ v ∧ v.toNat < R.length) ∧ zs = bub (ltR R) (k + 1) ys) ∧ Sub ⟨[(0, .arr ⟨d0, 26, g1⟩ 0 xs.length 1), (1, .d (.int .i64 0)), (2, .d (.int .i64 xs.length)), (3, .fn 57 [.ptr ⟨d0, 4, q⟩ 0]), (8, .d (.int .i64 ((k + 1 : Nat) : Int)))], [(⟨d0, 26, g1⟩, .box (cI zs)), (⟨d0, 4, q⟩, .box [.d (.sl 1 (R.map (DV.int .i64)))])], g'⟩ S)) (k + 1, ys, g) kp89_4 (fun _ => fun o S S' h ⟨h1, zs, g', h3, h2⟩ => ⟨h1, zs, g', h3, h2.trans h⟩) ⟨Nat.le_refl _, hy, hyR, rfl⟩ (by simp only; omega) ?_ ?_ ?_
    · rintro ⟨j, zs, g2⟩ ⟨j1, j2, j3, j4⟩
      simp only at j1 j2 j3 j4
      cases j with
      | zero =>
        have hb0 : bub (ltR R) 0 zs = zs := rfl
        rw [hb0] at j4
        simp only [amx, seval, ty_RkP_89, e1, e2, hd1, (show decide (((0 : Nat) : Int) > 0) = false from rfl)]
        refine loop_end (by simp) ⟨rfl, zs, 1 :: g2, ⟨j2, j3, j4⟩, ?_⟩
        (first | exact sub_mk subT_nil | skip) <;> (try simp only [amx, seval]) <;> exact sub_mk (by repeat first | exact subT_nil | refine subT_cons (by first | rfl | simp [Tm.get, *]) ?_)
      | succ j =>
        have b1 : decide (((j + 1 : Nat) : Int) > 0) = true := decide_eq_true (by omega)
        have b1' : decide (0 < ((j + 1 : Nat) : Int)) = true := b1
        have w3 : IntKind.i64.wrap (((j + 1 : Nat) : Int) - 1) = (j : Int) := by rw [wrap_in (by omega) (by omega)]; omega
        have hj1 : j + 1 < zs.length := by omega
        have hj0 : j < zs.length := by omega
        have k1 : (((j + 1 : Nat) : Int) < (xs.length : Int)) = True := eq_true (by omega)
        have k2 : ((j : Int) < (xs.length : Int)) = True := eq_true (by omega)
        have f1 := cI_head hj1
        have f2 := cI_head hj0
        have m1 : zs.getD (j + 1) 0 ∈ zs := by rw [List.getD_eq_getElem?_getD, List.getElem?_eq_getElem hj1]; exact List.getElem_mem hj1
        have m2 : zs.getD j 0 ∈ zs := by rw [List.getD_eq_getElem?_getD, List.getElem?_eq_getElem hj0]; exact List.getElem_mem hj0
        have s1 := cI_set (out := zs) (i := j + 1) (zs.getD j 0) hj1
        have s2 := cI_set (out := zs.set (j + 1) (zs.getD j 0)) (i := j) (zs.getD (j + 1) 0) (by rw [List.length_set]; exact hj0)
        have l1 : (cI zs).length = xs.length := by rw [cI_len, j2]
        have l2 : (cI (zs.set (j + 1) (zs.getD j 0))).length = xs.length := by rw [cI_len, List.length_set, j2]
        have c1 : (j + 1 + 1 ≤ xs.length) = True := eq_true (by omega)
        have c2 : (j + 1 ≤ xs.length) = True := eq_true (by omega)
        have hB : bub (ltR R) (j + 1) zs = if ltR R (zs.getD (j + 1) 0) (zs.getD j 0) = true then bub (ltR R) j ((zs.set (j + 1) (zs.getD j 0)).set j (zs.getD (j + 1) 0)) else zs := rfl
        have hz3 : ∀ v ∈ (zs.set (j + 1) (zs.getD j 0)).set j (zs.getD (j + 1) 0), 0 ≤ v ∧ v.toNat < R.length := fun v hv => by
          rcases List.mem_or_eq_of_mem_set hv with hv | rfl
          · rcases List.mem_or_eq_of_mem_set hv with hv | rfl
            · exact j3 v hv
            · exact j3 _ m2
          · exact j3 _ m1
        have hzl : ((zs.set (j + 1) (zs.getD j 0)).set j (zs.getD (j + 1) 0)).length = xs.length := by simp [j2]
        obtain ⟨a, ha⟩ : ∃ a : Nat, zs.getD (j + 1) 0 = a := ⟨(zs.getD (j + 1) 0).toNat, by have := (j3 _ m1).1; omega⟩
        obtain ⟨b, hb2⟩ : ∃ b : Nat, zs.getD j 0 = b := ⟨(zs.getD j 0).toNat, by have := (j3 _ m2).1; omega⟩
        have ha2 := (j3 _ m1).2
        have hb3 := (j3 _ m2).2
        rw [ha] at ha2
        rw [hb2] at hb3
        have fO' := fO a b ha2 hb3
        have hlt := cmpV_lt (R.getD a 0) (R.getD b 0)
        have hL : ltR R (a : Int) (b : Int) = decide (R.getD a 0 < R.getD b 0) := rfl
        rw [hB] at j4
        simp only [ha, hb2] at j4 s1 s2 hz3 hzl l2
        rw [ha] at f1
        rw [hb2] at f2
        rw [hL] at j4
        generalize R.getD a 0 = ra at *
        generalize R.getD b 0 = rb at *
        generalize cmpV ra rb = cv at *
        by_cases c : ra < rb
        · rw [decide_eq_true c] at hlt j4
          rw [if_pos rfl] at j4
          generalize hzz : (zs.set (j + 1) (b : Int)).set j (a : Int) = zz at *
          generalize cI (zs.set (j + 1) (b : Int)) = C1 at *
          generalize cI zs = C at *
          simp only [amx, seval, ty_RkP_89, e1, e2, hd1, b1, b1', w3, k1, k2, f1, f2, fO', fR, hlt, s1, s2, l1, l2, c1, c2, Nat.mul_one]
          refine loop_nrm (j, zz, 1 :: 1 :: g2) ⟨by simp only; omega, hzl, hz3, j4⟩ (by simp only; omega) (fun _ _ h => h) ?_
          simp only [amx, seval, e1, e2, hd1]
          (first | exact sub_mk subT_nil | skip) <;> (try simp only [amx, seval]) <;> exact sub_mk (by repeat first | exact subT_nil | refine subT_cons (by first | rfl | simp [Tm.get, *]) ?_)
        · rw [decide_eq_false c] at hlt j4
          rw [if_neg (by decide)] at j4
          simp only [amx, seval, ty_RkP_89, e1, e2, hd1, b1, b1', w3, k1, k2, f1, f2, fO', fR, hlt, l1, c1, c2, Nat.mul_one]
          refine loop_end (by simp) ⟨rfl, zs, 1 :: g2, ⟨j2, j3, j4⟩, ?_⟩
          (first | exact sub_mk subT_nil | skip) <;> (try simp only [amx, seval]) <;> exact sub_mk (by repeat first | exact subT_nil | refine subT_cons (by first | rfl | simp [Tm.get, *]) ?_)
    · simp only [amx, seval, e1, e2, hd1]
      (first | exact sub_mk subT_nil | skip) <;> (try simp only [amx, seval]) <;> exact sub_mk (by repeat first | exact subT_nil | refine subT_cons (by first | rfl | simp [Tm.get, *]) ?_)
    · rintro o S' ⟨rfl, zs, g', ⟨z1, z2, z3⟩, hs⟩
      refine good_sub_cr (up_stepr up_qx) hs ?_
      simp only [amx, seval, ty_RkP_89, e1, e2, hd1, w2]
      refine step_nrm zs ⟨z1, z2⟩ (by rw [List.length_cons, insS, ← z3]) ?_
      (apply Exists.intro; (try simp only [amx, seval, e1, e2, hd1]); exact sub_mk (by repeat first | exact subT_nil | refine subT_cons (by first | rfl | simp [Tm.get, *]) ?_))
  · rintro ys g ⟨hy, hyR⟩ hb
    have hb' : decide ((((List.replicate (xs.length - 1) ()).length + 1 : Nat) : Int) < (xs.length : Int)) = false := decide_eq_false (by rw [List.length_replicate]; omega)
    simp only [amx, seval, ty_RkP_89, e1, e2, hd1, hb']
    refine last_end (by simp) ⟨rfl, ?_⟩
    simp only [insS, List.length_nil]
    (apply Exists.intro; (try simp only [amx, seval, e1, e2, hd1]); exact sub_mk (by repeat first | exact subT_nil | refine subT_cons (by first | rfl | simp [Tm.get, *]) ?_))
  · (apply Exists.intro; (try simp only [amx, seval, e1, e2, hd1]); exact sub_mk (by repeat first | exact subT_nil | refine subT_cons (by first | rfl | simp [Tm.get, *]) ?_))
  · rintro o S' ⟨rfl, g, hs⟩
    refine good_sub_cr up_finq hs ?_
    simp only [List.length_replicate]
    simp only [amx, seval, ty_RkP_89]
    have hs : soft tab 89 (.tup []) = .tup [] := by unfold soft; split <;> rfl
    exact ⟨rfl, hs, by simp [Heap.get], by simp [Heap.get]⟩
theorem ca_ins {d dst : Nat} {S : St} (d0 : Nat) (g1 q : List Nat) (h : d0 ≤ d) (R xs : List Int) (hp : 0 < xs.length) (hl : xs.length ≤ 14) (hR : ∀ v ∈ xs, 0 ≤ v ∧ v.toNat < R.length) (hS : S.H.get ⟨d0, 26, g1⟩ = some (.box (cI xs))) (hT : S.H.get ⟨d0, 4, q⟩ = some (.box [.d (.sl 1 (R.map (DV.int .i64)))])) :
    callA tab (callR tab) d dst 89 [.arr ⟨d0, 26, g1⟩ 0 xs.length 1, .d (.int .i64 0), .d (.int .i64 xs.length), .fn 57 [.ptr ⟨d0, 4, q⟩ 0]] S = some (.tup [], ⟨S.T, upd [(⟨d0, 26, g1⟩, .box (cI (insS (ltR R) (xs.length - 1) 1 xs))), (⟨d0, 4, q⟩, .box [.d (.sl 1 (R.map (DV.int .i64)))])] S.H, 1 :: S.g⟩) := by
  obtain ⟨x, H', h1, h2, h3, h4⟩ := run_ins (p := 0 :: S.g) d0 g1 q (Nat.lt_succ_of_le h) R xs hp hl hR
  exact ca_open2 (fc := [.d (.sl 1 (R.map (DV.int .i64)))]) (by split <;> rfl) (lent_off (tab_lend (by kernel_rfl))) (id_ne (by decide)) rfl (by rw [cI_flat]; exact ids_flat _) (by rw [cI_flat]; exact ids_flat _) rfl ⟨x, H', h1, h2, h3, h4⟩ rfl hS hT
theorem run_stb {d : Nat} {p : List Nat} (d0 : Nat) (g1 q : List Nat) (h : d0 < d) (R xs : List Int) (hp : 0 < xs.length) (hl : xs.length ≤ 14) (hR : ∀ v ∈ xs, 0 ≤ v ∧ v.toNat < R.length) :
    ∃ x H', callR tab d 77 [.arr ⟨d0, 26, g1⟩ 0 xs.length 1, .d (.int .i64 xs.length), .fn 57 [.ptr ⟨d0, 4, q⟩ 0]] [(⟨d0, 26, g1⟩, .box (cI xs)), (⟨d0, 4, q⟩, .box [.d (.sl 1 (R.map (DV.int .i64)))])] p = some (x, H') ∧ (soft tab 77 x = .tup [] ∧ H'.get ⟨d0, 26, g1⟩ = some (.box (cI (insS (ltR R) (xs.length - 1) 1 xs))) ∧ H'.get ⟨d0, 4, q⟩ = some (.box [.d (.sl 1 (R.map (DV.int .i64)))])) := by
  have e1 : (d0 = d) = False := eq_false (by omega)
  have e2 : (d = d0) = False := eq_false (by omega)
  have hd1 : decide (d0 < d) = true := decide_eq_true h
  have b1 : decide ((20 : Int) ≤ (xs.length : Int)) = false := decide_eq_false (by omega)
  have b2 : decide ((20 : Int) < (xs.length : Int)) = false := decide_eq_false (by omega)
  have fI : ∀ (T : Tm) (g : List Nat) (dst : Nat), callA tab (callR tab) d dst 89 [.arr ⟨d0, 26, g1⟩ 0 xs.length 1, .d (.int .i64 0), .d (.int .i64 xs.length), .fn 57 [.ptr ⟨d0, 4, q⟩ 0]] ⟨T, [(⟨d0, 26, g1⟩, .box (cI xs)), (⟨d0, 4, q⟩, .box [.d (.sl 1 (R.map (DV.int .i64)))])], g⟩ = some (.tup [], ⟨T, [(⟨d0, 26, g1⟩, .box (cI (insS (ltR R) (xs.length - 1) 1 xs))), (⟨d0, 4, q⟩, .box [.d (.sl 1 (R.map (DV.int .i64)))])], 1 :: g⟩) := fun T g dst => by
    rw [ca_ins (d := d) (dst := dst) (S := ⟨T, [(⟨d0, 26, g1⟩, .box (cI xs)), (⟨d0, 4, q⟩, .box [.d (.sl 1 (R.map (DV.int .i64)))])], g⟩) d0 g1 q (Nat.le_of_lt h) R xs hp hl hR (by simp [Heap.get]) (by simp [Heap.get])]
    simp [upd, Heap.get]
  generalize insS (ltR R) (xs.length - 1) 1 xs = zs at *
  generalize R.map (DV.int .i64) = rd at *
  refine retq_good 3 fn77 rfl rfl ?_
  simp only [amx, seval, ty_RkP_77, e1, e2, hd1, b1, b2, fI, cx_loop, clp_s, nameOf]
  have hs : soft tab 77 (.tup []) = .tup [] := by unfold soft; split <;> rfl
  exact ⟨rfl, hs, by simp [Heap.get], by simp [Heap.get]⟩
theorem ca_stb {d dst : Nat} {S : St} (d0 : Nat) (g1 q : List Nat) (h : d0 ≤ d) (R xs : List Int) (hp : 0 < xs.length) (hl : xs.length ≤ 14) (hR : ∀ v ∈ xs, 0 ≤ v ∧ v.toNat < R.length) (hS : S.H.get ⟨d0, 26, g1⟩ = some (.box (cI xs))) (hT : S.H.get ⟨d0, 4, q⟩ = some (.box [.d (.sl 1 (R.map (DV.int .i64)))])) :
    callA tab (callR tab) d dst 77 [.arr ⟨d0, 26, g1⟩ 0 xs.length 1, .d (.int .i64 xs.length), .fn 57 [.ptr ⟨d0, 4, q⟩ 0]] S = some (.tup [], ⟨S.T, upd [(⟨d0, 26, g1⟩, .box (cI (insS (ltR R) (xs.length - 1) 1 xs))), (⟨d0, 4, q⟩, .box [.d (.sl 1 (R.map (DV.int .i64)))])] S.H, 1 :: S.g⟩) := by
  obtain ⟨x, H', h1, h2, h3, h4⟩ := run_stb (p := 0 :: S.g) d0 g1 q (Nat.lt_succ_of_le h) R xs hp hl hR
  exact ca_open2 (fc := [.d (.sl 1 (R.map (DV.int .i64)))]) (by split <;> rfl) (lent_off (tab_lend (by kernel_rfl))) (id_ne (by decide)) rfl (by rw [cI_flat]; exact ids_flat _) (by rw [cI_flat]; exact ids_flat _) rfl ⟨x, H', h1, h2, h3, h4⟩ rfl hS hT
theorem run_srt {d : Nat} {p : List Nat} (d0 : Nat) (g1 q : List Nat) (h : d0 < d) (R xs : List Int) (hp : 0 < xs.length) (hl : xs.length ≤ 14) (hR : ∀ v ∈ xs, 0 ≤ v ∧ v.toNat < R.length) :
    ∃ x H', callR tab d 56 [.arr ⟨d0, 26, g1⟩ 0 xs.length 1, .fn 57 [.ptr ⟨d0, 4, q⟩ 0]] [(⟨d0, 26, g1⟩, .box (cI xs)), (⟨d0, 4, q⟩, .box [.d (.sl 1 (R.map (DV.int .i64)))])] p = some (x, H') ∧ (soft tab 56 x = .tup [] ∧ H'.get ⟨d0, 26, g1⟩ = some (.box (cI (insS (ltR R) (xs.length - 1) 1 xs))) ∧ H'.get ⟨d0, 4, q⟩ = some (.box [.d (.sl 1 (R.map (DV.int .i64)))])) := by
  have e1 : (d0 = d) = False := eq_false (by omega)
  have e2 : (d = d0) = False := eq_false (by omega)
  have hd1 : decide (d0 < d) = true := decide_eq_true h
  have b1 : decide ((20 : Int) ≤ (xs.length : Int)) = false := decide_eq_false (by omega)
  have b2 : decide ((20 : Int) < (xs.length : Int)) = false := decide_eq_false (by omega)
  have fI : ∀ (T : Tm) (g : List Nat) (dst : Nat), callA tab (callR tab) d dst 77 [.arr ⟨d0, 26, g1⟩ 0 xs.length 1, .d (.int .i64 xs.length), .fn 57 [.ptr ⟨d0, 4, q⟩ 0]] ⟨T, [(⟨d0, 26, g1⟩, .box (cI xs)), (⟨d0, 4, q⟩, .box [.d (.sl 1 (R.map (DV.int .i64)))])], g⟩ = some (.tup [], ⟨T, [(⟨d0, 26, g1⟩, .box (cI (insS (ltR R) (xs.length - 1) 1 xs))), (⟨d0, 4, q⟩, .box [.d (.sl 1 (R.map (DV.int .i64)))])], 1 :: g⟩) := fun T g dst => by
    rw [ca_stb (d := d) (dst := dst) (S := ⟨T, [(⟨d0, 26, g1⟩, .box (cI xs)), (⟨d0, 4, q⟩, .box [.d (.sl 1 (R.map (DV.int .i64)))])], g⟩) d0 g1 q (Nat.le_of_lt h) R xs hp hl hR (by simp [Heap.get]) (by simp [Heap.get])]
    simp [upd, Heap.get]
  generalize insS (ltR R) (xs.length - 1) 1 xs = zs at *
  generalize R.map (DV.int .i64) = rd at *
  refine retq_good 3 fn56 rfl rfl ?_
  simp only [amx, seval, ty_RkP_56, e1, e2, hd1, b1, b2, fI, cx_loop, clp_s, nameOf]
  have hs : soft tab 56 (.tup []) = .tup [] := by unfold soft; split <;> rfl
  exact ⟨rfl, hs, by simp [Heap.get], by simp [Heap.get]⟩
theorem ca_srt {d dst : Nat} {S : St} (d0 : Nat) (g1 q : List Nat) (h : d0 ≤ d) (R xs : List Int) (hp : 0 < xs.length) (hl : xs.length ≤ 14) (hR : ∀ v ∈ xs, 0 ≤ v ∧ v.toNat < R.length) (hS : S.H.get ⟨d0, 26, g1⟩ = some (.box (cI xs))) (hT : S.H.get ⟨d0, 4, q⟩ = some (.box [.d (.sl 1 (R.map (DV.int .i64)))])) :
    callA tab (callR tab) d dst 56 [.arr ⟨d0, 26, g1⟩ 0 xs.length 1, .fn 57 [.ptr ⟨d0, 4, q⟩ 0]] S = some (.tup [], ⟨S.T, upd [(⟨d0, 26, g1⟩, .box (cI (insS (ltR R) (xs.length - 1) 1 xs))), (⟨d0, 4, q⟩, .box [.d (.sl 1 (R.map (DV.int .i64)))])] S.H, 1 :: S.g⟩) := by
  obtain ⟨x, H', h1, h2, h3, h4⟩ := run_srt (p := 0 :: S.g) d0 g1 q (Nat.lt_succ_of_le h) R xs hp hl hR
  exact ca_open2 (fc := [.d (.sl 1 (R.map (DV.int .i64)))]) (by split <;> rfl) (lent_off (tab_lend (by kernel_rfl))) (id_ne (by decide)) rfl (by rw [cI_flat]; exact ids_flat _) (by rw [cI_flat]; exact ids_flat _) rfl ⟨x, H', h1, h2, h3, h4⟩ rfl hS hT
/- rank.Order, walked. -/
theorem ty_RkQ_28 : type_of% (ai (ai (ai (ai @rs28 @lw28) (ai @mu50_26 @kp28_6)) (ai (ai @tt1 @tt2) (ai @tt3 (ai @tt4 @tt9)))) (ai (ai (ai @tt23 @tt28) (ai @tt31 @tt33)) (ai (ai @tt34 @tt36) (ai @tt41 (ai @tt48 @tt50))))) := (ai (ai (ai (ai @rs28 @lw28) (ai @mu50_26 @kp28_6)) (ai (ai @tt1 @tt2) (ai @tt3 (ai @tt4 @tt9)))) (ai (ai (ai @tt23 @tt28) (ai @tt31 @tt33)) (ai (ai @tt34 @tt36) (ai @tt41 (ai @tt48 @tt50)))))



def idxL (n : Nat) : List Int := (List.range n).map fun (i : Nat) => (i : Int)
theorem idxL_succ (n : Nat) : idxL (n + 1) = idxL n ++ [(n : Int)] := by simp [idxL, List.range_succ]
theorem idxL_len (n : Nat) : (idxL n).length = n := by simp [idxL]
theorem insS_len (lt : Int → Int → Bool) : ∀ (m i : Nat) (xs : List Int), (insS lt m i xs).length = xs.length
  | 0, i, xs => rfl
  | m + 1, i, xs => by rw [insS, insS_len lt m, bub_len]
def oaD (t : Option (List Nat)) (xs : List Int) : AV := match t with
  | none => .own 1 [] none
  | some q => .arr ⟨0, 26, 0 :: q⟩ 0 xs.length 1
def oaP (t : Option (List Nat)) (xs : List Int) : Heap := match t with
  | none => []
  | some q => [(⟨0, 26, 0 :: q⟩, .box (cI xs))]
def oaI (t : Option (List Nat)) (xs : List Int) (g : List Nat) : Prop := match t with
  | none => xs = []
  | some q => ¬ g <:+ (0 :: q)
theorem cI_app (xs : List Int) (v : Int) : cI (xs ++ [v]) = cI xs ++ [.d (.int .i64 v)] := by simp [cI]
noncomputable def ordL (fs : List Field) : List Int := insS (ltR (rkF fs)) (fs.length - 1) 1 (idxL fs.length)
structure OrS where
  xs : List Int
  t : Option (List Nat)
  g : List Nat
theorem ret_Order (k : Nat) (fs : List Field) (h : RkFs fs) : RetZT zR 64 (k + 3) 28 [.d (.sl 9 (fs.map Field.dv))] [intD (ordL fs), .int .i64 0] := by
  have hlen := h.ok.len
  have hpos := h.pos
  have f1 := fun (S : St) (d dst : Nat) => ca_retZT (d := d) (dst := dst) (S := S) (args := [.d (.sl 9 (fs.map Field.dv))]) (ds := [.sl 9 (fs.map Field.dv)]) (by decide) (ret_OfR k fs h) rfl (tab_opn (by kernel_rfl)) (tab_res (by kernel_rfl))
  have hRl := rkF_len h
  have hln2 : (fs.map Field.dv).length = fs.length := by simp
  unfold intD at f1 ⊢
  unfold ordL
  generalize rkF fs = R at *
  generalize fs.map Field.dv = fd at *
  refine stepq_good fn28 rfl rfl ?_
  simp only [amx, seval, ty_RkQ_28, f1, hln2, bne_self_eq_false]
  refine good_range fs (fun k (x : OrS) _ => ⟨[(4, .ptr ⟨0, 4, [0]⟩ 0), (7, oaD x.t x.xs), (19, .d (.int .i64 fs.length)), (20, .d (.int .i64 (k : Nat)))], oaP x.t x.xs ++ [(⟨0, 4, [0]⟩, .box [.d (.sl 1 (R.map (DV.int .i64)))])], x.g⟩)
    (fun k x => x.xs = idxL k ∧ oaI x.t x.xs x.g) (fun _ _ _ => ())
    (fun (_ : Unit) (q : Out) (S : St) => q = .exit 0 ∧ ∃ t g, oaI t (idxL fs.length) g ∧ Sub ⟨[(4, .ptr ⟨0, 4, [0]⟩ 0), (7, oaD t (idxL fs.length))], oaP t (idxL fs.length) ++ [(⟨0, 4, [0]⟩, .box [.d (.sl 1 (R.map (DV.int .i64)))])], g⟩ S)
    ⟨[], none, [1]⟩ kp28_6 (fun r => up_fm) ⟨rfl, rfl⟩ (by omega) (by omega) ?_ ?_ ?_ ?_
  · rintro j ⟨xs, t, g⟩ _ x rest hj hget hd ⟨h1, h2⟩ hb w1
    have fl : ∀ v : Int, flatD [DV.int .i64 v] = [.d (.int .i64 v)] := fun _ => rfl
    simp only at h1 h2
    have hS := idxL_succ j
    rw [← h1] at hS
    have hxl : xs.length = j := by rw [h1, idxL_len]
    rcases t with _ | t
    · have h2 : xs = [] := h2
      subst h2
      obtain rfl : 0 = j := hxl
      have hb0 : decide ((0 : Int) < (fs.length : Int)) = true := decide_eq_true (by omega)
      simp only [amx, seval, ty_RkQ_28, hb0, (show IntKind.i64.wrap 0 = 0 from rfl), (show IntKind.i64.wrap 1 = 1 from rfl), (show IntKind.i64.wrap 2 = 2 from rfl), (show IntKind.i64.wrap 3 = 3 from rfl), (show IntKind.i64.wrap 4 = 4 from rfl), (show IntKind.i64.wrap 5 = 5 from rfl), (show IntKind.i64.wrap 6 = 6 from rfl), (show IntKind.i64.wrap 7 = 7 from rfl), (show IntKind.i64.wrap 8 = 8 from rfl), (show IntKind.i64.wrap 9 = 9 from rfl), (show IntKind.i64.wrap 10 = 10 from rfl), (show IntKind.i64.wrap 11 = 11 from rfl), (show IntKind.i64.wrap 12 = 12 from rfl), (show IntKind.i64.wrap 13 = 13 from rfl), (show IntKind.i64.wrap 14 = 14 from rfl), fl, oaD, oaP]
      refine step_nrm (OrS.mk ([] ++ [((0 : Nat) : Int)]) (some g) (1 :: g)) ⟨hS.symm, fresh_0 (by decide)⟩ rfl ?_
      (refine ⟨[], ?_⟩; (try simp only [amx, seval, oaD, oaP, cI, List.map_cons, List.map_nil]); exact sub_mk (by repeat first | exact subT_nil | refine subT_cons (by first | rfl | simp [Tm.get, *]) ?_))
    · have h2 : ¬ g <:+ (0 :: t) := h2
      have c1 : (xs.length + 1 ≤ xs.length) = False := eq_false (by omega)
      have hA : ((xs.length + 1) * 8 ≤ 140737488355328) = True := eq_true (by omega)
      have lC := cI_len xs
      have hC := cI_app xs (j : Int)
      simp only [amx, seval, ty_RkQ_28, hb, w1, c1, hA, lC, fl, oaD, oaP, Nat.mul_one, suf1 h2, suf2 h2, sfx_f4 h2, sfx_f5 h2, sfx_f6 h2]
      refine step_nrm (OrS.mk (xs ++ [(j : Int)]) (some g) (1 :: g)) ⟨hS.symm, fresh_0 (by decide)⟩ rfl ?_
      (refine ⟨[], ?_⟩; (try simp only [amx, seval, oaD, oaP, hC]); exact sub_mk (by repeat first | exact subT_nil | refine subT_cons (by first | rfl | simp [Tm.get, *]) ?_))
  · rintro ⟨xs, t, g⟩ _ ⟨h1, h2⟩ hb
    simp only at h1 h2
    subst h1
    simp only [amx, seval, ty_RkQ_28, hb]
    refine last_end (by simp) ⟨rfl, t, g, h2, ?_⟩
    exact sub_mk (by repeat first | exact subT_nil | refine subT_cons (by first | rfl | simp [Tm.get, *]) ?_)
  · (refine ⟨[], ?_⟩; (try simp only [amx, seval, oaD, oaP]); exact sub_mk (by repeat first | exact subT_nil | refine subT_cons (by first | rfl | simp [Tm.get, *]) ?_))
  · rintro o S' ⟨rfl, t, g, hI, hs⟩
    refine good_sub_cr up_finq hs ?_
    rcases t with _ | t
    · have hI : idxL fs.length = [] := hI
      have := idxL_len fs.length
      rw [hI] at this
      simp at this
      omega
    · have hI : ¬ g <:+ (0 :: t) := hI
      have hxl := idxL_len fs.length
      have hR : ∀ v ∈ idxL fs.length, 0 ≤ v ∧ v.toNat < R.length := fun v hv => by
        simp only [idxL, List.mem_map, List.mem_range] at hv
        obtain ⟨i, hi, rfl⟩ := hv
        omega
      have fs1 := fun (T : Tm) (g : List Nat) (H : Heap) (dst : Nat) (hS : H.get ⟨0, 26, 0 :: t⟩ = some (.box (cI (idxL fs.length)))) (hT : H.get ⟨0, 4, [0]⟩ = some (.box [.d (.sl 1 (R.map (DV.int .i64)))])) => (ca_Z (Z := zR) (N := 64) (k := k + 3) (by decide) (by decide)).trans (ca_srt (d := 0) (dst := dst) (S := ⟨T, H, g⟩) 0 (0 :: t) [0] (Nat.le_refl _) R (idxL fs.length) (by omega) (by omega) hR hS hT)
      rw [hxl] at fs1
      have hzl : (insS (ltR R) (fs.length - 1) 1 (idxL fs.length)).length = fs.length := by
        rw [insS_len, hxl]
      generalize insS (ltR R) (fs.length - 1) 1 (idxL fs.length) = zs at *
      simp only [amx, seval, ty_RkQ_28, oaD, oaP, fs1, hxl, upd, Option.getD_some, Option.getD_none]
      refine ⟨rfl, ?_⟩
      rw [← fzb_arr, frz_list0 (sz := 1) (n := fs.length) (xs := zs.map (DV.int .i64)) (by rw [← cI_flat]; simp [Heap.get]) (by rw [List.length_map, hzl]) (by decide) (fun x hx => by
        obtain ⟨t, _, rfl⟩ := List.mem_map.1 hx
        exact ⟨rfl, rfl⟩)]
      rfl
/- RankOrdered, walked. -/





theorem ord_spec {fs : List Field} (h : RkFs fs) : (ordL fs).Perm (idxL fs.length) ∧ (ordL fs).Pairwise (fun a b => (rkF fs).getD a.toNat 0 ≤ (rkF fs).getD b.toNat 0) := by
  have hl := idxL_len fs.length
  have hp := h.pos
  unfold ordL
  generalize idxL fs.length = L at *
  cases L with
  | nil => simp at hl; omega
  | cons x xs =>
    have e : fs.length - 1 = xs.length := by simp at hl; omega
    rw [e]
    exact sort_spec (r := fun v => (rkF fs).getD v.toNat 0) x xs
theorem idx_nodup (n : Nat) : (idxL n).Nodup := by
  unfold idxL
  refine map_nodup (fun a _ b _ e => by have e : (a : Int) = b := e; omega) List.nodup_range
theorem mem_idx {n : Nat} {v : Int} : v ∈ idxL n ↔ ∃ i : Nat, i < n ∧ v = i := by
  unfold idxL
  rw [List.mem_map]
  constructor
  · rintro ⟨i, hi, rfl⟩; exact ⟨i, List.mem_range.1 hi, rfl⟩
  · rintro ⟨i, hi, rfl⟩; exact ⟨i, List.mem_range.2 hi, rfl⟩
theorem ord_mem {fs : List Field} (h : RkFs fs) {v : Int} : v ∈ ordL fs ↔ ∃ i : Nat, i < fs.length ∧ v = i := by rw [(ord_spec h).1.mem_iff, mem_idx]
theorem ord_nodup {fs : List Field} (h : RkFs fs) : (ordL fs).Nodup := (ord_spec h).1.nodup_iff.2 (idx_nodup _)
theorem ord_len {fs : List Field} (h : RkFs fs) : (ordL fs).length = fs.length := by rw [(ord_spec h).1.length_eq, idxL_len]
theorem ord_ahead {fs : List Field} (h : RkFs fs) {j i k : Nat} {x g : Field} (hj : (ordL fs)[j]? = some (i : Int)) (hi : fs[i]? = some x) (c : x.kind ≠ 1) (hk : fs[k]? = some g) (hr : g.name ∈ x.source.refs) : (k : Int) ∈ (ordL fs).take j := by
  have h1 := (rkF_sup h hi).1 k g c hk hr
  have hkm : (k : Int) ∈ ordL fs := (ord_mem h).2 ⟨k, (List.getElem?_eq_some_iff.1 hk).1, rfl⟩
  obtain ⟨q, hq⟩ := List.getElem?_of_mem hkm
  obtain ⟨hj1, hj2⟩ := List.getElem?_eq_some_iff.1 hj
  obtain ⟨hq1, hq2⟩ := List.getElem?_eq_some_iff.1 hq
  rcases Nat.lt_trichotomy q j with hlt | heq | hgt
  · have : ((ordL fs).take j)[q]? = some (k : Int) := by rw [List.getElem?_take_of_lt hlt]; exact hq
    exact List.mem_of_getElem? this
  · subst heq
    rw [hj] at hq
    have e : (i : Int) = k := Option.some.inj hq
    have e2 : i = k := by omega
    subst e2
    omega
  · have := (List.pairwise_iff_getElem.1 (ord_spec h).2) j q hj1 hq1 hgt
    rw [hj2, hq2] at this
    simp only [Int.toNat_natCast] at this
    omega
/- RankOrdered, walked. -/





/- What hangs on a field: the plain law. -/
def metM (ms : List Int) : List (DV × DV) := ms.map fun i => (.int .i64 i, .bool true)
def addM (a : Int) (ms : List Int) : List Int := if a ∈ ms then ms else ms ++ [a]
theorem find_met (a : Int) : ∀ ms : List Int, findK (.int .i64) (.int .i64 a) (metM ms) = some (if a ∈ ms then some (.bool true) else none)
  | [] => rfl
  | b :: r => by
    have ih := find_met a r
    unfold metM at ih ⊢
    simp only [List.map_cons, findK, sameK, if_true]
    by_cases c : a = b
    · subst c
      simp
    · have e : (a == b) = false := beq_eq_false_iff_ne.2 c
      rw [e]
      simp only
      rw [ih]
      simp [c]
theorem set_met (a : Int) : ∀ ms : List Int, setK (.int .i64) (.int .i64 a) (.bool true) (metM ms) = metM (addM a ms)
  | [] => rfl
  | b :: r => by
    have ih := set_met a r
    unfold metM addM at ih ⊢
    simp only [List.map_cons, setK, sameK, if_true]
    by_cases c : a = b
    · subst c
      simp
    · have e : (a == b) = false := beq_eq_false_iff_ne.2 c
      rw [e, if_neg (by decide), ih]
      simp only [List.mem_cons, c, false_or]
      split <;> simp
theorem mem_add {a v : Int} {ms : List Int} : v ∈ addM a ms ↔ v = a ∨ v ∈ ms := by
  unfold addM
  split
  · rename_i h
    constructor
    · exact .inr
    · rintro (rfl | h2)
      · exact h
      · exact h2
  · rw [List.mem_append, List.mem_singleton, or_comm]
def hangL (need : Int → List Nat) : List Int → List Int → List Int
  | [], ms => ms
  | v :: r, ms => hangL need r (if (need v).any (fun k => decide ((k : Int) ∈ ms)) = true then addM v ms else ms)
theorem hang_sub {need : Int → List Nat} : ∀ (l ms : List Int), ∀ v ∈ ms, v ∈ hangL need l ms
  | [], ms, v, hv => hv
  | x :: r, ms, v, hv => by
    unfold hangL
    refine hang_sub r _ v ?_
    split
    · exact mem_add.2 (.inr hv)
    · exact hv
theorem hang_why {need : Int → List Nat} {a : Int} : ∀ (l ms : List Int), (∀ v ∈ ms, v = a ∨ ∃ k ∈ need v, (k : Int) ∈ ms) → ∀ v ∈ hangL need l ms, v = a ∨ ∃ k ∈ need v, (k : Int) ∈ hangL need l ms
  | [], ms, h, v, hv => h v hv
  | x :: r, ms, h, v, hv => by
    unfold hangL at hv ⊢
    refine hang_why r _ (fun u hu => ?_) v hv
    split at hu
    · rename_i c
      rw [if_pos c]
      rcases mem_add.1 hu with rfl | hu
      · obtain ⟨k, hk, hk2⟩ := List.any_eq_true.1 c
        exact .inr ⟨k, hk, mem_add.2 (.inr (of_decide_eq_true hk2))⟩
      · rcases h u hu with h1 | ⟨k, hk, hk2⟩
        · exact .inl h1
        · exact .inr ⟨k, hk, mem_add.2 (.inr hk2)⟩
    · rename_i c
      rw [if_neg c]
      exact h u hu
theorem hang_later {need : Int → List Nat} : ∀ (l ms : List Int), ∀ v ∈ hangL need l ms, v ∈ ms ∨ v ∈ l
  | [], ms, v, hv => .inl hv
  | x :: r, ms, v, hv => by
    unfold hangL at hv
    rcases hang_later r _ v hv with h | h
    · split at h
      · rcases mem_add.1 h with rfl | h
        · exact .inr (by simp)
        · exact .inl h
      · exact .inl h
    · exact .inr (by simp [h])
theorem hang_all {need : Int → List Nat} : ∀ (l ms : List Int), l.Nodup → (∀ (i : Nat) (v : Int), l[i]? = some v → ∀ k ∈ need v, ∀ j, l[j]? = some (k : Int) → j < i) → ∀ v ∈ l, (∃ k ∈ need v, (k : Int) ∈ hangL need l ms) → v ∈ hangL need l ms
  | [], ms, _, _, v, hv, _ => by cases hv
  | x :: r, ms, hn, ho, v, hv, ⟨k, hk, hkm⟩ => by
    rw [List.nodup_cons] at hn
    unfold hangL at hkm ⊢
    rcases List.mem_cons.1 hv with rfl | hv
    · -- its turn is now: what it needs is met now
      have hkr : (k : Int) ∉ v :: r := fun hm => by
        obtain ⟨j, hj⟩ := List.getElem?_of_mem hm
        have := ho 0 v rfl k hk j hj
        omega
      have hkms : (k : Int) ∈ ms := by
        rcases hang_later r _ _ hkm with h | h
        · split at h
          · rcases mem_add.1 h with h | h
            · exact absurd (by rw [h]; simp) hkr
            · exact h
          · exact h
        · exact absurd (by simp [h]) hkr
      have c : (need v).any (fun k => decide ((k : Int) ∈ ms)) = true := List.any_eq_true.2 ⟨k, hk, decide_eq_true hkms⟩
      rw [if_pos c]
      exact hang_sub r _ v (mem_add.2 (.inl rfl))
    · refine hang_all r _ hn.2 (fun i u hu q hq j hj => ?_) v hv ⟨k, hk, hkm⟩
      have := ho (i + 1) u (by simpa using hu) q hq (j + 1) (by simpa using hj)
      omega
noncomputable def hangF (fs : List Field) (a : Nat) : List Int := hangL (fun v => (fs.map (needR fs)).getD v.toNat []) (ordL fs) [(a : Int)]
theorem needF {fs : List Field} {i : Nat} {x : Field} (hi : fs[i]? = some x) : (fs.map (needR fs)).getD ((i : Int)).toNat [] = needR fs x := by simp [List.getD_eq_getElem?_getD, hi]
theorem hangF_iff {fs : List Field} (h : RkFs fs) {a i : Nat} {x : Field} (ha : a < fs.length) (hi : fs[i]? = some x) : (i : Int) ∈ hangF fs a ↔ i = a ∨ ∃ k ∈ needR fs x, (k : Int) ∈ hangF fs a := by
  have hin := (List.getElem?_eq_some_iff.1 hi).1
  constructor
  · intro hm
    rcases hang_why (a := (a : Int)) (ordL fs) [(a : Int)] (fun v hv => .inl (by simpa using hv)) _ hm with h1 | ⟨k, hk, hk2⟩
    · exact .inl (by omega)
    · rw [needF hi] at hk
      exact .inr ⟨k, hk, hk2⟩
  · rintro (rfl | ⟨k, hk, hk2⟩)
    · exact hang_sub _ _ _ (by simp)
    · refine hang_all (ordL fs) _ (ord_nodup h) (fun j v hv q hq p hp => ?_) _ ((ord_mem h).2 ⟨i, hin, rfl⟩) ⟨k, by rw [needF hi]; exact hk, hk2⟩
      obtain ⟨j', hj', rfl⟩ := (ord_mem h).1 (List.mem_of_getElem? hv)
      have hx := List.getElem?_eq_getElem hj'
      rw [needF hx] at hq
      obtain ⟨c, g, hg, hr⟩ := (mem_need h (List.mem_of_getElem? hx)).1 hq
      have hm := ord_ahead h hv hx c hg hr
      obtain ⟨p', hp'⟩ := List.getElem?_of_mem hm
      have hpl : p' < j := by
        have := (List.getElem?_eq_some_iff.1 hp').1
        rw [List.length_take] at this
        omega
      rw [List.getElem?_take_of_lt hpl] at hp'
      obtain ⟨w1, w2⟩ := List.getElem?_eq_some_iff.1 hp
      obtain ⟨w3, w4⟩ := List.getElem?_eq_some_iff.1 hp'
      rcases Nat.lt_trichotomy p p' with c1 | c1 | c1
      · omega
      · omega
      · exact absurd (by rw [w4, w2]) ((List.pairwise_iff_getElem.1 (ord_nodup h)) p' p w3 w1 c1)
theorem hangF_trans {fs : List Field} (h : RkFs fs) {a b : Nat} (ha : a < fs.length) (hb : b < fs.length) (hab : (b : Int) ∈ hangF fs a) : ∀ (m i : Nat), i < fs.length → (rkF fs).getD i 0 ≤ m → (i : Int) ∈ hangF fs b → (i : Int) ∈ hangF fs a
  | m, i, hi, hm, hib => by
    have hx := List.getElem?_eq_getElem hi
    rcases (hangF_iff h hb hx).1 hib with rfl | ⟨k, hk, hkb⟩
    · exact hab
    · obtain ⟨c, g, hg, hr⟩ := (mem_need h (List.mem_of_getElem? hx)).1 hk
      have h1 := (rkF_sup h hx).1 k g c hg hr
      have hkl := (List.getElem?_eq_some_iff.1 hg).1
      have h2 := (rkF_lt h k hkl).1
      refine (hangF_iff h ha hx).2 (.inr ⟨k, hk, ?_⟩)
      cases m with
      | zero => omega
      | succ m => exact hangF_trans h ha hb hab m k hkl (by omega) hkb
/- Calls that see a variable and the map in it; is one of these met? -/
theorem ty_RkY_62 : type_of% (ai (ai @rs62 @lw62) (ai @tt3 (ai @tt4 @tt102))) := (ai (ai @rs62 @lw62) (ai @tt3 (ai @tt4 @tt102)))
theorem ty_RkY_73 : type_of% (ai (ai @rs73 (ai @lw73 @kp73_2)) (ai (ai @tt3 @tt4) (ai @tt50 @tt89))) := (ai (ai @rs73 (ai @lw73 @kp73_2)) (ai (ai @tt3 @tt4) (ai @tt50 @tt89)))
theorem ty_RkY_49 : type_of% (ai (ai @rs49 (ai @lw49 @tt3)) (ai @tt4 (ai @tt50 @tt89))) := (ai (ai @rs49 (ai @lw49 @tt3)) (ai @tt4 (ai @tt50 @tt89)))



theorem ca_openM {d dst f : Nat} {args : List AV} {S : St} {b m : Id} {es : List (DV × DV)} {r : AV}
    (hn : (if tab.opn f = true then none else toDs args) = none) (hlt : lentA tab S f args = none) (hne : b ≠ m) (ha : idsL args = [b])
    (hc : ∃ x H', callR tab (d + 1) f args [(b, .box [.mp m]), (m, .mpl es)] (0 :: S.g) = some (x, H') ∧ soft tab f x = r ∧ H'.get b = some (.box [.mp m]) ∧ H'.get m = some (.mpl es))
    (h4 : idsA r = []) (hS : S.H.get b = some (.box [.mp m])) (hT : S.H.get m = some (.mpl es)) :
    callA tab (callR tab) d dst f args S = some (r, ⟨S.T, upd [(b, .box [.mp m]), (m, .mpl es)] S.H, 1 :: S.g⟩) := by
  obtain ⟨x, H', hc, hs, hW, hV⟩ := hc
  have hne2 : m ≠ b := fun e => hne e.symm
  have ha' : addIds [] (idsL args) = [b] := by rw [ha]; simp [addIds]
  have hw1 : within [b] S.H = [(b, .box [.mp m])] := by
    unfold within
    rw [hS]
    rfl
  have hw : within [b, m] S.H = [(b, .box [.mp m]), (m, .mpl es)] := by
    unfold within
    rw [hS]
    simp only
    unfold within
    rw [hT]
    rfl
  have hid1 : idsH [(b, Place.box [.mp m])] = [m] := rfl
  have hid : idsH [(b, Place.box [.mp m]), (m, Place.mpl es)] = [m] := rfl
  have hre : reach S.H 8 [b] = [b, m] := by
    unfold reach
    rw [hw1, hid1, if_neg (by simp [hne2])]
    have e : addIds [b] [m] = [b, m] := by simp [addIds, hne2]
    rw [e]
    unfold reach
    rw [hw, hid, if_pos (by simp)]
  refine ca_open (W0 := [(b, .box [.mp m]), (m, .mpl es)]) (W := [(b, .box [.mp m]), (m, .mpl es)]) hn hlt ?_ hw ?_ ⟨x, H', hc, hs, fun k hk => ?_⟩ (by rw [h4]; rfl) rfl ?_
  · rw [ha']; exact hre
  · rw [hid]; simp [Am.keys]
  · have : k = b ∨ k = m := by simpa [Am.keys] using hk
    rcases this with rfl | rfl
    · rw [hW]; simp [Heap.get]
    · rw [hV]; simp [Heap.get, hne]
  · have : within (Am.keys [(b, Place.box [.mp m]), (m, .mpl es)]) [(b, Place.box [.mp m]), (m, .mpl es)] = [(b, .box [.mp m]), (m, .mpl es)] := by
      simp [Am.keys, within, Heap.get, hne]
    rw [this, hid]
    simp [Am.keys]
def inM (ms : List Int) (k : Int) : Bool := decide (k ∈ ms)
theorem run_met {d : Nat} {g : List Nat} (d0 : Nat) (p q : List Nat) (h : d0 < d) (ms : List Int) (v : Int) :
    ∃ H', callR tab d 62 [.d (.int .i64 v), .ptr ⟨d0, 10, p⟩ 0] [(⟨d0, 10, p⟩, .box [.mp ⟨d0, 34, q⟩]), (⟨d0, 34, q⟩, .mpl (metM ms))] g = some (.d (.bool (inM ms v)), H') ∧ H'.get ⟨d0, 10, p⟩ = some (.box [.mp ⟨d0, 34, q⟩]) ∧ H'.get ⟨d0, 34, q⟩ = some (.mpl (metM ms)) := by
  have e1 : (d0 = d) = False := eq_false (by omega)
  have e2 : (d = d0) = False := eq_false (by omega)
  have hd1 : decide (d0 < d) = true := decide_eq_true h
  have hf := find_met v ms
  refine ret_good rfl 1 fn62 rfl rfl ?_
  unfold inM
  by_cases c : v ∈ ms
  · rw [if_pos c] at hf
    rw [decide_eq_true c]
    generalize metM ms = es at *
    simp only [amx, seval, ty_RkY_62, e1, e2, hd1, hf, beq_self_eq_true]
  · rw [if_neg c] at hf
    rw [decide_eq_false c]
    generalize metM ms = es at *
    simp only [amx, seval, ty_RkY_62, e1, e2, hd1, hf, beq_self_eq_true]
theorem ca_met {d dst : Nat} {T : Tm} {g : List Nat} (d0 : Nat) (p q : List Nat) (h : d0 ≤ d) (ms : List Int) (v : Int) : callA tab (callR tab) d dst 62 [.d (.int .i64 v), .ptr ⟨d0, 10, p⟩ 0] ⟨T, [(⟨d0, 10, p⟩, .box [.mp ⟨d0, 34, q⟩]), (⟨d0, 34, q⟩, .mpl (metM ms))], g⟩ = some (.d (.bool (inM ms v)), ⟨T, [(⟨d0, 10, p⟩, .box [.mp ⟨d0, 34, q⟩]), (⟨d0, 34, q⟩, .mpl (metM ms))], 1 :: g⟩) := by
  obtain ⟨H', h1, h2, h3⟩ := run_met (g := 0 :: g) d0 p q (Nat.lt_succ_of_le h) ms v
  have h4 := ca_openM (d := d) (dst := dst) (S := ⟨T, [(⟨d0, 10, p⟩, .box [.mp ⟨d0, 34, q⟩]), (⟨d0, 34, q⟩, .mpl (metM ms))], g⟩) (b := ⟨d0, 10, p⟩) (m := ⟨d0, 34, q⟩) (es := metM ms) (by split <;> rfl) (lent_off (tab_lend (by kernel_rfl))) (id_ne (by decide)) rfl ⟨_, H', h1, soft_d, h2, h3⟩ rfl (by simp [Heap.get]) (by simp [Heap.get])
  rw [h4]
  simp [upd, Heap.get]
theorem run_idxM {d : Nat} {g : List Nat} (d0 : Nat) (p q : List Nat) (h : d0 < d) (ms : List Int) (l : List Nat) (hl : l.length ≤ 1000) :
    ∃ H', callR tab d 73 [.d (.sl 1 (l.map fun (k : Nat) => DV.int .i64 k)), .fn 62 [.ptr ⟨d0, 10, p⟩ 0]] [(⟨d0, 10, p⟩, .box [.mp ⟨d0, 34, q⟩]), (⟨d0, 34, q⟩, .mpl (metM ms))] g = some (.d (.int .i64 (fidx (fun (k : Nat) => inM ms k) l 0)), H') ∧ H'.get ⟨d0, 10, p⟩ = some (.box [.mp ⟨d0, 34, q⟩]) ∧ H'.get ⟨d0, 34, q⟩ = some (.mpl (metM ms)) := by
  have e1 : (d0 = d) = False := eq_false (by omega)
  have e2 : (d = d0) = False := eq_false (by omega)
  have hd1 : decide (d0 < d) = true := decide_eq_true h
  have hp := fun (k : Nat) (T : Tm) (g : List Nat) (dst : Nat) => ca_met (d := d) (dst := dst) (T := T) (g := g) d0 p q (Nat.le_of_lt h) ms k
  refine ret_good rfl (l.length + 1) fn73 rfl rfl ?_
  simp only [amx, seval, ty_RkY_73]
  refine good_range l (fun k (_ : Unit) g => ⟨[(0, .d (.sl 1 (l.map fun (k : Nat) => DV.int .i64 k))), (1, .fn 62 [.ptr ⟨d0, 10, p⟩ 0]), (7, .d (.int .i64 l.length)), (8, .d (.int .i64 (k : Nat)))], [(⟨d0, 10, p⟩, .box [.mp ⟨d0, 34, q⟩]), (⟨d0, 34, q⟩, .mpl (metM ms))], g⟩) (fun _ _ => True) (fun k _ r => (if fidx (fun (k : Nat) => inM ms k) r k = -1 then .inr () else .inl (fidx (fun (k : Nat) => inM ms k) r k) : Sum Int Unit))
    (QO .ret (fun e g => ⟨[(4, .d (.int .i64 e))], [(⟨d0, 10, p⟩, .box [.mp ⟨d0, 34, q⟩]), (⟨d0, 34, q⟩, .mpl (metM ms))], g⟩) (.exit 0) (fun _ g => ⟨[], [(⟨d0, 10, p⟩, .box [.mp ⟨d0, 34, q⟩]), (⟨d0, 34, q⟩, .mpl (metM ms))], g⟩)) () kp73_2 up_qo trivial (by omega) (by omega) ?_ ?_ ?_ ?_
  · rintro k a g x rest hk hget hdr _ hb w1
    have hget' : (l.map fun (k : Nat) => DV.int .i64 k)[k]? = some (.int .i64 x) := by rw [List.getElem?_map, hget]; rfl
    have hp' := hp x
    cases hq : inM ms (x : Int) with
    | true =>
      rw [hq] at hp'
      simp only [amx, seval, ty_RkY_73, e1, e2, hb, hget', hp', w1, hd1]
      refine step_end (r := .inl (k : Int)) (by simp) ?_ ⟨rfl, ?_⟩
      · simp only [fidx, hq, if_true]; rw [if_neg (by omega)]
      · (apply Exists.intro; (try simp only [amx, seval, e1, e2, hd1]); exact sub_mk (by repeat first | exact subT_nil | refine subT_cons (by first | rfl | simp [Tm.get, *]) ?_))
    | false =>
      rw [hq] at hp'
      simp only [amx, seval, ty_RkY_73, e1, e2, hb, hget', hp', w1, hd1]
      refine step_nrm () trivial ?_ ?_
      · simp only [fidx, hq, Bool.false_eq_true, if_false]
      · (apply Exists.intro; (try simp only [amx, seval, e1, e2, hd1]); exact sub_mk (by repeat first | exact subT_nil | refine subT_cons (by first | rfl | simp [Tm.get, *]) ?_))
  · intro a g _ hb
    simp only [amx, seval, ty_RkY_73, hb]
    refine last_end (by simp) ?_
    simp only [fidx, if_true]
    refine ⟨rfl, ?_⟩
    (apply Exists.intro; (try simp only [amx, seval, e1, e2, hd1]); exact sub_mk (by repeat first | exact subT_nil | refine subT_cons (by first | rfl | simp [Tm.get, *]) ?_))
  · (apply Exists.intro; (try simp only [amx, seval, e1, e2, hd1]); exact sub_mk (by repeat first | exact subT_nil | refine subT_cons (by first | rfl | simp [Tm.get, *]) ?_))
  · intro o S' hq
    by_cases hz : fidx (fun (k : Nat) => inM ms k) l 0 = -1
    · rw [if_pos hz] at hq
      obtain ⟨rfl, g, hs⟩ := hq
      refine good_sub_cr up_fin hs ?_
      rw [hz]
      simp only [amx, seval, ty_RkY_73]
    · rw [if_neg hz] at hq
      obtain ⟨rfl, g, hs⟩ := hq
      refine good_sub_cr up_fin hs ?_
      simp only [amx, seval, ty_RkY_73]
theorem run_conM {d : Nat} {g : List Nat} (d0 : Nat) (p q : List Nat) (h : d0 < d) (ms : List Int) (l : List Nat) (hl : l.length ≤ 1000) :
    ∃ H', callR tab d 49 [.d (.sl 1 (l.map fun (k : Nat) => DV.int .i64 k)), .fn 62 [.ptr ⟨d0, 10, p⟩ 0]] [(⟨d0, 10, p⟩, .box [.mp ⟨d0, 34, q⟩]), (⟨d0, 34, q⟩, .mpl (metM ms))] g = some (.d (.bool (l.any fun k => inM ms k)), H') ∧ H'.get ⟨d0, 10, p⟩ = some (.box [.mp ⟨d0, 34, q⟩]) ∧ H'.get ⟨d0, 34, q⟩ = some (.mpl (metM ms)) := by
  have e1 : (d0 = d) = False := eq_false (by omega)
  have e2 : (d = d0) = False := eq_false (by omega)
  have hd1 : decide (d0 < d) = true := decide_eq_true h
  refine ret_good rfl 1 fn49 rfl rfl ?_
  have f1 : ∀ (T : Tm) (g : List Nat) (dst : Nat), callA tab (callR tab) d dst 73 [.d (.sl 1 (l.map fun (k : Nat) => DV.int .i64 k)), .fn 62 [.ptr ⟨d0, 10, p⟩ 0]] ⟨T, [(⟨d0, 10, p⟩, .box [.mp ⟨d0, 34, q⟩]), (⟨d0, 34, q⟩, .mpl (metM ms))], g⟩ = some (.d (.int .i64 (fidx (fun (k : Nat) => inM ms k) l 0)), ⟨T, [(⟨d0, 10, p⟩, .box [.mp ⟨d0, 34, q⟩]), (⟨d0, 34, q⟩, .mpl (metM ms))], 1 :: g⟩) := fun T g dst => by
    obtain ⟨H', h1, h2, h3⟩ := run_idxM (g := 0 :: g) d0 p q (Nat.lt_succ_of_lt h) ms l hl
    have h4 := ca_openM (d := d) (dst := dst) (S := ⟨T, [(⟨d0, 10, p⟩, .box [.mp ⟨d0, 34, q⟩]), (⟨d0, 34, q⟩, .mpl (metM ms))], g⟩) (b := ⟨d0, 10, p⟩) (m := ⟨d0, 34, q⟩) (es := metM ms) (by split <;> rfl) (lent_off (tab_lend (by kernel_rfl))) (id_ne (by decide)) rfl ⟨_, H', h1, soft_d, h2, h3⟩ rfl (by simp [Heap.get]) (by simp [Heap.get])
    rw [h4]
    simp [upd, Heap.get]
  have hz := fidx_any (fun (k : Nat) => inM ms k) l 0
  generalize fidx (fun (k : Nat) => inM ms k) l 0 = z at *
  simp only [amx, seval, ty_RkY_49, e1, e2, hd1, f1, ge_iff_le] at hz ⊢
  simp [hz, Heap.get]
theorem ca_conM {d dst : Nat} {S : St} (d0 : Nat) (p q : List Nat) (h : d0 ≤ d) (ms : List Int) (l : List Nat) (hl : l.length ≤ 1000) (hS : S.H.get ⟨d0, 10, p⟩ = some (.box [.mp ⟨d0, 34, q⟩])) (hT : S.H.get ⟨d0, 34, q⟩ = some (.mpl (metM ms))) : callA tab (callR tab) d dst 49 [.d (.sl 1 (l.map fun (k : Nat) => DV.int .i64 k)), .fn 62 [.ptr ⟨d0, 10, p⟩ 0]] S = some (.d (.bool (l.any fun k => inM ms k)), ⟨S.T, upd [(⟨d0, 10, p⟩, .box [.mp ⟨d0, 34, q⟩]), (⟨d0, 34, q⟩, .mpl (metM ms))] S.H, 1 :: S.g⟩) := by
  obtain ⟨H', h1, h2, h3⟩ := run_conM (g := 0 :: S.g) d0 p q (Nat.lt_succ_of_le h) ms l hl
  exact ca_openM (by split <;> rfl) (lent_off (tab_lend (by kernel_rfl))) (id_ne (by decide)) rfl ⟨_, H', h1, soft_d, h2, h3⟩ rfl hS hT
/- rank.Hangs, walked. -/
theorem ty_RkZ_30 : type_of% (ai (ai (ai (ai @rs30 @lw30) (ai @mu50_63 @kp30_10)) (ai (ai @kp30_17 @tt1) (ai @tt3 (ai @tt4 @tt9)))) (ai (ai (ai @tt23 @tt28) (ai @tt33 (ai @tt34 @tt36))) (ai (ai @tt48 @tt50) (ai @tt85 (ai @tt89 @tt102))))) := (ai (ai (ai (ai @rs30 @lw30) (ai @mu50_63 @kp30_10)) (ai (ai @kp30_17 @tt1) (ai @tt3 (ai @tt4 @tt9)))) (ai (ai (ai @tt23 @tt28) (ai @tt33 (ai @tt34 @tt36))) (ai (ai @tt48 @tt50) (ai @tt85 (ai @tt89 @tt102)))))



def outH (M : List Int) : Nat → Nat → List Int
  | _, 0 => []
  | i, m + 1 => if inM M i = true then (i : Int) :: outH M (i + 1) m else outH M (i + 1) m
theorem mem_out {M : List Int} {v : Int} : ∀ (m i : Nat), v ∈ outH M i m ↔ ∃ j : Nat, i ≤ j ∧ j < i + m ∧ v = j ∧ (j : Int) ∈ M
  | 0, i => by simp [outH]; omega
  | m + 1, i => by
    have ih := mem_out (M := M) (v := v) m (i + 1)
    unfold outH inM
    split
    · rename_i c
      have c := of_decide_eq_true c
      rw [List.mem_cons, ih]
      constructor
      · rintro (rfl | ⟨j, h1, h2, h3, h4⟩)
        · exact ⟨i, Nat.le_refl _, by omega, rfl, c⟩
        · exact ⟨j, by omega, by omega, h3, h4⟩
      · rintro ⟨j, h1, h2, h3, h4⟩
        by_cases e : j = i
        · subst e; exact .inl h3
        · exact .inr ⟨j, by omega, by omega, h3, h4⟩
    · rename_i c
      have c : (i : Int) ∉ M := fun h => c (decide_eq_true h)
      rw [ih]
      constructor
      · rintro ⟨j, h1, h2, h3, h4⟩
        exact ⟨j, by omega, by omega, h3, h4⟩
      · rintro ⟨j, h1, h2, h3, h4⟩
        by_cases e : j = i
        · subst e; exact absurd h4 c
        · exact ⟨j, by omega, by omega, h3, h4⟩
structure NdI where
  acc : List Int
  t : Option (List Nat)
  g : List Nat
theorem nt_mp {i : Id} : noTup (.mp i) = true := rfl
theorem ac_mp {i : Id} : (AV.mp i).cells = [.mp i] := rfl
theorem ret_Hangs (k : Nat) (fs : List Field) (h : RkFs fs) (a : Nat) (x : Field) (hx : fs[a]? = some x) : RetZT zR 64 (k + 4) 30 [.d (.sl 9 (fs.map Field.dv)), .d (.str x.name)] [intD (outH (hangF fs a) 0 fs.length), .int .i64 0] := by
  have hlen := h.ok.len
  have f1 := fun (S : St) (d dst : Nat) => ca_retZT (d := d) (dst := dst) (S := S) (args := [.d (.sl 9 (fs.map Field.dv))]) (ds := [.sl 9 (fs.map Field.dv)]) (by decide) (ret_Order k fs h) rfl (tab_opn (by kernel_rfl)) (tab_res (by kernel_rfl))
  have f2 := fun (S : St) (d dst : Nat) => (ca_Z (Z := zR) (N := 64) (k := k + 4) (by decide) (by decide)).trans (ca_Find (d := d) (dst := dst) (S := S) fs x.name (by omega))
  rw [ffind_at h.ok.nd hx] at f2
  have f3 := fun (S : St) (d dst : Nat) => ca_retZ (d := d) (dst := dst) (S := S) (args := [.d (.sl 9 (fs.map Field.dv))]) (ds := [.sl 9 (fs.map Field.dv)]) (by decide) (ret_needs (k + 2) fs h.ok h.rl) rfl (tab_opn (by kernel_rfl)) (tab_res (by kernel_rfl))
  have hln2 : (fs.map Field.dv).length = fs.length := by simp
  have hol := ord_len h
  have hodl : ((ordL fs).map (DV.int .i64)).length = fs.length := by simp [hol]
  have hog : ∀ (k : Nat) (v : Int), (ordL fs)[k]? = some v → ((ordL fs).map (DV.int .i64))[k]? = some (.int .i64 v) := fun k v h => by rw [List.getElem?_map, h]; rfl
  have hng : ∀ (i : Nat) (y : Field), fs[i]? = some y → ((fs.map (needR fs)).map rowD)[i]? = some (.sl 1 ((needR fs y).map fun (k : Nat) => DV.int .i64 k)) := fun i y h => by rw [List.getElem?_map, List.getElem?_map, h]; rfl
  have hnl := need_len h
  unfold intD at f1 ⊢
  unfold needD at f3
  unfold hangF
  generalize fs.map Field.dv = fd at *
  generalize (ordL fs).map (DV.int .i64) = od at *
  generalize (fs.map (needR fs)).map rowD = nd at *
  have s0 : setK (.int .i64) (.int .i64 (a : Int)) (.bool true) [] = metM [(a : Int)] := rfl
  have s1 : findK (.int .i64) (.int .i64 (a : Int)) [] = some none := rfl
  refine stepq_good fn30 rfl rfl ?_
  simp only [amx, seval, ty_RkZ_30, f1, f2, f3, hln2, hodl, s0, s1, nt_mp, ac_mp, bne_self_eq_false, beq_self_eq_true]
  refine good_range (ordL fs) (fun j (ms : List Int) g => ⟨[(0, .d (.sl 9 fd)), (9, .d (.sl 1 nd)), (10, .ptr ⟨0, 10, [0, 1]⟩ 0), (37, .d (.sl 1 od)), (38, .d (.int .i64 fs.length)), (39, .d (.int .i64 (j : Nat)))], [(⟨0, 10, [0, 1]⟩, .box [.mp ⟨0, 34, [0]⟩]), (⟨0, 34, [0]⟩, .mpl (metM ms))], g⟩)
    (fun _ _ => True) (fun j ms r => hangL (fun v => (fs.map (needR fs)).getD v.toNat []) r ms)
    (QX (.exit 0) (fun (o : List Int) g => ⟨[(0, .d (.sl 9 fd)), (10, .ptr ⟨0, 10, [0, 1]⟩ 0)], [(⟨0, 10, [0, 1]⟩, .box [.mp ⟨0, 34, [0]⟩]), (⟨0, 34, [0]⟩, .mpl (metM o))], g⟩)) [(a : Int)] kp30_10 up_qx trivial (by omega) (by omega) ?_ ?_ ?_ ?_
  · rintro j ms g v rest hj hget hd _ hb w1
    rw [hol] at hb hj
    obtain ⟨i, hi, rfl⟩ := (ord_mem h).1 (List.mem_of_getElem? hget)
    have hy := List.getElem?_eq_getElem hi
    generalize fs[i] = y at *
    have hget' := hog j _ hget
    have hgn := hng i y hy
    have hL := (hnl (needR fs y) (List.mem_map.2 ⟨y, List.mem_of_getElem? hy, rfl⟩)).1
    have fM := fun (T : Tm) (g : List Nat) (dst : Nat) => (ca_Z (Z := zR) (N := 64) (k := k + 4) (by decide) (by decide)).trans (ca_conM (d := 0) (dst := dst) (S := ⟨T, [(⟨0, 10, [0, 1]⟩, .box [.mp ⟨0, 34, [0]⟩]), (⟨0, 34, [0]⟩, .mpl (metM ms))], g⟩) 0 [0, 1] [0] (Nat.le_refl _) ms (needR fs y) (by omega) (by simp [Heap.get]) (by simp [Heap.get]))
    have hS : hangL (fun v => (fs.map (needR fs)).getD v.toNat []) ((i : Int) :: rest) ms = hangL (fun v => (fs.map (needR fs)).getD v.toNat []) rest (if ((needR fs y).any fun k => inM ms k) = true then addM (i : Int) ms else ms) := by
      conv => lhs; unfold hangL
      simp only [needF hy]
      rfl
    have hf := find_met (i : Int) ms
    have hs := set_met (i : Int) ms
    have hil : (i : Int) < (fs.length : Int) := by omega
    cases hq : ((needR fs y).any fun k => inM ms k) with
    | false =>
      rw [hq] at fM
      rw [hq, if_neg (by decide)] at hS
      generalize (needR fs y).map (fun (k : Nat) => DV.int .i64 k) = ld at *
      generalize hes : metM ms = es at *
      simp only [amx, seval, ty_RkZ_30, hb, hget', hgn, w1, fM, upd, Option.getD_some, Option.getD_none]
      refine step_nrm ms trivial hS ?_
      (apply Exists.intro; (try simp only [amx, seval, hes]); exact sub_mk (by repeat first | exact subT_nil | refine subT_cons (by first | rfl | simp [Tm.get, *]) ?_))
    | true =>
      rw [hq] at fM
      rw [hq, if_pos rfl] at hS
      generalize (needR fs y).map (fun (k : Nat) => DV.int .i64 k) = ld at *
      by_cases cm : (i : Int) ∈ ms
      · rw [if_pos cm] at hf
        generalize hes : metM ms = es at *
        generalize hes2 : metM (addM (i : Int) ms) = es2 at *
        simp only [amx, seval, ty_RkZ_30, hb, hget', hgn, w1, fM, hf, hs, upd, Option.getD_some, Option.getD_none, beq_self_eq_true]
        refine step_nrm (addM (i : Int) ms) trivial hS ?_
        (apply Exists.intro; (try simp only [amx, seval, hes2]); exact sub_mk (by repeat first | exact subT_nil | refine subT_cons (by first | rfl | simp [Tm.get, *]) ?_))
      · rw [if_neg cm] at hf
        generalize hes : metM ms = es at *
        generalize hes2 : metM (addM (i : Int) ms) = es2 at *
        simp only [amx, seval, ty_RkZ_30, hb, hget', hgn, w1, fM, hf, hs, upd, Option.getD_some, Option.getD_none, beq_self_eq_true]
        refine step_nrm (addM (i : Int) ms) trivial hS ?_
        (apply Exists.intro; (try simp only [amx, seval, hes2]); exact sub_mk (by repeat first | exact subT_nil | refine subT_cons (by first | rfl | simp [Tm.get, *]) ?_))
  · intro ms g _ hb
    rw [hol] at hb
    rw [hol]
    simp only [amx, seval, ty_RkZ_30, hb]
    refine last_end (by simp) ⟨rfl, ?_⟩
    simp only [hangL]
    (apply Exists.intro; (try simp only [amx, seval]); exact sub_mk (by repeat first | exact subT_nil | refine subT_cons (by first | rfl | simp [Tm.get, *]) ?_))
  · (apply Exists.intro; (try simp only [amx, seval]); exact sub_mk (by repeat first | exact subT_nil | refine subT_cons (by first | rfl | simp [Tm.get, *]) ?_))
  · rintro o S' ⟨rfl, g, hs⟩
    refine good_sub_cr up_finq hs ?_
    generalize hangL (fun v => (fs.map (needR fs)).getD v.toNat []) (ordL fs) [(a : Int)] = M at *
    simp only [amx, seval, ty_RkZ_30, hln2]
    refine good_range fs (fun j (x : NdI) _ => ⟨[(10, .ptr ⟨0, 10, [0, 1]⟩ 0), (13, .own 1 (x.acc.map (DV.int .i64)) (tokD 0 63 x.t)), (53, .d (.int .i64 fs.length)), (54, .d (.int .i64 (j : Nat)))], tokP 0 63 (x.acc.length * 1) x.t ++ [(⟨0, 10, [0, 1]⟩, .box [.mp ⟨0, 34, [0]⟩]), (⟨0, 34, [0]⟩, .mpl (metM M))], x.g⟩)
      (fun j x => x.acc.length ≤ j) (fun j x r => x.acc ++ outH M j r.length)
      (fun (o : List Int) (q : Out) (S : St) => q = .exit 2 ∧ ∃ t g, Sub ⟨[(13, .own 1 (o.map (DV.int .i64)) (tokD 0 63 t))], tokP 0 63 (o.length * 1) t ++ [(⟨0, 10, [0, 1]⟩, .box [.mp ⟨0, 34, [0]⟩]), (⟨0, 34, [0]⟩, .mpl (metM M))], g⟩ S)
      ⟨[], none, g⟩ kp30_17 (fun _ => up_tok) (Nat.le_refl _) (by omega) (by omega) ?_ ?_ ?_ ?_
    · rintro j ⟨acc, t, g2⟩ _ y rest hj hget hd hI hb w1
      simp only at hI
      have hf := find_met (j : Int) M
      have hA : ((acc.length + 1) * 8 ≤ 140737488355328) = True := eq_true (by omega)
      by_cases c : (j : Int) ∈ M
      · rw [if_pos c] at hf
        have hS : acc ++ outH M j (y :: rest).length = (acc ++ [(j : Int)]) ++ outH M (j + 1) rest.length := by
          rw [List.length_cons, outH, if_pos (show inM M j = true from decide_eq_true c)]; simp
        generalize hes : metM M = es at *
        rcases t with _ | t
        · simp only [amx, seval, ty_RkZ_30, hb, w1, hf, hA, tokD, tokP, hes, beq_self_eq_true]
          refine step_nrm (NdI.mk (acc ++ [(j : Int)]) (some g2) (1 :: g2)) (by show (acc ++ [(j : Int)]).length ≤ j + 1; simp; omega) hS ?_
          (refine ⟨[], ?_⟩; (try simp only [amx, seval, tokD, tokP, hes]); exact sub_mk (by repeat first | exact subT_nil | refine subT_cons (by first | rfl | simp [Tm.get, *]) ?_))
        · simp only [amx, seval, ty_RkZ_30, hb, w1, hf, hA, tokD, tokP, hes, beq_self_eq_true]
          refine step_nrm (NdI.mk (acc ++ [(j : Int)]) (some t) g2) (by show (acc ++ [(j : Int)]).length ≤ j + 1; simp; omega) hS ?_
          (refine ⟨[], ?_⟩; (try simp only [amx, seval, tokD, tokP, hes]); exact sub_mk (by repeat first | exact subT_nil | refine subT_cons (by first | rfl | simp [Tm.get, *]) ?_))
      · rw [if_neg c] at hf
        have hS : acc ++ outH M j (y :: rest).length = acc ++ outH M (j + 1) rest.length := by
          rw [List.length_cons, outH, if_neg (show ¬ inM M j = true from by simpa [inM] using c)]
        generalize hes : metM M = es at *
        rcases t with _ | t
        · simp only [amx, seval, ty_RkZ_30, hb, w1, hf, tokD, tokP, hes, beq_self_eq_true]
          refine step_nrm (NdI.mk acc none g2) (by show acc.length ≤ j + 1; omega) hS ?_
          (refine ⟨[], ?_⟩; (try simp only [amx, seval, tokD, tokP, hes]); exact sub_mk (by repeat first | exact subT_nil | refine subT_cons (by first | rfl | simp [Tm.get, *]) ?_))
        · simp only [amx, seval, ty_RkZ_30, hb, w1, hf, tokD, tokP, hes, beq_self_eq_true]
          refine step_nrm (NdI.mk acc (some t) g2) (by show acc.length ≤ j + 1; omega) hS ?_
          (refine ⟨[], ?_⟩; (try simp only [amx, seval, tokD, tokP, hes]); exact sub_mk (by repeat first | exact subT_nil | refine subT_cons (by first | rfl | simp [Tm.get, *]) ?_))
    · rintro ⟨acc, t, g2⟩ _ hI hb
      simp only [amx, seval, ty_RkZ_30, hb]
      refine last_end (by simp) ⟨rfl, t, g2, ?_⟩
      simp only [List.length_nil, outH, List.append_nil]
      exact sub_mk (by repeat first | exact subT_nil | refine subT_cons (by first | rfl | simp [Tm.get, *]) ?_)
    · (refine ⟨[], ?_⟩; (try simp only [amx, seval, tokD, tokP]); exact sub_mk (by repeat first | exact subT_nil | refine subT_cons (by first | rfl | simp [Tm.get, *]) ?_))
    · rintro o S' ⟨rfl, t, g2, hs⟩
      refine good_sub_cr up_finq hs ?_
      simp only [List.nil_append]
      generalize outH M 0 fs.length = R at *
      rcases t with _ | t
      · simp only [amx, seval, ty_RkZ_30, tokD, tokP]
      · simp only [amx, seval, ty_RkZ_30, tokD, tokP]
/- RankHangs, walked. -/
theorem ty_RkU_9 : type_of% (ai (ai (ai (ai @rs9 @lw9) (ai @dr9_14 (ai @kp9_9 @tt1))) (ai (ai @tt3 @tt4) (ai @tt9 (ai @tt22 @tt23)))) (ai (ai (ai @tt24 @tt26) (ai @tt28 (ai @tt31 @tt33))) (ai (ai @tt34 (ai @tt36 @tt38)) (ai @tt48 (ai @tt50 @tt69))))) := (ai (ai (ai (ai @rs9 @lw9) (ai @dr9_14 (ai @kp9_9 @tt1))) (ai (ai @tt3 @tt4) (ai @tt9 (ai @tt22 @tt23)))) (ai (ai (ai @tt24 @tt26) (ai @tt28 (ai @tt31 @tt33))) (ai (ai @tt34 (ai @tt36 @tt38)) (ai @tt48 (ai @tt50 @tt69)))))





theorem out_len (M : List Int) : ∀ (m i : Nat), (outH M i m).length ≤ m
  | 0, i => Nat.le_refl _
  | m + 1, i => by
    have := out_len M m (i + 1)
    unfold outH
    split <;> (try simp only [List.length_cons]) <;> omega
theorem any_out {M : List Int} {n i : Nat} (hi : i < n) : ((outH M 0 n).any fun z => (i : Int) == z) = decide ((i : Int) ∈ M) := by
  by_cases c : (i : Int) ∈ M
  · rw [decide_eq_true c]
    exact List.any_eq_true.2 ⟨i, (mem_out n 0).2 ⟨i, by omega, by omega, rfl, c⟩, by simp⟩
  · rw [decide_eq_false c]
    refine List.any_eq_false.2 (fun z hz => ?_)
    obtain ⟨j, _, _, h3, h4⟩ := (mem_out n 0).1 hz
    intro e
    have e2 : (i : Int) = z := by simpa using e
    rw [e2, h3] at c
    exact c h4
theorem ret_RankHangs (l : List Raw) (i j : Int) (hl : l.length ≤ 9223372036854775807) (hr : ∀ r ∈ l, r.ok) (hi : -9223372036854775808 ≤ i ∧ i ≤ 9223372036854775807) (hj : -9223372036854775808 ≤ j ∧ j ≤ 9223372036854775807) : ∃ x H', stepA tab (callZ zR 64 20) 64 0 9 ([.sl 4 (l.map Raw.dv), .int .i64 i, .int .i64 j].map AV.d) [] [] = some (x, H') ∧ x = .d (.bool true) := by
  have hk := rkfs hr
  have fF := fun (S : St) (d dst : Nat) => (ca_Z (Z := zR) (N := 64) (k := 20) (by decide) (by decide)).trans (ca_Form (d := d) (dst := dst) (S := S) l hl hr)
  have f2 := fun (S : St) (d dst : Nat) => ca_retZ (d := d) (dst := dst) (S := S) (args := []) (ds := []) (by decide) (ret_ranked 16) rfl (tab_opn (by kernel_rfl)) (tab_res (by kernel_rfl))
  simp only [Frm.dv] at fF
  generalize (mkForm l).pages.map Page.dv = ps at *
  generalize (mkForm l).fields = fs at *
  have h14 := hk.ok.len
  have hpos := hk.pos
  have hp1 := pick_range i (fs.length : Int) hi.1 hi.2 (by omega)
  have fp1 := fun (S : St) (d dst : Nat) => (ca_Z (Z := zR) (N := 64) (k := 20) (by decide) (by decide)).trans (ca_picked (d := d) (dst := dst) (S := S) i (fs.length : Int) (by omega))
  have hp2 := pick_range j (fs.length : Int) hj.1 hj.2 (by omega)
  have fp2 := fun (S : St) (d dst : Nat) => (ca_Z (Z := zR) (N := 64) (k := 20) (by decide) (by decide)).trans (ca_picked (d := d) (dst := dst) (S := S) j (fs.length : Int) (by omega))
  generalize pick i (fs.length : Int) = pa at *
  generalize pick j (fs.length : Int) = pb at *
  obtain ⟨a, rfl⟩ : ∃ a : Nat, pa = a := ⟨pa.toNat, by omega⟩
  obtain ⟨b, rfl⟩ : ∃ b : Nat, pb = b := ⟨pb.toNat, by omega⟩
  have ha : a < fs.length := by omega
  have hb : b < fs.length := by omega
  have hxa := List.getElem?_eq_getElem ha
  have hxb := List.getElem?_eq_getElem hb
  generalize fs[a] = x at *
  generalize fs[b] = y at *
  have fA := fun (S : St) (d dst : Nat) => ca_retZT (d := d) (dst := dst) (S := S) (args := [.d (.sl 9 (fs.map Field.dv)), .d (.str x.name)]) (ds := [.sl 9 (fs.map Field.dv), .str x.name]) (by decide) (ret_Hangs 15 fs hk a x hxa) rfl (tab_opn (by kernel_rfl)) (tab_res (by kernel_rfl))
  have fB := fun (S : St) (d dst : Nat) => ca_retZT (d := d) (dst := dst) (S := S) (args := [.d (.sl 9 (fs.map Field.dv)), .d (.str y.name)]) (ds := [.sl 9 (fs.map Field.dv), .str y.name]) (by decide) (ret_Hangs 15 fs hk b y hxb) rfl (tab_opn (by kernel_rfl)) (tab_res (by kernel_rfl))
  have hla := out_len (hangF fs a) fs.length 0
  have hlb := out_len (hangF fs b) fs.length 0
  have fC := fun (v : Int) (S : St) (d dst : Nat) => (ca_Z (Z := zR) (N := 64) (k := 20) (by decide) (by decide)).trans (ca_conI (d := d) (dst := dst) (S := S) (outH (hangF fs a) 0 fs.length) v (by omega))
  have fCa := fC (a : Int)
  rw [any_out ha, decide_eq_true ((hangF_iff hk ha hxa).2 (.inl rfl))] at fCa
  have fCb := fC (b : Int)
  rw [any_out hb] at fCb
  have fH := fun (S : St) (d dst : Nat) => (ca_Z (Z := zR) (N := 64) (k := 20) (by decide) (by decide)).trans (ca_Has (d := d) (dst := dst) (S := S) y.source x.name)
  rw [Exp.dv_eq y.source] at fH
  have hln2 : (fs.map Field.dv).length = fs.length := by simp
  have hga : (fs.map Field.dv)[a]? = some x.dv := by rw [List.getElem?_map, hxa]; rfl
  have hgb : (fs.map Field.dv)[b]? = some y.dv := by rw [List.getElem?_map, hxb]; rfl
  rw [Field.dv_eq] at hga hgb
  have hog : ∀ (k : Nat) (v : Int), (outH (hangF fs b) 0 fs.length)[k]? = some v → ((outH (hangF fs b) 0 fs.length).map (DV.int .i64))[k]? = some (.int .i64 v) := fun k v h => by rw [List.getElem?_map, h]; rfl
  have hol : ((outH (hangF fs b) 0 fs.length).map (DV.int .i64)).length = (outH (hangF fs b) 0 fs.length).length := List.length_map ..
  have hneed : y.kind ≠ 1 → x.name ∈ y.source.refs → (b : Int) ∈ hangF fs a := fun c hr => (hangF_iff hk ha hxb).2 (.inr ⟨a, (mem_need hk (List.mem_of_getElem? hxb)).2 ⟨c, x, hxa, hr⟩, (hangF_iff hk ha hxa).2 (.inl rfl)⟩)
  unfold intD at *
  generalize hfd : fs.map Field.dv = fd at *
  generalize hxl : (outH (hangF fs a) 0 fs.length).map (DV.int .i64) = xl at *
  generalize hyl : (outH (hangF fs b) 0 fs.length).map (DV.int .i64) = yl at *
  have bx : decide ((a : Int) < (fs.length : Int)) = true := decide_eq_true (by omega)
  refine stepq_good fn9 rfl rfl ?_
  by_cases cb : (b : Int) ∈ hangF fs a
  · rw [decide_eq_true cb] at fCb
    simp only [amx, seval, ty_RkU_9, fF, f2, fp1, fp2, hga, hgb, hln2, fA, fB, fCa, fCb, hol, bne_self_eq_false]
    refine good_range (outH (hangF fs b) 0 fs.length) (fun k (_ : Unit) g => ⟨[(7, .d (.sl 9 fd)), (8, .d (.int .i64 (a : Nat))), (9, .d (.int .i64 (b : Nat))), (10, .d (.sl 1 xl)), (66, .d (.sl 1 yl)), (67, .d (.int .i64 (outH (hangF fs b) 0 fs.length).length)), (68, .d (.int .i64 (k : Nat)))], [], g⟩) (fun _ _ => True) (fun _ _ _ => ())
      (QX (.exit 0) (fun _ g => ⟨[(7, .d (.sl 9 fd)), (8, .d (.int .i64 (a : Nat))), (9, .d (.int .i64 (b : Nat))), (10, .d (.sl 1 xl))], [], g⟩)) () kp9_9 up_qx trivial (by omega) (by omega) ?_ ?_ ?_ ?_
    · rintro k u g v rest hk2 hget hdr _ hb2 w1
      have hget' := hog k v hget
      obtain ⟨q, _, hq, rfl, hqm⟩ := (mem_out fs.length 0).1 (List.mem_of_getElem? hget)
      have fCq := fC (q : Int)
      rw [any_out (by omega), decide_eq_true (hangF_trans hk ha hb cb ((rkF fs).getD q 0).toNat q (by omega) (by have := (rkF_lt hk q (by omega)).1; omega) hqm)] at fCq
      simp only [amx, seval, ty_RkU_9, hb2, hget', fCq, w1, Bool.not_true]
      refine step_nrm () trivial rfl ?_
      (apply Exists.intro; (try simp only [amx, seval]); exact sub_mk (by repeat first | exact subT_nil | refine subT_cons (by first | rfl | simp [Tm.get, *]) ?_))
    · intro u g _ hb2
      simp only [amx, seval, ty_RkU_9, hb2]
      refine last_end (by simp) ⟨rfl, ?_⟩
      (apply Exists.intro; (try simp only [amx, seval]); exact sub_mk (by repeat first | exact subT_nil | refine subT_cons (by first | rfl | simp [Tm.get, *]) ?_))
    · (apply Exists.intro; (try simp only [amx, seval]); exact sub_mk (by repeat first | exact subT_nil | refine subT_cons (by first | rfl | simp [Tm.get, *]) ?_))
    · rintro o S' ⟨rfl, g, hs⟩
      refine good_sub_cr up_finq hs ?_
      cases c1 : (y.kind == 1) with
      | true =>
        simp only [amx, seval, ty_RkU_9, hga, hgb, c1]
      | false =>
        cases c2 : decide (x.name ∈ y.source.refs) with
        | false =>
          rw [c2] at fH
          simp only [amx, seval, ty_RkU_9, hga, hgb, c1, fH, Bool.not_false]
        | true =>
          rw [c2] at fH
          simp only [amx, seval, ty_RkU_9, hga, hgb, c1, fH, fCb, Bool.not_true]
  · rw [decide_eq_false cb] at fCb
    cases c1 : (y.kind == 1) with
    | true =>
      simp only [amx, seval, ty_RkU_9, fF, f2, fp1, fp2, hga, hgb, hln2, fA, fB, fCa, fCb, c1, bne_self_eq_false]
    | false =>
      have c2 : decide (x.name ∈ y.source.refs) = false := decide_eq_false (fun h => cb (hneed (fun e => by rw [e] at c1; simp at c1) h))
      rw [c2] at fH
      simp only [amx, seval, ty_RkU_9, fF, f2, fp1, fp2, hga, hgb, hln2, fA, fB, fCa, fCb, c1, fH, Bool.not_false, bne_self_eq_false]
end Go.Proofs.Ytfcfifohflgboaa.Am
