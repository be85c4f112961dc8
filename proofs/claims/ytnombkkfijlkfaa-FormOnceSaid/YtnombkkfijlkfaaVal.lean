/- Values: made of raw things, checked, compared. -/
import Derived.Test.YtnombkkfijlkfaaBase
set_option linter.unusedVariables false
set_option linter.unusedSimpArgs false
namespace Go.Proofs.Ytnombkkfijlkfaa.Am
open Go Go.RowKit
theorem ty_Val_47 : type_of% (ai (ai (ai (ai @rs47 (ai @lv47_0 @lv47_1)) (ai (ai @mu9_13 @lv47_2) (ai @lv47_3 @lv47_4))) (ai (ai (ai @lv47_5 @lv47_6) (ai @lv47_7 @kp47_3)) (ai (ai @und3 @sz3) (ai @ag3 @lv3)))) (ai (ai (ai (ai @inf3 @und5) (ai @sz5 @ag5)) (ai (ai @lv5 @inf5) (ai @und9 @sz9))) (ai (ai (ai @ag9 @lv9) (ai @inf9 @und84)) (ai (ai @sz84 @ag84) (ai @pT84 @inf84))))) := (ai (ai (ai (ai @rs47 (ai @lv47_0 @lv47_1)) (ai (ai @mu9_13 @lv47_2) (ai @lv47_3 @lv47_4))) (ai (ai (ai @lv47_5 @lv47_6) (ai @lv47_7 @kp47_3)) (ai (ai @und3 @sz3) (ai @ag3 @lv3)))) (ai (ai (ai (ai @inf3 @und5) (ai @sz5 @ag5)) (ai (ai @lv5 @inf5) (ai @und9 @sz9))) (ai (ai (ai @ag9 @lv9) (ai @inf9 @und84)) (ai (ai @sz84 @ag84) (ai @pT84 @inf84)))))
theorem ty_Val_17 : type_of% (ai (ai (ai (ai (ai @rs17 (ai @lv17_0 @ro41_3_raw_go_53)) (ai @lv17_1 (ai @lv17_2 @lv17_3))) (ai (ai @lv17_4 (ai @lv17_5 @lv17_6)) (ai @lv17_7 (ai @lv17_8 @und1)))) (ai (ai (ai @sz1 (ai @ag1 @inf1)) (ai @und3 (ai @sz3 @ag3))) (ai (ai @lv3 (ai @inf3 @und4)) (ai (ai @sz4 @ag4) (ai @lv4 @inf4))))) (ai (ai (ai (ai @und9 (ai @sz9 @ag9)) (ai @lv9 (ai @inf9 @und29))) (ai (ai @sz29 (ai @ag29 @fo29)) (ai @bA29 (ai @pT29_0 @pT29_1)))) (ai (ai (ai @pT29_2 (ai @lv29 @inf29)) (ai @und41 (ai @sz41 @ag41))) (ai (ai @fo41 (ai @bA41 @pT41_0)) (ai (ai @pT41_1 @pT41_2) (ai @pT41_3 @inf41)))))) := (ai (ai (ai (ai (ai @rs17 (ai @lv17_0 @ro41_3_raw_go_53)) (ai @lv17_1 (ai @lv17_2 @lv17_3))) (ai (ai @lv17_4 (ai @lv17_5 @lv17_6)) (ai @lv17_7 (ai @lv17_8 @und1)))) (ai (ai (ai @sz1 (ai @ag1 @inf1)) (ai @und3 (ai @sz3 @ag3))) (ai (ai @lv3 (ai @inf3 @und4)) (ai (ai @sz4 @ag4) (ai @lv4 @inf4))))) (ai (ai (ai (ai @und9 (ai @sz9 @ag9)) (ai @lv9 (ai @inf9 @und29))) (ai (ai @sz29 (ai @ag29 @fo29)) (ai @bA29 (ai @pT29_0 @pT29_1)))) (ai (ai (ai @pT29_2 (ai @lv29 @inf29)) (ai @und41 (ai @sz41 @ag41))) (ai (ai @fo41 (ai @bA41 @pT41_0)) (ai (ai @pT41_1 @pT41_2) (ai @pT41_3 @inf41))))))
theorem ty_Val_103 : type_of% (ai (ai (ai (ai (ai @rs103 @lv103_0) (ai @lv103_1 @lv103_2)) (ai (ai @lv103_3 @lv103_4) (ai @lv103_5 (ai @lv103_6 @lv103_7)))) (ai (ai (ai @lv103_8 @lv103_9) (ai @kp103_4 @und3)) (ai (ai @sz3 @ag3) (ai @lv3 (ai @inf3 @und4))))) (ai (ai (ai (ai @sz4 @ag4) (ai @lv4 @inf4)) (ai (ai @und5 @sz5) (ai @ag5 (ai @lv5 @inf5)))) (ai (ai (ai @und9 @sz9) (ai @ag9 (ai @lv9 @inf9))) (ai (ai @und35 @sz35) (ai @ag35 (ai @lv35 @inf35)))))) := (ai (ai (ai (ai (ai @rs103 @lv103_0) (ai @lv103_1 @lv103_2)) (ai (ai @lv103_3 @lv103_4) (ai @lv103_5 (ai @lv103_6 @lv103_7)))) (ai (ai (ai @lv103_8 @lv103_9) (ai @kp103_4 @und3)) (ai (ai @sz3 @ag3) (ai @lv3 (ai @inf3 @und4))))) (ai (ai (ai (ai @sz4 @ag4) (ai @lv4 @inf4)) (ai (ai @und5 @sz5) (ai @ag5 (ai @lv5 @inf5)))) (ai (ai (ai @und9 @sz9) (ai @ag9 (ai @lv9 @inf9))) (ai (ai @und35 @sz35) (ai @ag35 (ai @lv35 @inf35))))))
theorem ty_Val_81 : type_of% (ai (ai (ai (ai (ai (ai @rs81 @lv81_0) (ai @ro29_1_value_go_14 @lv81_1)) (ai (ai @lv81_3 @lv81_4) (ai @lv81_5 @lv81_6))) (ai (ai (ai @lv81_7 @lv81_8) (ai @lv81_9 @lv81_10)) (ai (ai @lv81_11 @lv81_12) (ai @lv81_13 @lv81_14)))) (ai (ai (ai (ai @lv81_15 @lv81_16) (ai @lv81_17 @lv81_18)) (ai (ai @lv81_19 @lv81_2) (ai @lv81_20 @lv81_21))) (ai (ai (ai @lv81_22 @und1) (ai @sz1 @ag1)) (ai (ai @inf1 @und2) (ai @sz2 @ag2))))) (ai (ai (ai (ai (ai @lv2 @inf2) (ai @und3 @sz3)) (ai (ai @ag3 @lv3) (ai @inf3 @und4))) (ai (ai (ai @sz4 @ag4) (ai @lv4 @inf4)) (ai (ai @und9 @sz9) (ai @ag9 @lv9)))) (ai (ai (ai (ai @inf9 @und29) (ai @sz29 @ag29)) (ai (ai @fo29 @bA29) (ai @pT29_0 @pT29_1))) (ai (ai (ai @pT29_2 @lv29) (ai @inf29 @und35)) (ai (ai @sz35 @ag35) (ai @lv35 @inf35)))))) := (ai (ai (ai (ai (ai (ai @rs81 @lv81_0) (ai @ro29_1_value_go_14 @lv81_1)) (ai (ai @lv81_3 @lv81_4) (ai @lv81_5 @lv81_6))) (ai (ai (ai @lv81_7 @lv81_8) (ai @lv81_9 @lv81_10)) (ai (ai @lv81_11 @lv81_12) (ai @lv81_13 @lv81_14)))) (ai (ai (ai (ai @lv81_15 @lv81_16) (ai @lv81_17 @lv81_18)) (ai (ai @lv81_19 @lv81_2) (ai @lv81_20 @lv81_21))) (ai (ai (ai @lv81_22 @und1) (ai @sz1 @ag1)) (ai (ai @inf1 @und2) (ai @sz2 @ag2))))) (ai (ai (ai (ai (ai @lv2 @inf2) (ai @und3 @sz3)) (ai (ai @ag3 @lv3) (ai @inf3 @und4))) (ai (ai (ai @sz4 @ag4) (ai @lv4 @inf4)) (ai (ai @und9 @sz9) (ai @ag9 @lv9)))) (ai (ai (ai (ai @inf9 @und29) (ai @sz29 @ag29)) (ai (ai @fo29 @bA29) (ai @pT29_0 @pT29_1))) (ai (ai (ai @pT29_2 @lv29) (ai @inf29 @und35)) (ai (ai @sz35 @ag35) (ai @lv35 @inf35))))))
theorem ty_Val_48 : type_of% (ai (ai (ai (ai (ai @rs48 @lv48_0) (ai @ro29_1_value_go_68 @lv48_1)) (ai (ai @und3 @sz3) (ai @ag3 @lv3))) (ai (ai (ai @inf3 @und4) (ai @sz4 @ag4)) (ai (ai @lv4 @inf4) (ai @und9 (ai @sz9 @ag9))))) (ai (ai (ai (ai @lv9 @inf9) (ai @und29 @sz29)) (ai (ai @ag29 @fo29) (ai @bA29 @pT29_0))) (ai (ai (ai @pT29_1 @pT29_2) (ai @lv29 @inf29)) (ai (ai @und35 @sz35) (ai @ag35 (ai @lv35 @inf35)))))) := (ai (ai (ai (ai (ai @rs48 @lv48_0) (ai @ro29_1_value_go_68 @lv48_1)) (ai (ai @und3 @sz3) (ai @ag3 @lv3))) (ai (ai (ai @inf3 @und4) (ai @sz4 @ag4)) (ai (ai @lv4 @inf4) (ai @und9 (ai @sz9 @ag9))))) (ai (ai (ai (ai @lv9 @inf9) (ai @und29 @sz29)) (ai (ai @ag29 @fo29) (ai @bA29 @pT29_0))) (ai (ai (ai @pT29_1 @pT29_2) (ai @lv29 @inf29)) (ai (ai @und35 @sz35) (ai @ag35 (ai @lv35 @inf35))))))
set_option maxRecDepth 100000
set_option maxHeartbeats 4000000

/-- A raw thing's numbers are numbers, its text is no longer than texts are. -/
structure Raw.ok (r : Raw) : Prop where
  kind : -9223372036854775808 ≤ r.kind ∧ r.kind ≤ 9223372036854775807
  a : -9223372036854775808 ≤ r.a ∧ r.a ≤ 9223372036854775807
  b : -9223372036854775808 ≤ r.b ∧ r.b ≤ 9223372036854775807
  text : r.text.length ≤ 9223372036854775807
/-- A sign that texts may have. -/
def cl (c : UInt8) : UInt8 := UInt8.ofNat (32 + c.toNat % 95)
theorem cl_val (c : UInt8) : ((cl c).toNat : Int) = 32 + (c.toNat : Int) % 95 := by
  unfold cl
  rw [UInt8.toNat_ofNat']
  omega
theorem cl_wrap (c : UInt8) : IntKind.u8.wrap (32 + (c.toNat : Int).tmod 95) = ((cl c).toNat : Int) := by
  rw [cl_val, Int.tmod_eq_emod_of_nonneg (by omega), IntKind.wrap_u8]
  omega
def cleanS (s : Str) (m : Nat) : Str := (s.take m).map cl
theorem bytes_head (u : Str) (i : Nat) (h : i < u.length) : (List.drop i (bytesAV u)).head? = some (.d (.int .u8 (u[i].toNat : Int))) := by
  rw [List.head?_drop]
  simp [bytesAV, h]
theorem bytes_set (u : Str) (i : Nat) (c : UInt8) (h : i < u.length) : List.take i (bytesAV u) ++ [.d (.int .u8 (c.toNat : Int))] ++ List.drop (i + 1) (bytesAV u) = bytesAV (u.set i c) := by
  unfold bytesAV
  rw [← List.map_take, ← List.map_drop, List.set_eq_take_append_cons_drop, if_pos h]
  simp
theorem ret_clean (s : Str) (m : Nat) (hs : s.length ≤ 9223372036854775807) (hm : m ≤ 1000) : Ret tab 47 [.d (.str (s)), .d (.int .i64 (m))] (.d (.str (cleanS s m))) := by
  refine ret_of (1002) fn47 rfl rfl ?_
  have hmin : (if (m : Int) < (s.length : Int) then (m : Int) else (s.length : Int)) = ((min m s.length : Nat) : Int) := by
    split <;> omega
  have hm1 : ((min m s.length : Nat) : Int) ≤ (s.length : Int) := by omega
  have htl : (s.take (min m s.length)).length = min m s.length := by rw [List.length_take]; omega
  have hcond : (s.take (min m s.length)).length ≤ 9223372036854775807 := by rw [htl]; omega
  have ht : s.take (min m s.length) = s.take m := by
    rcases Nat.le_total m s.length with h | h
    · rw [Nat.min_eq_left h]
    · rw [Nat.min_eq_right h, List.take_length, List.take_of_length_le h]
  simp only [amr, amc, amp, if_true, if_false, ne_eq, gt_iff_lt, Option.getD, argsT, Option.bind, Option.map, List.headD, List.tail, opnsL, List.replicate, lendsL, seval, ty_Val_47, hmin, hm1, hcond]
  unfold cleanS
  rw [← ht]
  rw [htl]
  have hlen1000 : min m s.length ≤ 1000 := by omega
  generalize hq : s.take (min m s.length) = t at *
  clear ht hq
  generalize min m s.length = q at *
  subst htl
  refine good_loopR (α := Nat) (fun i => i ≤ t.length) (fun i => ⟨[(5, .arr ⟨0, 14, [0]⟩ 0 t.length 1), (15, .arr ⟨0, 14, [0]⟩ 0 t.length 1), (16, .d (.int .i64 t.length)), (17, .d (.int .i64 i))], [(⟨0, 14, [0]⟩, .box (bytesAV ((t.take i).map cl ++ t.drop i)))], [1]⟩) (fun i => t.length - i)
    (fun _ => EX (.exit 0) ⟨[(5, .arr ⟨0, 14, [0]⟩ 0 t.length 1)], [(⟨0, 14, [0]⟩, .box (bytesAV (t.map cl)))], [1]⟩) 0 kp47_3 (fun _ => up_ex) (Nat.zero_le _) (by omega) ?_ ?_ ?_
  · intro i hi
    have hi' : i ≤ t.length := hi
    by_cases h1 : i < t.length
    · have hb : decide ((i : Int) < (t.length : Int)) = true := decide_eq_true (by omega)
      have hlt : (i : Int) < (t.length : Int) := by omega
      have w1 : IntKind.i64.wrap ((i : Int) + 1) = (i : Int) + 1 := wrap_in (by omega) (by omega)
      have hul : ((t.take i).map cl ++ t.drop i).length = t.length := by simp; omega
      have hu : i < ((t.take i).map cl ++ t.drop i).length := by omega
      have hui : ((t.take i).map cl ++ t.drop i)[i] = t[i] := by
        rw [List.getElem_append_right (by simp; omega)]
        simp
        congr 1
        omega
      have hset : ((t.take i).map cl ++ t.drop i).set i (cl t[i]) = (t.take (i + 1)).map cl ++ t.drop (i + 1) := by
        rw [List.set_append_right _ _ (by simp; omega)]
        have e1 : i - (List.map cl (List.take i t)).length = 0 := by simp; omega
        rw [e1, List.drop_eq_getElem_cons h1, List.set_cons_zero, List.take_succ_eq_append_getElem h1, List.map_append]
        simp
      have f1 := bytes_head _ i hu
      rw [hui] at f1
      have f2 := bytes_set ((t.take i).map cl ++ t.drop i) i (cl t[i]) hu
      rw [hset] at f2
      have f3 : i + 1 ≤ (bytesAV ((t.take i).map cl ++ t.drop i)).length := by simp only [bytesAV, List.length_map]; omega
      generalize bytesAV ((t.take i).map cl ++ t.drop i) = U at *
      simp only [amr, amc, amp, if_true, if_false, ne_eq, gt_iff_lt, Option.getD, argsT, Option.bind, Option.map, List.headD, List.tail, opnsL, List.replicate, lendsL, seval, ty_Val_47, hb, hlt, w1, Nat.mul_one, f1, f2, f3, cl_wrap]
      refine loop_nrm (i + 1) (show i + 1 ≤ t.length by omega) (show t.length - (i + 1) < t.length - i by omega) (fun _ _ h => h) ?_
      (first | exact sub_mk subT_nil | skip) <;> (try simp only [amr, amc, amp, if_true, if_false, ne_eq, gt_iff_lt, Option.getD, argsT, Option.bind, Option.map, List.headD, List.tail, opnsL, List.replicate, lendsL, seval]) <;> exact sub_mk (by repeat first | exact subT_nil | refine subT_cons (by first | rfl | simp [Tm.get, *]) ?_)
    · have hb : decide ((i : Int) < (t.length : Int)) = false := decide_eq_false (by omega)
      have hit : i = t.length := by omega
      simp only [amr, amc, amp, if_true, if_false, ne_eq, gt_iff_lt, Option.getD, argsT, Option.bind, Option.map, List.headD, List.tail, opnsL, List.replicate, lendsL, seval, ty_Val_47, hb]
      refine loop_end (by simp) ⟨rfl, ?_⟩
      rw [hit, List.take_length, List.drop_length, List.append_nil]
      (first | exact sub_mk subT_nil | skip) <;> (try simp only [amr, amc, amp, if_true, if_false, ne_eq, gt_iff_lt, Option.getD, argsT, Option.bind, Option.map, List.headD, List.tail, opnsL, List.replicate, lendsL, seval]) <;> exact sub_mk (by repeat first | exact subT_nil | refine subT_cons (by first | rfl | simp [Tm.get, *]) ?_)
  · simp only [List.take_zero, List.map_nil, List.nil_append, List.drop_zero]
    (first | exact sub_mk subT_nil | skip) <;> (try simp only [amr, amc, amp, if_true, if_false, ne_eq, gt_iff_lt, Option.getD, argsT, Option.bind, Option.map, List.headD, List.tail, opnsL, List.replicate, lendsL, seval]) <;> exact sub_mk (by repeat first | exact subT_nil | refine subT_cons (by first | rfl | simp [Tm.get, *]) ?_)
  · rintro o S' ⟨rfl, hs'⟩
    refine good_sub_cr up_fin hs' ?_
    have g1 : 0 + t.length ≤ (bytesAV (t.map cl)).length := by simp [bytesAV]
    have g2 : plainD ((bytesAV (t.map cl)).take t.length) = some ((t.map cl).map fun b => DV.int .u8 (b.toNat : Int)) := by
      rw [List.take_of_length_le (by simp [bytesAV]), bytesAV_eq, plainD_map]
    have g3 := strD_bytes (t.map cl)
    simp only [Nat.zero_add] at g1
    generalize t.map cl = V at *
    simp only [amr, amc, amp, if_true, if_false, ne_eq, gt_iff_lt, Option.getD, argsT, Option.bind, Option.map, List.headD, List.tail, opnsL, List.replicate, lendsL, seval, ty_Val_47, g1, g2, g3]
    repeat' ((first | refine good_ci (fun h => ?_) (fun h => ?_) | refine good_cgt (fun h => ?_) (fun h => ?_) | refine good_cgf (fun h => ?_) (fun h => ?_) | refine good_cqgt (fun h => ?_) (fun h => ?_) | refine good_cqgf (fun h => ?_) (fun h => ?_)) <;> simp only [amr, amc, amp, if_true, if_false, ne_eq, gt_iff_lt, Option.getD, argsT, Option.bind, Option.map, List.headD, List.tail, opnsL, List.replicate, lendsL, seval, ty_Val_47, g1, g2, g3, h])
theorem ca_clean {d dst : Nat} {S : St} (s : Str) (m : Nat) (hs : s.length ≤ 9223372036854775807) (hm : m ≤ 1000) : callA tab (callR tab) d dst 47 [.d (.str (s)), .d (.int .i64 (m))] S = some (.d (.str (cleanS s m)), S) :=
  ca_ret (ds := [.str (s), .int .i64 (m)]) (ret_clean s m hs hm) rfl (tab_opn (by kernel_rfl)) (tab_res (by kernel_rfl))
/-- A value of a kind, made of a raw thing. -/
def mkVal (k : Int) (r : Raw) : Val := if k = 1 then (if pick r.kind 7 = 0 then ⟨1, IntKind.i64.wrap (pick r.a 2199023255553 - 1099511627776), []⟩ else ⟨1, IntKind.i64.wrap (pick r.a 40 - 12), []⟩)
  else if k = 2 then ⟨2, pick r.a 2, []⟩ else ⟨3, 0, cleanS r.text 8⟩
theorem ret_Value (k : Int) (r : Raw) (hr : r.text.length ≤ 9223372036854775807) : Ret tab 17 [.d (.int .i64 (k)), .d (r.dv)] (.d ((mkVal k r).dv)) := by
  have hcl : ∀ {S : St} {d dst : Nat}, callA tab (callR tab) d dst 47 [.d (.str r.text), .d (.int .i64 8)] S = some (.d (.str (cleanS r.text 8)), S) := fun {S d dst} => ca_clean r.text 8 hr (by decide)
  refine ret_of (1) fn17 rfl rfl ?_
  simp only [amr, amc, amp, if_true, if_false, ne_eq, gt_iff_lt, Option.getD, argsT, Option.bind, Option.map, List.headD, List.tail, opnsL, List.replicate, lendsL, seval, ty_Val_17, Raw.dv, Val.dv, hcl, ca_picked r.kind 7 (by decide), ca_picked r.a 2199023255553 (by decide), ca_picked r.a 40 (by decide), ca_picked r.a 2 (by decide)]
  repeat' ((first | refine good_ci (fun h => ?_) (fun h => ?_) | refine good_cgt (fun h => ?_) (fun h => ?_) | refine good_cgf (fun h => ?_) (fun h => ?_) | refine good_cqgt (fun h => ?_) (fun h => ?_) | refine good_cqgf (fun h => ?_) (fun h => ?_)) <;> simp only [amr, amc, amp, if_true, if_false, ne_eq, gt_iff_lt, Option.getD, argsT, Option.bind, Option.map, List.headD, List.tail, opnsL, List.replicate, lendsL, seval, ty_Val_17, Raw.dv, Val.dv, hcl, ca_picked r.kind 7 (by decide), ca_picked r.a 2199023255553 (by decide), ca_picked r.a 40 (by decide), ca_picked r.a 2 (by decide), h])
  all_goals (simp_all [mkVal])
theorem cf_Value {d dst : Nat} {S : St} (k : Int) (r : Raw) (hr : r.text.length ≤ 9223372036854775807) : callA tab (callR tab) d dst 17 [.d (.int .i64 (k)), .d (r.dv)] S = some (.d ((mkVal k r).dv), S) :=
  ca_ret (ds := [.int .i64 (k), r.dv]) (ret_Value k r hr) rfl (tab_opn (by kernel_rfl)) (tab_res (by kernel_rfl))
theorem ca_Value {d dst : Nat} {S : St} (k : Int) (r_kind : Int) (r_a : Int) (r_b : Int) (r_text : List UInt8) (hr : (Raw.mk r_kind r_a r_b r_text).text.length ≤ 9223372036854775807) : callA tab (callR tab) d dst 17 [.d (.int .i64 (k)), .d (.agg [.int .i64 r_kind, .int .i64 r_a, .int .i64 r_b, .str r_text])] S = some (.d ((mkVal k (Raw.mk r_kind r_a r_b r_text)).dv), S) :=
  ca_ret (ds := [.int .i64 (k), .agg [.int .i64 r_kind, .int .i64 r_a, .int .i64 r_b, .str r_text]]) (ret_Value k (Raw.mk r_kind r_a r_b r_text) hr) rfl (tab_opn (by kernel_rfl)) (tab_res (by kernel_rfl))
def txtChk (s : Str) : Int := if (s.length : Int) > 40 then 1 else if s.all (fun c => !(decide ((c.toNat : Int) < 32) || decide ((c.toNat : Int) > 126))) = true then 0 else 3
theorem ret_checkText (s : Str) : Ret tab 103 [.d (.str (s))] (.d (.int .i64 (txtChk s))) := by
  refine ret_of (42) fn103 rfl rfl ?_
  by_cases h40 : (s.length : Int) > 40
  · have b1 : decide ((40 : Int) < (s.length : Int)) = true := decide_eq_true h40
    simp only [amr, amc, amp, if_true, if_false, ne_eq, gt_iff_lt, Option.getD, argsT, Option.bind, Option.map, List.headD, List.tail, opnsL, List.replicate, lendsL, seval, ty_Val_103, b1]
    repeat' ((first | refine good_ci (fun h => ?_) (fun h => ?_) | refine good_cgt (fun h => ?_) (fun h => ?_) | refine good_cgf (fun h => ?_) (fun h => ?_) | refine good_cqgt (fun h => ?_) (fun h => ?_) | refine good_cqgf (fun h => ?_) (fun h => ?_)) <;> simp only [amr, amc, amp, if_true, if_false, ne_eq, gt_iff_lt, Option.getD, argsT, Option.bind, Option.map, List.headD, List.tail, opnsL, List.replicate, lendsL, seval, ty_Val_103, b1, h])
    all_goals simp_all [txtChk]
  · have b1 : decide ((40 : Int) < (s.length : Int)) = false := decide_eq_false h40
    simp only [amr, amc, amp, if_true, if_false, ne_eq, gt_iff_lt, Option.getD, argsT, Option.bind, Option.map, List.headD, List.tail, opnsL, List.replicate, lendsL, seval, ty_Val_103, b1]
    have hc : txtChk s = if s.all (fun c => !(decide ((c.toNat : Int) < 32) || decide ((c.toNat : Int) > 126))) = true then 0 else 3 := by unfold txtChk; rw [if_neg h40]
    refine good_loopR (α := Nat) (fun i => i ≤ s.length ∧ s.all (fun c => !(decide ((c.toNat : Int) < 32) || decide ((c.toNat : Int) > 126))) = (s.drop i).all (fun c => !(decide ((c.toNat : Int) < 32) || decide ((c.toNat : Int) > 126))))
      (fun i => ⟨[(0, .d (.str s)), (8, .d (.int .i64 s.length)), (9, .d (.int .i64 i))], [], []⟩) (fun i => s.length - i)
      (fun _ o S => (txtChk s = 3 ∧ EX .ret ⟨[(2, .d (.int .i64 3))], [], []⟩ o S) ∨ (txtChk s = 0 ∧ EX (.exit 0) ⟨[], [], []⟩ o S)) 0 kp103_4 (fun _ => up_or (up_and up_ex) (up_and up_ex)) ⟨Nat.zero_le _, rfl⟩ (show s.length - 0 < 42 by omega) ?_ ?_ ?_
    · rintro i ⟨hi, heq⟩
      by_cases h1 : i < s.length
      · have hb : decide ((i : Int) < (s.length : Int)) = true := decide_eq_true (by omega)
        have hget : s[i]? = some s[i] := List.getElem?_eq_getElem h1
        have hd : s.drop i = s[i] :: s.drop (i + 1) := List.drop_eq_getElem_cons h1
        have w1 : IntKind.i64.wrap ((i : Int) + 1) = (i : Int) + 1 := wrap_in (by omega) (by omega)
        rw [hd, List.all_cons] at heq
        cases c1 : decide ((s[i].toNat : Int) < 32) with
        | true =>
          rw [c1] at heq
          simp only [amr, amc, amp, if_true, if_false, ne_eq, gt_iff_lt, Option.getD, argsT, Option.bind, Option.map, List.headD, List.tail, opnsL, List.replicate, lendsL, seval, ty_Val_103, hb, hget, c1]
          refine loop_end (by simp) (.inl ⟨by rw [hc, heq]; rfl, rfl, ?_⟩)
          (first | exact sub_mk subT_nil | skip) <;> (try simp only [amr, amc, amp, if_true, if_false, ne_eq, gt_iff_lt, Option.getD, argsT, Option.bind, Option.map, List.headD, List.tail, opnsL, List.replicate, lendsL, seval]) <;> exact sub_mk (by repeat first | exact subT_nil | refine subT_cons (by first | rfl | simp [Tm.get, *]) ?_)
        | false =>
          cases c2 : decide ((126 : Int) < (s[i].toNat : Int)) with
          | true =>
            have c2' : decide ((s[i].toNat : Int) > 126) = true := c2
            rw [c1, c2'] at heq
            simp only [amr, amc, amp, if_true, if_false, ne_eq, gt_iff_lt, Option.getD, argsT, Option.bind, Option.map, List.headD, List.tail, opnsL, List.replicate, lendsL, seval, ty_Val_103, hb, hget, c1, c2]
            refine loop_end (by simp) (.inl ⟨by rw [hc, heq]; rfl, rfl, ?_⟩)
            (first | exact sub_mk subT_nil | skip) <;> (try simp only [amr, amc, amp, if_true, if_false, ne_eq, gt_iff_lt, Option.getD, argsT, Option.bind, Option.map, List.headD, List.tail, opnsL, List.replicate, lendsL, seval]) <;> exact sub_mk (by repeat first | exact subT_nil | refine subT_cons (by first | rfl | simp [Tm.get, *]) ?_)
          | false =>
            have c2' : decide ((s[i].toNat : Int) > 126) = false := c2
            rw [c1, c2'] at heq
            simp only [Bool.or_self, Bool.not_false, Bool.true_and] at heq
            simp only [amr, amc, amp, if_true, if_false, ne_eq, gt_iff_lt, Option.getD, argsT, Option.bind, Option.map, List.headD, List.tail, opnsL, List.replicate, lendsL, seval, ty_Val_103, hb, hget, c1, c2, w1]
            refine loop_nrm (i + 1) ⟨by omega, heq⟩ (show s.length - (i + 1) < s.length - i by omega) (fun _ _ h => h) ?_
            (first | exact sub_mk subT_nil | skip) <;> (try simp only [amr, amc, amp, if_true, if_false, ne_eq, gt_iff_lt, Option.getD, argsT, Option.bind, Option.map, List.headD, List.tail, opnsL, List.replicate, lendsL, seval]) <;> exact sub_mk (by repeat first | exact subT_nil | refine subT_cons (by first | rfl | simp [Tm.get, *]) ?_)
      · have hb : decide ((i : Int) < (s.length : Int)) = false := decide_eq_false (by omega)
        have hdn : s.drop i = [] := List.drop_eq_nil_of_le (by omega)
        rw [hdn, List.all_nil] at heq
        simp only [amr, amc, amp, if_true, if_false, ne_eq, gt_iff_lt, Option.getD, argsT, Option.bind, Option.map, List.headD, List.tail, opnsL, List.replicate, lendsL, seval, ty_Val_103, hb]
        refine loop_end (by simp) (.inr ⟨by rw [hc, heq]; rfl, rfl, ?_⟩)
        (first | exact sub_mk subT_nil | skip) <;> (try simp only [amr, amc, amp, if_true, if_false, ne_eq, gt_iff_lt, Option.getD, argsT, Option.bind, Option.map, List.headD, List.tail, opnsL, List.replicate, lendsL, seval]) <;> exact sub_mk (by repeat first | exact subT_nil | refine subT_cons (by first | rfl | simp [Tm.get, *]) ?_)
    · (first | exact sub_mk subT_nil | skip) <;> (try simp only [amr, amc, amp, if_true, if_false, ne_eq, gt_iff_lt, Option.getD, argsT, Option.bind, Option.map, List.headD, List.tail, opnsL, List.replicate, lendsL, seval]) <;> exact sub_mk (by repeat first | exact subT_nil | refine subT_cons (by first | rfl | simp [Tm.get, *]) ?_)
    · rintro o S' (⟨hv, rfl, hs⟩ | ⟨hv, rfl, hs⟩)
      · refine good_sub_cr up_fin hs ?_
        rw [hv]
        simp only [amr, amc, amp, if_true, if_false, ne_eq, gt_iff_lt, Option.getD, argsT, Option.bind, Option.map, List.headD, List.tail, opnsL, List.replicate, lendsL, seval, ty_Val_103]
        repeat' ((first | refine good_ci (fun h => ?_) (fun h => ?_) | refine good_cgt (fun h => ?_) (fun h => ?_) | refine good_cgf (fun h => ?_) (fun h => ?_) | refine good_cqgt (fun h => ?_) (fun h => ?_) | refine good_cqgf (fun h => ?_) (fun h => ?_)) <;> simp only [amr, amc, amp, if_true, if_false, ne_eq, gt_iff_lt, Option.getD, argsT, Option.bind, Option.map, List.headD, List.tail, opnsL, List.replicate, lendsL, seval, ty_Val_103, h])
      · refine good_sub_cr up_fin hs ?_
        rw [hv]
        simp only [amr, amc, amp, if_true, if_false, ne_eq, gt_iff_lt, Option.getD, argsT, Option.bind, Option.map, List.headD, List.tail, opnsL, List.replicate, lendsL, seval, ty_Val_103]
        repeat' ((first | refine good_ci (fun h => ?_) (fun h => ?_) | refine good_cgt (fun h => ?_) (fun h => ?_) | refine good_cgf (fun h => ?_) (fun h => ?_) | refine good_cqgt (fun h => ?_) (fun h => ?_) | refine good_cqgf (fun h => ?_) (fun h => ?_)) <;> simp only [amr, amc, amp, if_true, if_false, ne_eq, gt_iff_lt, Option.getD, argsT, Option.bind, Option.map, List.headD, List.tail, opnsL, List.replicate, lendsL, seval, ty_Val_103, h])
theorem ca_checkText {d dst : Nat} {S : St} (s : Str) : callA tab (callR tab) d dst 103 [.d (.str (s))] S = some (.d (.int .i64 (txtChk s)), S) :=
  ca_ret (ds := [.str (s)]) (ret_checkText s) rfl (tab_opn (by kernel_rfl)) (tab_res (by kernel_rfl))
def valTail (v : Val) : Int := if (v.s == []) = true then 0 else 3
def valChk (v : Val) : Int := if v.kind = 1 then (if chk v.n = 0 then valTail v else chk v.n) else if v.kind = 2 then (if v.n = 0 ∨ v.n = 1 then valTail v else 4) else if v.kind = 3 then (if v.n = 0 then txtChk v.s else 4)
  else if v.kind = 4 then (if v.n = 0 then valTail v else 4) else if v.kind = 5 then (if v.n < 1 ∨ v.n > 15 then 4 else valTail v) else 2
theorem ret_VCheck (v : Val) : Ret tab 81 [.d (v.dv)] (.d (.int .i64 (valChk v))) := by
  refine ret_of (1) fn81 rfl rfl ?_
  simp only [amr, amc, amp, if_true, if_false, ne_eq, gt_iff_lt, Option.getD, argsT, Option.bind, Option.map, List.headD, List.tail, opnsL, List.replicate, lendsL, seval, ty_Val_81, Val.dv, ca_Check, ca_checkText]
  repeat' ((first | refine good_ci (fun h => ?_) (fun h => ?_) | refine good_cgt (fun h => ?_) (fun h => ?_) | refine good_cgf (fun h => ?_) (fun h => ?_) | refine good_cqgt (fun h => ?_) (fun h => ?_) | refine good_cqgf (fun h => ?_) (fun h => ?_)) <;> simp only [amr, amc, amp, if_true, if_false, ne_eq, gt_iff_lt, Option.getD, argsT, Option.bind, Option.map, List.headD, List.tail, opnsL, List.replicate, lendsL, seval, ty_Val_81, Val.dv, ca_Check, ca_checkText, h])
  all_goals (simp_all [valChk, valTail])
theorem cf_VCheck {d dst : Nat} {S : St} (v : Val) : callA tab (callR tab) d dst 81 [.d (v.dv)] S = some (.d (.int .i64 (valChk v)), S) :=
  ca_ret (ds := [v.dv]) (ret_VCheck v) rfl (tab_opn (by kernel_rfl)) (tab_res (by kernel_rfl))
theorem ca_VCheck {d dst : Nat} {S : St} (v_kind : Int) (v_n : Int) (v_s : List UInt8) : callA tab (callR tab) d dst 81 [.d (.agg [.int .i64 v_kind, .int .i64 v_n, .str v_s])] S = some (.d (.int .i64 (valChk (Val.mk v_kind v_n v_s))), S) :=
  ca_ret (ds := [.agg [.int .i64 v_kind, .int .i64 v_n, .str v_s]]) (ret_VCheck (Val.mk v_kind v_n v_s)) rfl (tab_opn (by kernel_rfl)) (tab_res (by kernel_rfl))
def valKnown (v : Val) : Bool := decide (v.kind ≥ 1) && decide (v.kind ≤ 3) && (valChk v == 0)
theorem ret_Known (v : Val) : Ret tab 48 [.d (v.dv)] (.d (.bool (valKnown v))) := by
  refine ret_of (1) fn48 rfl rfl ?_
  simp only [amr, amc, amp, if_true, if_false, ne_eq, gt_iff_lt, Option.getD, argsT, Option.bind, Option.map, List.headD, List.tail, opnsL, List.replicate, lendsL, seval, ty_Val_48, Val.dv, ca_VCheck v.kind v.n v.s]
  repeat' ((first | refine good_ci (fun h => ?_) (fun h => ?_) | refine good_cgt (fun h => ?_) (fun h => ?_) | refine good_cgf (fun h => ?_) (fun h => ?_) | refine good_cqgt (fun h => ?_) (fun h => ?_) | refine good_cqgf (fun h => ?_) (fun h => ?_)) <;> simp only [amr, amc, amp, if_true, if_false, ne_eq, gt_iff_lt, Option.getD, argsT, Option.bind, Option.map, List.headD, List.tail, opnsL, List.replicate, lendsL, seval, ty_Val_48, Val.dv, ca_VCheck v.kind v.n v.s, h])
  all_goals (first | (simp_all [valKnown]; done) | (simp_all [valKnown]; omega))
theorem cf_Known {d dst : Nat} {S : St} (v : Val) : callA tab (callR tab) d dst 48 [.d (v.dv)] S = some (.d (.bool (valKnown v)), S) :=
  ca_ret (ds := [v.dv]) (ret_Known v) rfl (tab_opn (by kernel_rfl)) (tab_res (by kernel_rfl))
theorem ca_Known {d dst : Nat} {S : St} (v_kind : Int) (v_n : Int) (v_s : List UInt8) : callA tab (callR tab) d dst 48 [.d (.agg [.int .i64 v_kind, .int .i64 v_n, .str v_s])] S = some (.d (.bool (valKnown (Val.mk v_kind v_n v_s))), S) :=
  ca_ret (ds := [.agg [.int .i64 v_kind, .int .i64 v_n, .str v_s]]) (ret_Known (Val.mk v_kind v_n v_s)) rfl (tab_opn (by kernel_rfl)) (tab_res (by kernel_rfl))
end Go.Proofs.Ytnombkkfijlkfaa.Am
