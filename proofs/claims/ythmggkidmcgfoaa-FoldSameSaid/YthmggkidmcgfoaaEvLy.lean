/- Ops on values. -/
import Derived.Test.YthmggkidmcgfoaaGenL
set_option linter.unusedVariables false
set_option linter.unusedSimpArgs false
namespace Go.Proofs.Ythmggkidmcgfoaa.Am
open Go Go.RowKit
theorem ty_EvA_31 : type_of% (ai (ai (ai (ai @rs31 (ai @lv31_0 @lv31_1)) (ai (ai @und3 @sz3) (ai @ag3 @lv3))) (ai (ai @inf3 (ai @und9 @sz9)) (ai (ai @ag9 @lv9) (ai @inf9 @und24)))) (ai (ai (ai @sz24 (ai @ag24 @fo24)) (ai (ai @bA24 @pT24_0) (ai @pT24_1 @pT24_2))) (ai (ai @lv24 (ai @inf24 @und32)) (ai (ai @sz32 @ag32) (ai @lv32 @inf32))))) := (ai (ai (ai (ai @rs31 (ai @lv31_0 @lv31_1)) (ai (ai @und3 @sz3) (ai @ag3 @lv3))) (ai (ai @inf3 (ai @und9 @sz9)) (ai (ai @ag9 @lv9) (ai @inf9 @und24)))) (ai (ai (ai @sz24 (ai @ag24 @fo24)) (ai (ai @bA24 @pT24_0) (ai @pT24_1 @pT24_2))) (ai (ai @lv24 (ai @inf24 @und32)) (ai (ai @sz32 @ag32) (ai @lv32 @inf32)))))
theorem ty_EvA_44 : type_of% (ai (ai (ai (ai @rs44 (ai @lv44_0 @lv44_1)) (ai (ai @lv44_2 @lv44_3) (ai @und3 @sz3))) (ai (ai (ai @ag3 @lv3) (ai @inf3 @und4)) (ai (ai @sz4 @ag4) (ai @lv4 @inf4)))) (ai (ai (ai @und9 (ai @sz9 @ag9)) (ai (ai @lv9 @inf9) (ai @und24 @sz24))) (ai (ai (ai @ag24 @fo24) (ai @bA24 @pT24_0)) (ai (ai @pT24_1 @pT24_2) (ai @lv24 @inf24))))) := (ai (ai (ai (ai @rs44 (ai @lv44_0 @lv44_1)) (ai (ai @lv44_2 @lv44_3) (ai @und3 @sz3))) (ai (ai (ai @ag3 @lv3) (ai @inf3 @und4)) (ai (ai @sz4 @ag4) (ai @lv4 @inf4)))) (ai (ai (ai @und9 (ai @sz9 @ag9)) (ai (ai @lv9 @inf9) (ai @und24 @sz24))) (ai (ai (ai @ag24 @fo24) (ai @bA24 @pT24_0)) (ai (ai @pT24_1 @pT24_2) (ai @lv24 @inf24)))))
theorem ty_EvA_45 : type_of% (ai (ai (ai (ai (ai @rs45 @lv45_0) (ai @lv45_1 (ai @lv45_2 @lv45_3))) (ai (ai @lv45_4 @lv45_5) (ai @lv45_6 (ai @lv45_7 @kp45_2)))) (ai (ai (ai @und3 @sz3) (ai @ag3 (ai @lv3 @inf3))) (ai (ai @und4 @sz4) (ai @ag4 (ai @lv4 @inf4))))) (ai (ai (ai (ai @und9 @sz9) (ai @ag9 (ai @lv9 @inf9))) (ai (ai @und24 @sz24) (ai @ag24 (ai @fo24 @bA24)))) (ai (ai (ai @pT24_0 @pT24_1) (ai @pT24_2 (ai @lv24 @inf24))) (ai (ai @und79 @sz79) (ai @ag79 (ai @pT79 @inf79)))))) := (ai (ai (ai (ai (ai @rs45 @lv45_0) (ai @lv45_1 (ai @lv45_2 @lv45_3))) (ai (ai @lv45_4 @lv45_5) (ai @lv45_6 (ai @lv45_7 @kp45_2)))) (ai (ai (ai @und3 @sz3) (ai @ag3 (ai @lv3 @inf3))) (ai (ai @und4 @sz4) (ai @ag4 (ai @lv4 @inf4))))) (ai (ai (ai (ai @und9 @sz9) (ai @ag9 (ai @lv9 @inf9))) (ai (ai @und24 @sz24) (ai @ag24 (ai @fo24 @bA24)))) (ai (ai (ai @pT24_0 @pT24_1) (ai @pT24_2 (ai @lv24 @inf24))) (ai (ai @und79 @sz79) (ai @ag79 (ai @pT79 @inf79))))))
theorem ty_EvA_43 : type_of% (ai (ai (ai (ai (ai @rs43 (ai @lv43_0 @ro24_2_value_go_126)) (ai @ro24_3_value_go_126 (ai @lv43_1 @lv43_2))) (ai (ai @dr43_3 (ai @lv43_3 @und1)) (ai (ai @sz1 @ag1) (ai @inf1 @und2)))) (ai (ai (ai @sz2 (ai @ag2 @lv2)) (ai @inf2 (ai @und3 @sz3))) (ai (ai @ag3 (ai @lv3 @inf3)) (ai (ai @und4 @sz4) (ai @ag4 @lv4))))) (ai (ai (ai (ai @inf4 (ai @und9 @sz9)) (ai @ag9 (ai @lv9 @inf9))) (ai (ai @und24 (ai @sz24 @ag24)) (ai (ai @fo24 @bA24) (ai @pT24_0 @pT24_1)))) (ai (ai (ai @pT24_2 (ai @lv24 @inf24)) (ai @und32 (ai @sz32 @ag32))) (ai (ai @lv32 (ai @inf32 @und70)) (ai (ai @sz70 @ag70) (ai @pT70 @inf70)))))) := (ai (ai (ai (ai (ai @rs43 (ai @lv43_0 @ro24_2_value_go_126)) (ai @ro24_3_value_go_126 (ai @lv43_1 @lv43_2))) (ai (ai @dr43_3 (ai @lv43_3 @und1)) (ai (ai @sz1 @ag1) (ai @inf1 @und2)))) (ai (ai (ai @sz2 (ai @ag2 @lv2)) (ai @inf2 (ai @und3 @sz3))) (ai (ai @ag3 (ai @lv3 @inf3)) (ai (ai @und4 @sz4) (ai @ag4 @lv4))))) (ai (ai (ai (ai @inf4 (ai @und9 @sz9)) (ai @ag9 (ai @lv9 @inf9))) (ai (ai @und24 (ai @sz24 @ag24)) (ai (ai @fo24 @bA24) (ai @pT24_0 @pT24_1)))) (ai (ai (ai @pT24_2 (ai @lv24 @inf24)) (ai @und32 (ai @sz32 @ag32))) (ai (ai @lv32 (ai @inf32 @und70)) (ai (ai @sz70 @ag70) (ai @pT70 @inf70))))))
set_option maxRecDepth 100000
set_option maxHeartbeats 40000000

def fault (e : Int) : Val := ⟨5, e, []⟩
theorem ret_fault (e : Int) : Ret tab 31 [.d (.int .i64 (e))] (.d ((fault e).dv)) := by
  refine ret_of (1) fn31 rfl rfl ?_
  simp only [amr, amc, amp, if_true, if_false, ne_eq, gt_iff_lt, Option.getD, argsT, Option.bind, Option.map, List.headD, List.tail, opnsL, List.replicate, lendsL, seval, ty_EvA_31, fault, Val.dv]
  repeat' ((first | refine good_ci (fun h => ?_) (fun h => ?_) | refine good_cgt (fun h => ?_) (fun h => ?_) | refine good_cgf (fun h => ?_) (fun h => ?_) | refine good_cqgt (fun h => ?_) (fun h => ?_) | refine good_cqgf (fun h => ?_) (fun h => ?_)) <;> simp only [amr, amc, amp, if_true, if_false, ne_eq, gt_iff_lt, Option.getD, argsT, Option.bind, Option.map, List.headD, List.tail, opnsL, List.replicate, lendsL, seval, ty_EvA_31, fault, Val.dv, h])
  all_goals (simp)
theorem ca_fault {d dst : Nat} {S : St} (e : Int) : callA tab (callR tab) d dst 31 [.d (.int .i64 (e))] S = some (.d ((fault e).dv), S) :=
  ca_ret (ds := [.int .i64 (e)]) (ret_fault e) rfl (tab_opn (by kernel_rfl)) (tab_res (by kernel_rfl))
def truthV (b : Bool) : Val := ⟨2, if b = true then 1 else 0, []⟩
theorem ret_truthV (b : Bool) : Ret tab 44 [.d (.bool (b))] (.d ((truthV b).dv)) := by
  refine ret_of (1) fn44 rfl rfl ?_
  simp only [amr, amc, amp, if_true, if_false, ne_eq, gt_iff_lt, Option.getD, argsT, Option.bind, Option.map, List.headD, List.tail, opnsL, List.replicate, lendsL, seval, ty_EvA_44, truthV, Val.dv]
  repeat' ((first | refine good_ci (fun h => ?_) (fun h => ?_) | refine good_cgt (fun h => ?_) (fun h => ?_) | refine good_cgf (fun h => ?_) (fun h => ?_) | refine good_cqgt (fun h => ?_) (fun h => ?_) | refine good_cqgf (fun h => ?_) (fun h => ?_)) <;> simp only [amr, amc, amp, if_true, if_false, ne_eq, gt_iff_lt, Option.getD, argsT, Option.bind, Option.map, List.headD, List.tail, opnsL, List.replicate, lendsL, seval, ty_EvA_44, truthV, Val.dv, h])
  all_goals (simp_all [truthV, Val.dv])
theorem ca_truthV {d dst : Nat} {S : St} (b : Bool) : callA tab (callR tab) d dst 44 [.d (.bool (b))] S = some (.d ((truthV b).dv), S) :=
  ca_ret (ds := [.bool (b)]) (ret_truthV b) rfl (tab_opn (by kernel_rfl)) (tab_res (by kernel_rfl))
def kindsV (l : List Val) (k : Int) : Bool := l.all fun v => v.kind == k
theorem ret_kinds (l : List Val) (k : Int) (hl : l.length ≤ 1048576) : Ret tab 45 [.d (.sl 3 (l.map Val.dv)), .d (.int .i64 (k))] (.d (.bool (kindsV l k))) := by
  refine ret_of (l.length + 1) fn45 rfl rfl ?_
  simp only [amr, amc, amp, if_true, if_false, ne_eq, gt_iff_lt, Option.getD, argsT, Option.bind, Option.map, List.headD, List.tail, opnsL, List.replicate, lendsL, seval, ty_EvA_45]
  refine good_range l (fun n (_ : Unit) g => ⟨[(1, .d (.int .i64 k)), (7, .d (.sl 3 (l.map Val.dv))), (8, .d (.int .i64 l.length)), (9, .d (.int .i64 (n : Nat)))], [], g⟩) (fun _ _ => True) (fun _ _ r => (if kindsV r k = true then .inr () else .inl false : Sum Bool Unit))
    (QO' (fun e => [(4, .d (.bool e))]) (.exit 0) []) () kp45_2 up_qo' trivial (by omega) (by omega) ?_ ?_ ?_ ?_
  · rintro n a g x rest hk hget hd _ hb w1
    have hget' : (l.map Val.dv)[n]? = some x.dv := by rw [List.getElem?_map, hget]; rfl
    have hS : kindsV (x :: rest) k = ((x.kind == k) && kindsV rest k) := by simp [kindsV]
    have hbn : (x.kind != k) = !(x.kind == k) := rfl
    cases hc : (x.kind == k) with
    | true =>
      simp only [amr, amc, amp, if_true, if_false, ne_eq, gt_iff_lt, Option.getD, argsT, Option.bind, Option.map, List.headD, List.tail, opnsL, List.replicate, lendsL, seval, ty_EvA_45, Val.dv, hb, hget', w1, hbn, hc]
      refine step_nrm () trivial ?_ ?_
      · rw [hS, hc, Bool.true_and]
      · (apply Exists.intro; (try simp only [amr, amc, amp, if_true, if_false, ne_eq, gt_iff_lt, Option.getD, argsT, Option.bind, Option.map, List.headD, List.tail, opnsL, List.replicate, lendsL, seval]); exact sub_mk (by repeat first | exact subT_nil | refine subT_cons (by first | rfl | simp [Tm.get, *]) ?_))
    | false =>
      simp only [amr, amc, amp, if_true, if_false, ne_eq, gt_iff_lt, Option.getD, argsT, Option.bind, Option.map, List.headD, List.tail, opnsL, List.replicate, lendsL, seval, ty_EvA_45, Val.dv, hb, hget', w1, hbn, hc]
      refine step_end (r := .inl false) (by simp) ?_ ⟨rfl, ?_⟩
      · rw [hS, hc]; rfl
      · (apply Exists.intro; apply Exists.intro; (try simp only [amr, amc, amp, if_true, if_false, ne_eq, gt_iff_lt, Option.getD, argsT, Option.bind, Option.map, List.headD, List.tail, opnsL, List.replicate, lendsL, seval]); exact sub_mk (by repeat first | exact subT_nil | refine subT_cons (by first | rfl | simp [Tm.get, *]) ?_))
  · intro a g _ hb
    simp only [amr, amc, amp, if_true, if_false, ne_eq, gt_iff_lt, Option.getD, argsT, Option.bind, Option.map, List.headD, List.tail, opnsL, List.replicate, lendsL, seval, ty_EvA_45, hb]
    refine last_end (by simp) ?_
    have : kindsV [] k = true := rfl
    rw [if_pos this]
    refine ⟨rfl, ?_⟩
    (apply Exists.intro; (try simp only [amr, amc, amp, if_true, if_false, ne_eq, gt_iff_lt, Option.getD, argsT, Option.bind, Option.map, List.headD, List.tail, opnsL, List.replicate, lendsL, seval]); exact sub_mk (by repeat first | exact subT_nil | refine subT_cons (by first | rfl | simp [Tm.get, *]) ?_))
  · (apply Exists.intro; (try simp only [amr, amc, amp, if_true, if_false, ne_eq, gt_iff_lt, Option.getD, argsT, Option.bind, Option.map, List.headD, List.tail, opnsL, List.replicate, lendsL, seval]); exact sub_mk (by repeat first | exact subT_nil | refine subT_cons (by first | rfl | simp [Tm.get, *]) ?_))
  · intro o S' hq
    cases hr : kindsV l k with
    | false =>
      rw [hr] at hq
      obtain ⟨rfl, H, g, hs⟩ := hq
      refine good_sub_cr up_fin hs ?_
      simp only [amr, amc, amp, if_true, if_false, ne_eq, gt_iff_lt, Option.getD, argsT, Option.bind, Option.map, List.headD, List.tail, opnsL, List.replicate, lendsL, seval, ty_EvA_45]
    | true =>
      rw [hr] at hq
      obtain ⟨rfl, g, hs⟩ := hq
      refine good_sub_cr up_fin hs ?_
      simp only [amr, amc, amp, if_true, if_false, ne_eq, gt_iff_lt, Option.getD, argsT, Option.bind, Option.map, List.headD, List.tail, opnsL, List.replicate, lendsL, seval, ty_EvA_45]
theorem ca_kinds {d dst : Nat} {S : St} (l : List Val) (k : Int) (hl : l.length ≤ 1048576) : callA tab (callR tab) d dst 45 [.d (.sl 3 (l.map Val.dv)), .d (.int .i64 (k))] S = some (.d (.bool (kindsV l k)), S) :=
  ca_ret (ds := [.sl 3 (l.map Val.dv), .int .i64 (k)]) (ret_kinds l k hl) rfl (tab_opn (by kernel_rfl)) (tab_res (by kernel_rfl))
def cmpV (a b : Val) : Int × Int := if valKnown a = true then (if valKnown b = true then (if a.kind = b.kind then (valCmp a b, 0) else (0, 9)) else (0, 9)) else (0, 9)
theorem ret_cmpX (a b : Val) (h : ¬ (valKnown a = true ∧ valKnown b = true ∧ a.kind = b.kind)) : Ret tab 43 [.d (a.dv), .d (b.dv)] (.tup [.d (.int .i64 (0)), .d (.int .i64 (9))]) := by
  have f1 : ∀ (S : St) (d dst : Nat), callA tab (callR tab) d dst 27 [.d (.agg [.int .i64 a.kind, .int .i64 a.n, .str a.s])] S = some (.d (.bool (valKnown a)), S) := fun S d dst => ca_Known a.kind a.n a.s
  have f2 : ∀ (S : St) (d dst : Nat), callA tab (callR tab) d dst 27 [.d (.agg [.int .i64 b.kind, .int .i64 b.n, .str b.s])] S = some (.d (.bool (valKnown b)), S) := fun S d dst => ca_Known b.kind b.n b.s
  refine ret_of (1) fn43 rfl rfl ?_
  have hbn : (a.kind != b.kind) = !(a.kind == b.kind) := rfl
  have hke : a.kind = b.kind ↔ (a.kind == b.kind) = true := by simp
  rw [hke] at h
  generalize valKnown a = p at *
  generalize valKnown b = q at *
  generalize (a.kind == b.kind) = r at *
  cases p with
  | false => simp only [amr, amc, amp, if_true, if_false, ne_eq, gt_iff_lt, Option.getD, argsT, Option.bind, Option.map, List.headD, List.tail, opnsL, List.replicate, lendsL, seval, ty_EvA_43, Val.dv, f1, f2, hbn]
  | true =>
    cases q with
    | false => simp only [amr, amc, amp, if_true, if_false, ne_eq, gt_iff_lt, Option.getD, argsT, Option.bind, Option.map, List.headD, List.tail, opnsL, List.replicate, lendsL, seval, ty_EvA_43, Val.dv, f1, f2, hbn]
    | true =>
      cases r with
      | false => simp only [amr, amc, amp, if_true, if_false, ne_eq, gt_iff_lt, Option.getD, argsT, Option.bind, Option.map, List.headD, List.tail, opnsL, List.replicate, lendsL, seval, ty_EvA_43, Val.dv, f1, f2, hbn]
      | true => exact absurd ⟨rfl, rfl, rfl⟩ h
theorem cf_cmpX {d dst : Nat} {S : St} (a b : Val) (h : ¬ (valKnown a = true ∧ valKnown b = true ∧ a.kind = b.kind)) : callA tab (callR tab) d dst 43 [.d (a.dv), .d (b.dv)] S = some (.tup [.d (.int .i64 (0)), .d (.int .i64 (9))], S) :=
  ca_ret_tup (ds := [a.dv, b.dv]) (ys := [.int .i64 (0), .int .i64 (9)]) (ret_cmpX a b h) rfl (tab_opn (by kernel_rfl)) (tab_res (by kernel_rfl)) rfl
theorem ca_cmpX {d dst : Nat} {S : St} (a_kind : Int) (a_n : Int) (a_s : List UInt8) (b_kind : Int) (b_n : Int) (b_s : List UInt8) (h : ¬ (valKnown (Val.mk a_kind a_n a_s) = true ∧ valKnown (Val.mk b_kind b_n b_s) = true ∧ (Val.mk a_kind a_n a_s).kind = (Val.mk b_kind b_n b_s).kind)) : callA tab (callR tab) d dst 43 [.d (.agg [.int .i64 a_kind, .int .i64 a_n, .str a_s]), .d (.agg [.int .i64 b_kind, .int .i64 b_n, .str b_s])] S = some (.tup [.d (.int .i64 (0)), .d (.int .i64 (9))], S) :=
  ca_ret_tup (ds := [.agg [.int .i64 a_kind, .int .i64 a_n, .str a_s], .agg [.int .i64 b_kind, .int .i64 b_n, .str b_s]]) (ys := [.int .i64 (0), .int .i64 (9)]) (ret_cmpX (Val.mk a_kind a_n a_s) (Val.mk b_kind b_n b_s) h) rfl (tab_opn (by kernel_rfl)) (tab_res (by kernel_rfl)) rfl
theorem ca_cmpV {d dst : Nat} {S : St} (a b : Val) : callA tab (callR tab) d dst 43 [.d a.dv, .d b.dv] S = some (.tup [.d (.int .i64 (cmpV a b).1), .d (.int .i64 (cmpV a b).2)], S) := by
  unfold cmpV
  by_cases h1 : valKnown a = true
  · rw [if_pos h1]
    by_cases h2 : valKnown b = true
    · rw [if_pos h2]
      by_cases h3 : a.kind = b.kind
      · rw [if_pos h3]; exact cf_VCompare a b h1 h2 h3
      · rw [if_neg h3]; exact cf_cmpX a b (fun h => h3 h.2.2)
    · rw [if_neg h2]; exact cf_cmpX a b (fun h => h2 h.2.1)
  · rw [if_neg h1]; exact cf_cmpX a b (fun h => h1 h.1)
def cmpOp (op c : Int) : Bool := if op = 11 then decide (c < 0) else if op = 12 then decide (c ≤ 0) else if op = 13 then c == 0 else c != 0
def numOp (op a b : Int) : Int × Int :=
  if op = 3 then numW 0 b (IntKind.i64.wrap (0 - b)) else if op = 5 then numW a b (mulI a b) else if op = 6 then (if b = 0 then (0, 8) else numW a b (flr a b).1)
  else if op = 7 then (if b = 0 then (0, 8) else numW a b (flr a b).2) else if op = 8 then numW a b (IntKind.i64.wrap (a + b)) else numW a b (IntKind.i64.wrap (a - b))
/-- An op of one value. -/
def apply1 (op : Int) (a : Val) : Val :=
  if op = 4 then (if a.kind = 2 then truthV (a.n == 0) else fault 9) else if op = 18 then (if a.kind = 3 then ⟨1, a.s.length, []⟩ else fault 9)
  else (if a.kind = 1 then (if (numOp op a.n a.n).2 ≠ 0 then fault (numOp op a.n a.n).2 else ⟨1, (numOp op a.n a.n).1, []⟩) else fault 9)
/-- An op of two values. -/
def apply2 (op : Int) (a b : Val) : Val :=
  if 11 ≤ op then (if (cmpV a b).2 ≠ 0 then fault (cmpV a b).2 else truthV (cmpOp op (cmpV a b).1))
  else if op = 10 then (if a.kind = 3 ∧ b.kind = 3 then (if a.s.length + b.s.length > 40 then fault 1 else ⟨3, 0, a.s ++ b.s⟩) else fault 9)
  else (if a.kind = 1 ∧ b.kind = 1 then (if (numOp op a.n b.n).2 ≠ 0 then fault (numOp op a.n b.n).2 else ⟨1, (numOp op a.n b.n).1, []⟩) else fault 9)
theorem kinds1 (a : Val) (k : Int) : kindsV [a] k = (a.kind == k) := by simp [kindsV]
theorem kinds2 (a b : Val) (k : Int) : kindsV [a, b] k = ((a.kind == k) && (b.kind == k)) := by simp [kindsV]
end Go.Proofs.Ythmggkidmcgfoaa.Am
/- Ops on values, walked. -/
set_option linter.unusedVariables false
set_option linter.unusedSimpArgs false
namespace Go.Proofs.Ythmggkidmcgfoaa.Am
open Go Go.RowKit
theorem ty_EvB_35 : type_of% (ai (ai (ai (ai (ai (ai @rs35 @lv35_0) (ai @lv35_1 (ai @lv35_2 @lv35_3))) (ai (ai @lv35_4 @lv35_5) (ai @dr35_6 (ai @lv35_6 @lv35_7)))) (ai (ai (ai @lv35_8 @lv35_9) (ai @lv35_10 (ai @lv35_11 @lv35_12))) (ai (ai @lv35_13 (ai @lv35_14 @lv35_15)) (ai @lv35_16 (ai @lv35_17 @lv35_18))))) (ai (ai (ai (ai @lv35_19 @dr35_20) (ai @lv35_20 (ai @lv35_21 @dr35_22))) (ai (ai @lv35_22 (ai @lv35_23 @lv35_24)) (ai @lv35_25 (ai @dr35_26 @lv35_26)))) (ai (ai (ai @lv35_27 @lv35_28) (ai @lv35_29 (ai @lv35_30 @lv35_31))) (ai (ai @lv35_32 (ai @und1 @sz1)) (ai @ag1 (ai @inf1 @und2)))))) (ai (ai (ai (ai (ai @sz2 @ag2) (ai @lv2 (ai @inf2 @und3))) (ai (ai @sz3 (ai @ag3 @lv3)) (ai @inf3 (ai @und4 @sz4)))) (ai (ai (ai @ag4 @lv4) (ai @inf4 (ai @und9 @sz9))) (ai (ai @ag9 (ai @lv9 @inf9)) (ai @und24 (ai @sz24 @ag24))))) (ai (ai (ai (ai @fo24 @bA24) (ai @pT24_0 (ai @pT24_1 @pT24_2))) (ai (ai @lv24 (ai @inf24 @und32)) (ai @sz32 (ai @ag32 @lv32)))) (ai (ai (ai @inf32 @und79) (ai @sz79 (ai @ag79 @pT79))) (ai (ai @inf79 (ai @und95 @sz95)) (ai @ag95 (ai @inf95 @und96))))))) := (ai (ai (ai (ai (ai (ai @rs35 @lv35_0) (ai @lv35_1 (ai @lv35_2 @lv35_3))) (ai (ai @lv35_4 @lv35_5) (ai @dr35_6 (ai @lv35_6 @lv35_7)))) (ai (ai (ai @lv35_8 @lv35_9) (ai @lv35_10 (ai @lv35_11 @lv35_12))) (ai (ai @lv35_13 (ai @lv35_14 @lv35_15)) (ai @lv35_16 (ai @lv35_17 @lv35_18))))) (ai (ai (ai (ai @lv35_19 @dr35_20) (ai @lv35_20 (ai @lv35_21 @dr35_22))) (ai (ai @lv35_22 (ai @lv35_23 @lv35_24)) (ai @lv35_25 (ai @dr35_26 @lv35_26)))) (ai (ai (ai @lv35_27 @lv35_28) (ai @lv35_29 (ai @lv35_30 @lv35_31))) (ai (ai @lv35_32 (ai @und1 @sz1)) (ai @ag1 (ai @inf1 @und2)))))) (ai (ai (ai (ai (ai @sz2 @ag2) (ai @lv2 (ai @inf2 @und3))) (ai (ai @sz3 (ai @ag3 @lv3)) (ai @inf3 (ai @und4 @sz4)))) (ai (ai (ai @ag4 @lv4) (ai @inf4 (ai @und9 @sz9))) (ai (ai @ag9 (ai @lv9 @inf9)) (ai @und24 (ai @sz24 @ag24))))) (ai (ai (ai (ai @fo24 @bA24) (ai @pT24_0 (ai @pT24_1 @pT24_2))) (ai (ai @lv24 (ai @inf24 @und32)) (ai @sz32 (ai @ag32 @lv32)))) (ai (ai (ai @inf32 @und79) (ai @sz79 (ai @ag79 @pT79))) (ai (ai @inf79 (ai @und95 @sz95)) (ai @ag95 (ai @inf95 @und96)))))))
set_option maxRecDepth 100000
set_option maxHeartbeats 40000000

theorem fk_nil {kt : TypeDesc} {k : DV} : findK kt k [] = some none := rfl
theorem fkI {j : IntKind} {a b : Int} {x : DV} {r : List (DV × DV)} : findK (.int j) (.int j a) ((.int j b, x) :: r) = if a = b then some (some x) else findK (.int j) (.int j a) r := by
  simp only [findK, sameK, if_true]
  by_cases h : a = b
  · rw [if_pos h, beq_iff_eq.2 h]
  · rw [if_neg h, beq_eq_false_iff_ne.2 h]
theorem stK_nil {kt : TypeDesc} {k x : DV} : setK kt k x [] = [(k, x)] := rfl
theorem stKI {j : IntKind} {a b : Int} {x y : DV} {r : List (DV × DV)} : setK (.int j) (.int j a) x ((.int j b, y) :: r) = if a = b then (.int j a, x) :: r else (.int j b, y) :: setK (.int j) (.int j a) x r := by
  simp only [setK, sameK, if_true]
  by_cases h : a = b
  · rw [if_pos h, if_pos (by simp [h])]
  · rw [if_neg h, if_neg (by simp [h])]
theorem chk_of {a : Val} (h : valChk a = 0) (hk : a.kind = 1) : chk a.n = 0 := by
  unfold valChk at h
  rw [if_pos hk] at h
  split at h
  · assumption
  · exact h
theorem ca_numOp {d dst : Nat} {S : St} (a b : Int) (ha : chk a = 0) :
    callA tab (callR tab) d dst 46 [.d (.int .i64 a), .d (.int .i64 b)] S = some (.tup [.d (.int .i64 (numOp 5 a b).1), .d (.int .i64 (numOp 5 a b).2)], S) ∧
    callA tab (callR tab) d dst 47 [.d (.int .i64 a), .d (.int .i64 b)] S = some (.tup [.d (.int .i64 (numOp 6 a b).1), .d (.int .i64 (numOp 6 a b).2)], S) ∧
    callA tab (callR tab) d dst 48 [.d (.int .i64 a), .d (.int .i64 b)] S = some (.tup [.d (.int .i64 (numOp 7 a b).1), .d (.int .i64 (numOp 7 a b).2)], S) ∧
    callA tab (callR tab) d dst 49 [.d (.int .i64 a), .d (.int .i64 b)] S = some (.tup [.d (.int .i64 (numOp 8 a b).1), .d (.int .i64 (numOp 8 a b).2)], S) ∧
    callA tab (callR tab) d dst 50 [.d (.int .i64 a), .d (.int .i64 b)] S = some (.tup [.d (.int .i64 (numOp 9 a b).1), .d (.int .i64 (numOp 9 a b).2)], S) := by
  refine ⟨ca_Mul a b, ?_, ?_, ca_Add a b, ca_Sub a b⟩
  · by_cases hb : b = 0
    · subst hb
      exact ca_Div0 a ha
    · have : numOp 6 a b = numW a b (flr a b).1 := by simp [numOp, hb]
      rw [this]; exact ca_Div a b hb
  · by_cases hb : b = 0
    · subst hb
      exact ca_Mod0 a ha
    · have : numOp 7 a b = numW a b (flr a b).2 := by simp [numOp, hb]
      rw [this]; exact ca_Mod a b hb
theorem ca_kinds1 {d dst : Nat} {S : St} (a : Val) (k : Int) : callA tab (callR tab) d dst 45 [.d (.sl 3 [.agg [.int .i64 a.kind, .int .i64 a.n, .str a.s]]), .d (.int .i64 k)] S = some (.d (.bool (a.kind == k)), S) := by
  rw [← kinds1]
  exact ca_kinds [a] k (by simp)
theorem ca_kinds2 {d dst : Nat} {S : St} (a b : Val) (k : Int) : callA tab (callR tab) d dst 45 [.d (.sl 3 [.agg [.int .i64 a.kind, .int .i64 a.n, .str a.s], .agg [.int .i64 b.kind, .int .i64 b.n, .str b.s]]), .d (.int .i64 k)] S = some (.d (.bool ((a.kind == k) && (b.kind == k))), S) := by
  rw [← kinds2]
  exact ca_kinds [a, b] k (by simp)
theorem ca_faultO {d dst : Nat} {S : St} (e : Int) : callA tab (callR tab) d dst 31 [.d (.int .i64 e)] S = some (.d (.agg [.int .i64 5, .int .i64 e, .str []]), S) := ca_fault e
theorem ca_truthO {d dst : Nat} {S : St} (b : Bool) : callA tab (callR tab) d dst 44 [.d (.bool b)] S = some (.d (.agg [.int .i64 2, .int .i64 (if b = true then 1 else 0), .str []]), S) := ca_truthV b
theorem ret_ap1 (op : Int) (a : Val) (hop : op = 3 ∨ op = 4 ∨ op = 18) (ha : valChk a = 0) : Ret tab 35 [.d (.int .i64 op), .d (.sl 3 [a.dv])] (.d (apply1 op a).dv) := by
  have ck := chk_of ha
  rcases hop with rfl | rfl | rfl
  · by_cases h : a.kind = 1
    · have b1 : (a.kind == 1) = true := beq_iff_eq.2 h
      have hr : apply1 3 a = if (numOp 9 0 a.n).2 ≠ 0 then fault (numOp 9 0 a.n).2 else ⟨1, (numOp 9 0 a.n).1, []⟩ := by unfold apply1; rw [if_neg (by decide), if_neg (by decide), if_pos h, show numOp 3 a.n a.n = numOp 9 0 a.n from rfl]
      have fs := fun (S : St) (d dst : Nat) => (ca_numOp (d := d) (dst := dst) (S := S) 0 a.n rfl).2.2.2.2
      rw [hr]
      generalize numOp 9 0 a.n = r at *
      cases b2 : (r.2 != 0) with
      | false =>
        rw [if_neg (by simpa using b2)]
        refine ret_of 1 fn35 rfl rfl ?_
        simp only [amr, amc, amp, if_true, if_false, ne_eq, gt_iff_lt, Option.getD, argsT, Option.bind, Option.map, List.headD, List.tail, opnsL, List.replicate, lendsL, seval, ty_EvB_35, Val.dv, fault, truthV, ca_kinds1, ca_kinds2, ca_faultO, ca_truthO, fk_nil, fkI, stK_nil, stKI, (show IntKind.i64.wrap 0 = 0 from rfl), (show IntKind.i64.wrap 1 = 1 from rfl), (show IntKind.i64.wrap 2 = 2 from rfl), (show IntKind.i64.wrap 3 = 3 from rfl), (show IntKind.i64.wrap 4 = 4 from rfl), (show IntKind.i64.wrap 5 = 5 from rfl), (show IntKind.i64.wrap 6 = 6 from rfl), (show IntKind.i64.wrap 7 = 7 from rfl), (show IntKind.i64.wrap 8 = 8 from rfl), (show IntKind.i64.wrap 9 = 9 from rfl), (show IntKind.i64.wrap 10 = 10 from rfl), (show IntKind.i64.wrap 11 = 11 from rfl), (show IntKind.i64.wrap 12 = 12 from rfl), (show IntKind.i64.wrap 13 = 13 from rfl), (show IntKind.i64.wrap 14 = 14 from rfl), b1, b2, fs]
      | true =>
        rw [if_pos (by simpa using b2)]
        refine ret_of 1 fn35 rfl rfl ?_
        simp only [amr, amc, amp, if_true, if_false, ne_eq, gt_iff_lt, Option.getD, argsT, Option.bind, Option.map, List.headD, List.tail, opnsL, List.replicate, lendsL, seval, ty_EvB_35, Val.dv, fault, truthV, ca_kinds1, ca_kinds2, ca_faultO, ca_truthO, fk_nil, fkI, stK_nil, stKI, (show IntKind.i64.wrap 0 = 0 from rfl), (show IntKind.i64.wrap 1 = 1 from rfl), (show IntKind.i64.wrap 2 = 2 from rfl), (show IntKind.i64.wrap 3 = 3 from rfl), (show IntKind.i64.wrap 4 = 4 from rfl), (show IntKind.i64.wrap 5 = 5 from rfl), (show IntKind.i64.wrap 6 = 6 from rfl), (show IntKind.i64.wrap 7 = 7 from rfl), (show IntKind.i64.wrap 8 = 8 from rfl), (show IntKind.i64.wrap 9 = 9 from rfl), (show IntKind.i64.wrap 10 = 10 from rfl), (show IntKind.i64.wrap 11 = 11 from rfl), (show IntKind.i64.wrap 12 = 12 from rfl), (show IntKind.i64.wrap 13 = 13 from rfl), (show IntKind.i64.wrap 14 = 14 from rfl), b1, b2, fs]
    · have b1 : (a.kind == 1) = false := beq_eq_false_iff_ne.2 h
      have hr : apply1 3 a = fault 9 := by simp [apply1, h]
      rw [hr]
      refine ret_of 1 fn35 rfl rfl ?_
      simp only [amr, amc, amp, if_true, if_false, ne_eq, gt_iff_lt, Option.getD, argsT, Option.bind, Option.map, List.headD, List.tail, opnsL, List.replicate, lendsL, seval, ty_EvB_35, Val.dv, fault, truthV, ca_kinds1, ca_kinds2, ca_faultO, ca_truthO, fk_nil, fkI, stK_nil, stKI, (show IntKind.i64.wrap 0 = 0 from rfl), (show IntKind.i64.wrap 1 = 1 from rfl), (show IntKind.i64.wrap 2 = 2 from rfl), (show IntKind.i64.wrap 3 = 3 from rfl), (show IntKind.i64.wrap 4 = 4 from rfl), (show IntKind.i64.wrap 5 = 5 from rfl), (show IntKind.i64.wrap 6 = 6 from rfl), (show IntKind.i64.wrap 7 = 7 from rfl), (show IntKind.i64.wrap 8 = 8 from rfl), (show IntKind.i64.wrap 9 = 9 from rfl), (show IntKind.i64.wrap 10 = 10 from rfl), (show IntKind.i64.wrap 11 = 11 from rfl), (show IntKind.i64.wrap 12 = 12 from rfl), (show IntKind.i64.wrap 13 = 13 from rfl), (show IntKind.i64.wrap 14 = 14 from rfl), b1]
  · by_cases h : a.kind = 2
    · have b1 : (a.kind == 2) = true := beq_iff_eq.2 h
      have hr : apply1 4 a = truthV (a.n == 0) := by simp [apply1, h]
      rw [hr]
      refine ret_of 1 fn35 rfl rfl ?_
      simp only [amr, amc, amp, if_true, if_false, ne_eq, gt_iff_lt, Option.getD, argsT, Option.bind, Option.map, List.headD, List.tail, opnsL, List.replicate, lendsL, seval, ty_EvB_35, Val.dv, fault, truthV, ca_kinds1, ca_kinds2, ca_faultO, ca_truthO, fk_nil, fkI, stK_nil, stKI, (show IntKind.i64.wrap 0 = 0 from rfl), (show IntKind.i64.wrap 1 = 1 from rfl), (show IntKind.i64.wrap 2 = 2 from rfl), (show IntKind.i64.wrap 3 = 3 from rfl), (show IntKind.i64.wrap 4 = 4 from rfl), (show IntKind.i64.wrap 5 = 5 from rfl), (show IntKind.i64.wrap 6 = 6 from rfl), (show IntKind.i64.wrap 7 = 7 from rfl), (show IntKind.i64.wrap 8 = 8 from rfl), (show IntKind.i64.wrap 9 = 9 from rfl), (show IntKind.i64.wrap 10 = 10 from rfl), (show IntKind.i64.wrap 11 = 11 from rfl), (show IntKind.i64.wrap 12 = 12 from rfl), (show IntKind.i64.wrap 13 = 13 from rfl), (show IntKind.i64.wrap 14 = 14 from rfl), b1]
    · have b1 : (a.kind == 2) = false := beq_eq_false_iff_ne.2 h
      have hr : apply1 4 a = fault 9 := by simp [apply1, h]
      rw [hr]
      refine ret_of 1 fn35 rfl rfl ?_
      simp only [amr, amc, amp, if_true, if_false, ne_eq, gt_iff_lt, Option.getD, argsT, Option.bind, Option.map, List.headD, List.tail, opnsL, List.replicate, lendsL, seval, ty_EvB_35, Val.dv, fault, truthV, ca_kinds1, ca_kinds2, ca_faultO, ca_truthO, fk_nil, fkI, stK_nil, stKI, (show IntKind.i64.wrap 0 = 0 from rfl), (show IntKind.i64.wrap 1 = 1 from rfl), (show IntKind.i64.wrap 2 = 2 from rfl), (show IntKind.i64.wrap 3 = 3 from rfl), (show IntKind.i64.wrap 4 = 4 from rfl), (show IntKind.i64.wrap 5 = 5 from rfl), (show IntKind.i64.wrap 6 = 6 from rfl), (show IntKind.i64.wrap 7 = 7 from rfl), (show IntKind.i64.wrap 8 = 8 from rfl), (show IntKind.i64.wrap 9 = 9 from rfl), (show IntKind.i64.wrap 10 = 10 from rfl), (show IntKind.i64.wrap 11 = 11 from rfl), (show IntKind.i64.wrap 12 = 12 from rfl), (show IntKind.i64.wrap 13 = 13 from rfl), (show IntKind.i64.wrap 14 = 14 from rfl), b1]
  · by_cases h : a.kind = 3
    · have b1 : (a.kind == 3) = true := beq_iff_eq.2 h
      have hr : apply1 18 a = ⟨1, a.s.length, []⟩ := by simp [apply1, h]
      rw [hr]
      refine ret_of 1 fn35 rfl rfl ?_
      simp only [amr, amc, amp, if_true, if_false, ne_eq, gt_iff_lt, Option.getD, argsT, Option.bind, Option.map, List.headD, List.tail, opnsL, List.replicate, lendsL, seval, ty_EvB_35, Val.dv, fault, truthV, ca_kinds1, ca_kinds2, ca_faultO, ca_truthO, fk_nil, fkI, stK_nil, stKI, (show IntKind.i64.wrap 0 = 0 from rfl), (show IntKind.i64.wrap 1 = 1 from rfl), (show IntKind.i64.wrap 2 = 2 from rfl), (show IntKind.i64.wrap 3 = 3 from rfl), (show IntKind.i64.wrap 4 = 4 from rfl), (show IntKind.i64.wrap 5 = 5 from rfl), (show IntKind.i64.wrap 6 = 6 from rfl), (show IntKind.i64.wrap 7 = 7 from rfl), (show IntKind.i64.wrap 8 = 8 from rfl), (show IntKind.i64.wrap 9 = 9 from rfl), (show IntKind.i64.wrap 10 = 10 from rfl), (show IntKind.i64.wrap 11 = 11 from rfl), (show IntKind.i64.wrap 12 = 12 from rfl), (show IntKind.i64.wrap 13 = 13 from rfl), (show IntKind.i64.wrap 14 = 14 from rfl), b1]
    · have b1 : (a.kind == 3) = false := beq_eq_false_iff_ne.2 h
      have hr : apply1 18 a = fault 9 := by simp [apply1, h]
      rw [hr]
      refine ret_of 1 fn35 rfl rfl ?_
      simp only [amr, amc, amp, if_true, if_false, ne_eq, gt_iff_lt, Option.getD, argsT, Option.bind, Option.map, List.headD, List.tail, opnsL, List.replicate, lendsL, seval, ty_EvB_35, Val.dv, fault, truthV, ca_kinds1, ca_kinds2, ca_faultO, ca_truthO, fk_nil, fkI, stK_nil, stKI, (show IntKind.i64.wrap 0 = 0 from rfl), (show IntKind.i64.wrap 1 = 1 from rfl), (show IntKind.i64.wrap 2 = 2 from rfl), (show IntKind.i64.wrap 3 = 3 from rfl), (show IntKind.i64.wrap 4 = 4 from rfl), (show IntKind.i64.wrap 5 = 5 from rfl), (show IntKind.i64.wrap 6 = 6 from rfl), (show IntKind.i64.wrap 7 = 7 from rfl), (show IntKind.i64.wrap 8 = 8 from rfl), (show IntKind.i64.wrap 9 = 9 from rfl), (show IntKind.i64.wrap 10 = 10 from rfl), (show IntKind.i64.wrap 11 = 11 from rfl), (show IntKind.i64.wrap 12 = 12 from rfl), (show IntKind.i64.wrap 13 = 13 from rfl), (show IntKind.i64.wrap 14 = 14 from rfl), b1]
theorem ret_ap2 (op : Int) (a b : Val) (h5 : 5 ≤ op) (h14 : op ≤ 14) (ha : valChk a = 0) (hsa : a.s.length ≤ 1000) (hsb : b.s.length ≤ 1000) : Ret tab 35 [.d (.int .i64 op), .d (.sl 3 [a.dv, b.dv])] (.d (apply2 op a b).dv) := by
  have ck := chk_of ha
  have fc : ∀ (S : St) (d dst : Nat), callA tab (callR tab) d dst 43 [.d (.agg [.int .i64 a.kind, .int .i64 a.n, .str a.s]), .d (.agg [.int .i64 b.kind, .int .i64 b.n, .str b.s])] S = some (.tup [.d (.int .i64 (cmpV a b).1), .d (.int .i64 (cmpV a b).2)], S) := fun S d dst => ca_cmpV a b
  have hop : op = 5 ∨ op = 6 ∨ op = 7 ∨ op = 8 ∨ op = 9 ∨ op = 10 ∨ op = 11 ∨ op = 12 ∨ op = 13 ∨ op = 14 := by omega
  clear h5 h14
  rcases hop with rfl | rfl | rfl | rfl | rfl | rfl | rfl | rfl | rfl | rfl
  · cases b1 : ((a.kind == 1) && (b.kind == 1)) with
    | false =>
      have hr : apply2 5 a b = fault 9 := by
        unfold apply2; rw [if_neg (by decide), if_neg (by decide), if_neg (by simpa using b1)]
      rw [hr]
      refine ret_of 1 fn35 rfl rfl ?_
      simp only [amr, amc, amp, if_true, if_false, ne_eq, gt_iff_lt, Option.getD, argsT, Option.bind, Option.map, List.headD, List.tail, opnsL, List.replicate, lendsL, seval, ty_EvB_35, Val.dv, fault, truthV, ca_kinds1, ca_kinds2, ca_faultO, ca_truthO, fk_nil, fkI, stK_nil, stKI, (show IntKind.i64.wrap 0 = 0 from rfl), (show IntKind.i64.wrap 1 = 1 from rfl), (show IntKind.i64.wrap 2 = 2 from rfl), (show IntKind.i64.wrap 3 = 3 from rfl), (show IntKind.i64.wrap 4 = 4 from rfl), (show IntKind.i64.wrap 5 = 5 from rfl), (show IntKind.i64.wrap 6 = 6 from rfl), (show IntKind.i64.wrap 7 = 7 from rfl), (show IntKind.i64.wrap 8 = 8 from rfl), (show IntKind.i64.wrap 9 = 9 from rfl), (show IntKind.i64.wrap 10 = 10 from rfl), (show IntKind.i64.wrap 11 = 11 from rfl), (show IntKind.i64.wrap 12 = 12 from rfl), (show IntKind.i64.wrap 13 = 13 from rfl), (show IntKind.i64.wrap 14 = 14 from rfl), b1]
    | true =>
      have hk : a.kind = 1 ∧ b.kind = 1 := by simpa using b1
      have hr : apply2 5 a b = if (numOp 5 a.n b.n).2 ≠ 0 then fault (numOp 5 a.n b.n).2 else ⟨1, (numOp 5 a.n b.n).1, []⟩ := by
        unfold apply2; rw [if_neg (by decide), if_neg (by decide), if_pos hk]
      have fs := fun (S : St) (d dst : Nat) => (ca_numOp (d := d) (dst := dst) (S := S) a.n b.n (ck hk.1)).1
      rw [hr]
      generalize numOp 5 a.n b.n = r at *
      cases b2 : (r.2 != 0) with
      | false =>
        rw [if_neg (by simpa using b2)]
        refine ret_of 1 fn35 rfl rfl ?_
        simp only [amr, amc, amp, if_true, if_false, ne_eq, gt_iff_lt, Option.getD, argsT, Option.bind, Option.map, List.headD, List.tail, opnsL, List.replicate, lendsL, seval, ty_EvB_35, Val.dv, fault, truthV, ca_kinds1, ca_kinds2, ca_faultO, ca_truthO, fk_nil, fkI, stK_nil, stKI, (show IntKind.i64.wrap 0 = 0 from rfl), (show IntKind.i64.wrap 1 = 1 from rfl), (show IntKind.i64.wrap 2 = 2 from rfl), (show IntKind.i64.wrap 3 = 3 from rfl), (show IntKind.i64.wrap 4 = 4 from rfl), (show IntKind.i64.wrap 5 = 5 from rfl), (show IntKind.i64.wrap 6 = 6 from rfl), (show IntKind.i64.wrap 7 = 7 from rfl), (show IntKind.i64.wrap 8 = 8 from rfl), (show IntKind.i64.wrap 9 = 9 from rfl), (show IntKind.i64.wrap 10 = 10 from rfl), (show IntKind.i64.wrap 11 = 11 from rfl), (show IntKind.i64.wrap 12 = 12 from rfl), (show IntKind.i64.wrap 13 = 13 from rfl), (show IntKind.i64.wrap 14 = 14 from rfl), b1, b2, fs]
      | true =>
        rw [if_pos (by simpa using b2)]
        refine ret_of 1 fn35 rfl rfl ?_
        simp only [amr, amc, amp, if_true, if_false, ne_eq, gt_iff_lt, Option.getD, argsT, Option.bind, Option.map, List.headD, List.tail, opnsL, List.replicate, lendsL, seval, ty_EvB_35, Val.dv, fault, truthV, ca_kinds1, ca_kinds2, ca_faultO, ca_truthO, fk_nil, fkI, stK_nil, stKI, (show IntKind.i64.wrap 0 = 0 from rfl), (show IntKind.i64.wrap 1 = 1 from rfl), (show IntKind.i64.wrap 2 = 2 from rfl), (show IntKind.i64.wrap 3 = 3 from rfl), (show IntKind.i64.wrap 4 = 4 from rfl), (show IntKind.i64.wrap 5 = 5 from rfl), (show IntKind.i64.wrap 6 = 6 from rfl), (show IntKind.i64.wrap 7 = 7 from rfl), (show IntKind.i64.wrap 8 = 8 from rfl), (show IntKind.i64.wrap 9 = 9 from rfl), (show IntKind.i64.wrap 10 = 10 from rfl), (show IntKind.i64.wrap 11 = 11 from rfl), (show IntKind.i64.wrap 12 = 12 from rfl), (show IntKind.i64.wrap 13 = 13 from rfl), (show IntKind.i64.wrap 14 = 14 from rfl), b1, b2, fs]
  · cases b1 : ((a.kind == 1) && (b.kind == 1)) with
    | false =>
      have hr : apply2 6 a b = fault 9 := by
        unfold apply2; rw [if_neg (by decide), if_neg (by decide), if_neg (by simpa using b1)]
      rw [hr]
      refine ret_of 1 fn35 rfl rfl ?_
      simp only [amr, amc, amp, if_true, if_false, ne_eq, gt_iff_lt, Option.getD, argsT, Option.bind, Option.map, List.headD, List.tail, opnsL, List.replicate, lendsL, seval, ty_EvB_35, Val.dv, fault, truthV, ca_kinds1, ca_kinds2, ca_faultO, ca_truthO, fk_nil, fkI, stK_nil, stKI, (show IntKind.i64.wrap 0 = 0 from rfl), (show IntKind.i64.wrap 1 = 1 from rfl), (show IntKind.i64.wrap 2 = 2 from rfl), (show IntKind.i64.wrap 3 = 3 from rfl), (show IntKind.i64.wrap 4 = 4 from rfl), (show IntKind.i64.wrap 5 = 5 from rfl), (show IntKind.i64.wrap 6 = 6 from rfl), (show IntKind.i64.wrap 7 = 7 from rfl), (show IntKind.i64.wrap 8 = 8 from rfl), (show IntKind.i64.wrap 9 = 9 from rfl), (show IntKind.i64.wrap 10 = 10 from rfl), (show IntKind.i64.wrap 11 = 11 from rfl), (show IntKind.i64.wrap 12 = 12 from rfl), (show IntKind.i64.wrap 13 = 13 from rfl), (show IntKind.i64.wrap 14 = 14 from rfl), b1]
    | true =>
      have hk : a.kind = 1 ∧ b.kind = 1 := by simpa using b1
      have hr : apply2 6 a b = if (numOp 6 a.n b.n).2 ≠ 0 then fault (numOp 6 a.n b.n).2 else ⟨1, (numOp 6 a.n b.n).1, []⟩ := by
        unfold apply2; rw [if_neg (by decide), if_neg (by decide), if_pos hk]
      have fs := fun (S : St) (d dst : Nat) => (ca_numOp (d := d) (dst := dst) (S := S) a.n b.n (ck hk.1)).2.1
      rw [hr]
      generalize numOp 6 a.n b.n = r at *
      cases b2 : (r.2 != 0) with
      | false =>
        rw [if_neg (by simpa using b2)]
        refine ret_of 1 fn35 rfl rfl ?_
        simp only [amr, amc, amp, if_true, if_false, ne_eq, gt_iff_lt, Option.getD, argsT, Option.bind, Option.map, List.headD, List.tail, opnsL, List.replicate, lendsL, seval, ty_EvB_35, Val.dv, fault, truthV, ca_kinds1, ca_kinds2, ca_faultO, ca_truthO, fk_nil, fkI, stK_nil, stKI, (show IntKind.i64.wrap 0 = 0 from rfl), (show IntKind.i64.wrap 1 = 1 from rfl), (show IntKind.i64.wrap 2 = 2 from rfl), (show IntKind.i64.wrap 3 = 3 from rfl), (show IntKind.i64.wrap 4 = 4 from rfl), (show IntKind.i64.wrap 5 = 5 from rfl), (show IntKind.i64.wrap 6 = 6 from rfl), (show IntKind.i64.wrap 7 = 7 from rfl), (show IntKind.i64.wrap 8 = 8 from rfl), (show IntKind.i64.wrap 9 = 9 from rfl), (show IntKind.i64.wrap 10 = 10 from rfl), (show IntKind.i64.wrap 11 = 11 from rfl), (show IntKind.i64.wrap 12 = 12 from rfl), (show IntKind.i64.wrap 13 = 13 from rfl), (show IntKind.i64.wrap 14 = 14 from rfl), b1, b2, fs]
      | true =>
        rw [if_pos (by simpa using b2)]
        refine ret_of 1 fn35 rfl rfl ?_
        simp only [amr, amc, amp, if_true, if_false, ne_eq, gt_iff_lt, Option.getD, argsT, Option.bind, Option.map, List.headD, List.tail, opnsL, List.replicate, lendsL, seval, ty_EvB_35, Val.dv, fault, truthV, ca_kinds1, ca_kinds2, ca_faultO, ca_truthO, fk_nil, fkI, stK_nil, stKI, (show IntKind.i64.wrap 0 = 0 from rfl), (show IntKind.i64.wrap 1 = 1 from rfl), (show IntKind.i64.wrap 2 = 2 from rfl), (show IntKind.i64.wrap 3 = 3 from rfl), (show IntKind.i64.wrap 4 = 4 from rfl), (show IntKind.i64.wrap 5 = 5 from rfl), (show IntKind.i64.wrap 6 = 6 from rfl), (show IntKind.i64.wrap 7 = 7 from rfl), (show IntKind.i64.wrap 8 = 8 from rfl), (show IntKind.i64.wrap 9 = 9 from rfl), (show IntKind.i64.wrap 10 = 10 from rfl), (show IntKind.i64.wrap 11 = 11 from rfl), (show IntKind.i64.wrap 12 = 12 from rfl), (show IntKind.i64.wrap 13 = 13 from rfl), (show IntKind.i64.wrap 14 = 14 from rfl), b1, b2, fs]
  · cases b1 : ((a.kind == 1) && (b.kind == 1)) with
    | false =>
      have hr : apply2 7 a b = fault 9 := by
        unfold apply2; rw [if_neg (by decide), if_neg (by decide), if_neg (by simpa using b1)]
      rw [hr]
      refine ret_of 1 fn35 rfl rfl ?_
      simp only [amr, amc, amp, if_true, if_false, ne_eq, gt_iff_lt, Option.getD, argsT, Option.bind, Option.map, List.headD, List.tail, opnsL, List.replicate, lendsL, seval, ty_EvB_35, Val.dv, fault, truthV, ca_kinds1, ca_kinds2, ca_faultO, ca_truthO, fk_nil, fkI, stK_nil, stKI, (show IntKind.i64.wrap 0 = 0 from rfl), (show IntKind.i64.wrap 1 = 1 from rfl), (show IntKind.i64.wrap 2 = 2 from rfl), (show IntKind.i64.wrap 3 = 3 from rfl), (show IntKind.i64.wrap 4 = 4 from rfl), (show IntKind.i64.wrap 5 = 5 from rfl), (show IntKind.i64.wrap 6 = 6 from rfl), (show IntKind.i64.wrap 7 = 7 from rfl), (show IntKind.i64.wrap 8 = 8 from rfl), (show IntKind.i64.wrap 9 = 9 from rfl), (show IntKind.i64.wrap 10 = 10 from rfl), (show IntKind.i64.wrap 11 = 11 from rfl), (show IntKind.i64.wrap 12 = 12 from rfl), (show IntKind.i64.wrap 13 = 13 from rfl), (show IntKind.i64.wrap 14 = 14 from rfl), b1]
    | true =>
      have hk : a.kind = 1 ∧ b.kind = 1 := by simpa using b1
      have hr : apply2 7 a b = if (numOp 7 a.n b.n).2 ≠ 0 then fault (numOp 7 a.n b.n).2 else ⟨1, (numOp 7 a.n b.n).1, []⟩ := by
        unfold apply2; rw [if_neg (by decide), if_neg (by decide), if_pos hk]
      have fs := fun (S : St) (d dst : Nat) => (ca_numOp (d := d) (dst := dst) (S := S) a.n b.n (ck hk.1)).2.2.1
      rw [hr]
      generalize numOp 7 a.n b.n = r at *
      cases b2 : (r.2 != 0) with
      | false =>
        rw [if_neg (by simpa using b2)]
        refine ret_of 1 fn35 rfl rfl ?_
        simp only [amr, amc, amp, if_true, if_false, ne_eq, gt_iff_lt, Option.getD, argsT, Option.bind, Option.map, List.headD, List.tail, opnsL, List.replicate, lendsL, seval, ty_EvB_35, Val.dv, fault, truthV, ca_kinds1, ca_kinds2, ca_faultO, ca_truthO, fk_nil, fkI, stK_nil, stKI, (show IntKind.i64.wrap 0 = 0 from rfl), (show IntKind.i64.wrap 1 = 1 from rfl), (show IntKind.i64.wrap 2 = 2 from rfl), (show IntKind.i64.wrap 3 = 3 from rfl), (show IntKind.i64.wrap 4 = 4 from rfl), (show IntKind.i64.wrap 5 = 5 from rfl), (show IntKind.i64.wrap 6 = 6 from rfl), (show IntKind.i64.wrap 7 = 7 from rfl), (show IntKind.i64.wrap 8 = 8 from rfl), (show IntKind.i64.wrap 9 = 9 from rfl), (show IntKind.i64.wrap 10 = 10 from rfl), (show IntKind.i64.wrap 11 = 11 from rfl), (show IntKind.i64.wrap 12 = 12 from rfl), (show IntKind.i64.wrap 13 = 13 from rfl), (show IntKind.i64.wrap 14 = 14 from rfl), b1, b2, fs]
      | true =>
        rw [if_pos (by simpa using b2)]
        refine ret_of 1 fn35 rfl rfl ?_
        simp only [amr, amc, amp, if_true, if_false, ne_eq, gt_iff_lt, Option.getD, argsT, Option.bind, Option.map, List.headD, List.tail, opnsL, List.replicate, lendsL, seval, ty_EvB_35, Val.dv, fault, truthV, ca_kinds1, ca_kinds2, ca_faultO, ca_truthO, fk_nil, fkI, stK_nil, stKI, (show IntKind.i64.wrap 0 = 0 from rfl), (show IntKind.i64.wrap 1 = 1 from rfl), (show IntKind.i64.wrap 2 = 2 from rfl), (show IntKind.i64.wrap 3 = 3 from rfl), (show IntKind.i64.wrap 4 = 4 from rfl), (show IntKind.i64.wrap 5 = 5 from rfl), (show IntKind.i64.wrap 6 = 6 from rfl), (show IntKind.i64.wrap 7 = 7 from rfl), (show IntKind.i64.wrap 8 = 8 from rfl), (show IntKind.i64.wrap 9 = 9 from rfl), (show IntKind.i64.wrap 10 = 10 from rfl), (show IntKind.i64.wrap 11 = 11 from rfl), (show IntKind.i64.wrap 12 = 12 from rfl), (show IntKind.i64.wrap 13 = 13 from rfl), (show IntKind.i64.wrap 14 = 14 from rfl), b1, b2, fs]
  · cases b1 : ((a.kind == 1) && (b.kind == 1)) with
    | false =>
      have hr : apply2 8 a b = fault 9 := by
        unfold apply2; rw [if_neg (by decide), if_neg (by decide), if_neg (by simpa using b1)]
      rw [hr]
      refine ret_of 1 fn35 rfl rfl ?_
      simp only [amr, amc, amp, if_true, if_false, ne_eq, gt_iff_lt, Option.getD, argsT, Option.bind, Option.map, List.headD, List.tail, opnsL, List.replicate, lendsL, seval, ty_EvB_35, Val.dv, fault, truthV, ca_kinds1, ca_kinds2, ca_faultO, ca_truthO, fk_nil, fkI, stK_nil, stKI, (show IntKind.i64.wrap 0 = 0 from rfl), (show IntKind.i64.wrap 1 = 1 from rfl), (show IntKind.i64.wrap 2 = 2 from rfl), (show IntKind.i64.wrap 3 = 3 from rfl), (show IntKind.i64.wrap 4 = 4 from rfl), (show IntKind.i64.wrap 5 = 5 from rfl), (show IntKind.i64.wrap 6 = 6 from rfl), (show IntKind.i64.wrap 7 = 7 from rfl), (show IntKind.i64.wrap 8 = 8 from rfl), (show IntKind.i64.wrap 9 = 9 from rfl), (show IntKind.i64.wrap 10 = 10 from rfl), (show IntKind.i64.wrap 11 = 11 from rfl), (show IntKind.i64.wrap 12 = 12 from rfl), (show IntKind.i64.wrap 13 = 13 from rfl), (show IntKind.i64.wrap 14 = 14 from rfl), b1]
    | true =>
      have hk : a.kind = 1 ∧ b.kind = 1 := by simpa using b1
      have hr : apply2 8 a b = if (numOp 8 a.n b.n).2 ≠ 0 then fault (numOp 8 a.n b.n).2 else ⟨1, (numOp 8 a.n b.n).1, []⟩ := by
        unfold apply2; rw [if_neg (by decide), if_neg (by decide), if_pos hk]
      have fs := fun (S : St) (d dst : Nat) => (ca_numOp (d := d) (dst := dst) (S := S) a.n b.n (ck hk.1)).2.2.2.1
      rw [hr]
      generalize numOp 8 a.n b.n = r at *
      cases b2 : (r.2 != 0) with
      | false =>
        rw [if_neg (by simpa using b2)]
        refine ret_of 1 fn35 rfl rfl ?_
        simp only [amr, amc, amp, if_true, if_false, ne_eq, gt_iff_lt, Option.getD, argsT, Option.bind, Option.map, List.headD, List.tail, opnsL, List.replicate, lendsL, seval, ty_EvB_35, Val.dv, fault, truthV, ca_kinds1, ca_kinds2, ca_faultO, ca_truthO, fk_nil, fkI, stK_nil, stKI, (show IntKind.i64.wrap 0 = 0 from rfl), (show IntKind.i64.wrap 1 = 1 from rfl), (show IntKind.i64.wrap 2 = 2 from rfl), (show IntKind.i64.wrap 3 = 3 from rfl), (show IntKind.i64.wrap 4 = 4 from rfl), (show IntKind.i64.wrap 5 = 5 from rfl), (show IntKind.i64.wrap 6 = 6 from rfl), (show IntKind.i64.wrap 7 = 7 from rfl), (show IntKind.i64.wrap 8 = 8 from rfl), (show IntKind.i64.wrap 9 = 9 from rfl), (show IntKind.i64.wrap 10 = 10 from rfl), (show IntKind.i64.wrap 11 = 11 from rfl), (show IntKind.i64.wrap 12 = 12 from rfl), (show IntKind.i64.wrap 13 = 13 from rfl), (show IntKind.i64.wrap 14 = 14 from rfl), b1, b2, fs]
      | true =>
        rw [if_pos (by simpa using b2)]
        refine ret_of 1 fn35 rfl rfl ?_
        simp only [amr, amc, amp, if_true, if_false, ne_eq, gt_iff_lt, Option.getD, argsT, Option.bind, Option.map, List.headD, List.tail, opnsL, List.replicate, lendsL, seval, ty_EvB_35, Val.dv, fault, truthV, ca_kinds1, ca_kinds2, ca_faultO, ca_truthO, fk_nil, fkI, stK_nil, stKI, (show IntKind.i64.wrap 0 = 0 from rfl), (show IntKind.i64.wrap 1 = 1 from rfl), (show IntKind.i64.wrap 2 = 2 from rfl), (show IntKind.i64.wrap 3 = 3 from rfl), (show IntKind.i64.wrap 4 = 4 from rfl), (show IntKind.i64.wrap 5 = 5 from rfl), (show IntKind.i64.wrap 6 = 6 from rfl), (show IntKind.i64.wrap 7 = 7 from rfl), (show IntKind.i64.wrap 8 = 8 from rfl), (show IntKind.i64.wrap 9 = 9 from rfl), (show IntKind.i64.wrap 10 = 10 from rfl), (show IntKind.i64.wrap 11 = 11 from rfl), (show IntKind.i64.wrap 12 = 12 from rfl), (show IntKind.i64.wrap 13 = 13 from rfl), (show IntKind.i64.wrap 14 = 14 from rfl), b1, b2, fs]
  · cases b1 : ((a.kind == 1) && (b.kind == 1)) with
    | false =>
      have hr : apply2 9 a b = fault 9 := by
        unfold apply2; rw [if_neg (by decide), if_neg (by decide), if_neg (by simpa using b1)]
      rw [hr]
      refine ret_of 1 fn35 rfl rfl ?_
      simp only [amr, amc, amp, if_true, if_false, ne_eq, gt_iff_lt, Option.getD, argsT, Option.bind, Option.map, List.headD, List.tail, opnsL, List.replicate, lendsL, seval, ty_EvB_35, Val.dv, fault, truthV, ca_kinds1, ca_kinds2, ca_faultO, ca_truthO, fk_nil, fkI, stK_nil, stKI, (show IntKind.i64.wrap 0 = 0 from rfl), (show IntKind.i64.wrap 1 = 1 from rfl), (show IntKind.i64.wrap 2 = 2 from rfl), (show IntKind.i64.wrap 3 = 3 from rfl), (show IntKind.i64.wrap 4 = 4 from rfl), (show IntKind.i64.wrap 5 = 5 from rfl), (show IntKind.i64.wrap 6 = 6 from rfl), (show IntKind.i64.wrap 7 = 7 from rfl), (show IntKind.i64.wrap 8 = 8 from rfl), (show IntKind.i64.wrap 9 = 9 from rfl), (show IntKind.i64.wrap 10 = 10 from rfl), (show IntKind.i64.wrap 11 = 11 from rfl), (show IntKind.i64.wrap 12 = 12 from rfl), (show IntKind.i64.wrap 13 = 13 from rfl), (show IntKind.i64.wrap 14 = 14 from rfl), b1]
    | true =>
      have hk : a.kind = 1 ∧ b.kind = 1 := by simpa using b1
      have hr : apply2 9 a b = if (numOp 9 a.n b.n).2 ≠ 0 then fault (numOp 9 a.n b.n).2 else ⟨1, (numOp 9 a.n b.n).1, []⟩ := by
        unfold apply2; rw [if_neg (by decide), if_neg (by decide), if_pos hk]
      have fs := fun (S : St) (d dst : Nat) => (ca_numOp (d := d) (dst := dst) (S := S) a.n b.n (ck hk.1)).2.2.2.2
      rw [hr]
      generalize numOp 9 a.n b.n = r at *
      cases b2 : (r.2 != 0) with
      | false =>
        rw [if_neg (by simpa using b2)]
        refine ret_of 1 fn35 rfl rfl ?_
        simp only [amr, amc, amp, if_true, if_false, ne_eq, gt_iff_lt, Option.getD, argsT, Option.bind, Option.map, List.headD, List.tail, opnsL, List.replicate, lendsL, seval, ty_EvB_35, Val.dv, fault, truthV, ca_kinds1, ca_kinds2, ca_faultO, ca_truthO, fk_nil, fkI, stK_nil, stKI, (show IntKind.i64.wrap 0 = 0 from rfl), (show IntKind.i64.wrap 1 = 1 from rfl), (show IntKind.i64.wrap 2 = 2 from rfl), (show IntKind.i64.wrap 3 = 3 from rfl), (show IntKind.i64.wrap 4 = 4 from rfl), (show IntKind.i64.wrap 5 = 5 from rfl), (show IntKind.i64.wrap 6 = 6 from rfl), (show IntKind.i64.wrap 7 = 7 from rfl), (show IntKind.i64.wrap 8 = 8 from rfl), (show IntKind.i64.wrap 9 = 9 from rfl), (show IntKind.i64.wrap 10 = 10 from rfl), (show IntKind.i64.wrap 11 = 11 from rfl), (show IntKind.i64.wrap 12 = 12 from rfl), (show IntKind.i64.wrap 13 = 13 from rfl), (show IntKind.i64.wrap 14 = 14 from rfl), b1, b2, fs]
      | true =>
        rw [if_pos (by simpa using b2)]
        refine ret_of 1 fn35 rfl rfl ?_
        simp only [amr, amc, amp, if_true, if_false, ne_eq, gt_iff_lt, Option.getD, argsT, Option.bind, Option.map, List.headD, List.tail, opnsL, List.replicate, lendsL, seval, ty_EvB_35, Val.dv, fault, truthV, ca_kinds1, ca_kinds2, ca_faultO, ca_truthO, fk_nil, fkI, stK_nil, stKI, (show IntKind.i64.wrap 0 = 0 from rfl), (show IntKind.i64.wrap 1 = 1 from rfl), (show IntKind.i64.wrap 2 = 2 from rfl), (show IntKind.i64.wrap 3 = 3 from rfl), (show IntKind.i64.wrap 4 = 4 from rfl), (show IntKind.i64.wrap 5 = 5 from rfl), (show IntKind.i64.wrap 6 = 6 from rfl), (show IntKind.i64.wrap 7 = 7 from rfl), (show IntKind.i64.wrap 8 = 8 from rfl), (show IntKind.i64.wrap 9 = 9 from rfl), (show IntKind.i64.wrap 10 = 10 from rfl), (show IntKind.i64.wrap 11 = 11 from rfl), (show IntKind.i64.wrap 12 = 12 from rfl), (show IntKind.i64.wrap 13 = 13 from rfl), (show IntKind.i64.wrap 14 = 14 from rfl), b1, b2, fs]
  · cases b1 : ((a.kind == 3) && (b.kind == 3)) with
    | false =>
      have hr : apply2 10 a b = fault 9 := by
        unfold apply2; rw [if_neg (by decide), if_pos rfl, if_neg (by simpa using b1)]
      rw [hr]
      refine ret_of 1 fn35 rfl rfl ?_
      simp only [amr, amc, amp, if_true, if_false, ne_eq, gt_iff_lt, Option.getD, argsT, Option.bind, Option.map, List.headD, List.tail, opnsL, List.replicate, lendsL, seval, ty_EvB_35, Val.dv, fault, truthV, ca_kinds1, ca_kinds2, ca_faultO, ca_truthO, fk_nil, fkI, stK_nil, stKI, (show IntKind.i64.wrap 0 = 0 from rfl), (show IntKind.i64.wrap 1 = 1 from rfl), (show IntKind.i64.wrap 2 = 2 from rfl), (show IntKind.i64.wrap 3 = 3 from rfl), (show IntKind.i64.wrap 4 = 4 from rfl), (show IntKind.i64.wrap 5 = 5 from rfl), (show IntKind.i64.wrap 6 = 6 from rfl), (show IntKind.i64.wrap 7 = 7 from rfl), (show IntKind.i64.wrap 8 = 8 from rfl), (show IntKind.i64.wrap 9 = 9 from rfl), (show IntKind.i64.wrap 10 = 10 from rfl), (show IntKind.i64.wrap 11 = 11 from rfl), (show IntKind.i64.wrap 12 = 12 from rfl), (show IntKind.i64.wrap 13 = 13 from rfl), (show IntKind.i64.wrap 14 = 14 from rfl), b1]
    | true =>
      have hk : a.kind = 3 ∧ b.kind = 3 := by simpa using b1
      have hr : apply2 10 a b = if a.s.length + b.s.length > 40 then fault 1 else ⟨3, 0, a.s ++ b.s⟩ := by
        unfold apply2; rw [if_neg (by decide), if_pos rfl, if_pos hk]
      have w1 : IntKind.i64.wrap ((a.s.length : Int) + (b.s.length : Int)) = ((a.s.length : Int) + (b.s.length : Int)) := wrap_in (by omega) (by omega)
      have k1 : (a.s.length + b.s.length ≤ 9223372036854775807) = True := eq_true (by omega)
      rw [hr]
      by_cases hl : a.s.length + b.s.length > 40
      · have b2 : decide (40 < (a.s.length : Int) + (b.s.length : Int)) = true := decide_eq_true (by omega)
        rw [if_pos hl]
        refine ret_of 1 fn35 rfl rfl ?_
        simp only [amr, amc, amp, if_true, if_false, ne_eq, gt_iff_lt, Option.getD, argsT, Option.bind, Option.map, List.headD, List.tail, opnsL, List.replicate, lendsL, seval, ty_EvB_35, Val.dv, fault, truthV, ca_kinds1, ca_kinds2, ca_faultO, ca_truthO, fk_nil, fkI, stK_nil, stKI, (show IntKind.i64.wrap 0 = 0 from rfl), (show IntKind.i64.wrap 1 = 1 from rfl), (show IntKind.i64.wrap 2 = 2 from rfl), (show IntKind.i64.wrap 3 = 3 from rfl), (show IntKind.i64.wrap 4 = 4 from rfl), (show IntKind.i64.wrap 5 = 5 from rfl), (show IntKind.i64.wrap 6 = 6 from rfl), (show IntKind.i64.wrap 7 = 7 from rfl), (show IntKind.i64.wrap 8 = 8 from rfl), (show IntKind.i64.wrap 9 = 9 from rfl), (show IntKind.i64.wrap 10 = 10 from rfl), (show IntKind.i64.wrap 11 = 11 from rfl), (show IntKind.i64.wrap 12 = 12 from rfl), (show IntKind.i64.wrap 13 = 13 from rfl), (show IntKind.i64.wrap 14 = 14 from rfl), b1, b2, w1, k1]
      · have b2 : decide (40 < (a.s.length : Int) + (b.s.length : Int)) = false := decide_eq_false (by omega)
        rw [if_neg hl]
        refine ret_of 1 fn35 rfl rfl ?_
        simp only [amr, amc, amp, if_true, if_false, ne_eq, gt_iff_lt, Option.getD, argsT, Option.bind, Option.map, List.headD, List.tail, opnsL, List.replicate, lendsL, seval, ty_EvB_35, Val.dv, fault, truthV, ca_kinds1, ca_kinds2, ca_faultO, ca_truthO, fk_nil, fkI, stK_nil, stKI, (show IntKind.i64.wrap 0 = 0 from rfl), (show IntKind.i64.wrap 1 = 1 from rfl), (show IntKind.i64.wrap 2 = 2 from rfl), (show IntKind.i64.wrap 3 = 3 from rfl), (show IntKind.i64.wrap 4 = 4 from rfl), (show IntKind.i64.wrap 5 = 5 from rfl), (show IntKind.i64.wrap 6 = 6 from rfl), (show IntKind.i64.wrap 7 = 7 from rfl), (show IntKind.i64.wrap 8 = 8 from rfl), (show IntKind.i64.wrap 9 = 9 from rfl), (show IntKind.i64.wrap 10 = 10 from rfl), (show IntKind.i64.wrap 11 = 11 from rfl), (show IntKind.i64.wrap 12 = 12 from rfl), (show IntKind.i64.wrap 13 = 13 from rfl), (show IntKind.i64.wrap 14 = 14 from rfl), b1, b2, w1, k1]
  · have hr : apply2 11 a b = if (cmpV a b).2 ≠ 0 then fault (cmpV a b).2 else truthV (decide ((cmpV a b).1 < 0)) := by
      unfold apply2; rw [if_pos (by decide)]; rfl
    rw [hr]
    generalize cmpV a b = r at *
    cases b2 : (r.2 != 0) with
    | true =>
      rw [if_pos (by simpa using b2)]
      refine ret_of 1 fn35 rfl rfl ?_
      simp only [amr, amc, amp, if_true, if_false, ne_eq, gt_iff_lt, Option.getD, argsT, Option.bind, Option.map, List.headD, List.tail, opnsL, List.replicate, lendsL, seval, ty_EvB_35, Val.dv, fault, truthV, ca_kinds1, ca_kinds2, ca_faultO, ca_truthO, fk_nil, fkI, stK_nil, stKI, (show IntKind.i64.wrap 0 = 0 from rfl), (show IntKind.i64.wrap 1 = 1 from rfl), (show IntKind.i64.wrap 2 = 2 from rfl), (show IntKind.i64.wrap 3 = 3 from rfl), (show IntKind.i64.wrap 4 = 4 from rfl), (show IntKind.i64.wrap 5 = 5 from rfl), (show IntKind.i64.wrap 6 = 6 from rfl), (show IntKind.i64.wrap 7 = 7 from rfl), (show IntKind.i64.wrap 8 = 8 from rfl), (show IntKind.i64.wrap 9 = 9 from rfl), (show IntKind.i64.wrap 10 = 10 from rfl), (show IntKind.i64.wrap 11 = 11 from rfl), (show IntKind.i64.wrap 12 = 12 from rfl), (show IntKind.i64.wrap 13 = 13 from rfl), (show IntKind.i64.wrap 14 = 14 from rfl), fc, b2]
    | false =>
      rw [if_neg (by simpa using b2)]
      cases b3 : (decide (r.1 < 0)) with
      | true =>
        refine ret_of 1 fn35 rfl rfl ?_
        simp only [amr, amc, amp, if_true, if_false, ne_eq, gt_iff_lt, Option.getD, argsT, Option.bind, Option.map, List.headD, List.tail, opnsL, List.replicate, lendsL, seval, ty_EvB_35, Val.dv, fault, truthV, ca_kinds1, ca_kinds2, ca_faultO, ca_truthO, fk_nil, fkI, stK_nil, stKI, (show IntKind.i64.wrap 0 = 0 from rfl), (show IntKind.i64.wrap 1 = 1 from rfl), (show IntKind.i64.wrap 2 = 2 from rfl), (show IntKind.i64.wrap 3 = 3 from rfl), (show IntKind.i64.wrap 4 = 4 from rfl), (show IntKind.i64.wrap 5 = 5 from rfl), (show IntKind.i64.wrap 6 = 6 from rfl), (show IntKind.i64.wrap 7 = 7 from rfl), (show IntKind.i64.wrap 8 = 8 from rfl), (show IntKind.i64.wrap 9 = 9 from rfl), (show IntKind.i64.wrap 10 = 10 from rfl), (show IntKind.i64.wrap 11 = 11 from rfl), (show IntKind.i64.wrap 12 = 12 from rfl), (show IntKind.i64.wrap 13 = 13 from rfl), (show IntKind.i64.wrap 14 = 14 from rfl), fc, b2, b3]
      | false =>
        refine ret_of 1 fn35 rfl rfl ?_
        simp only [amr, amc, amp, if_true, if_false, ne_eq, gt_iff_lt, Option.getD, argsT, Option.bind, Option.map, List.headD, List.tail, opnsL, List.replicate, lendsL, seval, ty_EvB_35, Val.dv, fault, truthV, ca_kinds1, ca_kinds2, ca_faultO, ca_truthO, fk_nil, fkI, stK_nil, stKI, (show IntKind.i64.wrap 0 = 0 from rfl), (show IntKind.i64.wrap 1 = 1 from rfl), (show IntKind.i64.wrap 2 = 2 from rfl), (show IntKind.i64.wrap 3 = 3 from rfl), (show IntKind.i64.wrap 4 = 4 from rfl), (show IntKind.i64.wrap 5 = 5 from rfl), (show IntKind.i64.wrap 6 = 6 from rfl), (show IntKind.i64.wrap 7 = 7 from rfl), (show IntKind.i64.wrap 8 = 8 from rfl), (show IntKind.i64.wrap 9 = 9 from rfl), (show IntKind.i64.wrap 10 = 10 from rfl), (show IntKind.i64.wrap 11 = 11 from rfl), (show IntKind.i64.wrap 12 = 12 from rfl), (show IntKind.i64.wrap 13 = 13 from rfl), (show IntKind.i64.wrap 14 = 14 from rfl), fc, b2, b3]
  · have hr : apply2 12 a b = if (cmpV a b).2 ≠ 0 then fault (cmpV a b).2 else truthV (decide ((cmpV a b).1 ≤ 0)) := by
      unfold apply2; rw [if_pos (by decide)]; rfl
    rw [hr]
    generalize cmpV a b = r at *
    cases b2 : (r.2 != 0) with
    | true =>
      rw [if_pos (by simpa using b2)]
      refine ret_of 1 fn35 rfl rfl ?_
      simp only [amr, amc, amp, if_true, if_false, ne_eq, gt_iff_lt, Option.getD, argsT, Option.bind, Option.map, List.headD, List.tail, opnsL, List.replicate, lendsL, seval, ty_EvB_35, Val.dv, fault, truthV, ca_kinds1, ca_kinds2, ca_faultO, ca_truthO, fk_nil, fkI, stK_nil, stKI, (show IntKind.i64.wrap 0 = 0 from rfl), (show IntKind.i64.wrap 1 = 1 from rfl), (show IntKind.i64.wrap 2 = 2 from rfl), (show IntKind.i64.wrap 3 = 3 from rfl), (show IntKind.i64.wrap 4 = 4 from rfl), (show IntKind.i64.wrap 5 = 5 from rfl), (show IntKind.i64.wrap 6 = 6 from rfl), (show IntKind.i64.wrap 7 = 7 from rfl), (show IntKind.i64.wrap 8 = 8 from rfl), (show IntKind.i64.wrap 9 = 9 from rfl), (show IntKind.i64.wrap 10 = 10 from rfl), (show IntKind.i64.wrap 11 = 11 from rfl), (show IntKind.i64.wrap 12 = 12 from rfl), (show IntKind.i64.wrap 13 = 13 from rfl), (show IntKind.i64.wrap 14 = 14 from rfl), fc, b2]
    | false =>
      rw [if_neg (by simpa using b2)]
      cases b3 : (decide (r.1 ≤ 0)) with
      | true =>
        refine ret_of 1 fn35 rfl rfl ?_
        simp only [amr, amc, amp, if_true, if_false, ne_eq, gt_iff_lt, Option.getD, argsT, Option.bind, Option.map, List.headD, List.tail, opnsL, List.replicate, lendsL, seval, ty_EvB_35, Val.dv, fault, truthV, ca_kinds1, ca_kinds2, ca_faultO, ca_truthO, fk_nil, fkI, stK_nil, stKI, (show IntKind.i64.wrap 0 = 0 from rfl), (show IntKind.i64.wrap 1 = 1 from rfl), (show IntKind.i64.wrap 2 = 2 from rfl), (show IntKind.i64.wrap 3 = 3 from rfl), (show IntKind.i64.wrap 4 = 4 from rfl), (show IntKind.i64.wrap 5 = 5 from rfl), (show IntKind.i64.wrap 6 = 6 from rfl), (show IntKind.i64.wrap 7 = 7 from rfl), (show IntKind.i64.wrap 8 = 8 from rfl), (show IntKind.i64.wrap 9 = 9 from rfl), (show IntKind.i64.wrap 10 = 10 from rfl), (show IntKind.i64.wrap 11 = 11 from rfl), (show IntKind.i64.wrap 12 = 12 from rfl), (show IntKind.i64.wrap 13 = 13 from rfl), (show IntKind.i64.wrap 14 = 14 from rfl), fc, b2, b3]
      | false =>
        refine ret_of 1 fn35 rfl rfl ?_
        simp only [amr, amc, amp, if_true, if_false, ne_eq, gt_iff_lt, Option.getD, argsT, Option.bind, Option.map, List.headD, List.tail, opnsL, List.replicate, lendsL, seval, ty_EvB_35, Val.dv, fault, truthV, ca_kinds1, ca_kinds2, ca_faultO, ca_truthO, fk_nil, fkI, stK_nil, stKI, (show IntKind.i64.wrap 0 = 0 from rfl), (show IntKind.i64.wrap 1 = 1 from rfl), (show IntKind.i64.wrap 2 = 2 from rfl), (show IntKind.i64.wrap 3 = 3 from rfl), (show IntKind.i64.wrap 4 = 4 from rfl), (show IntKind.i64.wrap 5 = 5 from rfl), (show IntKind.i64.wrap 6 = 6 from rfl), (show IntKind.i64.wrap 7 = 7 from rfl), (show IntKind.i64.wrap 8 = 8 from rfl), (show IntKind.i64.wrap 9 = 9 from rfl), (show IntKind.i64.wrap 10 = 10 from rfl), (show IntKind.i64.wrap 11 = 11 from rfl), (show IntKind.i64.wrap 12 = 12 from rfl), (show IntKind.i64.wrap 13 = 13 from rfl), (show IntKind.i64.wrap 14 = 14 from rfl), fc, b2, b3]
  · have hr : apply2 13 a b = if (cmpV a b).2 ≠ 0 then fault (cmpV a b).2 else truthV (((cmpV a b).1 == 0)) := by
      unfold apply2; rw [if_pos (by decide)]; rfl
    rw [hr]
    generalize cmpV a b = r at *
    cases b2 : (r.2 != 0) with
    | true =>
      rw [if_pos (by simpa using b2)]
      refine ret_of 1 fn35 rfl rfl ?_
      simp only [amr, amc, amp, if_true, if_false, ne_eq, gt_iff_lt, Option.getD, argsT, Option.bind, Option.map, List.headD, List.tail, opnsL, List.replicate, lendsL, seval, ty_EvB_35, Val.dv, fault, truthV, ca_kinds1, ca_kinds2, ca_faultO, ca_truthO, fk_nil, fkI, stK_nil, stKI, (show IntKind.i64.wrap 0 = 0 from rfl), (show IntKind.i64.wrap 1 = 1 from rfl), (show IntKind.i64.wrap 2 = 2 from rfl), (show IntKind.i64.wrap 3 = 3 from rfl), (show IntKind.i64.wrap 4 = 4 from rfl), (show IntKind.i64.wrap 5 = 5 from rfl), (show IntKind.i64.wrap 6 = 6 from rfl), (show IntKind.i64.wrap 7 = 7 from rfl), (show IntKind.i64.wrap 8 = 8 from rfl), (show IntKind.i64.wrap 9 = 9 from rfl), (show IntKind.i64.wrap 10 = 10 from rfl), (show IntKind.i64.wrap 11 = 11 from rfl), (show IntKind.i64.wrap 12 = 12 from rfl), (show IntKind.i64.wrap 13 = 13 from rfl), (show IntKind.i64.wrap 14 = 14 from rfl), fc, b2]
    | false =>
      rw [if_neg (by simpa using b2)]
      cases b3 : ((r.1 == 0)) with
      | true =>
        refine ret_of 1 fn35 rfl rfl ?_
        simp only [amr, amc, amp, if_true, if_false, ne_eq, gt_iff_lt, Option.getD, argsT, Option.bind, Option.map, List.headD, List.tail, opnsL, List.replicate, lendsL, seval, ty_EvB_35, Val.dv, fault, truthV, ca_kinds1, ca_kinds2, ca_faultO, ca_truthO, fk_nil, fkI, stK_nil, stKI, (show IntKind.i64.wrap 0 = 0 from rfl), (show IntKind.i64.wrap 1 = 1 from rfl), (show IntKind.i64.wrap 2 = 2 from rfl), (show IntKind.i64.wrap 3 = 3 from rfl), (show IntKind.i64.wrap 4 = 4 from rfl), (show IntKind.i64.wrap 5 = 5 from rfl), (show IntKind.i64.wrap 6 = 6 from rfl), (show IntKind.i64.wrap 7 = 7 from rfl), (show IntKind.i64.wrap 8 = 8 from rfl), (show IntKind.i64.wrap 9 = 9 from rfl), (show IntKind.i64.wrap 10 = 10 from rfl), (show IntKind.i64.wrap 11 = 11 from rfl), (show IntKind.i64.wrap 12 = 12 from rfl), (show IntKind.i64.wrap 13 = 13 from rfl), (show IntKind.i64.wrap 14 = 14 from rfl), fc, b2, b3]
      | false =>
        refine ret_of 1 fn35 rfl rfl ?_
        simp only [amr, amc, amp, if_true, if_false, ne_eq, gt_iff_lt, Option.getD, argsT, Option.bind, Option.map, List.headD, List.tail, opnsL, List.replicate, lendsL, seval, ty_EvB_35, Val.dv, fault, truthV, ca_kinds1, ca_kinds2, ca_faultO, ca_truthO, fk_nil, fkI, stK_nil, stKI, (show IntKind.i64.wrap 0 = 0 from rfl), (show IntKind.i64.wrap 1 = 1 from rfl), (show IntKind.i64.wrap 2 = 2 from rfl), (show IntKind.i64.wrap 3 = 3 from rfl), (show IntKind.i64.wrap 4 = 4 from rfl), (show IntKind.i64.wrap 5 = 5 from rfl), (show IntKind.i64.wrap 6 = 6 from rfl), (show IntKind.i64.wrap 7 = 7 from rfl), (show IntKind.i64.wrap 8 = 8 from rfl), (show IntKind.i64.wrap 9 = 9 from rfl), (show IntKind.i64.wrap 10 = 10 from rfl), (show IntKind.i64.wrap 11 = 11 from rfl), (show IntKind.i64.wrap 12 = 12 from rfl), (show IntKind.i64.wrap 13 = 13 from rfl), (show IntKind.i64.wrap 14 = 14 from rfl), fc, b2, b3]
  · have hr : apply2 14 a b = if (cmpV a b).2 ≠ 0 then fault (cmpV a b).2 else truthV (((cmpV a b).1 != 0)) := by
      unfold apply2; rw [if_pos (by decide)]; rfl
    rw [hr]
    generalize cmpV a b = r at *
    cases b2 : (r.2 != 0) with
    | true =>
      rw [if_pos (by simpa using b2)]
      refine ret_of 1 fn35 rfl rfl ?_
      simp only [amr, amc, amp, if_true, if_false, ne_eq, gt_iff_lt, Option.getD, argsT, Option.bind, Option.map, List.headD, List.tail, opnsL, List.replicate, lendsL, seval, ty_EvB_35, Val.dv, fault, truthV, ca_kinds1, ca_kinds2, ca_faultO, ca_truthO, fk_nil, fkI, stK_nil, stKI, (show IntKind.i64.wrap 0 = 0 from rfl), (show IntKind.i64.wrap 1 = 1 from rfl), (show IntKind.i64.wrap 2 = 2 from rfl), (show IntKind.i64.wrap 3 = 3 from rfl), (show IntKind.i64.wrap 4 = 4 from rfl), (show IntKind.i64.wrap 5 = 5 from rfl), (show IntKind.i64.wrap 6 = 6 from rfl), (show IntKind.i64.wrap 7 = 7 from rfl), (show IntKind.i64.wrap 8 = 8 from rfl), (show IntKind.i64.wrap 9 = 9 from rfl), (show IntKind.i64.wrap 10 = 10 from rfl), (show IntKind.i64.wrap 11 = 11 from rfl), (show IntKind.i64.wrap 12 = 12 from rfl), (show IntKind.i64.wrap 13 = 13 from rfl), (show IntKind.i64.wrap 14 = 14 from rfl), fc, b2]
    | false =>
      rw [if_neg (by simpa using b2)]
      refine ret_of 1 fn35 rfl rfl ?_
      simp only [amr, amc, amp, if_true, if_false, ne_eq, gt_iff_lt, Option.getD, argsT, Option.bind, Option.map, List.headD, List.tail, opnsL, List.replicate, lendsL, seval, ty_EvB_35, Val.dv, fault, truthV, ca_kinds1, ca_kinds2, ca_faultO, ca_truthO, fk_nil, fkI, stK_nil, stKI, (show IntKind.i64.wrap 0 = 0 from rfl), (show IntKind.i64.wrap 1 = 1 from rfl), (show IntKind.i64.wrap 2 = 2 from rfl), (show IntKind.i64.wrap 3 = 3 from rfl), (show IntKind.i64.wrap 4 = 4 from rfl), (show IntKind.i64.wrap 5 = 5 from rfl), (show IntKind.i64.wrap 6 = 6 from rfl), (show IntKind.i64.wrap 7 = 7 from rfl), (show IntKind.i64.wrap 8 = 8 from rfl), (show IntKind.i64.wrap 9 = 9 from rfl), (show IntKind.i64.wrap 10 = 10 from rfl), (show IntKind.i64.wrap 11 = 11 from rfl), (show IntKind.i64.wrap 12 = 12 from rfl), (show IntKind.i64.wrap 13 = 13 from rfl), (show IntKind.i64.wrap 14 = 14 from rfl), fc, b2]
end Go.Proofs.Ythmggkidmcgfoaa.Am
/- What formulas are: the spec. -/
set_option linter.unusedVariables false
set_option linter.unusedSimpArgs false
namespace Go.Proofs.Ythmggkidmcgfoaa.Am
open Go Go.RowKit
set_option maxRecDepth 100000
set_option maxHeartbeats 40000000


/-- What fields are, by their names. -/
abbrev VMap := List (List UInt8 × Val)
def lookV : VMap → List UInt8 → Option Val
  | [], _ => none
  | (k, v) :: r, s => if s = k then some v else lookV r s
def mdv (m : VMap) : List (DV × DV) := m.map fun e => (.str e.1, e.2.dv)
theorem fk_mdv (s : List UInt8) : ∀ m : VMap, findK .string (.str s) (mdv m) = some ((lookV m s).map Val.dv)
  | [] => rfl
  | (k, v) :: r => by
    have ih := fk_mdv s r
    show findK .string (.str s) ((.str k, v.dv) :: mdv r) = _
    unfold findK lookV
    by_cases h : s = k
    · rw [if_pos h, show sameK .string (.str s) (.str k) = some true by simp [sameK, h]]; rfl
    · rw [if_neg h, show sameK .string (.str s) (.str k) = some false by simp [sameK, h]]; exact ih
theorem stK_mdv (s : List UInt8) (v : Val) : ∀ m : VMap, lookV m s = none → setK .string (.str s) v.dv (mdv m) = mdv (m ++ [(s, v)])
  | [], _ => rfl
  | (k, w) :: r, h => by
    unfold lookV at h
    split at h
    · cases h
    · rename_i hn
      show setK .string (.str s) v.dv ((.str k, w.dv) :: mdv r) = _
      unfold setK
      rw [if_neg (by simp [sameK, hn]), stK_mdv s v r h]
      rfl
/-- The first argument of those that need not all be known. -/
def firstV (w : Val) : Val × Bool := if (w.kind == 2) = true then (w, true) else if (w.kind == 4) = true then (w, false) else if (w.kind == 5) = true then (w, false) else (fault 9, false)
def boolV (w : Val) : Val := if (w.kind == 1) = true then fault 9 else if (w.kind == 3) = true then fault 9 else w
/-- All arguments, from the left: what is no value among them. -/
def allSV : List Val → List Val → Val → Sum Val (List Val × Val)
  | [], acc, p => .inr (acc, p)
  | w :: r, acc, p => if (w.kind == 5) = true then .inl w else allSV r (acc ++ [w]) (if (w.kind == 4) = true then w else p)
def applyV (op : Int) : List Val → Val
  | [a] => apply1 op a
  | [a, b] => apply2 op a b
  | _ => Val.zero
def opV (op : Int) (vs : List Val) : Val := match allSV vs [] Val.zero with
  | .inl w => w
  | .inr (acc, p) => if p.kind ≠ 0 then p else applyV op acc
def andV (op : Int) (a b : Val) : Val := if (firstV a).2 = false then (firstV a).1 else if ((firstV a).1.n == 1) = (op == 16) then (firstV a).1 else boolV b
def ifV (a b c : Val) : Val := if (firstV a).2 = false then (firstV a).1 else if (firstV a).1.n = 1 then b else c
mutual
def evE (m : VMap) : Exp → Val
  | .mk op v name args =>
    if op = 1 then v else if op = 2 then (match lookV m name with
      | some w => w
      | none => fault 5)
    else if op = 17 then (match evL m args with
      | [a, b, c] => ifV a b c
      | _ => Val.zero)
    else if op = 15 ∨ op = 16 then (match evL m args with
      | [a, b] => andV op a b
      | _ => Val.zero)
    else opV op (evL m args)
def evL (m : VMap) : List Exp → List Val
  | [] => []
  | x :: r => evE m x :: evL m r
end
theorem evL_map (m : VMap) : ∀ l : List Exp, evL m l = l.map (evE m)
  | [] => rfl
  | x :: r => by simp [evL, evL_map m r]
/-- A value that may be. -/
def VOK (v : Val) : Prop := valChk v = 0
theorem vok_fault {e : Int} (h0 : 1 ≤ e) (h1 : e ≤ 15) : VOK (fault e) := by
  unfold VOK fault valChk
  simp only
  rw [if_neg (by decide), if_neg (by decide), if_neg (by decide), if_neg (by decide), if_pos trivial, if_neg (by omega)]
  rfl
theorem vok_truth (b : Bool) : VOK (truthV b) := by cases b <;> rfl
theorem vok_len {v : Val} (h : VOK v) : v.s.length ≤ 40 := by
  have ht : valTail v = 0 → v.s.length ≤ 40 := fun h => by
    unfold valTail at h
    split at h
    · rename_i h0; have := beq_iff_eq.1 h0; rw [this]; simp
    · cases h
  unfold VOK valChk at h
  split at h
  · split at h
    · exact ht h
    · rename_i h1; exact absurd h h1
  · split at h
    · split at h
      · exact ht h
      · cases h
    · split at h
      · split at h
        · unfold txtChk at h
          split at h
          · cases h
          · rename_i hl; omega
        · cases h
      · split at h
        · split at h
          · exact ht h
          · cases h
        · split at h
          · split at h
            · cases h
            · exact ht h
          · cases h
theorem vok_kind {v : Val} (h : VOK v) : v.kind = 1 ∨ v.kind = 2 ∨ v.kind = 3 ∨ v.kind = 4 ∨ v.kind = 5 := by
  unfold VOK valChk at h
  by_cases h1 : v.kind = 1
  · exact .inl h1
  by_cases h2 : v.kind = 2
  · exact .inr (.inl h2)
  by_cases h3 : v.kind = 3
  · exact .inr (.inr (.inl h3))
  by_cases h4 : v.kind = 4
  · exact .inr (.inr (.inr (.inl h4)))
  by_cases h5 : v.kind = 5
  · exact .inr (.inr (.inr (.inr h5)))
  rw [if_neg h1, if_neg h2, if_neg h3, if_neg h4, if_neg h5] at h
  cases h
theorem vok_bool {v : Val} (h : VOK v) (hk : v.kind = 2) : v.n = 0 ∨ v.n = 1 := by
  unfold VOK valChk at h
  rw [if_neg (by omega), if_pos hk] at h
  split at h
  · assumption
  · cases h
theorem vok_known {v : Val} (h : valKnown v = true) : VOK v := by
  simp only [valKnown, Bool.and_eq_true, beq_iff_eq] at h
  exact h.2
theorem vok_first {w : Val} (h : VOK w) : VOK (firstV w).1 ∧ ((firstV w).2 = true → (firstV w).1.kind = 2) := by
  unfold firstV
  split
  · rename_i hk; exact ⟨h, fun _ => beq_iff_eq.1 hk⟩
  · split
    · exact ⟨h, fun h => by cases h⟩
    · split
      · exact ⟨h, fun h => by cases h⟩
      · exact ⟨vok_fault (by decide) (by decide), fun h => by cases h⟩
theorem vok_boolV {w : Val} (h : VOK w) : VOK (boolV w) := by
  unfold boolV
  split
  · exact vok_fault (by decide) (by decide)
  · split
    · exact vok_fault (by decide) (by decide)
    · exact h
theorem vok_all : ∀ (vs acc : List Val) (p : Val), (∀ v ∈ vs, VOK v) → (∀ v ∈ acc, VOK v) → (p = Val.zero ∨ VOK p) → match allSV vs acc p with
    | .inl w => VOK w ∧ w.kind = 5
    | .inr (o, q) => o = acc ++ vs ∧ (∀ v ∈ o, VOK v) ∧ (q = Val.zero ∨ VOK q)
  | [], acc, p, _, ha, hp => by simp only [allSV, List.append_nil]; exact ⟨trivial, ha, hp⟩
  | w :: r, acc, p, hv, ha, hp => by
    unfold allSV
    by_cases h5 : (w.kind == 5) = true
    · rw [if_pos h5]
      exact ⟨hv w (by simp), beq_iff_eq.1 h5⟩
    · rw [if_neg h5]
      have ih := vok_all r (acc ++ [w]) (if (w.kind == 4) = true then w else p) (fun v h => hv v (by simp [h])) (fun v h => by
        rcases List.mem_append.1 h with h | h
        · exact ha v h
        · simp only [List.mem_cons, List.not_mem_nil, or_false] at h; rw [h]; exact hv w (by simp)) (by split; exact .inr (hv w (by simp)); exact hp)
      revert ih
      cases allSV r (acc ++ [w]) (if (w.kind == 4) = true then w else p) with
      | inl x => exact id
      | inr o => obtain ⟨o, q⟩ := o; simp only [List.append_assoc, List.cons_append, List.nil_append]; exact id
end Go.Proofs.Ythmggkidmcgfoaa.Am
/- What formulas are may be. -/
set_option linter.unusedVariables false
set_option linter.unusedSimpArgs false
namespace Go.Proofs.Ythmggkidmcgfoaa.Am
open Go Go.RowKit
set_option maxRecDepth 100000
set_option maxHeartbeats 40000000


theorem chk_07 (n : Int) : chk n = 0 ∨ chk n = 7 := by unfold chk; split <;> simp
theorem numW_or (a b r : Int) : ((numW a b r).2 = 0 ∧ chk (numW a b r).1 = 0) ∨ (numW a b r).2 = 7 := by
  unfold numW
  split
  · exact .inr rfl
  · split
    · rename_i h; rcases chk_07 r with h1 | h1
      · rw [h1] at h; simp at h
      · exact .inr h1
    · rename_i h; refine .inl ⟨rfl, ?_⟩; simpa using h
theorem numOp_or (op a b : Int) : ((numOp op a b).2 = 0 ∧ chk (numOp op a b).1 = 0) ∨ (numOp op a b).2 = 7 ∨ (numOp op a b).2 = 8 := by
  have h : ∀ a b r, ((numW a b r).2 = 0 ∧ chk (numW a b r).1 = 0) ∨ (numW a b r).2 = 7 ∨ (numW a b r).2 = 8 := fun a b r => (numW_or a b r).elim .inl (fun h => .inr (.inl h))
  unfold numOp
  split
  · exact h _ _ _
  · split
    · exact h _ _ _
    · split
      · split
        · exact .inr (.inr rfl)
        · exact h _ _ _
      · split
        · split
          · exact .inr (.inr rfl)
          · exact h _ _ _
        · split <;> exact h _ _ _
theorem vok_num {n : Int} (h : chk n = 0) : VOK ⟨1, n, []⟩ := by
  unfold VOK valChk
  simp only
  rw [if_pos trivial, if_pos h]
  rfl
theorem vok_numOp (op a b : Int) : VOK (if (numOp op a b).2 ≠ 0 then fault (numOp op a b).2 else ⟨1, (numOp op a b).1, []⟩) := by
  have h := numOp_or op a b
  split
  · rename_i hz
    rcases h with h | h | h
    · exact absurd h.1 hz
    · rw [h]; exact vok_fault (by decide) (by decide)
    · rw [h]; exact vok_fault (by decide) (by decide)
  · rename_i hz
    rcases h with h | h | h
    · exact vok_num h.2
    · rw [h] at hz; simp at hz
    · rw [h] at hz; simp at hz
theorem vok_txt {v : Val} (h : VOK v) (hk : v.kind = 3) : v.s.all (fun c => !(decide ((c.toNat : Int) < 32) || decide ((c.toNat : Int) > 126))) = true := by
  unfold VOK valChk at h
  rw [if_neg (by omega), if_neg (by omega), if_pos hk] at h
  split at h
  · unfold txtChk at h
    split at h
    · cases h
    · split at h
      · assumption
      · cases h
  · cases h
theorem vok_text {s : List UInt8} (hl : s.length ≤ 40) (hc : s.all (fun c => !(decide ((c.toNat : Int) < 32) || decide ((c.toNat : Int) > 126))) = true) : VOK ⟨3, 0, s⟩ := by
  unfold VOK valChk
  simp only
  rw [if_neg (by decide), if_neg (by decide), if_pos trivial, if_pos trivial]
  unfold txtChk
  rw [if_neg (by omega), if_pos hc]
theorem vok_apply1 (op : Int) {a : Val} (ha : VOK a) : VOK (apply1 op a) := by
  have hl := vok_len ha
  unfold apply1
  split
  · split
    · exact vok_truth _
    · exact vok_fault (by decide) (by decide)
  · split
    · split
      · exact vok_num (by unfold chk; rw [if_neg (by omega)])
      · exact vok_fault (by decide) (by decide)
    · split
      · exact vok_numOp op a.n a.n
      · exact vok_fault (by decide) (by decide)
theorem cmpV_or (a b : Val) : (cmpV a b).2 = 0 ∨ (cmpV a b).2 = 9 := by
  unfold cmpV
  split
  · split
    · split
      · exact .inl rfl
      · exact .inr rfl
    · exact .inr rfl
  · exact .inr rfl
theorem vok_apply2 (op : Int) {a b : Val} (ha : VOK a) (hb : VOK b) : VOK (apply2 op a b) := by
  unfold apply2
  split
  · split
    · rename_i hz
      rcases cmpV_or a b with h | h
      · exact absurd h hz
      · rw [h]; exact vok_fault (by decide) (by decide)
    · exact vok_truth _
  · split
    · split
      · rename_i hk
        split
        · exact vok_fault (by decide) (by decide)
        · rename_i hl
          exact vok_text (by rw [List.length_append]; omega) (by rw [List.all_append, vok_txt ha hk.1, vok_txt hb hk.2]; rfl)
      · exact vok_fault (by decide) (by decide)
    · split
      · exact vok_numOp op a.n b.n
      · exact vok_fault (by decide) (by decide)
/-- All fields are what they may be. -/
def MOK (m : VMap) : Prop := ∀ s v, lookV m s = some v → VOK v
theorem arity_3 {op : Int} {n : Nat} (h : (n : Int) = arity op) (ho : op = 17) : n = 3 := by subst ho; have : arity 17 = 3 := rfl; omega
theorem arity_2 {op : Int} {n : Nat} (h : (n : Int) = arity op) (ho : 5 ≤ op ∧ op ≤ 16) : n = 2 := by
  have : arity op = 2 := by unfold arity; rw [if_neg (by omega), if_neg (by omega), if_neg (by omega), if_neg (by omega), if_neg (by omega), if_neg (by omega)]
  omega
theorem arity_1 {op : Int} {n : Nat} (h : (n : Int) = arity op) (ho : op = 3 ∨ op = 4 ∨ op = 18) : n = 1 := by
  have : arity op = 1 := by rcases ho with rfl | rfl | rfl <;> rfl
  omega
theorem evL_len (m : VMap) (l : List Exp) : (evL m l).length = l.length := by rw [evL_map, List.length_map]
theorem len3 {α : Type} {l : List α} (h : l.length = 3) : ∃ a b c, l = [a, b, c] := by
  match l, h with
  | [a, b, c], _ => exact ⟨a, b, c, rfl⟩
theorem len2 {α : Type} {l : List α} (h : l.length = 2) : ∃ a b, l = [a, b] := by
  match l, h with
  | [a, b], _ => exact ⟨a, b, rfl⟩
theorem len1 {α : Type} {l : List α} (h : l.length = 1) : ∃ a, l = [a] := by
  match l, h with
  | [a], _ => exact ⟨a, rfl⟩
/-- Other ops have one argument, or two. -/
theorem op_other {op : Int} {n : Nat} (h1 : 1 ≤ op) (h18 : op ≤ 18) (h : (n : Int) = arity op) (n1 : op ≠ 1) (n2 : op ≠ 2) (n3 : op ≠ 17) (n4 : ¬ (op = 15 ∨ op = 16)) : (n = 1 ∧ (op = 3 ∨ op = 4 ∨ op = 18)) ∨ (n = 2 ∧ 5 ≤ op ∧ op ≤ 14) := by
  by_cases hc : op = 3 ∨ op = 4 ∨ op = 18
  · exact .inl ⟨arity_1 h hc, hc⟩
  · exact .inr ⟨arity_2 h (by omega), by omega⟩
theorem vok_op {op : Int} {vs : List Val} (hv : ∀ v ∈ vs, VOK v) (hn : vs.length = 1 ∨ vs.length = 2) : VOK (opV op vs) := by
  have h := vok_all vs [] Val.zero hv (fun v h => by simp at h) (.inl rfl)
  unfold opV
  cases hs : allSV vs [] Val.zero with
  | inl w => rw [hs] at h; exact h.1
  | inr o =>
    obtain ⟨o, q⟩ := o
    rw [hs] at h
    simp only [List.nil_append] at h
    obtain ⟨rfl, ho, hq⟩ := h
    simp only
    split
    · rename_i hk
      rcases hq with rfl | hq
      · exact absurd rfl hk
      · exact hq
    · rcases hn with hn | hn
      · obtain ⟨a, rfl⟩ := len1 hn
        exact vok_apply1 op (hv a (by simp))
      · obtain ⟨a, b, rfl⟩ := len2 hn
        exact vok_apply2 op (hv a (by simp)) (hv b (by simp))
mutual
theorem vok_ev {m : VMap} (hm : MOK m) : ∀ (x : Exp), x.wf → VOK (evE m x)
  | .mk op v name args, hw => by
    obtain ⟨⟨h1, h18, har, hp⟩, hw⟩ := hw
    have ih := vok_evL hm args hw
    have hlen := evL_len m args
    unfold evE
    by_cases c1 : op = 1
    · rw [if_pos c1] at hp ⊢
      exact vok_known hp.2.1
    rw [if_neg c1]
    by_cases c2 : op = 2
    · rw [if_pos c2]
      cases hl : lookV m name with
      | none => exact vok_fault (by decide) (by decide)
      | some w => exact hm name w hl
    rw [if_neg c2]
    by_cases c3 : op = 17
    · rw [if_pos c3]
      obtain ⟨a, b, c, he⟩ := len3 (by rw [hlen]; exact arity_3 har c3)
      rw [he] at ih ⊢
      simp only
      unfold ifV
      split
      · exact (vok_first (ih a (by simp))).1
      · split
        · exact ih b (by simp)
        · exact ih c (by simp)
    rw [if_neg c3]
    by_cases c4 : op = 15 ∨ op = 16
    · rw [if_pos c4]
      obtain ⟨a, b, he⟩ := len2 (by rw [hlen]; exact arity_2 har (by omega))
      rw [he] at ih ⊢
      simp only
      unfold andV
      split
      · exact (vok_first (ih a (by simp))).1
      · split
        · exact (vok_first (ih a (by simp))).1
        · exact vok_boolV (ih b (by simp))
    rw [if_neg c4]
    refine vok_op ih ?_
    rw [hlen]
    rcases op_other h1 h18 har c1 c2 c3 c4 with h | h
    · exact .inl h.1
    · exact .inr h.1
theorem vok_evL {m : VMap} (hm : MOK m) : ∀ (l : List Exp), Exp.wfL l → ∀ v ∈ evL m l, VOK v
  | [], _, v, h => by simp [evL] at h
  | x :: r, hw, v, h => by
    simp only [evL] at h
    rcases List.mem_cons.1 h with rfl | h
    · exact vok_ev hm x hw.1
    · exact vok_evL hm r hw.2 v h
end
end Go.Proofs.Ythmggkidmcgfoaa.Am
/- What formulas are, walked. -/
set_option linter.unusedVariables false
set_option linter.unusedSimpArgs false
namespace Go.Proofs.Ythmggkidmcgfoaa.Am
open Go Go.RowKit
theorem ty_EvE_32 : type_of% (ai (ai (ai (ai (ai @rs32 (ai @lv32_0 @ro27_3_eval_go_43)) (ai @lv32_1 (ai @lv32_2 @lv32_3))) (ai (ai @dr32_4 (ai @lv32_4 @und3)) (ai (ai @sz3 @ag3) (ai @lv3 @inf3)))) (ai (ai (ai @und4 (ai @sz4 @ag4)) (ai (ai @lv4 @inf4) (ai @und9 @sz9))) (ai (ai @ag9 (ai @lv9 @inf9)) (ai (ai @und24 @sz24) (ai @ag24 @fo24))))) (ai (ai (ai (ai @bA24 (ai @pT24_0 @pT24_1)) (ai @pT24_2 (ai @lv24 @inf24))) (ai (ai @und25 (ai @sz25 @ag25)) (ai (ai @pT25 @inf25) (ai @und27 @sz27)))) (ai (ai (ai @ag27 (ai @fo27 @bA27)) (ai (ai @pT27_0 @pT27_1) (ai @pT27_2 @pT27_3))) (ai (ai @inf27 (ai @und32 @sz32)) (ai (ai @ag32 @lv32) (ai @inf32 @und63)))))) := (ai (ai (ai (ai (ai @rs32 (ai @lv32_0 @ro27_3_eval_go_43)) (ai @lv32_1 (ai @lv32_2 @lv32_3))) (ai (ai @dr32_4 (ai @lv32_4 @und3)) (ai (ai @sz3 @ag3) (ai @lv3 @inf3)))) (ai (ai (ai @und4 (ai @sz4 @ag4)) (ai (ai @lv4 @inf4) (ai @und9 @sz9))) (ai (ai @ag9 (ai @lv9 @inf9)) (ai (ai @und24 @sz24) (ai @ag24 @fo24))))) (ai (ai (ai (ai @bA24 (ai @pT24_0 @pT24_1)) (ai @pT24_2 (ai @lv24 @inf24))) (ai (ai @und25 (ai @sz25 @ag25)) (ai (ai @pT25 @inf25) (ai @und27 @sz27)))) (ai (ai (ai @ag27 (ai @fo27 @bA27)) (ai (ai @pT27_0 @pT27_1) (ai @pT27_2 @pT27_3))) (ai (ai @inf27 (ai @und32 @sz32)) (ai (ai @ag32 @lv32) (ai @inf32 @und63))))))
theorem ty_EvE_33 : type_of% (ai (ai (ai (ai (ai @rs33 (ai @lv33_0 @ro27_3_eval_go_52)) (ai @lv33_1 (ai @lv33_2 @lv33_3))) (ai (ai @lv33_4 (ai @und3 @sz3)) (ai (ai @ag3 @lv3) (ai @inf3 @und4)))) (ai (ai (ai @sz4 (ai @ag4 @lv4)) (ai @inf4 (ai @und9 @sz9))) (ai (ai @ag9 (ai @lv9 @inf9)) (ai (ai @und24 @sz24) (ai @ag24 @fo24))))) (ai (ai (ai (ai @bA24 (ai @pT24_0 @pT24_1)) (ai @pT24_2 (ai @lv24 @inf24))) (ai (ai @und25 (ai @sz25 @ag25)) (ai (ai @pT25 @inf25) (ai @und27 @sz27)))) (ai (ai (ai @ag27 (ai @fo27 @bA27)) (ai (ai @pT27_0 @pT27_1) (ai @pT27_2 @pT27_3))) (ai (ai @inf27 (ai @und32 @sz32)) (ai (ai @ag32 @lv32) (ai @inf32 @und63)))))) := (ai (ai (ai (ai (ai @rs33 (ai @lv33_0 @ro27_3_eval_go_52)) (ai @lv33_1 (ai @lv33_2 @lv33_3))) (ai (ai @lv33_4 (ai @und3 @sz3)) (ai (ai @ag3 @lv3) (ai @inf3 @und4)))) (ai (ai (ai @sz4 (ai @ag4 @lv4)) (ai @inf4 (ai @und9 @sz9))) (ai (ai @ag9 (ai @lv9 @inf9)) (ai (ai @und24 @sz24) (ai @ag24 @fo24))))) (ai (ai (ai (ai @bA24 (ai @pT24_0 @pT24_1)) (ai @pT24_2 (ai @lv24 @inf24))) (ai (ai @und25 (ai @sz25 @ag25)) (ai (ai @pT25 @inf25) (ai @und27 @sz27)))) (ai (ai (ai @ag27 (ai @fo27 @bA27)) (ai (ai @pT27_0 @pT27_1) (ai @pT27_2 @pT27_3))) (ai (ai @inf27 (ai @und32 @sz32)) (ai (ai @ag32 @lv32) (ai @inf32 @und63))))))
theorem ty_EvE_34 : type_of% (ai (ai (ai (ai (ai (ai @rs34 @lv34_0) (ai @lv34_1 @lv34_2)) (ai (ai @lv34_3 @lv34_4) (ai @lv34_5 @lv34_6))) (ai (ai (ai @lv34_7 @dr34_8) (ai @lv34_8 @lv34_9)) (ai (ai @lv34_10 @lv34_11) (ai @mu79_31 (ai @lv34_12 @dr34_13))))) (ai (ai (ai (ai @lv34_13 @kp34_4) (ai @und1 @sz1)) (ai (ai @ag1 @inf1) (ai @und3 @sz3))) (ai (ai (ai @ag3 @lv3) (ai @inf3 @und4)) (ai (ai @sz4 @ag4) (ai @lv4 (ai @inf4 @und9)))))) (ai (ai (ai (ai (ai @sz9 @ag9) (ai @lv9 @inf9)) (ai (ai @und24 @sz24) (ai @ag24 @fo24))) (ai (ai (ai @bA24 @pT24_0) (ai @pT24_1 @pT24_2)) (ai (ai @lv24 @inf24) (ai @und25 (ai @sz25 @ag25))))) (ai (ai (ai (ai @pT25 @inf25) (ai @und27 @sz27)) (ai (ai @ag27 @fo27) (ai @bA27 (ai @pT27_0 @pT27_1)))) (ai (ai (ai @pT27_2 @pT27_3) (ai @inf27 @und63)) (ai (ai @und79 @sz79) (ai @ag79 (ai @pT79 @inf79))))))) := (ai (ai (ai (ai (ai (ai @rs34 @lv34_0) (ai @lv34_1 @lv34_2)) (ai (ai @lv34_3 @lv34_4) (ai @lv34_5 @lv34_6))) (ai (ai (ai @lv34_7 @dr34_8) (ai @lv34_8 @lv34_9)) (ai (ai @lv34_10 @lv34_11) (ai @mu79_31 (ai @lv34_12 @dr34_13))))) (ai (ai (ai (ai @lv34_13 @kp34_4) (ai @und1 @sz1)) (ai (ai @ag1 @inf1) (ai @und3 @sz3))) (ai (ai (ai @ag3 @lv3) (ai @inf3 @und4)) (ai (ai @sz4 @ag4) (ai @lv4 (ai @inf4 @und9)))))) (ai (ai (ai (ai (ai @sz9 @ag9) (ai @lv9 @inf9)) (ai (ai @und24 @sz24) (ai @ag24 @fo24))) (ai (ai (ai @bA24 @pT24_0) (ai @pT24_1 @pT24_2)) (ai (ai @lv24 @inf24) (ai @und25 (ai @sz25 @ag25))))) (ai (ai (ai (ai @pT25 @inf25) (ai @und27 @sz27)) (ai (ai @ag27 @fo27) (ai @bA27 (ai @pT27_0 @pT27_1)))) (ai (ai (ai @pT27_2 @pT27_3) (ai @inf27 @und63)) (ai (ai @und79 @sz79) (ai @ag79 (ai @pT79 @inf79)))))))
set_option maxRecDepth 100000
set_option maxHeartbeats 40000000


/-- A formula is walked. -/
def OfOK (m : VMap) (x : Exp) : Prop := Ret tab 21 [.d (.mp (mdv m)), .d x.dv] (.d (evE m x).dv)
theorem ca_of {m : VMap} {x : Exp} (h : OfOK m x) {d dst : Nat} {S : St} : callA tab (callR tab) d dst 21 [.d (.mp (mdv m)), .d (.agg [.int .i64 x.op, .int .i64 x.v.kind, .int .i64 x.v.n, .str x.v.s, .str x.name, .sl 6 (x.args.map Exp.dv)])] S = some (.d (.agg [.int .i64 (evE m x).kind, .int .i64 (evE m x).n, .str (evE m x).s]), S) := by
  rw [← Exp.dv_eq]
  exact ca_ret (ds := [.mp (mdv m), x.dv]) h rfl (tab_opn (by kernel_rfl)) (tab_res (by kernel_rfl))
theorem ret_first {m : VMap} (x y : Exp) (hy : x.args[0]? = some y) (h : OfOK m y) : Ret tab 32 [.d (.mp (mdv m)), .d x.dv] (.tup [.d (firstV (evE m y)).1.dv, .d (.bool (firstV (evE m y)).2)]) := by
  have f0 := fun (S : St) (d dst : Nat) => ca_of h (d := d) (dst := dst) (S := S)
  have hk := (List.getElem?_eq_some_iff.1 hy).1
  have k1 : (0 < (x.args.length : Int)) = True := eq_true (by omega)
  have hget : (x.args.map Exp.dv)[0]? = some (.agg [.int .i64 y.op, .int .i64 y.v.kind, .int .i64 y.v.n, .str y.v.s, .str y.name, .sl 6 (y.args.map Exp.dv)]) := by rw [List.getElem?_map, hy, ← Exp.dv_eq]; rfl
  rw [Exp.dv_eq x]
  generalize evE m y = w at *
  have n2 : (w.kind != 2) = !(w.kind == 2) := rfl
  have n4 : (w.kind != 4) = !(w.kind == 4) := rfl
  have n5 : (w.kind != 5) = !(w.kind == 5) := rfl
  have hF : firstV w = if (w.kind == 2) = true then (w, true) else if (w.kind == 4) = true then (w, false) else if (w.kind == 5) = true then (w, false) else (fault 9, false) := rfl
  rw [hF]
  cases b2 : (w.kind == 2) with
  | true =>
    rw [if_pos rfl]
    refine ret_of 1 fn32 rfl rfl ?_
    simp only [amr, amc, amp, if_true, if_false, ne_eq, gt_iff_lt, Option.getD, argsT, Option.bind, Option.map, List.headD, List.tail, opnsL, List.replicate, lendsL, seval, ty_EvE_32, Val.dv, f0, k1, hget, n2, b2]
  | false =>
    rw [if_neg (by decide)]
    cases b4 : (w.kind == 4) with
    | true =>
      rw [if_pos rfl]
      refine ret_of 1 fn32 rfl rfl ?_
      simp only [amr, amc, amp, if_true, if_false, ne_eq, gt_iff_lt, Option.getD, argsT, Option.bind, Option.map, List.headD, List.tail, opnsL, List.replicate, lendsL, seval, ty_EvE_32, Val.dv, f0, k1, hget, n2, n4, b2, b4]
    | false =>
      rw [if_neg (by decide)]
      cases b5 : (w.kind == 5) with
      | true =>
        rw [if_pos rfl]
        refine ret_of 1 fn32 rfl rfl ?_
        simp only [amr, amc, amp, if_true, if_false, ne_eq, gt_iff_lt, Option.getD, argsT, Option.bind, Option.map, List.headD, List.tail, opnsL, List.replicate, lendsL, seval, ty_EvE_32, Val.dv, f0, k1, hget, n2, n4, n5, b2, b4, b5]
      | false =>
        rw [if_neg (by decide)]
        refine ret_of 1 fn32 rfl rfl ?_
        simp only [amr, amc, amp, if_true, if_false, ne_eq, gt_iff_lt, Option.getD, argsT, Option.bind, Option.map, List.headD, List.tail, opnsL, List.replicate, lendsL, seval, ty_EvE_32, Val.dv, fault, ca_faultO, f0, k1, hget, n2, n4, n5, b2, b4, b5]
theorem ret_boolV {m : VMap} (x : Exp) (h : OfOK m x) : Ret tab 33 [.d (.mp (mdv m)), .d x.dv] (.d (boolV (evE m x)).dv) := by
  have f0 := fun (S : St) (d dst : Nat) => ca_of h (d := d) (dst := dst) (S := S)
  rw [Exp.dv_eq x]
  generalize evE m x = w at *
  have hF : boolV w = if (w.kind == 1) = true then fault 9 else if (w.kind == 3) = true then fault 9 else w := rfl
  rw [hF]
  cases b1 : (w.kind == 1) with
  | true =>
    rw [if_pos rfl]
    refine ret_of 1 fn33 rfl rfl ?_
    simp only [amr, amc, amp, if_true, if_false, ne_eq, gt_iff_lt, Option.getD, argsT, Option.bind, Option.map, List.headD, List.tail, opnsL, List.replicate, lendsL, seval, ty_EvE_33, Val.dv, fault, ca_faultO, f0, b1]
  | false =>
    rw [if_neg (by decide)]
    cases b3 : (w.kind == 3) with
    | true =>
      rw [if_pos rfl]
      refine ret_of 1 fn33 rfl rfl ?_
      simp only [amr, amc, amp, if_true, if_false, ne_eq, gt_iff_lt, Option.getD, argsT, Option.bind, Option.map, List.headD, List.tail, opnsL, List.replicate, lendsL, seval, ty_EvE_33, Val.dv, fault, ca_faultO, f0, b1, b3]
    | false =>
      rw [if_neg (by decide)]
      refine ret_of 1 fn33 rfl rfl ?_
      simp only [amr, amc, amp, if_true, if_false, ne_eq, gt_iff_lt, Option.getD, argsT, Option.bind, Option.map, List.headD, List.tail, opnsL, List.replicate, lendsL, seval, ty_EvE_33, Val.dv, f0, b1, b3]
/-- What a loop over arguments ends with. -/
def QA (p5 p7 : Id) : Sum Val (List Val × Val) → Out → St → Prop := fun r o S => match r with
  | .inl w => o = .ret ∧ ∃ H g, Sub ⟨[(4, .own 3 [] none), (5, .ptr p5 0)], H, g⟩ S ∧ H.get p5 = some (.box [.d (.int .i64 w.kind), .d (.int .i64 w.n), .d (.str w.s)])
  | .inr (acc, p) => o = .exit 0 ∧ ∃ t g, Sub ⟨[(5, .ptr p5 0), (6, .own 3 (acc.map Val.dv) (tokD 0 31 t)), (7, .ptr p7 0)], tokP 0 31 (acc.length * 3) t ++ [(p7, .box [.d (.int .i64 p.kind), .d (.int .i64 p.n), .d (.str p.s)]), (p5, .box [.d (.int .i64 0), .d (.int .i64 0), .d (.str [])])], g⟩ S
theorem up_qa {p5 p7 : Id} (r : Sum Val (List Val × Val)) : Up (QA p5 p7 r) := fun o S S' h hq => match r, hq with
  | .inl _, ⟨h1, H, g, h2, h3⟩ => ⟨h1, H, g, h2.trans h, h3⟩
  | .inr (_, _), ⟨h1, t, g, h2⟩ => ⟨h1, t, g, h2.trans h⟩
theorem qa_inl {p5 p7 : Id} {w : Val} {T : Tm} {H : Heap} {g : List Nat} (h : SubT [(4, .own 3 [] none), (5, .ptr p5 0)] T) (hp : H.get p5 = some (.box [.d (.int .i64 w.kind), .d (.int .i64 w.n), .d (.str w.s)])) : QA p5 p7 (.inl w) .ret ⟨T, H, g⟩ := ⟨rfl, H, g, sub_mk h, hp⟩
/-- Arguments and what is no value among them, as they are answered. -/
def allAns (r : Sum Val (List Val × Val)) : List Val × Val := match r with
  | .inl w => ([], w)
  | .inr o => o
theorem ret_all {m : VMap} (l : List Exp) (hl : l.length ≤ 1048576) (h : ∀ x ∈ l, OfOK m x) : RetT tab 34 [.d (.mp (mdv m)), .d (.sl 6 (l.map Exp.dv))] [.sl 3 ((allAns (allSV (l.map (evE m)) [] Val.zero)).1.map Val.dv), (allAns (allSV (l.map (evE m)) [] Val.zero)).2.dv] := by
  refine retq_good (l.length + 1) fn34 rfl rfl ?_
  simp only [amr, amc, amp, if_true, if_false, ne_eq, gt_iff_lt, Option.getD, argsT, Option.bind, Option.map, List.headD, List.tail, opnsL, List.replicate, lendsL, seval, ty_EvE_34]
  refine good_range l (fun k (a : List Val × Option (List Nat) × Val) g => ⟨[(0, .d (.mp (mdv m))), (5, .ptr ⟨0, 5, [0]⟩ 0), (6, .own 3 (a.1.map Val.dv) (tokD 0 31 a.2.1)), (7, .ptr ⟨0, 7, [0, 1]⟩ 0), (11, .d (.sl 6 (l.map Exp.dv))), (12, .d (.int .i64 l.length)), (13, .d (.int .i64 (k : Nat)))],
      tokP 0 31 (a.1.length * 3) a.2.1 ++ [(⟨0, 7, [0, 1]⟩, .box [.d (.int .i64 a.2.2.kind), .d (.int .i64 a.2.2.n), .d (.str a.2.2.s)]), (⟨0, 5, [0]⟩, .box [.d (.int .i64 0), .d (.int .i64 0), .d (.str [])])], g⟩) (fun k a => a.1.length ≤ k) (fun k a r => allSV (r.map (evE m)) a.1 a.2.2)
    (QA ⟨0, 5, [0]⟩ ⟨0, 7, [0, 1]⟩) ([], none, Val.zero) kp34_4 up_qa (Nat.le_refl _) (by omega) (by omega) ?_ ?_ ?_ ?_
  · rintro k ⟨acc, t, p⟩ g x rest hk hget hd hI hb w1
    have f0 := fun (S : St) (d dst : Nat) => ca_of (h x (List.mem_of_getElem? hget)) (d := d) (dst := dst) (S := S)
    have hget' : (l.map Exp.dv)[k]? = some (.agg [.int .i64 x.op, .int .i64 x.v.kind, .int .i64 x.v.n, .str x.v.s, .str x.name, .sl 6 (x.args.map Exp.dv)]) := by rw [List.getElem?_map, hget, ← Exp.dv_eq]; rfl
    simp only at hI
    have hA : ((acc.length + 1) * 32 ≤ 140737488355328) = True := eq_true (by omega)
    have hS : allSV ((x :: rest).map (evE m)) acc p = if ((evE m x).kind == 5) = true then .inl (evE m x) else allSV (rest.map (evE m)) (acc ++ [evE m x]) (if ((evE m x).kind == 4) = true then evE m x else p) := rfl
    generalize evE m x = w at *
    cases b5 : (w.kind == 5) with
    | true =>
      have hS' : allSV ((x :: rest).map (evE m)) acc p = .inl w := by rw [hS, if_pos b5]
      rcases t with _ | t
      · simp only [amr, amc, amp, if_true, if_false, ne_eq, gt_iff_lt, Option.getD, argsT, Option.bind, Option.map, List.headD, List.tail, opnsL, List.replicate, lendsL, seval, ty_EvE_34, hb, hget', f0, b5, tokD, tokP, sx1, sx2]
        refine step_end (r := .inl w) (by simp) hS' (qa_inl ?_ ?_)
        · repeat first | exact subT_nil | refine subT_cons (by first | rfl | simp [Tm.get, *]) ?_
        · simp only [Heap.get, Id.mk.injEq, Nat.reduceEqDiff, false_and, and_false, if_false, if_true, and_self]
      · simp only [amr, amc, amp, if_true, if_false, ne_eq, gt_iff_lt, Option.getD, argsT, Option.bind, Option.map, List.headD, List.tail, opnsL, List.replicate, lendsL, seval, ty_EvE_34, hb, hget', f0, b5, tokD, tokP, sx1, sx2]
        refine step_end (r := .inl w) (by simp) hS' (qa_inl ?_ ?_)
        · repeat first | exact subT_nil | refine subT_cons (by first | rfl | simp [Tm.get, *]) ?_
        · simp only [Heap.get, Id.mk.injEq, Nat.reduceEqDiff, false_and, and_false, if_false, if_true, and_self]
    | false =>
      have hS' : allSV ((x :: rest).map (evE m)) acc p = allSV (rest.map (evE m)) (acc ++ [w]) (if (w.kind == 4) = true then w else p) := by rw [hS, if_neg (by rw [b5]; decide)]
      cases b4 : (w.kind == 4) with
      | true =>
        rw [b4, if_pos rfl] at hS'
        rcases t with _ | t
        · simp only [amr, amc, amp, if_true, if_false, ne_eq, gt_iff_lt, Option.getD, argsT, Option.bind, Option.map, List.headD, List.tail, opnsL, List.replicate, lendsL, seval, ty_EvE_34, hb, hget', f0, b5, b4, tokD, tokP, hA, w1]
          refine step_nrm (acc ++ [w], some (1 :: 1 :: g), w) ?_ hS' ?_
          · simp only [List.length_append, List.length_cons, List.length_nil]; omega
          · (apply Exists.intro; (try simp only [amr, amc, amp, if_true, if_false, ne_eq, gt_iff_lt, Option.getD, argsT, Option.bind, Option.map, List.headD, List.tail, opnsL, List.replicate, lendsL, seval, tokD, tokP, Val.dv]); exact sub_mk (by repeat first | exact subT_nil | refine subT_cons (by first | rfl | simp [Tm.get, *]) ?_))
        · simp only [amr, amc, amp, if_true, if_false, ne_eq, gt_iff_lt, Option.getD, argsT, Option.bind, Option.map, List.headD, List.tail, opnsL, List.replicate, lendsL, seval, ty_EvE_34, hb, hget', f0, b5, b4, tokD, tokP, hA, w1]
          refine step_nrm (acc ++ [w], some t, w) ?_ hS' ?_
          · simp only [List.length_append, List.length_cons, List.length_nil]; omega
          · (apply Exists.intro; (try simp only [amr, amc, amp, if_true, if_false, ne_eq, gt_iff_lt, Option.getD, argsT, Option.bind, Option.map, List.headD, List.tail, opnsL, List.replicate, lendsL, seval, tokD, tokP, Val.dv]); exact sub_mk (by repeat first | exact subT_nil | refine subT_cons (by first | rfl | simp [Tm.get, *]) ?_))
      | false =>
        rw [b4, if_neg (by decide)] at hS'
        rcases t with _ | t
        · simp only [amr, amc, amp, if_true, if_false, ne_eq, gt_iff_lt, Option.getD, argsT, Option.bind, Option.map, List.headD, List.tail, opnsL, List.replicate, lendsL, seval, ty_EvE_34, hb, hget', f0, b5, b4, tokD, tokP, hA, w1]
          refine step_nrm (acc ++ [w], some (1 :: 1 :: g), p) ?_ hS' ?_
          · simp only [List.length_append, List.length_cons, List.length_nil]; omega
          · (apply Exists.intro; (try simp only [amr, amc, amp, if_true, if_false, ne_eq, gt_iff_lt, Option.getD, argsT, Option.bind, Option.map, List.headD, List.tail, opnsL, List.replicate, lendsL, seval, tokD, tokP, Val.dv]); exact sub_mk (by repeat first | exact subT_nil | refine subT_cons (by first | rfl | simp [Tm.get, *]) ?_))
        · simp only [amr, amc, amp, if_true, if_false, ne_eq, gt_iff_lt, Option.getD, argsT, Option.bind, Option.map, List.headD, List.tail, opnsL, List.replicate, lendsL, seval, ty_EvE_34, hb, hget', f0, b5, b4, tokD, tokP, hA, w1]
          refine step_nrm (acc ++ [w], some t, p) ?_ hS' ?_
          · simp only [List.length_append, List.length_cons, List.length_nil]; omega
          · (apply Exists.intro; (try simp only [amr, amc, amp, if_true, if_false, ne_eq, gt_iff_lt, Option.getD, argsT, Option.bind, Option.map, List.headD, List.tail, opnsL, List.replicate, lendsL, seval, tokD, tokP, Val.dv]); exact sub_mk (by repeat first | exact subT_nil | refine subT_cons (by first | rfl | simp [Tm.get, *]) ?_))
  · rintro ⟨acc, t, p⟩ g _ hb
    simp only [amr, amc, amp, if_true, if_false, ne_eq, gt_iff_lt, Option.getD, argsT, Option.bind, Option.map, List.headD, List.tail, opnsL, List.replicate, lendsL, seval, ty_EvE_34, hb]
    refine last_end (by simp) ?_
    simp only [List.map_nil, allSV]
    refine ⟨rfl, t, ?_⟩
    rcases t with _ | t
    · (apply Exists.intro; (try simp only [amr, amc, amp, if_true, if_false, ne_eq, gt_iff_lt, Option.getD, argsT, Option.bind, Option.map, List.headD, List.tail, opnsL, List.replicate, lendsL, seval, tokD, tokP]); exact sub_mk (by repeat first | exact subT_nil | refine subT_cons (by first | rfl | simp [Tm.get, *]) ?_))
    · (apply Exists.intro; (try simp only [amr, amc, amp, if_true, if_false, ne_eq, gt_iff_lt, Option.getD, argsT, Option.bind, Option.map, List.headD, List.tail, opnsL, List.replicate, lendsL, seval, tokD, tokP]); exact sub_mk (by repeat first | exact subT_nil | refine subT_cons (by first | rfl | simp [Tm.get, *]) ?_))
  · (apply Exists.intro; (try simp only [amr, amc, amp, if_true, if_false, ne_eq, gt_iff_lt, Option.getD, argsT, Option.bind, Option.map, List.headD, List.tail, opnsL, List.replicate, lendsL, seval, tokD, tokP, Val.zero]); exact sub_mk (by repeat first | exact subT_nil | refine subT_cons (by first | rfl | simp [Tm.get, *]) ?_))
  · intro o S' hq
    cases hr : allSV (l.map (evE m)) [] Val.zero with
    | inl w =>
      simp only [hr] at hq
      obtain ⟨rfl, H, g, hs, hp⟩ := hq
      refine good_sub_cr up_finq hs ?_
      simp only [allAns]
      simp only [amr, amc, amp, if_true, if_false, ne_eq, gt_iff_lt, Option.getD, argsT, Option.bind, Option.map, List.headD, List.tail, opnsL, List.replicate, lendsL, seval, ty_EvE_34, Val.dv, hp]
    | inr q =>
      obtain ⟨acc, p⟩ := q
      simp only [hr] at hq
      obtain ⟨rfl, t, g, hs⟩ := hq
      refine good_sub_cr up_finq hs ?_
      simp only [allAns]
      rcases t with _ | t
      · simp only [amr, amc, amp, if_true, if_false, ne_eq, gt_iff_lt, Option.getD, argsT, Option.bind, Option.map, List.headD, List.tail, opnsL, List.replicate, lendsL, seval, ty_EvE_34, Val.dv, tokD, tokP]
      · simp only [amr, amc, amp, if_true, if_false, ne_eq, gt_iff_lt, Option.getD, argsT, Option.bind, Option.map, List.headD, List.tail, opnsL, List.replicate, lendsL, seval, ty_EvE_34, Val.dv, tokD, tokP]
theorem ca_all {m : VMap} (l : List Exp) (hl : l.length ≤ 1048576) (h : ∀ x ∈ l, OfOK m x) {d dst : Nat} {S : St} : callA tab (callR tab) d dst 34 [.d (.mp (mdv m)), .d (.sl 6 (l.map Exp.dv))] S = some (.tup [.d (.sl 3 ((allAns (allSV (l.map (evE m)) [] Val.zero)).1.map Val.dv)), .d (allAns (allSV (l.map (evE m)) [] Val.zero)).2.dv], S) :=
  ca_retT (ds := [.mp (mdv m), .sl 6 (l.map Exp.dv)]) (ret_all l hl h) rfl (tab_opn (by kernel_rfl)) (tab_res (by kernel_rfl))
end Go.Proofs.Ythmggkidmcgfoaa.Am
/- What formulas are: every formula. -/
set_option linter.unusedVariables false
set_option linter.unusedSimpArgs false
namespace Go.Proofs.Ythmggkidmcgfoaa.Am
open Go Go.RowKit
theorem ty_EvF_21 : type_of% (ai (ai (ai (ai (ai (ai @rs21 @lv21_0) (ai @ro27_3_eval_go_61 (ai @lv21_1 @lv21_2))) (ai (ai @lv21_3 @lv21_4) (ai @lv21_5 (ai @lv21_6 @lv21_7)))) (ai (ai (ai @lv21_8 @lv21_9) (ai @lv21_10 (ai @lv21_11 @lv21_12))) (ai (ai @lv21_13 (ai @lv21_14 @lv21_15)) (ai @lv21_16 (ai @lv21_17 @lv21_18))))) (ai (ai (ai (ai @lv21_19 @lv21_20) (ai @lv21_21 (ai @lv21_22 @lv21_23))) (ai (ai @und1 (ai @sz1 @ag1)) (ai @inf1 (ai @und2 @sz2)))) (ai (ai (ai @ag2 @lv2) (ai @inf2 (ai @und3 @sz3))) (ai (ai @ag3 (ai @lv3 @inf3)) (ai @und4 (ai @sz4 @ag4)))))) (ai (ai (ai (ai (ai @lv4 @inf4) (ai @und9 (ai @sz9 @ag9))) (ai (ai @lv9 @inf9) (ai @und24 (ai @sz24 @ag24)))) (ai (ai (ai @fo24 @bA24) (ai @pT24_0 (ai @pT24_1 @pT24_2))) (ai (ai @lv24 (ai @inf24 @und25)) (ai @sz25 (ai @ag25 @pT25))))) (ai (ai (ai (ai @inf25 @und27) (ai @sz27 (ai @ag27 @fo27))) (ai (ai @bA27 (ai @pT27_0 @pT27_1)) (ai @pT27_2 (ai @pT27_3 @inf27)))) (ai (ai (ai @und32 @sz32) (ai @ag32 (ai @lv32 @inf32))) (ai (ai @und63 (ai @und79 @sz79)) (ai @ag79 (ai @pT79 @inf79))))))) := (ai (ai (ai (ai (ai (ai @rs21 @lv21_0) (ai @ro27_3_eval_go_61 (ai @lv21_1 @lv21_2))) (ai (ai @lv21_3 @lv21_4) (ai @lv21_5 (ai @lv21_6 @lv21_7)))) (ai (ai (ai @lv21_8 @lv21_9) (ai @lv21_10 (ai @lv21_11 @lv21_12))) (ai (ai @lv21_13 (ai @lv21_14 @lv21_15)) (ai @lv21_16 (ai @lv21_17 @lv21_18))))) (ai (ai (ai (ai @lv21_19 @lv21_20) (ai @lv21_21 (ai @lv21_22 @lv21_23))) (ai (ai @und1 (ai @sz1 @ag1)) (ai @inf1 (ai @und2 @sz2)))) (ai (ai (ai @ag2 @lv2) (ai @inf2 (ai @und3 @sz3))) (ai (ai @ag3 (ai @lv3 @inf3)) (ai @und4 (ai @sz4 @ag4)))))) (ai (ai (ai (ai (ai @lv4 @inf4) (ai @und9 (ai @sz9 @ag9))) (ai (ai @lv9 @inf9) (ai @und24 (ai @sz24 @ag24)))) (ai (ai (ai @fo24 @bA24) (ai @pT24_0 (ai @pT24_1 @pT24_2))) (ai (ai @lv24 (ai @inf24 @und25)) (ai @sz25 (ai @ag25 @pT25))))) (ai (ai (ai (ai @inf25 @und27) (ai @sz27 (ai @ag27 @fo27))) (ai (ai @bA27 (ai @pT27_0 @pT27_1)) (ai @pT27_2 (ai @pT27_3 @inf27)))) (ai (ai (ai @und32 @sz32) (ai @ag32 (ai @lv32 @inf32))) (ai (ai @und63 (ai @und79 @sz79)) (ai @ag79 (ai @pT79 @inf79)))))))
set_option maxRecDepth 100000
set_option maxHeartbeats 40000000


theorem ca_first {m : VMap} (x y : Exp) (hy : x.args[0]? = some y) (h : OfOK m y) {d dst : Nat} {S : St} : callA tab (callR tab) d dst 32 [.d (.mp (mdv m)), .d (.agg [.int .i64 x.op, .int .i64 x.v.kind, .int .i64 x.v.n, .str x.v.s, .str x.name, .sl 6 (x.args.map Exp.dv)])] S = some (.tup [.d (.agg [.int .i64 (firstV (evE m y)).1.kind, .int .i64 (firstV (evE m y)).1.n, .str (firstV (evE m y)).1.s]), .d (.bool (firstV (evE m y)).2)], S) := by
  rw [← Exp.dv_eq]
  exact ca_ret_tup (ds := [.mp (mdv m), x.dv]) (ys := [(firstV (evE m y)).1.dv, .bool (firstV (evE m y)).2]) (ret_first x y hy h) rfl (tab_opn (by kernel_rfl)) (tab_res (by kernel_rfl)) rfl
theorem ca_boolV {m : VMap} (x : Exp) (h : OfOK m x) {d dst : Nat} {S : St} : callA tab (callR tab) d dst 33 [.d (.mp (mdv m)), .d (.agg [.int .i64 x.op, .int .i64 x.v.kind, .int .i64 x.v.n, .str x.v.s, .str x.name, .sl 6 (x.args.map Exp.dv)])] S = some (.d (.agg [.int .i64 (boolV (evE m x)).kind, .int .i64 (boolV (evE m x)).n, .str (boolV (evE m x)).s]), S) := by
  rw [← Exp.dv_eq]
  exact ca_ret (ds := [.mp (mdv m), x.dv]) (ret_boolV x h) rfl (tab_opn (by kernel_rfl)) (tab_res (by kernel_rfl))
theorem ca_apply {op : Int} {vs : List Val} (h1 : 1 ≤ op) (hv : ∀ v ∈ vs, VOK v) (hn : (vs.length = 1 ∧ (op = 3 ∨ op = 4 ∨ op = 18)) ∨ (vs.length = 2 ∧ 5 ≤ op ∧ op ≤ 14)) {d dst : Nat} {S : St} : callA tab (callR tab) d dst 35 [.d (.int .i64 op), .d (.sl 3 (vs.map Val.dv))] S = some (.d (.agg [.int .i64 (applyV op vs).kind, .int .i64 (applyV op vs).n, .str (applyV op vs).s]), S) := by
  rcases hn with ⟨hn, ho⟩ | ⟨hn, ho⟩
  · obtain ⟨a, rfl⟩ := len1 hn
    exact ca_ret (ds := [.int .i64 op, .sl 3 [a.dv]]) (ret_ap1 op a ho (hv a (by simp))) rfl (tab_opn (by kernel_rfl)) (tab_res (by kernel_rfl))
  · obtain ⟨a, b, rfl⟩ := len2 hn
    have la := vok_len (hv a (by simp))
    have lb := vok_len (hv b (by simp))
    exact ca_ret (ds := [.int .i64 op, .sl 3 [a.dv, b.dv]]) (ret_ap2 op a b ho.1 ho.2 (hv a (by simp)) (by omega) (by omega)) rfl (tab_opn (by kernel_rfl)) (tab_res (by kernel_rfl))
theorem arg_at {l : List Exp} {k : Nat} {y : Exp} (h : l[k]? = some y) : (l.map Exp.dv)[k]? = some (.agg [.int .i64 y.op, .int .i64 y.v.kind, .int .i64 y.v.n, .str y.v.s, .str y.name, .sl 6 (y.args.map Exp.dv)]) := by rw [List.getElem?_map, h, ← Exp.dv_eq]; rfl
theorem mk_op (op : Int) (v : Val) (n : List UInt8) (l : List Exp) : (Exp.mk op v n l).op = op := rfl
theorem mk_v (op : Int) (v : Val) (n : List UInt8) (l : List Exp) : (Exp.mk op v n l).v = v := rfl
theorem mk_name (op : Int) (v : Val) (n : List UInt8) (l : List Exp) : (Exp.mk op v n l).name = n := rfl
theorem mk_args (op : Int) (v : Val) (n : List UInt8) (l : List Exp) : (Exp.mk op v n l).args = l := rfl
section
variable {m : VMap} {op : Int} {v : Val} {name : List UInt8} {args : List Exp}
theorem of_const : OfOK m (.mk 1 v name args) := by
  unfold OfOK
  rw [Exp.dv_mk, show evE m (.mk 1 v name args) = v by unfold evE; rw [if_pos rfl]]
  refine ret_of 1 fn21 rfl rfl ?_
  simp only [amr, amc, amp, if_true, if_false, ne_eq, gt_iff_lt, Option.getD, argsT, Option.bind, Option.map, List.headD, List.tail, opnsL, List.replicate, lendsL, seval, ty_EvF_21, Val.dv]
theorem of_ref : OfOK m (.mk 2 v name args) := by
  unfold OfOK
  rw [Exp.dv_mk]
  have fk := fk_mdv name m
  have he : evE m (.mk 2 v name args) = match lookV m name with
      | some w => w
      | none => fault 5 := by rw [evE, if_neg (by decide), if_pos rfl]; all_goals (cases lookV m name <;> rfl)
  rw [he]
  cases hl : lookV m name with
  | none =>
    rw [hl, Option.map_none] at fk
    refine ret_of 1 fn21 rfl rfl ?_
    simp only [amr, amc, amp, if_true, if_false, ne_eq, gt_iff_lt, Option.getD, argsT, Option.bind, Option.map, List.headD, List.tail, opnsL, List.replicate, lendsL, seval, ty_EvF_21, Val.dv, fault, fk, ca_faultO, beq_self_eq_true]
  | some w =>
    rw [hl, Option.map_some] at fk
    refine ret_of 1 fn21 rfl rfl ?_
    simp only [amr, amc, amp, if_true, if_false, ne_eq, gt_iff_lt, Option.getD, argsT, Option.bind, Option.map, List.headD, List.tail, opnsL, List.replicate, lendsL, seval, ty_EvF_21, Val.dv, fk, beq_self_eq_true]
theorem of_if {a b c : Exp} (ha : OfOK m a) (hb : OfOK m b) (hc : OfOK m c) (va : VOK (evE m a)) : OfOK m (.mk 17 v name [a, b, c]) := by
  unfold OfOK
  have f1 := fun (S : St) (d dst : Nat) => ca_first (.mk 17 v name [a, b, c]) a rfl ha (d := d) (dst := dst) (S := S)
  have f2 := fun (S : St) (d dst : Nat) => ca_of hb (d := d) (dst := dst) (S := S)
  have f3 := fun (S : St) (d dst : Nat) => ca_of hc (d := d) (dst := dst) (S := S)
  have hv := vok_first va
  have he : evE m (.mk 17 v name [a, b, c]) = ifV (evE m a) (evE m b) (evE m c) := by rw [evE, if_neg (by decide), if_neg (by decide), if_pos rfl]; simp only [evL]
  rw [Exp.dv_mk, he]
  unfold ifV
  simp only [mk_op, mk_v, mk_name, mk_args, List.map_cons, List.map_nil, Exp.dv_eq a, Exp.dv_eq b, Exp.dv_eq c] at f1 ⊢
  generalize firstV (evE m a) = w at *
  generalize evE m b = vb at *
  generalize evE m c = vc at *
  cases k : w.2 with
  | false =>
    rw [if_pos rfl]
    refine ret_of 1 fn21 rfl rfl ?_
    simp only [amr, amc, amp, if_true, if_false, ne_eq, gt_iff_lt, Option.getD, argsT, Option.bind, Option.map, List.headD, List.tail, opnsL, List.replicate, lendsL, seval, ty_EvF_21, Val.dv, f1, k]
  | true =>
    rw [if_neg (by decide)]
    have h01 := vok_bool hv.1 (hv.2 k)
    by_cases h1 : w.1.n = 1
    · rw [if_pos h1]
      rw [h1] at f1
      refine ret_of 1 fn21 rfl rfl ?_
      simp only [amr, amc, amp, if_true, if_false, ne_eq, gt_iff_lt, Option.getD, argsT, Option.bind, Option.map, List.headD, List.tail, opnsL, List.replicate, lendsL, seval, ty_EvF_21, Val.dv, f1, f2, k, (show IntKind.i64.wrap 0 = 0 from rfl), (show IntKind.i64.wrap 1 = 1 from rfl), (show IntKind.i64.wrap 2 = 2 from rfl), (show IntKind.i64.wrap 3 = 3 from rfl), (show IntKind.i64.wrap 4 = 4 from rfl), (show IntKind.i64.wrap 5 = 5 from rfl), (show IntKind.i64.wrap 6 = 6 from rfl), (show IntKind.i64.wrap 7 = 7 from rfl), (show IntKind.i64.wrap 8 = 8 from rfl), (show IntKind.i64.wrap 9 = 9 from rfl), (show IntKind.i64.wrap 10 = 10 from rfl), (show IntKind.i64.wrap 11 = 11 from rfl), (show IntKind.i64.wrap 12 = 12 from rfl), (show IntKind.i64.wrap 13 = 13 from rfl), (show IntKind.i64.wrap 14 = 14 from rfl)]
    · have h0 : w.1.n = 0 := h01.resolve_right h1
      rw [if_neg h1]
      rw [h0] at f1
      refine ret_of 1 fn21 rfl rfl ?_
      simp only [amr, amc, amp, if_true, if_false, ne_eq, gt_iff_lt, Option.getD, argsT, Option.bind, Option.map, List.headD, List.tail, opnsL, List.replicate, lendsL, seval, ty_EvF_21, Val.dv, f1, f3, k, (show IntKind.i64.wrap 0 = 0 from rfl), (show IntKind.i64.wrap 1 = 1 from rfl), (show IntKind.i64.wrap 2 = 2 from rfl), (show IntKind.i64.wrap 3 = 3 from rfl), (show IntKind.i64.wrap 4 = 4 from rfl), (show IntKind.i64.wrap 5 = 5 from rfl), (show IntKind.i64.wrap 6 = 6 from rfl), (show IntKind.i64.wrap 7 = 7 from rfl), (show IntKind.i64.wrap 8 = 8 from rfl), (show IntKind.i64.wrap 9 = 9 from rfl), (show IntKind.i64.wrap 10 = 10 from rfl), (show IntKind.i64.wrap 11 = 11 from rfl), (show IntKind.i64.wrap 12 = 12 from rfl), (show IntKind.i64.wrap 13 = 13 from rfl), (show IntKind.i64.wrap 14 = 14 from rfl)]
theorem of_and {a b : Exp} (hop : op = 15 ∨ op = 16) (ha : OfOK m a) (hb : OfOK m b) : OfOK m (.mk op v name [a, b]) := by
  unfold OfOK
  have f1 := fun (S : St) (d dst : Nat) => ca_first (.mk op v name [a, b]) a rfl ha (d := d) (dst := dst) (S := S)
  have f2 := fun (S : St) (d dst : Nat) => ca_boolV b hb (d := d) (dst := dst) (S := S)
  have he : evE m (.mk op v name [a, b]) = andV op (evE m a) (evE m b) := by rw [evE, if_neg (by omega), if_neg (by omega), if_neg (by omega), if_pos hop]; simp only [evL]
  rw [Exp.dv_mk, he]
  unfold andV
  simp only [mk_op, mk_v, mk_name, mk_args, List.map_cons, List.map_nil, Exp.dv_eq a, Exp.dv_eq b] at f1 ⊢
  generalize firstV (evE m a) = w at *
  generalize boolV (evE m b) = vb at *
  have b1 : (op == 1) = false := beq_eq_false_iff_ne.2 (by omega)
  have b2 : (op == 2) = false := beq_eq_false_iff_ne.2 (by omega)
  obtain ⟨⟨wk, wn, ws⟩, wb⟩ := w
  simp only at f1 ⊢
  rcases hop with rfl | rfl
  · cases wb with
    | false =>
      rw [if_pos rfl]
      refine ret_of 1 fn21 rfl rfl ?_
      simp only [amr, amc, amp, if_true, if_false, ne_eq, gt_iff_lt, Option.getD, argsT, Option.bind, Option.map, List.headD, List.tail, opnsL, List.replicate, lendsL, seval, ty_EvF_21, Val.dv, f1]
    | true =>
      rw [if_neg (by decide)]
      cases k : (wn == 1) with
      | true =>
        rw [if_neg (by decide)]
        refine ret_of 1 fn21 rfl rfl ?_
        simp only [amr, amc, amp, if_true, if_false, ne_eq, gt_iff_lt, Option.getD, argsT, Option.bind, Option.map, List.headD, List.tail, opnsL, List.replicate, lendsL, seval, ty_EvF_21, Val.dv, f1, f2, k, Bool.true_beq, Bool.false_beq]
      | false =>
        rw [if_pos (by decide)]
        refine ret_of 1 fn21 rfl rfl ?_
        simp only [amr, amc, amp, if_true, if_false, ne_eq, gt_iff_lt, Option.getD, argsT, Option.bind, Option.map, List.headD, List.tail, opnsL, List.replicate, lendsL, seval, ty_EvF_21, Val.dv, f1, f2, k, Bool.true_beq, Bool.false_beq]
  · cases wb with
    | false =>
      rw [if_pos rfl]
      refine ret_of 1 fn21 rfl rfl ?_
      simp only [amr, amc, amp, if_true, if_false, ne_eq, gt_iff_lt, Option.getD, argsT, Option.bind, Option.map, List.headD, List.tail, opnsL, List.replicate, lendsL, seval, ty_EvF_21, Val.dv, f1]
    | true =>
      rw [if_neg (by decide)]
      cases k : (wn == 1) with
      | true =>
        rw [if_pos (by decide)]
        refine ret_of 1 fn21 rfl rfl ?_
        simp only [amr, amc, amp, if_true, if_false, ne_eq, gt_iff_lt, Option.getD, argsT, Option.bind, Option.map, List.headD, List.tail, opnsL, List.replicate, lendsL, seval, ty_EvF_21, Val.dv, f1, f2, k, Bool.true_beq, Bool.false_beq]
      | false =>
        rw [if_neg (by decide)]
        refine ret_of 1 fn21 rfl rfl ?_
        simp only [amr, amc, amp, if_true, if_false, ne_eq, gt_iff_lt, Option.getD, argsT, Option.bind, Option.map, List.headD, List.tail, opnsL, List.replicate, lendsL, seval, ty_EvF_21, Val.dv, f1, f2, k, Bool.true_beq, Bool.false_beq]
theorem opV_ans (op : Int) (vs : List Val) : opV op vs = if (allAns (allSV vs [] Val.zero)).2.kind ≠ 0 then (allAns (allSV vs [] Val.zero)).2 else applyV op (allAns (allSV vs [] Val.zero)).1 := by
  unfold opV
  have h : ∀ r acc p w, allSV r acc p = .inl w → w.kind = 5 := by
    intro r
    induction r with
    | nil => intro acc p w h; simp [allSV] at h
    | cons x r ih =>
      intro acc p w h
      unfold allSV at h
      split at h
      · rename_i hk; injection h with h; rw [← h]; exact beq_iff_eq.1 hk
      · exact ih _ _ _ h
  have h := h vs [] Val.zero
  cases hs : allSV vs [] Val.zero with
  | inl w =>
    have := h w hs
    exact (if_pos (show (allAns (.inl w)).2.kind ≠ 0 by simp only [allAns]; omega)).symm
  | inr o => obtain ⟨o, p⟩ := o; rfl
theorem ans_vs {vs : List Val} (hv : ∀ v ∈ vs, VOK v) (hk : (allAns (allSV vs [] Val.zero)).2.kind = 0) : (allAns (allSV vs [] Val.zero)).1 = vs := by
  have h := vok_all vs [] Val.zero hv (fun v h => by simp at h) (.inl rfl)
  cases hs : allSV vs [] Val.zero with
  | inl w =>
    rw [hs] at h hk
    simp only [allAns] at hk
    have := h.2
    omega
  | inr o =>
    obtain ⟨o, p⟩ := o
    rw [hs] at h
    simp only [allAns]
    rw [h.1, List.nil_append]
theorem of_op (n1 : op ≠ 1) (n2 : op ≠ 2) (n3 : op ≠ 17) (n4 : ¬ (op = 15 ∨ op = 16)) (h1 : 1 ≤ op) (hl : args.length ≤ 1048576) (h : ∀ x ∈ args, OfOK m x) (hv : ∀ x ∈ args, VOK (evE m x)) (hn : (args.length = 1 ∧ (op = 3 ∨ op = 4 ∨ op = 18)) ∨ (args.length = 2 ∧ 5 ≤ op ∧ op ≤ 14)) : OfOK m (.mk op v name args) := by
  unfold OfOK
  have f1 := fun (S : St) (d dst : Nat) => ca_all args hl h (d := d) (dst := dst) (S := S)
  have he : evE m (.mk op v name args) = opV op (args.map (evE m)) := by rw [evE, if_neg n1, if_neg n2, if_neg n3, if_neg n4, evL_map]
  rw [Exp.dv_mk, he, opV_ans]
  have hv' : ∀ w ∈ args.map (evE m), VOK w := fun w hw => by
    obtain ⟨x, hx, rfl⟩ := List.mem_map.1 hw
    exact hv x hx
  have b1 : (op == 1) = false := beq_eq_false_iff_ne.2 n1
  have b2 : (op == 2) = false := beq_eq_false_iff_ne.2 n2
  have b3 : (op == 17) = false := beq_eq_false_iff_ne.2 n3
  have b4 : (op == 15) = false := beq_eq_false_iff_ne.2 (fun h => n4 (.inl h))
  have b5 : (op == 16) = false := beq_eq_false_iff_ne.2 (fun h => n4 (.inr h))
  by_cases hk : (allAns (allSV (args.map (evE m)) [] Val.zero)).2.kind = 0
  · rw [if_neg (by omega)]
    have f2 := fun (S : St) (d dst : Nat) => ca_apply (op := op) (vs := args.map (evE m)) h1 hv' (by rw [List.length_map]; exact hn) (d := d) (dst := dst) (S := S)
    rw [ans_vs hv' hk]
    rw [ans_vs hv' hk] at f1
    generalize allAns (allSV (args.map (evE m)) [] Val.zero) = q at *
    obtain ⟨o, qk, qn, qs⟩ := q
    simp only at hk
    subst hk
    generalize applyV op (args.map (evE m)) = w at *
    refine ret_of 1 fn21 rfl rfl ?_
    simp only [amr, amc, amp, if_true, if_false, ne_eq, gt_iff_lt, Option.getD, argsT, Option.bind, Option.map, List.headD, List.tail, opnsL, List.replicate, lendsL, seval, ty_EvF_21, Val.dv, f1, f2, b1, b2, b3, b4, b5]
  · rw [if_pos hk]
    generalize allAns (allSV (args.map (evE m)) [] Val.zero) = q at *
    obtain ⟨o, qk, qn, qs⟩ := q
    simp only at hk
    have b0 : (qk == 0) = false := beq_eq_false_iff_ne.2 hk
    have b0' : (qk != 0) = true := by rw [bne, b0]; rfl
    refine ret_of 1 fn21 rfl rfl ?_
    simp only [amr, amc, amp, if_true, if_false, ne_eq, gt_iff_lt, Option.getD, argsT, Option.bind, Option.map, List.headD, List.tail, opnsL, List.replicate, lendsL, seval, ty_EvF_21, Val.dv, f1, b1, b2, b3, b4, b5, b0, b0']
end
theorem wf_mem : ∀ {l : List Exp} {x : Exp}, Exp.wfL l → x ∈ l → x.wf
  | y :: r, x, hw, h => by
    rcases List.mem_cons.1 h with rfl | h
    · exact hw.1
    · exact wf_mem hw.2 h
theorem of_okN {m : VMap} (hm : MOK m) : ∀ (n : Nat) (x : Exp), x.nodes ≤ n → x.nodes ≤ 1048576 → x.wf → OfOK m x
  | 0, x, h, _, _ => by cases x; simp [Exp.nodes] at h
  | n + 1, .mk op v name args, h, hB, hw => by
    obtain ⟨⟨h1, h18, har, hp⟩, hwl⟩ := hw
    have hlen := Exp.nodes_len args
    simp only [Exp.nodes] at h hB
    have ih : ∀ a ∈ args, OfOK m a := fun a ha => of_okN hm n a (by have := Exp.nodes_mem ha; omega) (by have := Exp.nodes_mem ha; omega) (wf_mem hwl ha)
    have iv : ∀ a ∈ args, VOK (evE m a) := fun a ha => vok_ev hm a (wf_mem hwl ha)
    by_cases c1 : op = 1
    · subst c1; exact of_const
    by_cases c2 : op = 2
    · subst c2; exact of_ref
    by_cases c3 : op = 17
    · subst c3
      obtain ⟨a, b, c, rfl⟩ := len3 (arity_3 har rfl)
      exact of_if (ih a (by simp)) (ih b (by simp)) (ih c (by simp)) (iv a (by simp))
    by_cases c4 : op = 15 ∨ op = 16
    · obtain ⟨a, b, rfl⟩ := len2 (arity_2 har (by omega))
      exact of_and c4 (ih a (by simp)) (ih b (by simp))
    exact of_op c1 c2 c3 c4 h1 (by omega) ih iv (op_other h1 h18 har c1 c2 c3 c4)
theorem of_ok {m : VMap} (hm : MOK m) (x : Exp) (hB : x.nodes ≤ 1048576) (hw : x.wf) : OfOK m x := of_okN hm x.nodes x (Nat.le_refl _) hB hw
end Go.Proofs.Ythmggkidmcgfoaa.Am
/- What formulas are by what fields are. -/
set_option linter.unusedVariables false
set_option linter.unusedSimpArgs false
namespace Go.Proofs.Ythmggkidmcgfoaa.Am
open Go Go.RowKit
theorem ty_EvG_20 : type_of% (ai (ai (ai (ai (ai (ai @rs20 @lv20_0) (ai @lv20_1 @lv20_2)) (ai (ai @lv20_3 @lv20_4) (ai @lv20_5 @lv20_6))) (ai (ai (ai @lv20_7 @lv20_8) (ai @lv20_9 @lv20_10)) (ai (ai @lv20_11 @lv20_12) (ai @kp20_3 (ai @und1 @sz1))))) (ai (ai (ai (ai @ag1 @inf1) (ai @und2 @sz2)) (ai (ai @ag2 @lv2) (ai @inf2 @und3))) (ai (ai (ai @sz3 @ag3) (ai @lv3 @inf3)) (ai (ai @und4 @sz4) (ai @ag4 (ai @lv4 @inf4)))))) (ai (ai (ai (ai (ai @und9 @sz9) (ai @ag9 @lv9)) (ai (ai @inf9 @und24) (ai @sz24 @ag24))) (ai (ai (ai @fo24 @bA24) (ai @pT24_0 @pT24_1)) (ai (ai @pT24_2 @lv24) (ai @inf24 (ai @und32 @sz32))))) (ai (ai (ai (ai @ag32 @lv32) (ai @inf32 @und35)) (ai (ai @sz35 @ag35) (ai @pT35 (ai @inf35 @und38)))) (ai (ai (ai @sz38 @ag38) (ai @fo38 @bA38)) (ai (ai @pT38_0 @pT38_1) (ai @pT38_2 (ai @inf38 @und60))))))) := (ai (ai (ai (ai (ai (ai @rs20 @lv20_0) (ai @lv20_1 @lv20_2)) (ai (ai @lv20_3 @lv20_4) (ai @lv20_5 @lv20_6))) (ai (ai (ai @lv20_7 @lv20_8) (ai @lv20_9 @lv20_10)) (ai (ai @lv20_11 @lv20_12) (ai @kp20_3 (ai @und1 @sz1))))) (ai (ai (ai (ai @ag1 @inf1) (ai @und2 @sz2)) (ai (ai @ag2 @lv2) (ai @inf2 @und3))) (ai (ai (ai @sz3 @ag3) (ai @lv3 @inf3)) (ai (ai @und4 @sz4) (ai @ag4 (ai @lv4 @inf4)))))) (ai (ai (ai (ai (ai @und9 @sz9) (ai @ag9 @lv9)) (ai (ai @inf9 @und24) (ai @sz24 @ag24))) (ai (ai (ai @fo24 @bA24) (ai @pT24_0 @pT24_1)) (ai (ai @pT24_2 @lv24) (ai @inf24 (ai @und32 @sz32))))) (ai (ai (ai (ai @ag32 @lv32) (ai @inf32 @und35)) (ai (ai @sz35 @ag35) (ai @pT35 (ai @inf35 @und38)))) (ai (ai (ai @sz38 @ag38) (ai @fo38 @bA38)) (ai (ai @pT38_0 @pT38_1) (ai @pT38_2 (ai @inf38 @und60)))))))
theorem ty_EvG_11 : type_of% (ai (ai (ai (ai (ai (ai @rs11 @lv11_0) (ai @ro27_2_eval_go_156 @lv11_1)) (ai (ai @lv11_2 @lv11_3) (ai @lv11_4 (ai @lv11_5 @lv11_6)))) (ai (ai (ai @lv11_7 @und1) (ai @sz1 @ag1)) (ai (ai @inf1 @und3) (ai @sz3 (ai @ag3 @lv3))))) (ai (ai (ai (ai @inf3 @und4) (ai @sz4 @ag4)) (ai (ai @lv4 @inf4) (ai @und9 (ai @sz9 @ag9)))) (ai (ai (ai @lv9 @inf9) (ai @und24 (ai @sz24 @ag24))) (ai (ai @fo24 @bA24) (ai @pT24_0 (ai @pT24_1 @pT24_2)))))) (ai (ai (ai (ai (ai @lv24 @inf24) (ai @und25 @sz25)) (ai (ai @ag25 @pT25) (ai @inf25 (ai @und27 @sz27)))) (ai (ai (ai @ag27 @fo27) (ai @bA27 (ai @pT27_0 @pT27_1))) (ai (ai @pT27_2 @pT27_3) (ai @inf27 (ai @und32 @sz32))))) (ai (ai (ai (ai @ag32 @lv32) (ai @inf32 @und35)) (ai (ai @sz35 @ag35) (ai @pT35 (ai @inf35 @und38)))) (ai (ai (ai @sz38 @ag38) (ai @fo38 (ai @bA38 @pT38_0))) (ai (ai @pT38_1 @pT38_2) (ai @inf38 (ai @und60 @und63))))))) := (ai (ai (ai (ai (ai (ai @rs11 @lv11_0) (ai @ro27_2_eval_go_156 @lv11_1)) (ai (ai @lv11_2 @lv11_3) (ai @lv11_4 (ai @lv11_5 @lv11_6)))) (ai (ai (ai @lv11_7 @und1) (ai @sz1 @ag1)) (ai (ai @inf1 @und3) (ai @sz3 (ai @ag3 @lv3))))) (ai (ai (ai (ai @inf3 @und4) (ai @sz4 @ag4)) (ai (ai @lv4 @inf4) (ai @und9 (ai @sz9 @ag9)))) (ai (ai (ai @lv9 @inf9) (ai @und24 (ai @sz24 @ag24))) (ai (ai @fo24 @bA24) (ai @pT24_0 (ai @pT24_1 @pT24_2)))))) (ai (ai (ai (ai (ai @lv24 @inf24) (ai @und25 @sz25)) (ai (ai @ag25 @pT25) (ai @inf25 (ai @und27 @sz27)))) (ai (ai (ai @ag27 @fo27) (ai @bA27 (ai @pT27_0 @pT27_1))) (ai (ai @pT27_2 @pT27_3) (ai @inf27 (ai @und32 @sz32))))) (ai (ai (ai (ai @ag32 @lv32) (ai @inf32 @und35)) (ai (ai @sz35 @ag35) (ai @pT35 (ai @inf35 @und38)))) (ai (ai (ai @sz38 @ag38) (ai @fo38 (ai @bA38 @pT38_0))) (ai (ai @pT38_1 @pT38_2) (ai @inf38 (ai @und60 @und63)))))))
set_option maxRecDepth 100000
set_option maxHeartbeats 40000000


/-- What fields are, those that come first. -/
def fmap : VMap → List Fact → VMap
  | m, [] => m
  | m, f :: r => fmap (if (lookV m f.name).isSome = true then m else m ++ [(f.name, f.has)]) r
theorem look_app {m : VMap} {s t : List UInt8} {v w : Val} (h : lookV (m ++ [(s, v)]) t = some w) : lookV m t = some w ∨ w = v := by
  induction m with
  | nil =>
    simp only [List.nil_append, lookV] at h
    split at h
    · injection h with h; exact .inr h.symm
    · cases h
  | cons e r ih =>
    obtain ⟨k, u⟩ := e
    simp only [List.cons_append, lookV] at h ⊢
    split at h
    · rename_i hk; rw [if_pos hk]; exact .inl h
    · rename_i hk; rw [if_neg hk]; exact ih h
theorem mok_fmap : ∀ (l : List Fact) (m : VMap), MOK m → (∀ f ∈ l, VOK f.has) → MOK (fmap m l)
  | [], m, h, _ => h
  | f :: r, m, h, hl => by
    unfold fmap
    refine mok_fmap r _ ?_ fun g hg => hl g (by simp [hg])
    split
    · exact h
    · intro s v hs
      rcases look_app hs with h1 | h1
      · exact h s v h1
      · rw [h1]; exact hl f (by simp)
theorem mok_nil : MOK [] := fun s v h => by simp [lookV] at h
theorem ret_facts (l : List Fact) (hl : l.length ≤ 1048576) (h : ∀ f ∈ l, VOK f.has) : RetT tab 20 [.d (.sl 7 (l.map Fact.dv))] [.mp (mdv (fmap [] l)), .int .i64 0] := by
  refine retq_good (l.length + 1) fn20 rfl rfl ?_
  simp only [amr, amc, amp, if_true, if_false, ne_eq, gt_iff_lt, Option.getD, argsT, Option.bind, Option.map, List.headD, List.tail, opnsL, List.replicate, lendsL, seval, ty_EvG_20]
  refine good_range l (fun k (m : VMap) g => ⟨[(4, .mp ⟨0, 10, [0]⟩), (11, .d (.sl 7 (l.map Fact.dv))), (12, .d (.int .i64 l.length)), (13, .d (.int .i64 (k : Nat)))], [(⟨0, 10, [0]⟩, .mpl (mdv m))], g⟩) (fun _ _ => True) (fun k m r => fmap m r)
    (QX (.exit 0) (fun m g => ⟨[(4, .mp ⟨0, 10, [0]⟩)], [(⟨0, 10, [0]⟩, .mpl (mdv m))], g⟩)) [] kp20_3 up_qx trivial (by omega) (by omega) ?_ ?_ ?_ ?_
  · rintro k m g x rest hk hget hd _ hb w1
    have hget' : (l.map Fact.dv)[k]? = some x.dv := by rw [List.getElem?_map, hget]; rfl
    have hv : valChk x.has = 0 := h x (List.mem_of_getElem? hget)
    have fv : ∀ (S : St) (d dst : Nat), callA tab (callR tab) d dst 30 [.d (.agg [.int .i64 x.has.kind, .int .i64 x.has.n, .str x.has.s])] S = some (.d (.int .i64 0), S) := fun S d dst => by rw [← hv]; exact ca_VCheck x.has.kind x.has.n x.has.s
    have fk := fk_mdv x.name m
    have hS : fmap m (x :: rest) = fmap (if (lookV m x.name).isSome = true then m else m ++ [(x.name, x.has)]) rest := rfl
    cases hl' : lookV m x.name with
    | none =>
      have st : setK .string (.str x.name) (.agg [.int .i64 x.has.kind, .int .i64 x.has.n, .str x.has.s]) (mdv m) = mdv (m ++ [(x.name, x.has)]) := stK_mdv x.name x.has m hl'
      rw [hl', Option.map_none] at fk
      rw [hl'] at hS
      simp only [amr, amc, amp, if_true, if_false, ne_eq, gt_iff_lt, Option.getD, argsT, Option.bind, Option.map, List.headD, List.tail, opnsL, List.replicate, lendsL, seval, ty_EvG_20, Fact.dv, Val.dv, hb, hget', w1, fv, fk, st, beq_self_eq_true, bne_self_eq_false]
      refine step_nrm (m ++ [(x.name, x.has)]) trivial hS ?_
      (apply Exists.intro; (try simp only [amr, amc, amp, if_true, if_false, ne_eq, gt_iff_lt, Option.getD, argsT, Option.bind, Option.map, List.headD, List.tail, opnsL, List.replicate, lendsL, seval]); exact sub_mk (by repeat first | exact subT_nil | refine subT_cons (by first | rfl | simp [Tm.get, *]) ?_))
    | some w =>
      rw [hl', Option.map_some] at fk
      rw [hl'] at hS
      simp only [amr, amc, amp, if_true, if_false, ne_eq, gt_iff_lt, Option.getD, argsT, Option.bind, Option.map, List.headD, List.tail, opnsL, List.replicate, lendsL, seval, ty_EvG_20, Fact.dv, Val.dv, hb, hget', w1, fv, fk, beq_self_eq_true, bne_self_eq_false]
      refine step_nrm m trivial hS ?_
      (apply Exists.intro; (try simp only [amr, amc, amp, if_true, if_false, ne_eq, gt_iff_lt, Option.getD, argsT, Option.bind, Option.map, List.headD, List.tail, opnsL, List.replicate, lendsL, seval]); exact sub_mk (by repeat first | exact subT_nil | refine subT_cons (by first | rfl | simp [Tm.get, *]) ?_))
  · rintro m g _ hb
    simp only [amr, amc, amp, if_true, if_false, ne_eq, gt_iff_lt, Option.getD, argsT, Option.bind, Option.map, List.headD, List.tail, opnsL, List.replicate, lendsL, seval, ty_EvG_20, hb]
    refine last_end (by simp) ⟨rfl, ?_⟩
    (apply Exists.intro; (try simp only [amr, amc, amp, if_true, if_false, ne_eq, gt_iff_lt, Option.getD, argsT, Option.bind, Option.map, List.headD, List.tail, opnsL, List.replicate, lendsL, seval]); exact sub_mk (by repeat first | exact subT_nil | refine subT_cons (by first | rfl | simp [Tm.get, *]) ?_))
  · simp only [mdv, List.map_nil]
    (apply Exists.intro; (try simp only [amr, amc, amp, if_true, if_false, ne_eq, gt_iff_lt, Option.getD, argsT, Option.bind, Option.map, List.headD, List.tail, opnsL, List.replicate, lendsL, seval]); exact sub_mk (by repeat first | exact subT_nil | refine subT_cons (by first | rfl | simp [Tm.get, *]) ?_))
  · rintro o S' ⟨rfl, g, hs⟩
    refine good_sub_cr up_finq hs ?_
    generalize fmap [] l = m at *
    simp only [amr, amc, amp, if_true, if_false, ne_eq, gt_iff_lt, Option.getD, argsT, Option.bind, Option.map, List.headD, List.tail, opnsL, List.replicate, lendsL, seval, ty_EvG_20, fzv_mp]
    rfl
theorem ca_facts (l : List Fact) (hl : l.length ≤ 1048576) (h : ∀ f ∈ l, VOK f.has) {d dst : Nat} {S : St} : callA tab (callR tab) d dst 20 [.d (.sl 7 (l.map Fact.dv))] S = some (.tup [.d (.mp (mdv (fmap [] l))), .d (.int .i64 0)], S) :=
  ca_retT (ds := [.sl 7 (l.map Fact.dv)]) (ret_facts l hl h) rfl (tab_opn (by kernel_rfl)) (tab_res (by kernel_rfl))
theorem ret_Of (x : Exp) (l : List Fact) (hx : chkE x = 0) (hB : x.nodes ≤ 1048576) (hw : x.wf) (hl : l.length ≤ 1048576) (h : ∀ f ∈ l, VOK f.has) : Ret tab 11 [.d x.dv, .d (.sl 7 (l.map Fact.dv))] (.tup [.d (evE (fmap [] l) x).dv, .d (.int .i64 0)]) := by
  have f1 := fun (S : St) (d dst : Nat) => ca_CheckE (d := d) (dst := dst) (S := S) x (by omega) hw
  have f2 := fun (S : St) (d dst : Nat) => ca_facts l hl h (d := d) (dst := dst) (S := S)
  have hm : MOK (fmap [] l) := mok_fmap l [] mok_nil h
  have f3 := fun (S : St) (d dst : Nat) => ca_of (of_ok hm x hB hw) (d := d) (dst := dst) (S := S)
  rw [hx] at f1
  rw [Exp.dv_eq x] at f1 ⊢
  generalize evE (fmap [] l) x = w at *
  generalize fmap [] l = m at *
  refine ret_of 1 fn11 rfl rfl ?_
  simp only [amr, amc, amp, if_true, if_false, ne_eq, gt_iff_lt, Option.getD, argsT, Option.bind, Option.map, List.headD, List.tail, opnsL, List.replicate, lendsL, seval, ty_EvG_11, Val.dv, f1, f2, f3]
end Go.Proofs.Ythmggkidmcgfoaa.Am
/- What fields of raw things are; two formulas of raw things. -/
set_option linter.unusedVariables false
set_option linter.unusedSimpArgs false
namespace Go.Proofs.Ythmggkidmcgfoaa.Am
open Go Go.RowKit
theorem ty_EvH_10 : type_of% (ai (ai (ai (ai (ai (ai @rs10 (ai @lv10_0 @lv10_1)) (ai (ai @ro53_9_low_go_267 @lv10_2) (ai @lv10_3 @lv10_4))) (ai (ai @lv10_5 (ai @dr10_6 @lv10_6)) (ai (ai @mu35_26 @lv10_7) (ai @lv10_8 @kp10_4)))) (ai (ai (ai @und1 (ai @sz1 @ag1)) (ai (ai @inf1 @und2) (ai @sz2 @ag2))) (ai (ai @lv2 (ai @inf2 @und3)) (ai (ai @sz3 @ag3) (ai @lv3 @inf3))))) (ai (ai (ai (ai @und9 (ai @sz9 @ag9)) (ai (ai @lv9 @inf9) (ai @und22 @sz22))) (ai (ai @ag22 (ai @pT22 @inf22)) (ai (ai @und24 @sz24) (ai @ag24 @fo24)))) (ai (ai (ai @bA24 (ai @pT24_0 @pT24_1)) (ai (ai @pT24_2 @lv24) (ai @inf24 @und25))) (ai (ai (ai @sz25 @ag25) (ai @pT25 @inf25)) (ai (ai @und27 @sz27) (ai @ag27 @fo27)))))) (ai (ai (ai (ai (ai @bA27 (ai @pT27_0 @pT27_1)) (ai (ai @pT27_2 @pT27_3) (ai @inf27 @und30))) (ai (ai @sz30 (ai @ag30 @pT30)) (ai (ai @inf30 @und35) (ai @sz35 @ag35)))) (ai (ai (ai @pT35 (ai @inf35 @und38)) (ai (ai @sz38 @ag38) (ai @fo38 @bA38))) (ai (ai @pT38_0 (ai @pT38_1 @pT38_2)) (ai (ai @inf38 @und49) (ai @sz49 @ag49))))) (ai (ai (ai (ai @fo49 (ai @bA49 @pT49_0)) (ai (ai @pT49_1 @pT49_2) (ai @pT49_3 @inf49))) (ai (ai @und51 (ai @sz51 @ag51)) (ai (ai @inf51 @und53) (ai @sz53 @ag53)))) (ai (ai (ai @fo53 (ai @bA53 @pT53_0)) (ai (ai @pT53_1 @inf53) (ai @und58 @sz58))) (ai (ai (ai @ag58 @fo58) (ai @bA58 @pT58_0)) (ai (ai @pT58_1 @pT58_2) (ai @pT58_3 @inf58))))))) := (ai (ai (ai (ai (ai (ai @rs10 (ai @lv10_0 @lv10_1)) (ai (ai @ro53_9_low_go_267 @lv10_2) (ai @lv10_3 @lv10_4))) (ai (ai @lv10_5 (ai @dr10_6 @lv10_6)) (ai (ai @mu35_26 @lv10_7) (ai @lv10_8 @kp10_4)))) (ai (ai (ai @und1 (ai @sz1 @ag1)) (ai (ai @inf1 @und2) (ai @sz2 @ag2))) (ai (ai @lv2 (ai @inf2 @und3)) (ai (ai @sz3 @ag3) (ai @lv3 @inf3))))) (ai (ai (ai (ai @und9 (ai @sz9 @ag9)) (ai (ai @lv9 @inf9) (ai @und22 @sz22))) (ai (ai @ag22 (ai @pT22 @inf22)) (ai (ai @und24 @sz24) (ai @ag24 @fo24)))) (ai (ai (ai @bA24 (ai @pT24_0 @pT24_1)) (ai (ai @pT24_2 @lv24) (ai @inf24 @und25))) (ai (ai (ai @sz25 @ag25) (ai @pT25 @inf25)) (ai (ai @und27 @sz27) (ai @ag27 @fo27)))))) (ai (ai (ai (ai (ai @bA27 (ai @pT27_0 @pT27_1)) (ai (ai @pT27_2 @pT27_3) (ai @inf27 @und30))) (ai (ai @sz30 (ai @ag30 @pT30)) (ai (ai @inf30 @und35) (ai @sz35 @ag35)))) (ai (ai (ai @pT35 (ai @inf35 @und38)) (ai (ai @sz38 @ag38) (ai @fo38 @bA38))) (ai (ai @pT38_0 (ai @pT38_1 @pT38_2)) (ai (ai @inf38 @und49) (ai @sz49 @ag49))))) (ai (ai (ai (ai @fo49 (ai @bA49 @pT49_0)) (ai (ai @pT49_1 @pT49_2) (ai @pT49_3 @inf49))) (ai (ai @und51 (ai @sz51 @ag51)) (ai (ai @inf51 @und53) (ai @sz53 @ag53)))) (ai (ai (ai @fo53 (ai @bA53 @pT53_0)) (ai (ai @pT53_1 @inf53) (ai @und58 @sz58))) (ai (ai (ai @ag58 @fo58) (ai @bA58 @pT58_0)) (ai (ai @pT58_1 @pT58_2) (ai @pT58_3 @inf58)))))))
set_option maxRecDepth 100000
set_option maxHeartbeats 40000000



def factsF (l : List Raw) : List Field → Nat → List Fact
  | [], _ => []
  | f :: r, n => ⟨f.name, Val.zero, mkVal f.ty (gnext l n)⟩ :: factsF l r (gat l n)
/-- What the fields are. -/
def factsL (l : List Raw) : List Fact := factsF l someF 0
theorem facts_ok {l : List Raw} (hr : ∀ r ∈ l, r.ok) : ∀ (fs : List Field) (n : Nat), FsOK fs → ∀ f ∈ factsF l fs n, VOK f.has
  | [], n, _, f, h => by simp [factsF] at h
  | x :: r, n, hf, f, h => by
    simp only [factsF] at h
    rcases List.mem_cons.1 h with rfl | h
    · exact vok_known (mkVal_known x.ty _ (gnext_ok hr n) (hf x (by simp)).2)
    · exact facts_ok hr r _ (fun g hg => hf g (by simp [hg])) f h
theorem factsF_len (l : List Raw) : ∀ (fs : List Field) (n : Nat), (factsF l fs n).length = fs.length
  | [], n => rfl
  | x :: r, n => by simp [factsF, factsF_len l r]
theorem elt_f (l : List Fact) : ∀ x ∈ l.map Fact.dv, Elt 7 x := by
  intro x hx
  obtain ⟨t, _, rfl⟩ := List.mem_map.1 hx
  exact ⟨rfl, by rw [if_neg (by decide)]; exact ⟨_, rfl⟩⟩
/-- Some cells of an element are written over. -/
theorem flat_setF {α : Type} {f : α → DV} {sz off : Nat} {vs : List AV} (hs : ∀ x, (f x).cells.length = sz) : ∀ (l : List α) (k : Nat) (x y : α), l[k]? = some x → off + vs.length ≤ sz → ((f x).cells.map AV.d).take off ++ vs ++ ((f x).cells.map AV.d).drop (off + vs.length) = (f y).cells.map AV.d →
    (flatD (l.map f)).take (k * sz + off) ++ vs ++ (flatD (l.map f)).drop (k * sz + off + vs.length) = flatD ((l.set k y).map f)
  | [], k, x, y, h, _, _ => by simp at h
  | z :: r, 0, x, y, h, hl, he => by
    obtain rfl : z = x := by simpa using h
    have h1 : (flatD ((z :: r).map f)) = (f z).cells.map .d ++ flatD (r.map f) := by simp [flatD]
    have h3 : flatD (((z :: r).set 0 y).map f) = (f y).cells.map .d ++ flatD (r.map f) := by simp [flatD]
    have h2 : ((f z).cells.map AV.d).length = sz := by rw [List.length_map]; exact hs z
    rw [h1, h3, Nat.zero_mul, Nat.zero_add, List.take_append_of_le_length (by omega), List.drop_append_of_le_length (by omega), ← List.append_assoc, he]
  | z :: r, k + 1, x, y, h, hl, he => by
    have h1 : (flatD ((z :: r).map f)) = (f z).cells.map .d ++ flatD (r.map f) := by simp [flatD]
    have h3 : flatD (((z :: r).set (k + 1) y).map f) = (f z).cells.map .d ++ flatD ((r.set k y).map f) := by simp [flatD]
    have h2 : ((f z).cells.map AV.d).length = sz := by rw [List.length_map]; exact hs z
    have ih := flat_setF hs r k x y (by simpa using h) hl he
    rw [h1, h3, ← ih, show (k + 1) * sz + off = ((f z).cells.map AV.d).length + (k * sz + off) by rw [h2, Nat.add_mul]; omega, Nat.add_assoc ((f z).cells.map AV.d).length, List.take_append, List.take_of_length_le (by omega), Nat.add_sub_cancel_left, List.drop_append, List.drop_eq_nil_of_le (by omega), List.nil_append, Nat.add_sub_cancel_left, List.append_assoc, List.append_assoc, List.append_assoc]
structure FW where
  acc : List Fact
  t : Option (List Nat)
  n : Nat
  g : List Nat
/-- The list, and where it lies. -/
def lstF (acc : List Fact) : Option (List Nat) → AV
  | none => .own 7 [] none
  | some p => .arr ⟨0, 26, 0 :: p⟩ 0 acc.length 7
def boxF (acc : List Fact) : Option (List Nat) → Heap
  | none => []
  | some p => [(⟨0, 26, 0 :: p⟩, .box (flatD (acc.map Fact.dv)))]
theorem flat_snoc (acc : List Fact) (f : Fact) : flatD ((acc ++ [f]).map Fact.dv) = flatD (acc.map Fact.dv) ++ [.d (.str f.name), .d (.int .i64 f.key.kind), .d (.int .i64 f.key.n), .d (.str f.key.s), .d (.int .i64 f.has.kind), .d (.int .i64 f.has.n), .d (.str f.has.s)] := by
  simp [flatD, Fact.dv, DV.cells, Val.dv]
theorem flat_app (a b : List DV) : flatD (a ++ b) = flatD a ++ flatD b := by simp [flatD]
theorem flat_one (cs : List DV) : flatD [.agg cs] = cs.map .d := by simp [flatD, DV.cells]
/-- What the loop over fields ends with. -/
def QFc (l : List Raw) : List Fact → Out → St → Prop := fun o q S => q = .exit 0 ∧ ∃ t n g, (t = none → o = []) ∧ Sub ⟨[(3, .ptr ⟨0, 9, [0]⟩ 0), (4, lstF o t)], boxF o t ++ [(⟨0, 9, [0]⟩, gbox l n)], g⟩ S
theorem up_qfc {l : List Raw} (r : List Fact) : Up (QFc l r) := fun o S S' h ⟨h1, t, n, g, h0, h2⟩ => ⟨h1, t, n, g, h0, h2.trans h⟩
theorem run_factsL (l : List Raw) (hl : l.length ≤ 9223372036854775807) (hr : ∀ r ∈ l, r.ok) : ∃ x H', callR tab 0 10 [.d (.sl 4 (l.map Raw.dv))] [] [] = some (x, H') ∧ ∃ id, x = .arr id 0 5 7 ∧ H'.get id = some (.box (flatD ((factsL l).map Fact.dv))) := by
  refine retq_good 6 fn10 rfl rfl ?_
  have hgb : ∀ n, gbox l n = .box [.d (.sl 4 (l.map Raw.dv)), .d (.int .i64 n)] := fun n => rfl
  have hgb0 : gbox l 0 = .box [.d (.sl 4 (l.map Raw.dv)), .d (.int .i64 0)] := rfl
  have hlen : someF.length = 5 := rfl
  simp only [amr, amc, amp, if_true, if_false, ne_eq, gt_iff_lt, Option.getD, argsT, Option.bind, Option.map, List.headD, List.tail, opnsL, List.replicate, lendsL, seval, ty_EvH_10, ca_Some, hlen]
  have hF5 : (factsF l someF 0).length = 5 := factsF_len l someF 0
  unfold factsL
  have hty : ∀ f ∈ someF, Ty f.ty := fun f hf => (someF_ok f hf).2
  generalize someF = fs at *
  refine good_range fs (fun k (a : FW) _ => ⟨[(3, .ptr ⟨0, 9, [0]⟩ 0), (4, lstF a.acc a.t), (10, .d (.sl 9 (fs.map Field.dv))), (11, .d (.int .i64 fs.length)), (12, .d (.int .i64 (k : Nat)))], boxF a.acc a.t ++ [(⟨0, 9, [0]⟩, gbox l a.n)], a.g⟩)
    (fun k a => a.acc.length ≤ k ∧ a.n ≤ k ∧ 1 ≤ a.g.length ∧ (a.t = none → a.acc = [])) (fun k a r => a.acc ++ factsF l r a.n)
    (QFc l) ⟨[], none, 0, [1]⟩ kp10_4 up_qfc ⟨Nat.le_refl _, Nat.le_refl _, by simp, fun _ => rfl⟩ (by omega) (by omega) ?_ ?_ ?_ ?_
  · rintro k ⟨acc, t, n, g⟩ _ x rest hk hget hdr hI hb w1
    have hget' : (fs.map Field.dv)[k]? = some x.dv := by rw [List.getElem?_map, hget]; rfl
    simp only at hI
    obtain ⟨hI1, hI2, hI3, hI4⟩ := hI
    have hA : ((acc.length + 1) * 80 ≤ 140737488355328) = True := eq_true (by omega)
    have hsx : ∀ a b : Nat, ((a :: b :: g) <:+ [0]) = False := fun a b => eq_false (fun h => by have := h.length_le; simp only [List.length_cons, List.length_nil] at this; omega)
    have hsx3 : ∀ a b c : Nat, ((a :: b :: c :: g) <:+ [0]) = False := fun a b c => eq_false (fun h => by have := h.length_le; simp only [List.length_cons, List.length_nil] at this; omega)
    have hsx4 : ∀ a b c d : Nat, ((a :: b :: c :: d :: g) <:+ [0]) = False := fun a b c d => eq_false (fun h => by have := h.length_le; simp only [List.length_cons, List.length_nil] at this; omega)
    have fn := fun (T : Tm) (q : List Nat) (H : Heap) (dst : Nat) (hx : ((0 :: q) <:+ [0]) = False) (hS : Heap.get H ⟨0, 9, [0]⟩ = some (gbox l n)) => ca_next (d := 0) (dst := dst) (S := ⟨T, H, q⟩) 0 9 [0] l n (by omega) hl (Nat.le_refl _) hx hS
    have fR : ∀ (Q : Tm) (H : Heap) (q : List Nat), Heap.get H ⟨0, 9, [0]⟩ = some (gbox l n) → ftC ⟨Q, H, q⟩ [.ptr ⟨0, 9, [0]⟩ 0] none = ⟨[], [⟨0, 9, [0]⟩], true⟩ := fun Q H q hS => ftC_1 rfl hS rfl
    have hrk := gnext_ok hr n
    have fV := fun (S : St) (d dst : Nat) (q : Int) => ca_Value (d := d) (dst := dst) (S := S) q (gnext l n).kind (gnext l n).a (gnext l n).b (gnext l n).text hrk.text
    have hS : acc ++ factsF l (x :: rest) n = (acc ++ [⟨x.name, Val.zero, mkVal x.ty (gnext l n)⟩]) ++ factsF l rest (gat l n) := by simp [factsF]
    have hfs := flat_snoc acc ⟨x.name, Val.zero, mkVal x.ty (gnext l n)⟩
    have hlC : (flatD (acc.map Fact.dv)).length = acc.length * 7 := by rw [flatD_len _ (elt_f acc), List.length_map]
    have hsn : (acc ++ [(⟨x.name, Val.zero, mkVal x.ty (gnext l n)⟩ : Fact)]).length = acc.length + 1 := by simp
    rcases t with _ | t
    · have h0 := hI4 rfl
      subst h0
      simp only [amr, amc, amp, if_true, if_false, ne_eq, gt_iff_lt, Option.getD, argsT, Option.bind, Option.map, List.headD, List.tail, opnsL, List.replicate, lendsL, seval, ty_EvH_10, Field.dv, Fact.dv, Raw.dv, Val.dv, hb, hget', w1, sx1, sx2, fn, fR, fV, hsx, hsx3, hsx4, lstF, boxF, upd, Option.getD_some, Option.getD_none]
      refine step_nrm ⟨[] ++ [⟨x.name, Val.zero, mkVal x.ty (gnext l n)⟩], some (12 :: 1 :: g), gat l n, 1 :: 1 :: g⟩ ?_ hS ?_
      · have := gat_le l n
        simp only [List.length_append, List.length_cons, List.length_nil]
        exact ⟨by omega, by omega, by omega, fun h => by cases h⟩
      · (refine ⟨[], ?_⟩; (try simp only [amr, amc, amp, if_true, if_false, ne_eq, gt_iff_lt, Option.getD, argsT, Option.bind, Option.map, List.headD, List.tail, opnsL, List.replicate, lendsL, seval, lstF, boxF, hfs, hsn, Val.zero, flatD]); exact sub_mk (by repeat first | exact subT_nil | refine subT_cons (by first | rfl | simp [Tm.get, *]) ?_))
    · have hm : ((acc.length + 1) * 7 ≤ acc.length * 7) = False := eq_false (by omega)
      simp only [amr, amc, amp, if_true, if_false, ne_eq, gt_iff_lt, Option.getD, argsT, Option.bind, Option.map, List.headD, List.tail, opnsL, List.replicate, lendsL, seval, ty_EvH_10, Field.dv, Fact.dv, Raw.dv, Val.dv, hb, hget', w1, sx1, sx2, fn, fR, fV, hsx, hsx3, hsx4, hA, hlC, hm, lstF, boxF, upd, Option.getD_some, Option.getD_none]
      refine step_nrm ⟨acc ++ [⟨x.name, Val.zero, mkVal x.ty (gnext l n)⟩], some (12 :: 1 :: g), gat l n, 1 :: 1 :: g⟩ ?_ hS ?_
      · have := gat_le l n
        simp only [List.length_append, List.length_cons, List.length_nil]
        exact ⟨by omega, by omega, by omega, fun h => by cases h⟩
      · (refine ⟨[], ?_⟩; (try simp only [amr, amc, amp, if_true, if_false, ne_eq, gt_iff_lt, Option.getD, argsT, Option.bind, Option.map, List.headD, List.tail, opnsL, List.replicate, lendsL, seval, lstF, boxF, hsn, Val.zero, flat_app, flat_one, Fact.dv, Val.dv]); exact sub_mk (by repeat first | exact subT_nil | refine subT_cons (by first | rfl | simp [Tm.get, *]) ?_))
  · rintro ⟨acc, t, n, g⟩ _ hI hb
    simp only [amr, amc, amp, if_true, if_false, ne_eq, gt_iff_lt, Option.getD, argsT, Option.bind, Option.map, List.headD, List.tail, opnsL, List.replicate, lendsL, seval, ty_EvH_10, hb]
    refine last_end (by simp) ?_
    simp only [factsF, List.append_nil]
    refine ⟨rfl, t, n, g, hI.2.2.2, ?_⟩
    rcases t with _ | t
    · simp only [amr, amc, amp, if_true, if_false, ne_eq, gt_iff_lt, Option.getD, argsT, Option.bind, Option.map, List.headD, List.tail, opnsL, List.replicate, lendsL, seval, lstF, boxF]
      exact sub_mk (by repeat first | exact subT_nil | refine subT_cons (by first | rfl | simp [Tm.get, *]) ?_)
    · simp only [amr, amc, amp, if_true, if_false, ne_eq, gt_iff_lt, Option.getD, argsT, Option.bind, Option.map, List.headD, List.tail, opnsL, List.replicate, lendsL, seval, lstF, boxF]
      exact sub_mk (by repeat first | exact subT_nil | refine subT_cons (by first | rfl | simp [Tm.get, *]) ?_)
  · (refine ⟨[], ?_⟩; (try simp only [amr, amc, amp, if_true, if_false, ne_eq, gt_iff_lt, Option.getD, argsT, Option.bind, Option.map, List.headD, List.tail, opnsL, List.replicate, lendsL, seval, lstF, boxF]); exact sub_mk (by repeat first | exact subT_nil | refine subT_cons (by first | rfl | simp [Tm.get, *]) ?_))
  · rintro o S' ⟨rfl, t, n, g, h0, hs⟩
    refine good_sub_cr up_finq hs ?_
    simp only [List.nil_append] at h0 ⊢
    generalize factsF l fs 0 = F at *
    rcases t with _ | t
    · rw [h0 rfl] at hF5
      cases hF5
    · simp only [amr, amc, amp, if_true, if_false, ne_eq, gt_iff_lt, Option.getD, argsT, Option.bind, Option.map, List.headD, List.tail, opnsL, List.replicate, lendsL, seval, ty_EvH_10, lstF, boxF]
      rw [hF5]
      exact ⟨_, rfl, by simp only [Heap.get, if_true]⟩
theorem ret_factsL (l : List Raw) (hl : l.length ≤ 9223372036854775807) (hr : ∀ r ∈ l, r.ok) : RetD tab 10 [.d (.sl 4 (l.map Raw.dv))] (.sl 7 ((factsL l).map Fact.dv)) := by
  obtain ⟨x, H', h1, id, rfl, h2⟩ := run_factsL l hl hr
  refine ⟨_, _, h1, rfl, ?_⟩
  show toD (frzB H' (.arr id 0 5 7)) = some (DV.sl 7 ((factsL l).map Fact.dv))
  have hl5 : (factsL l).length = 5 := factsF_len l someF 0
  rw [frz_list0 (xs := (factsL l).map Fact.dv) h2 (by rw [List.length_map, hl5]) (by decide) (elt_f _)]
  rfl
/-- The facts, to be written to. -/
theorem ca_factsT (l : List Raw) (hl : l.length ≤ 9223372036854775807) (hr : ∀ r ∈ l, r.ok) {d dst j : Nat} {S : St} (ht : tab.thaw 10 dst = some j) : callA tab (callR tab) d dst 10 [.d (.sl 4 (l.map Raw.dv))] S = some (.arr ⟨d, dst, 0 :: S.g⟩ 0 5 7, ⟨S.T, (⟨d, dst, 0 :: S.g⟩, .box (flatD ((factsL l).map Fact.dv))) :: S.H, 1 :: S.g⟩) := by
  obtain ⟨x, H', h1, id, rfl, h2⟩ := run_factsL l hl hr
  exact call_thaw (ds := [.sl 4 (l.map Raw.dv)]) h1 rfl rfl (tab_opn (by kernel_rfl)) ht h2 (allD_map _)
theorem ca_factsL (l : List Raw) (hl : l.length ≤ 9223372036854775807) (hr : ∀ r ∈ l, r.ok) {d dst : Nat} {S : St} (ht : tab.thaw 10 dst = none) : callA tab (callR tab) d dst 10 [.d (.sl 4 (l.map Raw.dv))] S = some (.d (.sl 7 ((factsL l).map Fact.dv)), S) :=
  ca_frz (ds := [.sl 4 (l.map Raw.dv)]) (ret_factsL l hl hr) rfl (tab_opn (by kernel_rfl)) (by kernel_rfl) ht
end Go.Proofs.Ythmggkidmcgfoaa.Am
