/- Leaves and formulas of raw things, as data; constants, walked. -/
import Derived.Test.YtnombkkfijlkfaaGenA
set_option linter.unusedVariables false
set_option linter.unusedSimpArgs false
namespace Go.Proofs.Ytnombkkfijlkfaa.Am
open Go Go.RowKit
theorem ty_FmQ_101 : type_of% (ai (ai (ai (ai (ai @rs101 (ai @lv101_0 @ro41_3_raw_go_67)) (ai (ai @lv101_1 @lv101_2) (ai @lv101_3 @lv101_4))) (ai (ai (ai @und1 @sz1) (ai @ag1 @inf1)) (ai (ai @und3 @sz3) (ai @ag3 @lv3)))) (ai (ai (ai @inf3 (ai @und4 @sz4)) (ai (ai @ag4 @lv4) (ai @inf4 @und9))) (ai (ai (ai @sz9 @ag9) (ai @lv9 @inf9)) (ai (ai @und29 @sz29) (ai @ag29 @fo29))))) (ai (ai (ai (ai @bA29 (ai @pT29_0 @pT29_1)) (ai (ai @pT29_2 @lv29) (ai @inf29 @und30))) (ai (ai (ai @sz30 @ag30) (ai @pT30 @inf30)) (ai (ai @und32 @sz32) (ai @ag32 @fo32)))) (ai (ai (ai (ai @bA32 @pT32_0) (ai @pT32_1 @pT32_2)) (ai (ai @pT32_3 @inf32) (ai @und41 @sz41))) (ai (ai (ai @ag41 @fo41) (ai @bA41 @pT41_0)) (ai (ai @pT41_1 @pT41_2) (ai @pT41_3 @inf41)))))) := (ai (ai (ai (ai (ai @rs101 (ai @lv101_0 @ro41_3_raw_go_67)) (ai (ai @lv101_1 @lv101_2) (ai @lv101_3 @lv101_4))) (ai (ai (ai @und1 @sz1) (ai @ag1 @inf1)) (ai (ai @und3 @sz3) (ai @ag3 @lv3)))) (ai (ai (ai @inf3 (ai @und4 @sz4)) (ai (ai @ag4 @lv4) (ai @inf4 @und9))) (ai (ai (ai @sz9 @ag9) (ai @lv9 @inf9)) (ai (ai @und29 @sz29) (ai @ag29 @fo29))))) (ai (ai (ai (ai @bA29 (ai @pT29_0 @pT29_1)) (ai (ai @pT29_2 @lv29) (ai @inf29 @und30))) (ai (ai (ai @sz30 @ag30) (ai @pT30 @inf30)) (ai (ai @und32 @sz32) (ai @ag32 @fo32)))) (ai (ai (ai (ai @bA32 @pT32_0) (ai @pT32_1 @pT32_2)) (ai (ai @pT32_3 @inf32) (ai @und41 @sz41))) (ai (ai (ai @ag41 @fo41) (ai @bA41 @pT41_0)) (ai (ai @pT41_1 @pT41_2) (ai @pT41_3 @inf41))))))
set_option maxRecDepth 100000
set_option maxHeartbeats 40000000



def constV (kind : Int) (r : Raw) : Val := if kind = 1 then { mkVal kind r with n := if IntKind.i64.wrap (0 - (mkVal kind r).n) > (mkVal kind r).n then IntKind.i64.wrap (0 - (mkVal kind r).n) else (mkVal kind r).n } else mkVal kind r
def constE (kind : Int) (r : Raw) : Exp := .mk 1 (constV kind r) [] []
theorem ret_constant (kind : Int) (r : Raw) (hr : r.text.length ≤ 9223372036854775807) : RetD tab 101 [.d (.int .i64 (kind)), .d (r.dv)] ((constE kind r).dv) := by
  have f2 := fun (S : St) (d dst : Nat) => cf_Value (d := d) (dst := dst) (S := S) kind r hr
  refine retq_good (1) fn101 rfl rfl ?_
  unfold constE constV
  rw [Exp.dv_mk]
  simp only [Raw.dv, Val.dv] at f2
  by_cases hk : kind = 1
  · have b0 : (kind == 1) = true := by rw [hk]; rfl
    rw [if_pos hk]
    generalize mkVal kind r = v at *
    by_cases hv : IntKind.i64.wrap (0 - v.n) > v.n
    · rw [if_pos hv]
      simp only [amr, amc, amp, if_true, if_false, ne_eq, gt_iff_lt, Option.getD, argsT, Option.bind, Option.map, List.headD, List.tail, opnsL, List.replicate, lendsL, seval, ty_FmQ_101, Raw.dv, Val.dv, f2, b0, gt_iff_lt, eq_true (gt_iff_lt.1 hv)]
      repeat' ((first | refine good_ci (fun h => ?_) (fun h => ?_) | refine good_cgt (fun h => ?_) (fun h => ?_) | refine good_cgf (fun h => ?_) (fun h => ?_) | refine good_cqgt (fun h => ?_) (fun h => ?_) | refine good_cqgf (fun h => ?_) (fun h => ?_)) <;> simp only [amr, amc, amp, if_true, if_false, ne_eq, gt_iff_lt, Option.getD, argsT, Option.bind, Option.map, List.headD, List.tail, opnsL, List.replicate, lendsL, seval, ty_FmQ_101, Raw.dv, Val.dv, f2, b0, gt_iff_lt, eq_true (gt_iff_lt.1 hv), h])
    · rw [if_neg hv]
      simp only [amr, amc, amp, if_true, if_false, ne_eq, gt_iff_lt, Option.getD, argsT, Option.bind, Option.map, List.headD, List.tail, opnsL, List.replicate, lendsL, seval, ty_FmQ_101, Raw.dv, Val.dv, f2, b0, gt_iff_lt, eq_false (fun h => hv (gt_iff_lt.2 h))]
      repeat' ((first | refine good_ci (fun h => ?_) (fun h => ?_) | refine good_cgt (fun h => ?_) (fun h => ?_) | refine good_cgf (fun h => ?_) (fun h => ?_) | refine good_cqgt (fun h => ?_) (fun h => ?_) | refine good_cqgf (fun h => ?_) (fun h => ?_)) <;> simp only [amr, amc, amp, if_true, if_false, ne_eq, gt_iff_lt, Option.getD, argsT, Option.bind, Option.map, List.headD, List.tail, opnsL, List.replicate, lendsL, seval, ty_FmQ_101, Raw.dv, Val.dv, f2, b0, gt_iff_lt, eq_false (fun h => hv (gt_iff_lt.2 h)), h])
  · have b0 : (kind == 1) = false := beq_eq_false_iff_ne.2 hk
    rw [if_neg hk]
    generalize mkVal kind r = v at *
    simp only [amr, amc, amp, if_true, if_false, ne_eq, gt_iff_lt, Option.getD, argsT, Option.bind, Option.map, List.headD, List.tail, opnsL, List.replicate, lendsL, seval, ty_FmQ_101, Raw.dv, Val.dv, f2, b0]
    repeat' ((first | refine good_ci (fun h => ?_) (fun h => ?_) | refine good_cgt (fun h => ?_) (fun h => ?_) | refine good_cgf (fun h => ?_) (fun h => ?_) | refine good_cqgt (fun h => ?_) (fun h => ?_) | refine good_cqgf (fun h => ?_) (fun h => ?_)) <;> simp only [amr, amc, amp, if_true, if_false, ne_eq, gt_iff_lt, Option.getD, argsT, Option.bind, Option.map, List.headD, List.tail, opnsL, List.replicate, lendsL, seval, ty_FmQ_101, Raw.dv, Val.dv, f2, b0, h])
theorem cf_constant {d dst : Nat} {S : St} (kind : Int) (r : Raw) (hr : r.text.length ≤ 9223372036854775807) : callA tab (callR tab) d dst 101 [.d (.int .i64 (kind)), .d (r.dv)] S = some (.d ((constE kind r).dv), S) :=
  ca_retD (ds := [.int .i64 (kind), r.dv]) (ret_constant kind r hr) rfl (tab_opn (by kernel_rfl)) (tab_res (by kernel_rfl))
theorem ca_constant {d dst : Nat} {S : St} (kind : Int) (r_kind : Int) (r_a : Int) (r_b : Int) (r_text : List UInt8) (hr : (Raw.mk r_kind r_a r_b r_text).text.length ≤ 9223372036854775807) : callA tab (callR tab) d dst 101 [.d (.int .i64 (kind)), .d (.agg [.int .i64 r_kind, .int .i64 r_a, .int .i64 r_b, .str r_text])] S = some (.d ((constE kind (Raw.mk r_kind r_a r_b r_text)).dv), S) :=
  ca_retD (ds := [.int .i64 (kind), .agg [.int .i64 r_kind, .int .i64 r_a, .int .i64 r_b, .str r_text]]) (ret_constant kind (Raw.mk r_kind r_a r_b r_text) hr) rfl (tab_opn (by kernel_rfl)) (tab_res (by kernel_rfl))
def fnames (kind : Int) : List Field → List (List UInt8)
  | [] => []
  | f :: r => if f.ty = kind then f.name :: fnames kind r else fnames kind r
theorem fnames_le (kind : Int) : ∀ fs : List Field, (fnames kind fs).length ≤ fs.length
  | [] => Nat.le_refl _
  | f :: r => by
    have := fnames_le kind r
    unfold fnames
    split <;> simp only [List.length_cons] <;> omega
def gleafE (kind : Int) (fs : List Field) (r : Raw) : Exp :=
  if (fnames kind fs).length = 0 then constE kind r else if pick r.kind 4 = 0 then constE kind r else .mk 2 Val.zero ((fnames kind fs).getD (pick r.b (fnames kind fs).length).toNat []) []
/-- One formula behind the other. -/
def gargs (ge : Int → Nat → Exp × Nat) : List Int → Nat → List Exp × Nat
  | [], n => ([], n)
  | k :: ks, n => ((ge k n).1 :: (gargs ge ks (ge k n).2).1, (gargs ge ks (ge k n).2).2)
/-- An op, and of which kinds its arguments are. -/
def gshape (kind : Int) (r : Raw) : Int × List Int :=
  if pick r.a 6 = 0 then (17, [2, kind, kind])
  else if kind = 1 then (if pick r.b 7 = 0 then (3, [1]) else if pick r.b 7 = 1 then (18, [3]) else (5 + (pick r.b 7 - 2), [1, 1]))
  else if kind = 2 then (if pick r.b 7 = 0 then (4, [2]) else if pick r.b 7 < 3 then (15 + pick r.b 7 - 1, [2, 2]) else (11 + pick r.b 7 - 3, [1 + pick r.a 3, 1 + pick r.a 3]))
  else (10, [3, 3])
def gexpr (fs : List Field) (l : List Raw) : Nat → Int → Nat → Exp × Nat
  | 0, kind, k => (gleafE kind fs (gnext l (gat l k)), gat l (gat l k))
  | d + 1, kind, k => if pick (gnext l k).kind 3 = 0 then (gleafE kind fs (gnext l (gat l k)), gat l (gat l k)) else
    (.mk (gshape kind (gnext l k)).1 Val.zero [] (gargs (gexpr fs l d) (gshape kind (gnext l k)).2 (gat l k)).1, (gargs (gexpr fs l d) (gshape kind (gnext l k)).2 (gat l k)).2)
theorem gargs_at {ge : Int → Nat → Exp × Nat} {c : Nat} (h : ∀ k n, n ≤ (ge k n).2 ∧ (ge k n).2 ≤ n + c) : ∀ (ks : List Int) (n : Nat), n ≤ (gargs ge ks n).2 ∧ (gargs ge ks n).2 ≤ n + ks.length * c
  | [], n => by simp [gargs]
  | k :: ks, n => by
    have h1 := h k n
    have h2 := gargs_at h ks (ge k n).2
    simp only [gargs, List.length_cons, Nat.add_mul]
    omega
theorem gshape_len (kind : Int) (r : Raw) : (gshape kind r).2.length ≤ 3 := by
  unfold gshape
  split
  · simp
  · split
    · split
      · simp
      · split <;> simp
    · split
      · split
        · simp
        · split <;> simp
      · simp
theorem gexpr_at (fs : List Field) (l : List Raw) : ∀ (d : Nat) (kind : Int) (k : Nat), k ≤ (gexpr fs l d kind k).2 ∧ (gexpr fs l d kind k).2 ≤ k + 4 ^ (d + 2)
  | 0, kind, k => by
    have h1 := gat_le l k
    have h2 := gat_le l (gat l k)
    simp only [gexpr]
    omega
  | d + 1, kind, k => by
    have h1 := gat_le l k
    have h2 := gat_le l (gat l k)
    have h3 := gargs_at (ge := gexpr fs l d) (gexpr_at fs l d) (gshape kind (gnext l k)).2 (gat l k)
    have h4 := gshape_len kind (gnext l k)
    have h5 : (gshape kind (gnext l k)).2.length * 4 ^ (d + 2) ≤ 3 * 4 ^ (d + 2) := Nat.mul_le_mul_right _ h4
    have h6 : 0 < 4 ^ (d + 2) := Nat.pow_pos (by decide)
    have h7 : 4 ^ (d + 1 + 2) = 4 * 4 ^ (d + 2) := by rw [show d + 1 + 2 = (d + 2) + 1 by omega, Nat.pow_succ, Nat.mul_comm]
    have h8 : 16 ≤ 4 ^ (d + 2) := by
      have := Nat.pow_le_pow_right (n := 4) (by decide) (show 2 ≤ d + 2 by omega)
      simpa using this
    unfold gexpr
    split
    · simp only; omega
    · simp only; omega
end Go.Proofs.Ytnombkkfijlkfaa.Am
