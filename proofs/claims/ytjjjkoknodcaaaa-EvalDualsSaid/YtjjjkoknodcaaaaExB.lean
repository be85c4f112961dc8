/- Formulas that may be. -/
import Derived.Test.YtjjjkoknodcaaaaExA
import Derived.Test.YtjjjkoknodcaaaaLexN
set_option linter.unusedVariables false
set_option linter.unusedSimpArgs false
namespace Go.Proofs.Ytjjjkoknodcaaaa.Am
open Go Go.RowKit
theorem ty_ExB_83 : type_of% (And.intro (And.intro (And.intro (And.intro @rs83 (And.intro @lv83_0 @lv83_1)) (And.intro (And.intro @und3 @sz3) (And.intro @ag3 @lv3))) (And.intro (And.intro @inf3 (And.intro @und9 @sz9)) (And.intro (And.intro @ag9 @lv9) (And.intro @inf9 @und129)))) (And.intro (And.intro (And.intro @sz129 (And.intro @ag129 @fo129)) (And.intro (And.intro @bA129 @pT129_0) (And.intro @pT129_1 @pT129_2))) (And.intro (And.intro @inf129 (And.intro @und130 @sz130)) (And.intro (And.intro @ag130 @bA130) (And.intro @pT130 @inf130))))) := (And.intro (And.intro (And.intro (And.intro @rs83 (And.intro @lv83_0 @lv83_1)) (And.intro (And.intro @und3 @sz3) (And.intro @ag3 @lv3))) (And.intro (And.intro @inf3 (And.intro @und9 @sz9)) (And.intro (And.intro @ag9 @lv9) (And.intro @inf9 @und129)))) (And.intro (And.intro (And.intro @sz129 (And.intro @ag129 @fo129)) (And.intro (And.intro @bA129 @pT129_0) (And.intro @pT129_1 @pT129_2))) (And.intro (And.intro @inf129 (And.intro @und130 @sz130)) (And.intro (And.intro @ag130 @bA130) (And.intro @pT130 @inf130)))))
theorem ty_ExB_59 : type_of% (And.intro (And.intro (And.intro (And.intro (And.intro (And.intro @rs59 @lv59_0) (And.intro @ro27_1_expr_go_50 (And.intro @lv59_1 @lv59_2))) (And.intro (And.intro @dr59_3 @lv59_3) (And.intro @lv59_4 (And.intro @lv59_5 @lv59_8)))) (And.intro (And.intro (And.intro @lv59_9 @lv59_10) (And.intro @lv59_11 (And.intro @lv59_12 @lv59_13))) (And.intro (And.intro @lv59_6 (And.intro @lv59_7 @lv59_14)) (And.intro @und1 (And.intro @sz1 @ag1))))) (And.intro (And.intro (And.intro (And.intro @inf1 @und2) (And.intro @sz2 (And.intro @ag2 @lv2))) (And.intro (And.intro @inf2 (And.intro @und3 @sz3)) (And.intro @ag3 (And.intro @lv3 @inf3)))) (And.intro (And.intro (And.intro @und4 @sz4) (And.intro @ag4 (And.intro @lv4 @inf4))) (And.intro (And.intro @und9 (And.intro @sz9 @ag9)) (And.intro @lv9 (And.intro @inf9 @und24)))))) (And.intro (And.intro (And.intro (And.intro (And.intro @sz24 @ag24) (And.intro @fo24 (And.intro @bA24 @pT24_0))) (And.intro (And.intro @pT24_1 (And.intro @pT24_2 @lv24)) (And.intro @inf24 (And.intro @und25 @sz25)))) (And.intro (And.intro (And.intro @ag25 @pT25) (And.intro @inf25 (And.intro @und27 @sz27))) (And.intro (And.intro @ag27 (And.intro @fo27 @bA27)) (And.intro @pT27_0 (And.intro @pT27_1 @pT27_2))))) (And.intro (And.intro (And.intro (And.intro @pT27_3 @inf27) (And.intro @und34 (And.intro @sz34 @ag34))) (And.intro (And.intro @lv34 (And.intro @inf34 @und129)) (And.intro @sz129 (And.intro @ag129 @fo129)))) (And.intro (And.intro (And.intro @bA129 @pT129_0) (And.intro @pT129_1 (And.intro @pT129_2 @inf129))) (And.intro (And.intro @und130 (And.intro @sz130 @ag130)) (And.intro @bA130 (And.intro @pT130 @inf130))))))) := (And.intro (And.intro (And.intro (And.intro (And.intro (And.intro @rs59 @lv59_0) (And.intro @ro27_1_expr_go_50 (And.intro @lv59_1 @lv59_2))) (And.intro (And.intro @dr59_3 @lv59_3) (And.intro @lv59_4 (And.intro @lv59_5 @lv59_8)))) (And.intro (And.intro (And.intro @lv59_9 @lv59_10) (And.intro @lv59_11 (And.intro @lv59_12 @lv59_13))) (And.intro (And.intro @lv59_6 (And.intro @lv59_7 @lv59_14)) (And.intro @und1 (And.intro @sz1 @ag1))))) (And.intro (And.intro (And.intro (And.intro @inf1 @und2) (And.intro @sz2 (And.intro @ag2 @lv2))) (And.intro (And.intro @inf2 (And.intro @und3 @sz3)) (And.intro @ag3 (And.intro @lv3 @inf3)))) (And.intro (And.intro (And.intro @und4 @sz4) (And.intro @ag4 (And.intro @lv4 @inf4))) (And.intro (And.intro @und9 (And.intro @sz9 @ag9)) (And.intro @lv9 (And.intro @inf9 @und24)))))) (And.intro (And.intro (And.intro (And.intro (And.intro @sz24 @ag24) (And.intro @fo24 (And.intro @bA24 @pT24_0))) (And.intro (And.intro @pT24_1 (And.intro @pT24_2 @lv24)) (And.intro @inf24 (And.intro @und25 @sz25)))) (And.intro (And.intro (And.intro @ag25 @pT25) (And.intro @inf25 (And.intro @und27 @sz27))) (And.intro (And.intro @ag27 (And.intro @fo27 @bA27)) (And.intro @pT27_0 (And.intro @pT27_1 @pT27_2))))) (And.intro (And.intro (And.intro (And.intro @pT27_3 @inf27) (And.intro @und34 (And.intro @sz34 @ag34))) (And.intro (And.intro @lv34 (And.intro @inf34 @und129)) (And.intro @sz129 (And.intro @ag129 @fo129)))) (And.intro (And.intro (And.intro @bA129 @pT129_0) (And.intro @pT129_1 (And.intro @pT129_2 @inf129))) (And.intro (And.intro @und130 (And.intro @sz130 @ag130)) (And.intro @bA130 (And.intro @pT130 @inf130)))))))
theorem ty_ExB_40 : type_of% (And.intro (And.intro (And.intro (And.intro (And.intro @rs40 (And.intro @lv40_0 @ro27_1_expr_go_75)) (And.intro (And.intro @lv40_1 @lv40_2) (And.intro @lv40_3 @lv40_4))) (And.intro (And.intro (And.intro @lv40_5 @lv40_6) (And.intro @lv40_7 @lv40_8)) (And.intro (And.intro @lv40_9 @lv40_10) (And.intro @lv40_11 @kp40_5)))) (And.intro (And.intro (And.intro @und3 (And.intro @sz3 @ag3)) (And.intro (And.intro @lv3 @inf3) (And.intro @und4 @sz4))) (And.intro (And.intro (And.intro @ag4 @lv4) (And.intro @inf4 @und9)) (And.intro (And.intro @sz9 @ag9) (And.intro @lv9 @inf9))))) (And.intro (And.intro (And.intro (And.intro @und24 (And.intro @sz24 @ag24)) (And.intro (And.intro @fo24 @bA24) (And.intro @pT24_0 @pT24_1))) (And.intro (And.intro (And.intro @pT24_2 @lv24) (And.intro @inf24 @und25)) (And.intro (And.intro @sz25 @ag25) (And.intro @pT25 @inf25)))) (And.intro (And.intro (And.intro @und27 (And.intro @sz27 @ag27)) (And.intro (And.intro @fo27 @bA27) (And.intro @pT27_0 @pT27_1))) (And.intro (And.intro (And.intro @pT27_2 @pT27_3) (And.intro @inf27 @und34)) (And.intro (And.intro @sz34 @ag34) (And.intro @lv34 @inf34)))))) := (And.intro (And.intro (And.intro (And.intro (And.intro @rs40 (And.intro @lv40_0 @ro27_1_expr_go_75)) (And.intro (And.intro @lv40_1 @lv40_2) (And.intro @lv40_3 @lv40_4))) (And.intro (And.intro (And.intro @lv40_5 @lv40_6) (And.intro @lv40_7 @lv40_8)) (And.intro (And.intro @lv40_9 @lv40_10) (And.intro @lv40_11 @kp40_5)))) (And.intro (And.intro (And.intro @und3 (And.intro @sz3 @ag3)) (And.intro (And.intro @lv3 @inf3) (And.intro @und4 @sz4))) (And.intro (And.intro (And.intro @ag4 @lv4) (And.intro @inf4 @und9)) (And.intro (And.intro @sz9 @ag9) (And.intro @lv9 @inf9))))) (And.intro (And.intro (And.intro (And.intro @und24 (And.intro @sz24 @ag24)) (And.intro (And.intro @fo24 @bA24) (And.intro @pT24_0 @pT24_1))) (And.intro (And.intro (And.intro @pT24_2 @lv24) (And.intro @inf24 @und25)) (And.intro (And.intro @sz25 @ag25) (And.intro @pT25 @inf25)))) (And.intro (And.intro (And.intro @und27 (And.intro @sz27 @ag27)) (And.intro (And.intro @fo27 @bA27) (And.intro @pT27_0 @pT27_1))) (And.intro (And.intro (And.intro @pT27_2 @pT27_3) (And.intro @inf27 @und34)) (And.intro (And.intro @sz34 @ag34) (And.intro @lv34 @inf34))))))
theorem ty_ExB_19 : type_of% (And.intro (And.intro (And.intro (And.intro (And.intro @rs19 (And.intro @lv19_0 @ro27_1_expr_go_88)) (And.intro (And.intro @lv19_1 @lv19_2) (And.intro @lv19_3 @lv19_4))) (And.intro (And.intro @lv19_5 (And.intro @lv19_6 @und1)) (And.intro (And.intro @sz1 @ag1) (And.intro @inf1 @und3)))) (And.intro (And.intro (And.intro @sz3 (And.intro @ag3 @lv3)) (And.intro (And.intro @inf3 @und4) (And.intro @sz4 @ag4))) (And.intro (And.intro (And.intro @lv4 @inf4) (And.intro @und9 @sz9)) (And.intro (And.intro @ag9 @lv9) (And.intro @inf9 @und24))))) (And.intro (And.intro (And.intro (And.intro @sz24 (And.intro @ag24 @fo24)) (And.intro (And.intro @bA24 @pT24_0) (And.intro @pT24_1 @pT24_2))) (And.intro (And.intro @lv24 (And.intro @inf24 @und25)) (And.intro (And.intro @sz25 @ag25) (And.intro @pT25 @inf25)))) (And.intro (And.intro (And.intro @und27 (And.intro @sz27 @ag27)) (And.intro (And.intro @fo27 @bA27) (And.intro @pT27_0 @pT27_1))) (And.intro (And.intro (And.intro @pT27_2 @pT27_3) (And.intro @inf27 @und34)) (And.intro (And.intro @sz34 @ag34) (And.intro @lv34 @inf34)))))) := (And.intro (And.intro (And.intro (And.intro (And.intro @rs19 (And.intro @lv19_0 @ro27_1_expr_go_88)) (And.intro (And.intro @lv19_1 @lv19_2) (And.intro @lv19_3 @lv19_4))) (And.intro (And.intro @lv19_5 (And.intro @lv19_6 @und1)) (And.intro (And.intro @sz1 @ag1) (And.intro @inf1 @und3)))) (And.intro (And.intro (And.intro @sz3 (And.intro @ag3 @lv3)) (And.intro (And.intro @inf3 @und4) (And.intro @sz4 @ag4))) (And.intro (And.intro (And.intro @lv4 @inf4) (And.intro @und9 @sz9)) (And.intro (And.intro @ag9 @lv9) (And.intro @inf9 @und24))))) (And.intro (And.intro (And.intro (And.intro @sz24 (And.intro @ag24 @fo24)) (And.intro (And.intro @bA24 @pT24_0) (And.intro @pT24_1 @pT24_2))) (And.intro (And.intro @lv24 (And.intro @inf24 @und25)) (And.intro (And.intro @sz25 @ag25) (And.intro @pT25 @inf25)))) (And.intro (And.intro (And.intro @und27 (And.intro @sz27 @ag27)) (And.intro (And.intro @fo27 @bA27) (And.intro @pT27_0 @pT27_1))) (And.intro (And.intro (And.intro @pT27_2 @pT27_3) (And.intro @inf27 @und34)) (And.intro (And.intro @sz34 @ag34) (And.intro @lv34 @inf34))))))
set_option maxRecDepth 100000
set_option maxHeartbeats 40000000



def shp : List DV := [.str [], .int .i64 0, .int .i64 0, .str [], .int .i64 7, .int .i64 0, .str [], .int .i64 7, .int .i64 0, .str [45], .int .i64 6, .int .i64 1, .str [110, 111, 116], .int .i64 6, .int .i64 1, .str [42], .int .i64 5, .int .i64 2, .str [47], .int .i64 5, .int .i64 2, .str [37], .int .i64 5, .int .i64 2, .str [43], .int .i64 4, .int .i64 2, .str [45], .int .i64 4, .int .i64 2, .str [38], .int .i64 4, .int .i64 2, .str [60], .int .i64 3, .int .i64 2, .str [60, 61], .int .i64 3, .int .i64 2, .str [61], .int .i64 3, .int .i64 2, .str [33, 61], .int .i64 3, .int .i64 2, .str [97, 110, 100], .int .i64 2, .int .i64 2, .str [111, 114], .int .i64 1, .int .i64 2, .str [105, 102], .int .i64 7, .int .i64 3, .str [108, 101, 110], .int .i64 7, .int .i64 1]
theorem ca_shapes {d dst : Nat} {S : St} : callA tab (callR tab) d dst 83 [] S = some (.d (.agg shp), S) := by
  refine ca_ret (ds := []) (?_ : Ret tab 83 [] (.d (.agg shp))) rfl (tab_opn (by kernel_rfl)) (tab_res (by kernel_rfl))
  refine ret_of 1 fn83 rfl rfl ?_
  simp only [amr, amc, amp, if_true, if_false, ne_eq, gt_iff_lt, Option.getD, argsT, Option.bind, Option.map, List.headD, List.tail, reduceIte, reduceDIte, Nat.reduceEqDiff, Nat.reduceAdd, Nat.reduceSub, Nat.reduceMul, Nat.reduceLT, reduceCtorEq, Int.reduceEq, Int.reduceLT, Int.reduceLE, Int.reduceNeg, Int.reduceToNat, Int.reduceBNe, Int.reduceBEq, Int.reduceAdd, Int.reduceSub, Int.reduceMul, opnsL, Nat.reduceLeDiff, Nat.reduceGT, List.replicate, Nat.reduceShiftRight, Nat.reduceMod, Nat.reduceBEq, lendsL, ty_ExB_83]
  rfl
/-- How many arguments an op has. -/
def arity (op : Int) : Int := if op = 1 then 0 else if op = 2 then 0 else if op = 3 then 1 else if op = 4 then 1 else if op = 17 then 3 else if op = 18 then 1 else 2
theorem shp_at {op : Int} (h0 : 1 ≤ op) (h1 : op ≤ 18) : ∃ sg lv rest, List.drop (op.toNat * 3) (shp.map AV.d) = .d (.str sg) :: .d (.int .i64 lv) :: .d (.int .i64 (arity op)) :: rest := by
  have h : op = 1 ∨ op = 2 ∨ op = 3 ∨ op = 4 ∨ op = 5 ∨ op = 6 ∨ op = 7 ∨ op = 8 ∨ op = 9 ∨ op = 10 ∨ op = 11 ∨ op = 12 ∨ op = 13 ∨ op = 14 ∨ op = 15 ∨ op = 16 ∨ op = 17 ∨ op = 18 := by omega
  rcases h with rfl | rfl | rfl | rfl | rfl | rfl | rfl | rfl | rfl | rfl | rfl | rfl | rfl | rfl | rfl | rfl | rfl | rfl <;> exact ⟨_, _, _, rfl⟩
def vz (v : Val) : Bool := v.kind == 0 && (v.n == 0 && v.s == [])
/-- May a formula be, by itself? -/
def PartOK (op : Int) (v : Val) (name : Str) (n : Nat) : Prop := 1 ≤ op ∧ op ≤ 18 ∧ (n : Int) = arity op ∧ (if op = 1 then name = [] ∧ valKnown v = true ∧ ¬ (v.kind = 1 ∧ v.n < 0) else if op = 2 then nameErr name = 0 ∧ vz v = true else name = [] ∧ vz v = true)
mutual
def Exp.wf : Exp → Prop
  | .mk op v name args => PartOK op v name args.length ∧ Exp.wfL args
def Exp.wfL : List Exp → Prop
  | [] => True
  | x :: r => x.wf ∧ Exp.wfL r
end
theorem ret_part (x : Exp) (h : PartOK x.op x.v x.name x.args.length) : Ret tab 59 [.d x.dv] (.d (.int .i64 0)) := by
  obtain ⟨h1, h2, h3, h4⟩ := h
  obtain ⟨sg, lv, rest, hs⟩ := shp_at h1 h2
  rw [Exp.dv_eq x]
  generalize x.op = op at *
  generalize x.name = name at *
  generalize x.args = args at *
  generalize x.v = v at *
  refine ret_of 1 fn59 rfl rfl ?_
  have b1 : decide (op < 1) = false := decide_eq_false (by omega)
  have b2 : decide (18 < op) = false := decide_eq_false (by omega)
  have b3 : (((args.length : Nat) : Int) != arity op) = false := by rw [h3]; simp
  have k1 : (0 ≤ op) = True := eq_true (by omega)
  have k2 : (op < 19) = True := eq_true (by omega)
  have k3 : ∀ m : Nat, (3 ≤ m + 1 + 1 + 1) = True := fun m => eq_true (by omega)
  have fk : ∀ (S : St) (d dst : Nat), callA tab (callR tab) d dst 33 [.d (.agg [.int .i64 v.kind, .int .i64 v.n, .str v.s])] S = some (.d (.bool (valKnown v)), S) := fun S d dst => ca_Known v.kind v.n v.s
  have fz : (v.kind == 0 && (v.n == 0 && v.s == [])) = vz v := rfl
  by_cases c1 : op = 1
  · rw [if_pos c1] at h4
    obtain ⟨rfl, hv, hn⟩ := h4
    have b4 : (op == 1) = true := beq_iff_eq.2 c1
    rw [hv] at fk
    cases c2 : (v.kind == 1) with
    | true =>
      have b5 : decide (v.n < 0) = false := decide_eq_false (fun h => hn ⟨beq_iff_eq.1 c2, h⟩)
      simp only [amr, amc, amp, if_true, if_false, ne_eq, gt_iff_lt, Option.getD, argsT, Option.bind, Option.map, List.headD, List.tail, reduceIte, reduceDIte, Nat.reduceEqDiff, Nat.reduceAdd, Nat.reduceSub, Nat.reduceMul, Nat.reduceLT, reduceCtorEq, Int.reduceEq, Int.reduceLT, Int.reduceLE, Int.reduceNeg, Int.reduceToNat, Int.reduceBNe, Int.reduceBEq, Int.reduceAdd, Int.reduceSub, Int.reduceMul, opnsL, Nat.reduceLeDiff, Nat.reduceGT, List.replicate, Nat.reduceShiftRight, Nat.reduceMod, Nat.reduceBEq, lendsL, ty_ExB_59, b1, b2, b3, b4, b5, c2, k1, k2, k3, hs, ca_shapes, fk, bne_self_eq_false, beq_self_eq_true]
    | false =>
      simp only [amr, amc, amp, if_true, if_false, ne_eq, gt_iff_lt, Option.getD, argsT, Option.bind, Option.map, List.headD, List.tail, reduceIte, reduceDIte, Nat.reduceEqDiff, Nat.reduceAdd, Nat.reduceSub, Nat.reduceMul, Nat.reduceLT, reduceCtorEq, Int.reduceEq, Int.reduceLT, Int.reduceLE, Int.reduceNeg, Int.reduceToNat, Int.reduceBNe, Int.reduceBEq, Int.reduceAdd, Int.reduceSub, Int.reduceMul, opnsL, Nat.reduceLeDiff, Nat.reduceGT, List.replicate, Nat.reduceShiftRight, Nat.reduceMod, Nat.reduceBEq, lendsL, ty_ExB_59, b1, b2, b3, b4, c2, k1, k2, k3, hs, ca_shapes, fk, bne_self_eq_false, beq_self_eq_true]
  · rw [if_neg c1] at h4
    have b4 : (op == 1) = false := beq_eq_false_iff_ne.2 c1
    by_cases c2 : op = 2
    · rw [if_pos c2] at h4
      have b5 : (op == 2) = true := beq_iff_eq.2 c2
      have fn := fun (S : St) (d dst : Nat) => ca_Name (d := d) (dst := dst) (S := S) name
      rw [h4.1] at fn
      have hz := h4.2
      rw [hz] at fz
      simp only [amr, amc, amp, if_true, if_false, ne_eq, gt_iff_lt, Option.getD, argsT, Option.bind, Option.map, List.headD, List.tail, reduceIte, reduceDIte, Nat.reduceEqDiff, Nat.reduceAdd, Nat.reduceSub, Nat.reduceMul, Nat.reduceLT, reduceCtorEq, Int.reduceEq, Int.reduceLT, Int.reduceLE, Int.reduceNeg, Int.reduceToNat, Int.reduceBNe, Int.reduceBEq, Int.reduceAdd, Int.reduceSub, Int.reduceMul, opnsL, Nat.reduceLeDiff, Nat.reduceGT, List.replicate, Nat.reduceShiftRight, Nat.reduceMod, Nat.reduceBEq, lendsL, ty_ExB_59, b1, b2, b3, b4, b5, k1, k2, k3, hs, ca_shapes, fn, fz, bne_self_eq_false, beq_self_eq_true]
    · rw [if_neg c2] at h4
      obtain ⟨rfl, hz⟩ := h4
      rw [hz] at fz
      have b5 : (op == 2) = false := beq_eq_false_iff_ne.2 c2
      simp only [amr, amc, amp, if_true, if_false, ne_eq, gt_iff_lt, Option.getD, argsT, Option.bind, Option.map, List.headD, List.tail, reduceIte, reduceDIte, Nat.reduceEqDiff, Nat.reduceAdd, Nat.reduceSub, Nat.reduceMul, Nat.reduceLT, reduceCtorEq, Int.reduceEq, Int.reduceLT, Int.reduceLE, Int.reduceNeg, Int.reduceToNat, Int.reduceBNe, Int.reduceBEq, Int.reduceAdd, Int.reduceSub, Int.reduceMul, opnsL, Nat.reduceLeDiff, Nat.reduceGT, List.replicate, Nat.reduceShiftRight, Nat.reduceMod, Nat.reduceBEq, lendsL, ty_ExB_59, b1, b2, b3, b4, b5, k1, k2, k3, hs, ca_shapes, fz, bne_self_eq_false, beq_self_eq_true]
theorem ca_partO {d dst : Nat} {S : St} (x : Exp) (h : PartOK x.op x.v x.name x.args.length) : callA tab (callR tab) d dst 59 [.d (.agg [.int .i64 x.op, .int .i64 x.v.kind, .int .i64 x.v.n, .str x.v.s, .str x.name, .sl 6 (x.args.map Exp.dv)])] S = some (.d (.int .i64 0), S) := by
  rw [← Exp.dv_eq]
  exact ca_ret (ds := [x.dv]) (ret_part x h) rfl (tab_opn (by kernel_rfl)) (tab_res (by kernel_rfl))
theorem Exp.wf_mem : ∀ {l : List Exp} {x : Exp}, Exp.wfL l → x ∈ l → x.wf
  | y :: r, x, h, hx => by
    simp only [Exp.wfL] at h
    rcases List.mem_cons.1 hx with rfl | hx
    · exact h.1
    · exact Exp.wf_mem h.2 hx
theorem ret_partsN : ∀ (m : Nat) (x : Exp), x.nodes ≤ m → x.nodes ≤ 4611686018427387904 → x.wf → Ret tab 40 [.d x.dv] (.d (.int .i64 0))
  | 0, x, h, _, _ => by cases x; simp [Exp.nodes] at h
  | m + 1, .mk op v name args, h, hB, hw => by
    have hlen := Exp.nodes_len args
    simp only [Exp.nodes] at h hB
    simp only [Exp.wf] at hw
    obtain ⟨hp, hw⟩ := hw
    have ih : ∀ a ∈ args, Ret tab 40 [.d a.dv] (.d (.int .i64 0)) := fun a ha => ret_partsN m a (by have := Exp.nodes_mem ha; omega) (by have := Exp.nodes_mem ha; omega) (Exp.wf_mem hw ha)
    have f0 : ∀ (S : St) (d dst : Nat), callA tab (callR tab) d dst 59 [.d (.agg [.int .i64 op, .int .i64 v.kind, .int .i64 v.n, .str v.s, .str name, .sl 6 (args.map Exp.dv)])] S = some (.d (.int .i64 0), S) := fun S d dst => ca_partO (.mk op v name args) hp
    rw [Exp.dv_mk]
    refine ret_of (args.length + 1) fn40 rfl rfl ?_
    simp only [amr, amc, amp, if_true, if_false, ne_eq, gt_iff_lt, Option.getD, argsT, Option.bind, Option.map, List.headD, List.tail, reduceIte, reduceDIte, Nat.reduceEqDiff, Nat.reduceAdd, Nat.reduceSub, Nat.reduceMul, Nat.reduceLT, reduceCtorEq, Int.reduceEq, Int.reduceLT, Int.reduceLE, Int.reduceNeg, Int.reduceToNat, Int.reduceBNe, Int.reduceBEq, Int.reduceAdd, Int.reduceSub, Int.reduceMul, opnsL, Nat.reduceLeDiff, Nat.reduceGT, List.replicate, Nat.reduceShiftRight, Nat.reduceMod, Nat.reduceBEq, lendsL, ty_ExB_40, f0, bne_self_eq_false]
    refine good_range args (fun k (_ : Unit) g => ⟨[(13, .d (.sl 6 (args.map Exp.dv))), (14, .d (.int .i64 args.length)), (15, .d (.int .i64 (k : Nat)))], [], g⟩) (fun _ _ => True) (fun _ _ _ => ()) (QX (.exit 0) (fun _ g => ⟨[], [], g⟩)) () kp40_5 up_qx trivial (by omega) (by omega) ?_ ?_ ?_ ?_
    · rintro k a g x rest hk hget hd _ hb w1
      have hget' : (args.map Exp.dv)[k]? = some x.dv := by rw [List.getElem?_map, hget]; rfl
      have f1 := fun (S : St) (d dst : Nat) => ca_ret (d := d) (dst := dst) (S := S) (args := [.d x.dv]) (ds := [x.dv]) (ih x (List.mem_of_getElem? hget)) rfl (tab_opn (by kernel_rfl)) (tab_res (by kernel_rfl))
      rw [Exp.dv_eq x] at hget' f1
      simp only [amr, amc, amp, if_true, if_false, ne_eq, gt_iff_lt, Option.getD, argsT, Option.bind, Option.map, List.headD, List.tail, reduceIte, reduceDIte, Nat.reduceEqDiff, Nat.reduceAdd, Nat.reduceSub, Nat.reduceMul, Nat.reduceLT, reduceCtorEq, Int.reduceEq, Int.reduceLT, Int.reduceLE, Int.reduceNeg, Int.reduceToNat, Int.reduceBNe, Int.reduceBEq, Int.reduceAdd, Int.reduceSub, Int.reduceMul, opnsL, Nat.reduceLeDiff, Nat.reduceGT, List.replicate, Nat.reduceShiftRight, Nat.reduceMod, Nat.reduceBEq, lendsL, ty_ExB_40, hb, hget', w1, f1, bne_self_eq_false]
      refine step_nrm () trivial rfl ?_
      (apply Exists.intro; (try simp only [amr, amc, amp, if_true, if_false, ne_eq, gt_iff_lt, Option.getD, argsT, Option.bind, Option.map, List.headD, List.tail, reduceIte, reduceDIte, Nat.reduceEqDiff, Nat.reduceAdd, Nat.reduceSub, Nat.reduceMul, Nat.reduceLT, reduceCtorEq, Int.reduceEq, Int.reduceLT, Int.reduceLE, Int.reduceNeg, Int.reduceToNat, Int.reduceBNe, Int.reduceBEq, Int.reduceAdd, Int.reduceSub, Int.reduceMul, opnsL, Nat.reduceLeDiff, Nat.reduceGT, List.replicate, Nat.reduceShiftRight, Nat.reduceMod, Nat.reduceBEq, lendsL]); exact sub_mk (by repeat first | exact subT_nil | refine subT_cons (by first | rfl | simp [Tm.get, *]) ?_))
    · rintro a g _ hb
      simp only [amr, amc, amp, if_true, if_false, ne_eq, gt_iff_lt, Option.getD, argsT, Option.bind, Option.map, List.headD, List.tail, reduceIte, reduceDIte, Nat.reduceEqDiff, Nat.reduceAdd, Nat.reduceSub, Nat.reduceMul, Nat.reduceLT, reduceCtorEq, Int.reduceEq, Int.reduceLT, Int.reduceLE, Int.reduceNeg, Int.reduceToNat, Int.reduceBNe, Int.reduceBEq, Int.reduceAdd, Int.reduceSub, Int.reduceMul, opnsL, Nat.reduceLeDiff, Nat.reduceGT, List.replicate, Nat.reduceShiftRight, Nat.reduceMod, Nat.reduceBEq, lendsL, ty_ExB_40, hb]
      refine last_end (by simp) ⟨rfl, ?_⟩
      (apply Exists.intro; (try simp only [amr, amc, amp, if_true, if_false, ne_eq, gt_iff_lt, Option.getD, argsT, Option.bind, Option.map, List.headD, List.tail, reduceIte, reduceDIte, Nat.reduceEqDiff, Nat.reduceAdd, Nat.reduceSub, Nat.reduceMul, Nat.reduceLT, reduceCtorEq, Int.reduceEq, Int.reduceLT, Int.reduceLE, Int.reduceNeg, Int.reduceToNat, Int.reduceBNe, Int.reduceBEq, Int.reduceAdd, Int.reduceSub, Int.reduceMul, opnsL, Nat.reduceLeDiff, Nat.reduceGT, List.replicate, Nat.reduceShiftRight, Nat.reduceMod, Nat.reduceBEq, lendsL]); exact sub_mk (by repeat first | exact subT_nil | refine subT_cons (by first | rfl | simp [Tm.get, *]) ?_))
    · (apply Exists.intro; (try simp only [amr, amc, amp, if_true, if_false, ne_eq, gt_iff_lt, Option.getD, argsT, Option.bind, Option.map, List.headD, List.tail, reduceIte, reduceDIte, Nat.reduceEqDiff, Nat.reduceAdd, Nat.reduceSub, Nat.reduceMul, Nat.reduceLT, reduceCtorEq, Int.reduceEq, Int.reduceLT, Int.reduceLE, Int.reduceNeg, Int.reduceToNat, Int.reduceBNe, Int.reduceBEq, Int.reduceAdd, Int.reduceSub, Int.reduceMul, opnsL, Nat.reduceLeDiff, Nat.reduceGT, List.replicate, Nat.reduceShiftRight, Nat.reduceMod, Nat.reduceBEq, lendsL]); exact sub_mk (by repeat first | exact subT_nil | refine subT_cons (by first | rfl | simp [Tm.get, *]) ?_))
    · rintro o S' ⟨rfl, g, hs⟩
      refine good_sub_cr up_fin hs ?_
      simp only [amr, amc, amp, if_true, if_false, ne_eq, gt_iff_lt, Option.getD, argsT, Option.bind, Option.map, List.headD, List.tail, reduceIte, reduceDIte, Nat.reduceEqDiff, Nat.reduceAdd, Nat.reduceSub, Nat.reduceMul, Nat.reduceLT, reduceCtorEq, Int.reduceEq, Int.reduceLT, Int.reduceLE, Int.reduceNeg, Int.reduceToNat, Int.reduceBNe, Int.reduceBEq, Int.reduceAdd, Int.reduceSub, Int.reduceMul, opnsL, Nat.reduceLeDiff, Nat.reduceGT, List.replicate, Nat.reduceShiftRight, Nat.reduceMod, Nat.reduceBEq, lendsL, ty_ExB_40]
/-- What is wrong with a formula whose parts may be. -/
def chkE (x : Exp) : Int := if 60 < x.nodes then 1 else if 12 < x.deep then 4 else 0
theorem ret_CheckE (x : Exp) (hB : x.nodes ≤ 4611686018427387904) (hw : x.wf) : Ret tab 19 [.d x.dv] (.d (.int .i64 (chkE x))) := by
  have f0 := fun (S : St) (d dst : Nat) => ca_Size (d := d) (dst := dst) (S := S) x hB
  have f1 := fun (S : St) (d dst : Nat) => ca_ret (d := d) (dst := dst) (S := S) (args := [.d x.dv]) (ds := [x.dv]) (ret_partsN x.nodes x (Nat.le_refl _) hB hw) rfl (tab_opn (by kernel_rfl)) (tab_res (by kernel_rfl))
  unfold chkE
  rw [Exp.dv_eq x] at f0 f1 ⊢
  refine ret_of 1 fn19 rfl rfl ?_
  by_cases c1 : 60 < x.nodes
  · have b1 : decide (60 < (x.nodes : Int)) = true := decide_eq_true (by omega)
    rw [if_pos c1]
    simp only [amr, amc, amp, if_true, if_false, ne_eq, gt_iff_lt, Option.getD, argsT, Option.bind, Option.map, List.headD, List.tail, reduceIte, reduceDIte, Nat.reduceEqDiff, Nat.reduceAdd, Nat.reduceSub, Nat.reduceMul, Nat.reduceLT, reduceCtorEq, Int.reduceEq, Int.reduceLT, Int.reduceLE, Int.reduceNeg, Int.reduceToNat, Int.reduceBNe, Int.reduceBEq, Int.reduceAdd, Int.reduceSub, Int.reduceMul, opnsL, Nat.reduceLeDiff, Nat.reduceGT, List.replicate, Nat.reduceShiftRight, Nat.reduceMod, Nat.reduceBEq, lendsL, ty_ExB_19, f0, b1]
  · have b1 : decide (60 < (x.nodes : Int)) = false := decide_eq_false (by omega)
    rw [if_neg c1]
    by_cases c2 : 12 < x.deep
    · have b2 : decide (12 < (x.deep : Int)) = true := decide_eq_true (by omega)
      rw [if_pos c2]
      simp only [amr, amc, amp, if_true, if_false, ne_eq, gt_iff_lt, Option.getD, argsT, Option.bind, Option.map, List.headD, List.tail, reduceIte, reduceDIte, Nat.reduceEqDiff, Nat.reduceAdd, Nat.reduceSub, Nat.reduceMul, Nat.reduceLT, reduceCtorEq, Int.reduceEq, Int.reduceLT, Int.reduceLE, Int.reduceNeg, Int.reduceToNat, Int.reduceBNe, Int.reduceBEq, Int.reduceAdd, Int.reduceSub, Int.reduceMul, opnsL, Nat.reduceLeDiff, Nat.reduceGT, List.replicate, Nat.reduceShiftRight, Nat.reduceMod, Nat.reduceBEq, lendsL, ty_ExB_19, f0, b1, b2]
    · have b2 : decide (12 < (x.deep : Int)) = false := decide_eq_false (by omega)
      rw [if_neg c2]
      simp only [amr, amc, amp, if_true, if_false, ne_eq, gt_iff_lt, Option.getD, argsT, Option.bind, Option.map, List.headD, List.tail, reduceIte, reduceDIte, Nat.reduceEqDiff, Nat.reduceAdd, Nat.reduceSub, Nat.reduceMul, Nat.reduceLT, reduceCtorEq, Int.reduceEq, Int.reduceLT, Int.reduceLE, Int.reduceNeg, Int.reduceToNat, Int.reduceBNe, Int.reduceBEq, Int.reduceAdd, Int.reduceSub, Int.reduceMul, opnsL, Nat.reduceLeDiff, Nat.reduceGT, List.replicate, Nat.reduceShiftRight, Nat.reduceMod, Nat.reduceBEq, lendsL, ty_ExB_19, f0, f1, b1, b2]
theorem ca_CheckE {d dst : Nat} {S : St} (x : Exp) (hB : x.nodes ≤ 4611686018427387904) (hw : x.wf) : callA tab (callR tab) d dst 19 [.d x.dv] S = some (.d (.int .i64 (chkE x)), S) :=
  ca_ret (ds := [x.dv]) (ret_CheckE x hB hw) rfl (tab_opn (by kernel_rfl)) (tab_res (by kernel_rfl))
end Go.Proofs.Ytjjjkoknodcaaaa.Am
