/- A formula is copied; a formula is put in the place of a name. -/
import Derived.Test.YtjjjkoknodcaaaaGenL
set_option linter.unusedVariables false
set_option linter.unusedSimpArgs false
namespace Go.Proofs.Ytjjjkoknodcaaaa.Am
open Go Go.RowKit
theorem ty_NmA_65 : type_of% (ai (ai (ai (ai (ai @rs65 (ai @lv65_0 @ro27_1_names_go_86)) (ai @lv65_1 (ai @lv65_2 @lv65_3))) (ai (ai @lv65_4 (ai @lv65_5 @dr65_6)) (ai (ai @lv65_6 @mu25_20) (ai @lv65_7 @lv65_8)))) (ai (ai (ai @kp65_4 (ai @und1 @sz1)) (ai @ag1 (ai @inf1 @und3))) (ai (ai @sz3 (ai @ag3 @lv3)) (ai (ai @inf3 @und9) (ai @sz9 @ag9))))) (ai (ai (ai (ai @lv9 (ai @inf9 @und24)) (ai @sz24 (ai @ag24 @fo24))) (ai (ai @bA24 (ai @pT24_0 @pT24_1)) (ai (ai @pT24_2 @lv24) (ai @inf24 @und25)))) (ai (ai (ai @sz25 (ai @ag25 @pT25)) (ai (ai @inf25 @und27) (ai @sz27 @ag27))) (ai (ai @fo27 (ai @bA27 @pT27_0)) (ai (ai @pT27_1 @pT27_2) (ai @pT27_3 @inf27)))))) := (ai (ai (ai (ai (ai @rs65 (ai @lv65_0 @ro27_1_names_go_86)) (ai @lv65_1 (ai @lv65_2 @lv65_3))) (ai (ai @lv65_4 (ai @lv65_5 @dr65_6)) (ai (ai @lv65_6 @mu25_20) (ai @lv65_7 @lv65_8)))) (ai (ai (ai @kp65_4 (ai @und1 @sz1)) (ai @ag1 (ai @inf1 @und3))) (ai (ai @sz3 (ai @ag3 @lv3)) (ai (ai @inf3 @und9) (ai @sz9 @ag9))))) (ai (ai (ai (ai @lv9 (ai @inf9 @und24)) (ai @sz24 (ai @ag24 @fo24))) (ai (ai @bA24 (ai @pT24_0 @pT24_1)) (ai (ai @pT24_2 @lv24) (ai @inf24 @und25)))) (ai (ai (ai @sz25 (ai @ag25 @pT25)) (ai (ai @inf25 @und27) (ai @sz27 @ag27))) (ai (ai @fo27 (ai @bA27 @pT27_0)) (ai (ai @pT27_1 @pT27_2) (ai @pT27_3 @inf27))))))
theorem ty_NmA_42 : type_of% (ai (ai (ai (ai (ai (ai @rs42 @lv42_0) (ai @ro27_3_names_go_56 @ro27_5_names_go_56)) (ai (ai @lv42_1 @lv42_2) (ai @lv42_3 @lv42_4))) (ai (ai (ai @lv42_5 @lv42_6) (ai @lv42_7 @dr42_8)) (ai (ai @lv42_8 @mu25_37) (ai @lv42_9 @lv42_10)))) (ai (ai (ai (ai @kp42_6 @und1) (ai @sz1 @ag1)) (ai (ai @inf1 @und2) (ai @sz2 @ag2))) (ai (ai (ai @lv2 @inf2) (ai @und3 @sz3)) (ai (ai @ag3 @lv3) (ai @inf3 (ai @und4 @sz4)))))) (ai (ai (ai (ai (ai @ag4 @lv4) (ai @inf4 @und9)) (ai (ai @sz9 @ag9) (ai @lv9 @inf9))) (ai (ai (ai @und24 @sz24) (ai @ag24 @fo24)) (ai (ai @bA24 @pT24_0) (ai @pT24_1 @pT24_2)))) (ai (ai (ai (ai @lv24 @inf24) (ai @und25 @sz25)) (ai (ai @ag25 @pT25) (ai @inf25 @und27))) (ai (ai (ai @sz27 @ag27) (ai @fo27 @bA27)) (ai (ai @pT27_0 @pT27_1) (ai @pT27_2 (ai @pT27_3 @inf27))))))) := (ai (ai (ai (ai (ai (ai @rs42 @lv42_0) (ai @ro27_3_names_go_56 @ro27_5_names_go_56)) (ai (ai @lv42_1 @lv42_2) (ai @lv42_3 @lv42_4))) (ai (ai (ai @lv42_5 @lv42_6) (ai @lv42_7 @dr42_8)) (ai (ai @lv42_8 @mu25_37) (ai @lv42_9 @lv42_10)))) (ai (ai (ai (ai @kp42_6 @und1) (ai @sz1 @ag1)) (ai (ai @inf1 @und2) (ai @sz2 @ag2))) (ai (ai (ai @lv2 @inf2) (ai @und3 @sz3)) (ai (ai @ag3 @lv3) (ai @inf3 (ai @und4 @sz4)))))) (ai (ai (ai (ai (ai @ag4 @lv4) (ai @inf4 @und9)) (ai (ai @sz9 @ag9) (ai @lv9 @inf9))) (ai (ai (ai @und24 @sz24) (ai @ag24 @fo24)) (ai (ai @bA24 @pT24_0) (ai @pT24_1 @pT24_2)))) (ai (ai (ai (ai @lv24 @inf24) (ai @und25 @sz25)) (ai (ai @ag25 @pT25) (ai @inf25 @und27))) (ai (ai (ai @sz27 @ag27) (ai @fo27 @bA27)) (ai (ai @pT27_0 @pT27_1) (ai @pT27_2 (ai @pT27_3 @inf27)))))))
set_option maxRecDepth 100000
set_option maxHeartbeats 40000000


structure NW where
  acc : List Exp
  t : Option (List Nat)
  g : List Nat
theorem ret_CopyN : ∀ (m : Nat) (x : Exp), x.nodes ≤ m → x.nodes ≤ 1048576 → RetD tab 65 [.d x.dv] x.dv
  | 0, x, h, _ => by cases x; simp [Exp.nodes] at h
  | m + 1, .mk op v name args, h, hB => by
    have hlen := Exp.nodes_len args
    simp only [Exp.nodes] at h hB
    have ih : ∀ a ∈ args, RetD tab 65 [.d a.dv] a.dv := fun a ha => ret_CopyN m a (by have := Exp.nodes_mem ha; omega) (by have := Exp.nodes_mem ha; omega)
    rw [Exp.dv_mk]
    refine retq_good (args.length + 1) fn65 rfl rfl ?_
    simp only [amr, amc, amp, if_true, if_false, ne_eq, gt_iff_lt, Option.getD, argsT, Option.bind, Option.map, List.headD, List.tail, opnsL, List.replicate, lendsL, seval, ty_NmA_65]
    refine good_range args (fun k (a : NW) _ => ⟨[(2, .ptr ⟨0, 2, [0]⟩ 0), (3, .ptr ⟨0, 3, [0, 1]⟩ 0), (9, .d (.sl 6 (args.map Exp.dv))), (10, .d (.int .i64 args.length)), (11, .d (.int .i64 (k : Nat)))],
        tokP 0 20 (a.acc.length * 6) a.t ++ [(⟨0, 3, [0, 1]⟩, .box [.d (.int .i64 op), .d (.int .i64 v.kind), .d (.int .i64 v.n), .d (.str v.s), .d (.str name), .own 6 (a.acc.map Exp.dv) (tokD 0 20 a.t)]), (⟨0, 2, [0]⟩, .box [.d (.int .i64 0), .d (.int .i64 0), .d (.int .i64 0), .d (.str []), .d (.str []), .own 6 [] none])], a.g⟩)
      (fun k a => a.acc.length ≤ k ∧ 2 ≤ a.g.length) (fun k a r => a.acc ++ r)
      (fun (o : List Exp) (q : Out) (S : St) => q = .exit 0 ∧ ∃ t g, Sub ⟨[(2, .ptr ⟨0, 2, [0]⟩ 0), (3, .ptr ⟨0, 3, [0, 1]⟩ 0)],
        tokP 0 20 (o.length * 6) t ++ [(⟨0, 3, [0, 1]⟩, .box [.d (.int .i64 op), .d (.int .i64 v.kind), .d (.int .i64 v.n), .d (.str v.s), .d (.str name), .own 6 (o.map Exp.dv) (tokD 0 20 t)]), (⟨0, 2, [0]⟩, .box [.d (.int .i64 0), .d (.int .i64 0), .d (.int .i64 0), .d (.str []), .d (.str []), .own 6 [] none])], g⟩ S)
      ⟨[], none, [1, 1]⟩ kp65_4 (fun _ => up_tok) ⟨Nat.le_refl _, by simp⟩ (by omega) (by omega) ?_ ?_ ?_ ?_
    · rintro k ⟨acc, t, g⟩ _ x rest hk hget hd ⟨hI, hI2⟩ hb w1
      have hget' : (args.map Exp.dv)[k]? = some x.dv := by rw [List.getElem?_map, hget]; rfl
      simp only at hI hI2
      have hA : ((acc.length + 1) * 80 ≤ 140737488355328) = True := eq_true (by omega)
      have f1 := fun (S : St) (d dst : Nat) => ca_retD (d := d) (dst := dst) (S := S) (args := [.d x.dv]) (ds := [x.dv]) (ih x (List.mem_of_getElem? hget)) rfl (tab_opn (by kernel_rfl)) (tab_res (by kernel_rfl))
      rw [Exp.dv_eq x] at hget' f1
      have hS : acc ++ x :: rest = (acc ++ [x]) ++ rest := by simp
      have hsx : ∀ (m a b : Nat), (List.drop m [0, 1] = a :: b :: g) = False := fun m a b => eq_false (fun h => by have := congrArg List.length h; simp only [List.length_drop, List.length_cons, List.length_nil] at this; omega)
      rcases t with _ | t
      · simp only [amr, amc, amp, if_true, if_false, ne_eq, gt_iff_lt, Option.getD, argsT, Option.bind, Option.map, List.headD, List.tail, opnsL, List.replicate, lendsL, seval, ty_NmA_65, hb, hget', w1, sx1, sx2, f1, hA, hsx, tokD, tokP]
        refine step_nrm (NW.mk (acc ++ [x]) (some (7 :: 1 :: g)) (1 :: 1 :: g)) ?_ hS ?_
        · simp only [List.length_append, List.length_cons, List.length_nil]; omega
        · (refine ⟨[], ?_⟩; (try simp only [amr, amc, amp, if_true, if_false, ne_eq, gt_iff_lt, Option.getD, argsT, Option.bind, Option.map, List.headD, List.tail, opnsL, List.replicate, lendsL, seval, tokD, tokP, Exp.dv_eq x]); exact sub_mk (by repeat first | exact subT_nil | refine subT_cons (by first | rfl | simp [Tm.get, *]) ?_))
      · simp only [amr, amc, amp, if_true, if_false, ne_eq, gt_iff_lt, Option.getD, argsT, Option.bind, Option.map, List.headD, List.tail, opnsL, List.replicate, lendsL, seval, ty_NmA_65, hb, hget', w1, sx1, sx2, f1, hA, hsx, tokD, tokP]
        refine step_nrm (NW.mk (acc ++ [x]) (some t) (1 :: 1 :: g)) ?_ hS ?_
        · simp only [List.length_append, List.length_cons, List.length_nil]; omega
        · (refine ⟨[], ?_⟩; (try simp only [amr, amc, amp, if_true, if_false, ne_eq, gt_iff_lt, Option.getD, argsT, Option.bind, Option.map, List.headD, List.tail, opnsL, List.replicate, lendsL, seval, tokD, tokP, Exp.dv_eq x]); exact sub_mk (by repeat first | exact subT_nil | refine subT_cons (by first | rfl | simp [Tm.get, *]) ?_))
    · rintro ⟨acc, t, g⟩ _ hI hb
      simp only [amr, amc, amp, if_true, if_false, ne_eq, gt_iff_lt, Option.getD, argsT, Option.bind, Option.map, List.headD, List.tail, opnsL, List.replicate, lendsL, seval, ty_NmA_65, hb]
      refine last_end (by simp) ⟨rfl, t, g, ?_⟩
      try simp only [List.append_nil]
      rcases t with _ | t
      · simp only [amr, amc, amp, if_true, if_false, ne_eq, gt_iff_lt, Option.getD, argsT, Option.bind, Option.map, List.headD, List.tail, opnsL, List.replicate, lendsL, seval, tokD, tokP]
        exact sub_mk (by repeat first | exact subT_nil | refine subT_cons (by first | rfl | simp [Tm.get, *]) ?_)
      · simp only [amr, amc, amp, if_true, if_false, ne_eq, gt_iff_lt, Option.getD, argsT, Option.bind, Option.map, List.headD, List.tail, opnsL, List.replicate, lendsL, seval, tokD, tokP]
        exact sub_mk (by repeat first | exact subT_nil | refine subT_cons (by first | rfl | simp [Tm.get, *]) ?_)
    · (refine ⟨[], ?_⟩; (try simp only [amr, amc, amp, if_true, if_false, ne_eq, gt_iff_lt, Option.getD, argsT, Option.bind, Option.map, List.headD, List.tail, opnsL, List.replicate, lendsL, seval, tokD, tokP]); exact sub_mk (by repeat first | exact subT_nil | refine subT_cons (by first | rfl | simp [Tm.get, *]) ?_))
    · rintro o S' ⟨rfl, t, g, hs⟩
      refine good_sub_cr up_finq hs ?_
      simp only [List.nil_append]
      rcases t with _ | t
      · simp only [amr, amc, amp, if_true, if_false, ne_eq, gt_iff_lt, Option.getD, argsT, Option.bind, Option.map, List.headD, List.tail, opnsL, List.replicate, lendsL, seval, ty_NmA_65, tokD, tokP]
      · simp only [amr, amc, amp, if_true, if_false, ne_eq, gt_iff_lt, Option.getD, argsT, Option.bind, Option.map, List.headD, List.tail, opnsL, List.replicate, lendsL, seval, ty_NmA_65, tokD, tokP]
theorem ca_Copy {d dst : Nat} {S : St} (x : Exp) (hx : x.nodes ≤ 1048576) : callA tab (callR tab) d dst 65 [.d x.dv] S = some (.d x.dv, S) :=
  ca_retD (ds := [x.dv]) (ret_CopyN x.nodes x (Nat.le_refl _) hx) rfl (tab_opn (by kernel_rfl)) (tab_res (by kernel_rfl))
mutual
/-- A formula in the place of a name. -/
def putE (s : List UInt8) (y : Exp) : Exp → Exp
  | .mk op v name args => if op = 2 ∧ name = s then y else .mk op v name (putEL s y args)
def putEL (s : List UInt8) (y : Exp) : List Exp → List Exp
  | [] => []
  | x :: r => putE s y x :: putEL s y r
end
theorem ret_putN (s : List UInt8) (y : Exp) (hy : y.nodes ≤ 1048576) : ∀ (m : Nat) (x : Exp), x.nodes ≤ m → x.nodes ≤ 1048576 → RetD tab 42 [.d x.dv, .d (.str s), .d y.dv] (putE s y x).dv
  | 0, x, h, _ => by cases x; simp [Exp.nodes] at h
  | m + 1, .mk op v name args, h, hB => by
    have hlen := Exp.nodes_len args
    simp only [Exp.nodes] at h hB
    have ih : ∀ a ∈ args, RetD tab 42 [.d a.dv, .d (.str s), .d y.dv] (putE s y a).dv := fun a ha => ret_putN s y hy m a (by have := Exp.nodes_mem ha; omega) (by have := Exp.nodes_mem ha; omega)
    have f0 := fun (S : St) (d dst : Nat) => ca_Copy (d := d) (dst := dst) (S := S) y hy
    rw [Exp.dv_eq y] at f0
    rw [putE, Exp.dv_mk, Exp.dv_eq y]
    cases b1 : (op == 2) with
    | true =>
      cases b2 : (name == s) with
      | true =>
        have h1 : op = 2 ∧ name = s := ⟨eq_of_beq b1, eq_of_beq b2⟩
        rw [if_pos h1, Exp.dv_eq y]
        refine retq_good (args.length + 1) fn42 rfl rfl ?_
        simp only [amr, amc, amp, if_true, if_false, ne_eq, gt_iff_lt, Option.getD, argsT, Option.bind, Option.map, List.headD, List.tail, opnsL, List.replicate, lendsL, seval, ty_NmA_42, b1, b2, f0]
      | false =>
        have hne : ¬ (op = 2 ∧ name = s) := fun h => by have := beq_iff_eq.2 h.2; rw [b2] at this; cases this
        rw [if_neg hne, Exp.dv_mk]
        refine retq_good (args.length + 1) fn42 rfl rfl ?_
        simp only [amr, amc, amp, if_true, if_false, ne_eq, gt_iff_lt, Option.getD, argsT, Option.bind, Option.map, List.headD, List.tail, opnsL, List.replicate, lendsL, seval, ty_NmA_42, b1, b2]
        refine good_range args (fun k (a : NW) _ => ⟨[(1, .d (.str s)), (5, .d (.rp [.int .i64 y.op, .int .i64 y.v.kind, .int .i64 y.v.n, .str y.v.s, .str y.name, .sl 6 (y.args.map Exp.dv)])), (6, .ptr ⟨0, 6, [0]⟩ 0), (7, .ptr ⟨0, 7, [0, 1]⟩ 0), (24, .d (.sl 6 (args.map Exp.dv))), (25, .d (.int .i64 args.length)), (26, .d (.int .i64 (k : Nat)))],
            tokP 0 37 (a.acc.length * 6) a.t ++ [(⟨0, 7, [0, 1]⟩, .box [.d (.int .i64 op), .d (.int .i64 v.kind), .d (.int .i64 v.n), .d (.str v.s), .d (.str name), .own 6 (a.acc.map Exp.dv) (tokD 0 37 a.t)]), (⟨0, 6, [0]⟩, .box [.d (.int .i64 0), .d (.int .i64 0), .d (.int .i64 0), .d (.str []), .d (.str []), .own 6 [] none])], a.g⟩)
          (fun k a => a.acc.length ≤ k ∧ 2 ≤ a.g.length) (fun k a r => a.acc ++ putEL s y r)
          (fun (o : List Exp) (q : Out) (S : St) => q = .exit 0 ∧ ∃ t g, Sub ⟨[(6, .ptr ⟨0, 6, [0]⟩ 0), (7, .ptr ⟨0, 7, [0, 1]⟩ 0)],
            tokP 0 37 (o.length * 6) t ++ [(⟨0, 7, [0, 1]⟩, .box [.d (.int .i64 op), .d (.int .i64 v.kind), .d (.int .i64 v.n), .d (.str v.s), .d (.str name), .own 6 (o.map Exp.dv) (tokD 0 37 t)]), (⟨0, 6, [0]⟩, .box [.d (.int .i64 0), .d (.int .i64 0), .d (.int .i64 0), .d (.str []), .d (.str []), .own 6 [] none])], g⟩ S)
          ⟨[], none, [1, 1]⟩ kp42_6 (fun _ => up_tok) ⟨Nat.le_refl _, by simp⟩ (by omega) (by omega) ?_ ?_ ?_ ?_
        · rintro k ⟨acc, t, g⟩ _ x rest hk hget hd ⟨hI, hI2⟩ hb w1
          have hget' : (args.map Exp.dv)[k]? = some x.dv := by rw [List.getElem?_map, hget]; rfl
          simp only at hI hI2
          have hA : ((acc.length + 1) * 80 ≤ 140737488355328) = True := eq_true (by omega)
          have f1 := fun (S : St) (d dst : Nat) => ca_retD (d := d) (dst := dst) (S := S) (args := [.d x.dv, .d (.str s), .d y.dv]) (ds := [x.dv, .str s, y.dv]) (ih x (List.mem_of_getElem? hget)) rfl (tab_opn (by kernel_rfl)) (tab_res (by kernel_rfl))
          rw [Exp.dv_eq x] at hget' f1
          rw [Exp.dv_eq y, Exp.dv_eq (putE s y x)] at f1
          have hS : acc ++ putEL s y (x :: rest) = (acc ++ [putE s y x]) ++ putEL s y rest := by simp [putEL]
          generalize putE s y x = x' at *
          have hsx : ∀ (m a b : Nat), (List.drop m [0, 1] = a :: b :: g) = False := fun m a b => eq_false (fun h => by have := congrArg List.length h; simp only [List.length_drop, List.length_cons, List.length_nil] at this; omega)
          rcases t with _ | t
          · simp only [amr, amc, amp, if_true, if_false, ne_eq, gt_iff_lt, Option.getD, argsT, Option.bind, Option.map, List.headD, List.tail, opnsL, List.replicate, lendsL, seval, ty_NmA_42, hb, hget', w1, sx1, sx2, f1, hA, hsx, tokD, tokP]
            refine step_nrm (NW.mk (acc ++ [x']) (some (9 :: 1 :: g)) (1 :: 1 :: g)) ?_ hS ?_
            · simp only [List.length_append, List.length_cons, List.length_nil]; omega
            · (refine ⟨[], ?_⟩; (try simp only [amr, amc, amp, if_true, if_false, ne_eq, gt_iff_lt, Option.getD, argsT, Option.bind, Option.map, List.headD, List.tail, opnsL, List.replicate, lendsL, seval, tokD, tokP, Exp.dv_eq x']); exact sub_mk (by repeat first | exact subT_nil | refine subT_cons (by first | rfl | simp [Tm.get, *]) ?_))
          · simp only [amr, amc, amp, if_true, if_false, ne_eq, gt_iff_lt, Option.getD, argsT, Option.bind, Option.map, List.headD, List.tail, opnsL, List.replicate, lendsL, seval, ty_NmA_42, hb, hget', w1, sx1, sx2, f1, hA, hsx, tokD, tokP]
            refine step_nrm (NW.mk (acc ++ [x']) (some t) (1 :: 1 :: g)) ?_ hS ?_
            · simp only [List.length_append, List.length_cons, List.length_nil]; omega
            · (refine ⟨[], ?_⟩; (try simp only [amr, amc, amp, if_true, if_false, ne_eq, gt_iff_lt, Option.getD, argsT, Option.bind, Option.map, List.headD, List.tail, opnsL, List.replicate, lendsL, seval, tokD, tokP, Exp.dv_eq x']); exact sub_mk (by repeat first | exact subT_nil | refine subT_cons (by first | rfl | simp [Tm.get, *]) ?_))
        · rintro ⟨acc, t, g⟩ _ hI hb
          simp only [amr, amc, amp, if_true, if_false, ne_eq, gt_iff_lt, Option.getD, argsT, Option.bind, Option.map, List.headD, List.tail, opnsL, List.replicate, lendsL, seval, ty_NmA_42, hb]
          refine last_end (by simp) ⟨rfl, t, g, ?_⟩
          simp only [putEL, List.append_nil]
          rcases t with _ | t
          · simp only [amr, amc, amp, if_true, if_false, ne_eq, gt_iff_lt, Option.getD, argsT, Option.bind, Option.map, List.headD, List.tail, opnsL, List.replicate, lendsL, seval, tokD, tokP]
            exact sub_mk (by repeat first | exact subT_nil | refine subT_cons (by first | rfl | simp [Tm.get, *]) ?_)
          · simp only [amr, amc, amp, if_true, if_false, ne_eq, gt_iff_lt, Option.getD, argsT, Option.bind, Option.map, List.headD, List.tail, opnsL, List.replicate, lendsL, seval, tokD, tokP]
            exact sub_mk (by repeat first | exact subT_nil | refine subT_cons (by first | rfl | simp [Tm.get, *]) ?_)
        · (refine ⟨[], ?_⟩; (try simp only [amr, amc, amp, if_true, if_false, ne_eq, gt_iff_lt, Option.getD, argsT, Option.bind, Option.map, List.headD, List.tail, opnsL, List.replicate, lendsL, seval, tokD, tokP]); exact sub_mk (by repeat first | exact subT_nil | refine subT_cons (by first | rfl | simp [Tm.get, *]) ?_))
        · rintro o S' ⟨rfl, t, g, hs⟩
          refine good_sub_cr up_finq hs ?_
          simp only [List.nil_append]
          rcases t with _ | t
          · simp only [amr, amc, amp, if_true, if_false, ne_eq, gt_iff_lt, Option.getD, argsT, Option.bind, Option.map, List.headD, List.tail, opnsL, List.replicate, lendsL, seval, ty_NmA_42, tokD, tokP]
          · simp only [amr, amc, amp, if_true, if_false, ne_eq, gt_iff_lt, Option.getD, argsT, Option.bind, Option.map, List.headD, List.tail, opnsL, List.replicate, lendsL, seval, ty_NmA_42, tokD, tokP]
    | false =>
      have hne : ¬ (op = 2 ∧ name = s) := fun h => by have := beq_iff_eq.2 h.1; rw [b1] at this; cases this
      rw [if_neg hne, Exp.dv_mk]
      refine retq_good (args.length + 1) fn42 rfl rfl ?_
      simp only [amr, amc, amp, if_true, if_false, ne_eq, gt_iff_lt, Option.getD, argsT, Option.bind, Option.map, List.headD, List.tail, opnsL, List.replicate, lendsL, seval, ty_NmA_42, b1]
      refine good_range args (fun k (a : NW) _ => ⟨[(1, .d (.str s)), (5, .d (.rp [.int .i64 y.op, .int .i64 y.v.kind, .int .i64 y.v.n, .str y.v.s, .str y.name, .sl 6 (y.args.map Exp.dv)])), (6, .ptr ⟨0, 6, [0]⟩ 0), (7, .ptr ⟨0, 7, [0, 1]⟩ 0), (24, .d (.sl 6 (args.map Exp.dv))), (25, .d (.int .i64 args.length)), (26, .d (.int .i64 (k : Nat)))],
          tokP 0 37 (a.acc.length * 6) a.t ++ [(⟨0, 7, [0, 1]⟩, .box [.d (.int .i64 op), .d (.int .i64 v.kind), .d (.int .i64 v.n), .d (.str v.s), .d (.str name), .own 6 (a.acc.map Exp.dv) (tokD 0 37 a.t)]), (⟨0, 6, [0]⟩, .box [.d (.int .i64 0), .d (.int .i64 0), .d (.int .i64 0), .d (.str []), .d (.str []), .own 6 [] none])], a.g⟩)
        (fun k a => a.acc.length ≤ k ∧ 2 ≤ a.g.length) (fun k a r => a.acc ++ putEL s y r)
        (fun (o : List Exp) (q : Out) (S : St) => q = .exit 0 ∧ ∃ t g, Sub ⟨[(6, .ptr ⟨0, 6, [0]⟩ 0), (7, .ptr ⟨0, 7, [0, 1]⟩ 0)],
          tokP 0 37 (o.length * 6) t ++ [(⟨0, 7, [0, 1]⟩, .box [.d (.int .i64 op), .d (.int .i64 v.kind), .d (.int .i64 v.n), .d (.str v.s), .d (.str name), .own 6 (o.map Exp.dv) (tokD 0 37 t)]), (⟨0, 6, [0]⟩, .box [.d (.int .i64 0), .d (.int .i64 0), .d (.int .i64 0), .d (.str []), .d (.str []), .own 6 [] none])], g⟩ S)
        ⟨[], none, [1, 1]⟩ kp42_6 (fun _ => up_tok) ⟨Nat.le_refl _, by simp⟩ (by omega) (by omega) ?_ ?_ ?_ ?_
      · rintro k ⟨acc, t, g⟩ _ x rest hk hget hd ⟨hI, hI2⟩ hb w1
        have hget' : (args.map Exp.dv)[k]? = some x.dv := by rw [List.getElem?_map, hget]; rfl
        simp only at hI hI2
        have hA : ((acc.length + 1) * 80 ≤ 140737488355328) = True := eq_true (by omega)
        have f1 := fun (S : St) (d dst : Nat) => ca_retD (d := d) (dst := dst) (S := S) (args := [.d x.dv, .d (.str s), .d y.dv]) (ds := [x.dv, .str s, y.dv]) (ih x (List.mem_of_getElem? hget)) rfl (tab_opn (by kernel_rfl)) (tab_res (by kernel_rfl))
        rw [Exp.dv_eq x] at hget' f1
        rw [Exp.dv_eq y, Exp.dv_eq (putE s y x)] at f1
        have hS : acc ++ putEL s y (x :: rest) = (acc ++ [putE s y x]) ++ putEL s y rest := by simp [putEL]
        generalize putE s y x = x' at *
        have hsx : ∀ (m a b : Nat), (List.drop m [0, 1] = a :: b :: g) = False := fun m a b => eq_false (fun h => by have := congrArg List.length h; simp only [List.length_drop, List.length_cons, List.length_nil] at this; omega)
        rcases t with _ | t
        · simp only [amr, amc, amp, if_true, if_false, ne_eq, gt_iff_lt, Option.getD, argsT, Option.bind, Option.map, List.headD, List.tail, opnsL, List.replicate, lendsL, seval, ty_NmA_42, hb, hget', w1, sx1, sx2, f1, hA, hsx, tokD, tokP]
          refine step_nrm (NW.mk (acc ++ [x']) (some (9 :: 1 :: g)) (1 :: 1 :: g)) ?_ hS ?_
          · simp only [List.length_append, List.length_cons, List.length_nil]; omega
          · (refine ⟨[], ?_⟩; (try simp only [amr, amc, amp, if_true, if_false, ne_eq, gt_iff_lt, Option.getD, argsT, Option.bind, Option.map, List.headD, List.tail, opnsL, List.replicate, lendsL, seval, tokD, tokP, Exp.dv_eq x']); exact sub_mk (by repeat first | exact subT_nil | refine subT_cons (by first | rfl | simp [Tm.get, *]) ?_))
        · simp only [amr, amc, amp, if_true, if_false, ne_eq, gt_iff_lt, Option.getD, argsT, Option.bind, Option.map, List.headD, List.tail, opnsL, List.replicate, lendsL, seval, ty_NmA_42, hb, hget', w1, sx1, sx2, f1, hA, hsx, tokD, tokP]
          refine step_nrm (NW.mk (acc ++ [x']) (some t) (1 :: 1 :: g)) ?_ hS ?_
          · simp only [List.length_append, List.length_cons, List.length_nil]; omega
          · (refine ⟨[], ?_⟩; (try simp only [amr, amc, amp, if_true, if_false, ne_eq, gt_iff_lt, Option.getD, argsT, Option.bind, Option.map, List.headD, List.tail, opnsL, List.replicate, lendsL, seval, tokD, tokP, Exp.dv_eq x']); exact sub_mk (by repeat first | exact subT_nil | refine subT_cons (by first | rfl | simp [Tm.get, *]) ?_))
      · rintro ⟨acc, t, g⟩ _ hI hb
        simp only [amr, amc, amp, if_true, if_false, ne_eq, gt_iff_lt, Option.getD, argsT, Option.bind, Option.map, List.headD, List.tail, opnsL, List.replicate, lendsL, seval, ty_NmA_42, hb]
        refine last_end (by simp) ⟨rfl, t, g, ?_⟩
        simp only [putEL, List.append_nil]
        rcases t with _ | t
        · simp only [amr, amc, amp, if_true, if_false, ne_eq, gt_iff_lt, Option.getD, argsT, Option.bind, Option.map, List.headD, List.tail, opnsL, List.replicate, lendsL, seval, tokD, tokP]
          exact sub_mk (by repeat first | exact subT_nil | refine subT_cons (by first | rfl | simp [Tm.get, *]) ?_)
        · simp only [amr, amc, amp, if_true, if_false, ne_eq, gt_iff_lt, Option.getD, argsT, Option.bind, Option.map, List.headD, List.tail, opnsL, List.replicate, lendsL, seval, tokD, tokP]
          exact sub_mk (by repeat first | exact subT_nil | refine subT_cons (by first | rfl | simp [Tm.get, *]) ?_)
      · (refine ⟨[], ?_⟩; (try simp only [amr, amc, amp, if_true, if_false, ne_eq, gt_iff_lt, Option.getD, argsT, Option.bind, Option.map, List.headD, List.tail, opnsL, List.replicate, lendsL, seval, tokD, tokP]); exact sub_mk (by repeat first | exact subT_nil | refine subT_cons (by first | rfl | simp [Tm.get, *]) ?_))
      · rintro o S' ⟨rfl, t, g, hs⟩
        refine good_sub_cr up_finq hs ?_
        simp only [List.nil_append]
        rcases t with _ | t
        · simp only [amr, amc, amp, if_true, if_false, ne_eq, gt_iff_lt, Option.getD, argsT, Option.bind, Option.map, List.headD, List.tail, opnsL, List.replicate, lendsL, seval, ty_NmA_42, tokD, tokP]
        · simp only [amr, amc, amp, if_true, if_false, ne_eq, gt_iff_lt, Option.getD, argsT, Option.bind, Option.map, List.headD, List.tail, opnsL, List.replicate, lendsL, seval, ty_NmA_42, tokD, tokP]
theorem ca_put {d dst : Nat} {S : St} (s : List UInt8) (y x : Exp) (hy : y.nodes ≤ 1048576) (hx : x.nodes ≤ 1048576) : callA tab (callR tab) d dst 42 [.d x.dv, .d (.str s), .d y.dv] S = some (.d (putE s y x).dv, S) :=
  ca_retD (ds := [x.dv, .str s, y.dv]) (ret_putN s y hy x.nodes x (Nat.le_refl _) hx) rfl (tab_opn (by kernel_rfl)) (tab_res (by kernel_rfl))
end Go.Proofs.Ytjjjkoknodcaaaa.Am
