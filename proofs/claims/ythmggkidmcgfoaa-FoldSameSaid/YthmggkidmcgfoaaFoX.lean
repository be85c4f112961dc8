/- fold.fold, walked level by level. -/
import Derived.Test.YthmggkidmcgfoaaFoW
set_option linter.unusedVariables false
set_option linter.unusedSimpArgs false
namespace Go.Proofs.Ythmggkidmcgfoaa.Am
open Go Go.RowKit
theorem ty_FoX_17 : type_of% (ai (ai (ai (ai (ai (ai @rs17 @lv17_0) (ai @ro27_1_fold_go_28 (ai @lv17_1 @lv17_2))) (ai (ai @lv17_3 @lv17_4) (ai @lv17_5 (ai @lv17_6 @lv17_7)))) (ai (ai (ai @lv17_8 @dr17_9) (ai @lv17_9 (ai @mu25_35 @lv17_10))) (ai (ai @lv17_11 @dr17_12) (ai @lv17_12 (ai @lv17_13 @kp17_7))))) (ai (ai (ai (ai @und1 @sz1) (ai @ag1 (ai @inf1 @und3))) (ai (ai @sz3 @ag3) (ai @lv3 (ai @inf3 @und4)))) (ai (ai (ai @sz4 @ag4) (ai @lv4 (ai @inf4 @und9))) (ai (ai @sz9 (ai @ag9 @lv9)) (ai @inf9 (ai @und24 @sz24)))))) (ai (ai (ai (ai (ai @ag24 @fo24) (ai @bA24 (ai @pT24_0 @pT24_1))) (ai (ai @pT24_2 @lv24) (ai @inf24 (ai @und25 @sz25)))) (ai (ai (ai @ag25 @pT25) (ai @inf25 (ai @und27 @sz27))) (ai (ai @ag27 (ai @fo27 @bA27)) (ai @pT27_0 (ai @pT27_1 @pT27_2))))) (ai (ai (ai (ai @pT27_3 @inf27) (ai @und32 (ai @sz32 @ag32))) (ai (ai @lv32 @inf32) (ai @und35 (ai @sz35 @ag35)))) (ai (ai (ai @pT35 @inf35) (ai @und38 (ai @sz38 @ag38))) (ai (ai @fo38 (ai @bA38 @pT38_0)) (ai @pT38_1 (ai @pT38_2 @inf38))))))) := (ai (ai (ai (ai (ai (ai @rs17 @lv17_0) (ai @ro27_1_fold_go_28 (ai @lv17_1 @lv17_2))) (ai (ai @lv17_3 @lv17_4) (ai @lv17_5 (ai @lv17_6 @lv17_7)))) (ai (ai (ai @lv17_8 @dr17_9) (ai @lv17_9 (ai @mu25_35 @lv17_10))) (ai (ai @lv17_11 @dr17_12) (ai @lv17_12 (ai @lv17_13 @kp17_7))))) (ai (ai (ai (ai @und1 @sz1) (ai @ag1 (ai @inf1 @und3))) (ai (ai @sz3 @ag3) (ai @lv3 (ai @inf3 @und4)))) (ai (ai (ai @sz4 @ag4) (ai @lv4 (ai @inf4 @und9))) (ai (ai @sz9 (ai @ag9 @lv9)) (ai @inf9 (ai @und24 @sz24)))))) (ai (ai (ai (ai (ai @ag24 @fo24) (ai @bA24 (ai @pT24_0 @pT24_1))) (ai (ai @pT24_2 @lv24) (ai @inf24 (ai @und25 @sz25)))) (ai (ai (ai @ag25 @pT25) (ai @inf25 (ai @und27 @sz27))) (ai (ai @ag27 (ai @fo27 @bA27)) (ai @pT27_0 (ai @pT27_1 @pT27_2))))) (ai (ai (ai (ai @pT27_3 @inf27) (ai @und32 (ai @sz32 @ag32))) (ai (ai @lv32 @inf32) (ai @und35 (ai @sz35 @ag35)))) (ai (ai (ai @pT35 @inf35) (ai @und38 (ai @sz38 @ag38))) (ai (ai @fo38 (ai @bA38 @pT38_0)) (ai @pT38_1 (ai @pT38_2 @inf38)))))))
set_option maxRecDepth 100000
set_option maxHeartbeats 40000000



structure FoS where
  acc : List Exp
  t : Option (List Nat)
  g : List Nat
theorem ca_OfE {d dst : Nat} {S : St} {x : Exp} (hx : x.nodes ≤ 60 ∧ x.deep ≤ 12) (hw : x.wf) : callA tab (callR tab) d dst 11 [.d x.dv, .own 7 [] none] S = some (.tup [.d (.agg [.int .i64 (evE [] x).kind, .int .i64 (evE [] x).n, .str (evE [] x).s]), .d (.int .i64 0)], S) :=
  ca_ret_tup (ds := [x.dv, .sl 7 (([] : List Fact).map Fact.dv)]) (ys := [(evE [] x).dv, .int .i64 0]) (ret_Of x [] (by unfold chkE; rw [if_neg (by omega), if_neg (by omega)]) (by omega) hw (by decide) (by simp)) rfl (tab_opn (by kernel_rfl)) (tab_res (by kernel_rfl)) rfl
theorem pick_no {op : Int} {v : Val} {name : Str} {bs : List Exp} (h : op ≠ 17) : pickIf op v name bs = .mk op v name bs := by
  cases bs with
  | nil => rfl
  | cons a r => rw [pickIf_cons, if_neg (fun k => h k.1)]
theorem ret_fold : ∀ (k : Nat) (x : Exp), x.deep ≤ k → FOk x → RetZ zF 64 (k + 1) 17 [.d x.dv] (foldE x).dv
  | 0, x, h, _ => by have := (one_node x).2; omega
  | k + 1, .mk op v name args, h, hx => by
    have hlen := Exp.nodes_len args
    have hN := hx.n
    have hD := hx.d
    have hsub : ∀ a ∈ args, FOk a := fun a ha => by
      obtain ⟨m1, m2, m3, m4⟩ := mem_L ha
      simp only [Exp.nodes] at hN
      simp only [Exp.deep] at hD
      exact ⟨m4 hx.w.2, by omega, by omega, fun s hs => hx.s s (by rw [Exp.refs]; exact List.mem_append.2 (.inr (m3 s hs)))⟩
    have ih : ∀ a ∈ args, RetZ zF 64 (k + 1) 17 [.d a.dv] (foldE a).dv := fun a ha => ret_fold k a (by have := (mem_L ha).2.1; simp only [Exp.deep] at h; omega) (hsub a ha)
    have f1 := fun (S : St) (d dst : Nat) => (ca_Z (Z := zF) (N := 64) (k := k + 2) (by decide) (by decide)).trans (ca_OfE (d := d) (dst := dst) (S := S) ⟨hN, hD⟩ hx.w)
    have f2 := fun (S : St) (d dst : Nat) => ca_retZ (d := d) (dst := dst) (S := S) (args := [.d (Exp.mk op v name args).dv]) (ds := [(Exp.mk op v name args).dv]) (by decide) (ret_closed (k + 1) (.mk op v name args) hx) rfl (tab_opn (by kernel_rfl)) (tab_res (by kernel_rfl))
    have f3 := fun (S : St) (d dst : Nat) => (ca_Z (Z := zF) (N := 64) (k := k + 2) (by decide) (by decide)).trans (ca_Known (d := d) (dst := dst) (S := S) (evE [] (Exp.mk op v name args)).kind (evE [] (Exp.mk op v name args)).n (evE [] (Exp.mk op v name args)).s)
    have hL := fold_lessL args hx.w.2
    have har := hx.w.1.2.2.1
    unfold foldE
    rw [Exp.dv_mk] at f1 f2 ⊢
    by_cases hc : Exp.refs (.mk op v name args) = [] ∧ valKnown (evE [] (.mk op v name args)) = true
    · rw [if_pos hc]
      obtain ⟨hr, hk⟩ := hc
      have f4 := fun (S : St) (d dst : Nat) => (ca_Z (Z := zF) (N := 64) (k := k + 2) (by decide) (by decide)).trans (ca_negC (d := d) (dst := dst) (S := S) _ hk)
      have hk' : valKnown ⟨(evE [] (Exp.mk op v name args)).kind, (evE [] (Exp.mk op v name args)).n, (evE [] (Exp.mk op v name args)).s⟩ = true := hk
      rw [decide_eq_true hr] at f2
      rw [hk'] at f3
      generalize evE [] (Exp.mk op v name args) = w at *
      generalize negC w = y at *
      rw [Exp.dv_eq y] at f4 ⊢
      refine stepq_good fn17 rfl rfl ?_
      simp only [amr, amc, amp, if_true, if_false, ne_eq, gt_iff_lt, Option.getD, argsT, Option.bind, Option.map, List.headD, List.tail, opnsL, List.replicate, lendsL, seval, ty_FoX_17, f1, f2, f3, f4]
    · rw [if_neg hc]
      have hcase : decide (Exp.refs (.mk op v name args) = []) = false ∨ (decide (Exp.refs (.mk op v name args) = []) = true ∧ valKnown ⟨(evE [] (Exp.mk op v name args)).kind, (evE [] (Exp.mk op v name args)).n, (evE [] (Exp.mk op v name args)).s⟩ = false) := by
        by_cases hr : Exp.refs (.mk op v name args) = []
        · exact .inr ⟨decide_eq_true hr, by
            have : ¬ valKnown (evE [] (.mk op v name args)) = true := fun h => hc ⟨hr, h⟩
            simpa using this⟩
        · exact .inl (decide_eq_false hr)
      clear hc hx hsub
      generalize evE [] (Exp.mk op v name args) = w at *
      rcases hcase with q1 | ⟨q1, q2⟩
      · rw [q1] at f2
        refine stepq_good fn17 rfl rfl ?_
        simp only [amr, amc, amp, if_true, if_false, ne_eq, gt_iff_lt, Option.getD, argsT, Option.bind, Option.map, List.headD, List.tail, opnsL, List.replicate, lendsL, seval, ty_FoX_17, f1, f2, f3]
        refine good_range args (fun k (a : FoS) _ => ⟨[(2, .ptr ⟨0, 2, [0]⟩ 0), (5, .ptr ⟨0, 5, [0, 1, 1]⟩ 0), (24, .d (.sl 6 (args.map Exp.dv))), (25, .d (.int .i64 args.length)), (26, .d (.int .i64 (k : Nat)))],
            tokP 0 35 (a.acc.length * 6) a.t ++ [(⟨0, 5, [0, 1, 1]⟩, .box [.d (.int .i64 op), .d (.int .i64 v.kind), .d (.int .i64 v.n), .d (.str v.s), .d (.str name), .own 6 (a.acc.map Exp.dv) (tokD 0 35 a.t)]), (⟨0, 3, [0, 1]⟩, .box [.d (.int .i64 w.kind), .d (.int .i64 w.n), .d (.str w.s)]), (⟨0, 2, [0]⟩, .box [.d (.int .i64 0), .d (.int .i64 0), .d (.int .i64 0), .d (.str []), .d (.str []), .own 6 [] none])], a.g⟩)
          (fun k a => a.acc.length ≤ k ∧ 3 ≤ a.g.length) (fun k a r => a.acc ++ foldEL r)
          (fun (o : List Exp) (q : Out) (S : St) => q = .exit 0 ∧ ∃ t g, Sub ⟨[(2, .ptr ⟨0, 2, [0]⟩ 0), (5, .ptr ⟨0, 5, [0, 1, 1]⟩ 0)],
            tokP 0 35 (o.length * 6) t ++ [(⟨0, 5, [0, 1, 1]⟩, .box [.d (.int .i64 op), .d (.int .i64 v.kind), .d (.int .i64 v.n), .d (.str v.s), .d (.str name), .own 6 (o.map Exp.dv) (tokD 0 35 t)]), (⟨0, 3, [0, 1]⟩, .box [.d (.int .i64 w.kind), .d (.int .i64 w.n), .d (.str w.s)]), (⟨0, 2, [0]⟩, .box [.d (.int .i64 0), .d (.int .i64 0), .d (.int .i64 0), .d (.str []), .d (.str []), .own 6 [] none])], g⟩ S)
          ⟨[], none, [1, 1, 1]⟩ kp17_7 (fun _ => up_tok) ⟨Nat.le_refl _, by simp⟩ (by simp only [Exp.nodes] at hN; omega) (by simp only [Exp.nodes] at hN; omega) ?_ ?_ ?_ ?_
        · rintro j ⟨acc, t, g⟩ _ x rest hj hget hd ⟨hI, hI2⟩ hb w1
          have hget' : (args.map Exp.dv)[j]? = some x.dv := by rw [List.getElem?_map, hget]; rfl
          simp only at hI hI2
          have hA : ((acc.length + 1) * 80 ≤ 140737488355328) = True := eq_true (by simp only [Exp.nodes] at hN; omega)
          have fE := fun (S : St) (d dst : Nat) => ca_retZ (d := d) (dst := dst) (S := S) (args := [.d x.dv]) (ds := [x.dv]) (by decide) (ih x (List.mem_of_getElem? hget)) rfl (tab_opn (by kernel_rfl)) (tab_res (by kernel_rfl))
          have hS : acc ++ foldEL (x :: rest) = (acc ++ [foldE x]) ++ foldEL rest := by simp [foldEL]
          rw [Exp.dv_eq x, Exp.dv_eq (foldE x)] at fE
          rw [Exp.dv_eq x] at hget'
          generalize foldE x = x' at *
          have hsx : ∀ (m a b : Nat), (List.drop m [0, 1, 1] = a :: b :: g) = False := fun m a b => eq_false (fun h => by have := congrArg List.length h; simp only [List.length_drop, List.length_cons, List.length_nil] at this; omega)
          have hsx2 : ∀ (m a b : Nat), (List.drop m [0, 1] = a :: b :: g) = False := fun m a b => eq_false (fun h => by have := congrArg List.length h; simp only [List.length_drop, List.length_cons, List.length_nil] at this; omega)
          rcases t with _ | t
          · simp only [amr, amc, amp, if_true, if_false, ne_eq, gt_iff_lt, Option.getD, argsT, Option.bind, Option.map, List.headD, List.tail, opnsL, List.replicate, lendsL, seval, ty_FoX_17, hb, hget', w1, sx1, sx2, fE, hA, hsx, hsx2, tokD, tokP]
            refine step_nrm (FoS.mk (acc ++ [x']) (some (7 :: 1 :: g)) (1 :: 1 :: g)) ?_ hS ?_
            · simp only [List.length_append, List.length_cons, List.length_nil]; omega
            · (refine ⟨[], ?_⟩; (try simp only [amr, amc, amp, if_true, if_false, ne_eq, gt_iff_lt, Option.getD, argsT, Option.bind, Option.map, List.headD, List.tail, opnsL, List.replicate, lendsL, seval, tokD, tokP, Exp.dv_eq x']); exact sub_mk (by repeat first | exact subT_nil | refine subT_cons (by first | rfl | simp [Tm.get, *]) ?_))
          · simp only [amr, amc, amp, if_true, if_false, ne_eq, gt_iff_lt, Option.getD, argsT, Option.bind, Option.map, List.headD, List.tail, opnsL, List.replicate, lendsL, seval, ty_FoX_17, hb, hget', w1, sx1, sx2, fE, hA, hsx, hsx2, tokD, tokP]
            refine step_nrm (FoS.mk (acc ++ [x']) (some t) (1 :: 1 :: g)) ?_ hS ?_
            · simp only [List.length_append, List.length_cons, List.length_nil]; omega
            · (refine ⟨[], ?_⟩; (try simp only [amr, amc, amp, if_true, if_false, ne_eq, gt_iff_lt, Option.getD, argsT, Option.bind, Option.map, List.headD, List.tail, opnsL, List.replicate, lendsL, seval, tokD, tokP, Exp.dv_eq x']); exact sub_mk (by repeat first | exact subT_nil | refine subT_cons (by first | rfl | simp [Tm.get, *]) ?_))
        · rintro ⟨acc, t, g⟩ _ hI hb
          simp only [amr, amc, amp, if_true, if_false, ne_eq, gt_iff_lt, Option.getD, argsT, Option.bind, Option.map, List.headD, List.tail, opnsL, List.replicate, lendsL, seval, ty_FoX_17, hb]
          refine last_end (by simp) ⟨rfl, t, g, ?_⟩
          simp only [foldEL, List.append_nil]
          rcases t with _ | t
          · simp only [amr, amc, amp, if_true, if_false, ne_eq, gt_iff_lt, Option.getD, argsT, Option.bind, Option.map, List.headD, List.tail, opnsL, List.replicate, lendsL, seval, tokD, tokP]
            exact sub_mk (by repeat first | exact subT_nil | refine subT_cons (by first | rfl | simp [Tm.get, *]) ?_)
          · simp only [amr, amc, amp, if_true, if_false, ne_eq, gt_iff_lt, Option.getD, argsT, Option.bind, Option.map, List.headD, List.tail, opnsL, List.replicate, lendsL, seval, tokD, tokP]
            exact sub_mk (by repeat first | exact subT_nil | refine subT_cons (by first | rfl | simp [Tm.get, *]) ?_)
        · (refine ⟨[], ?_⟩; (try simp only [amr, amc, amp, if_true, if_false, ne_eq, gt_iff_lt, Option.getD, argsT, Option.bind, Option.map, List.headD, List.tail, opnsL, List.replicate, lendsL, seval, tokD, tokP]); exact sub_mk (by repeat first | exact subT_nil | refine subT_cons (by first | rfl | simp [Tm.get, *]) ?_))
        · rintro o S' ⟨rfl, t, g, hs⟩
          refine good_sub_cr up_finq hs ?_
          simp only [List.nil_append]
          generalize foldEL args = bs at *
          cases c17 : (op == 17) with
          | false =>
            rw [pick_no (fun h => by rw [h] at c17; simp at c17), Exp.dv_mk]
            rcases t with _ | t
            · simp only [amr, amc, amp, if_true, if_false, ne_eq, gt_iff_lt, Option.getD, argsT, Option.bind, Option.map, List.headD, List.tail, opnsL, List.replicate, lendsL, seval, ty_FoX_17, tokD, tokP, List.map_cons, List.map_nil, c17]
            · simp only [amr, amc, amp, if_true, if_false, ne_eq, gt_iff_lt, Option.getD, argsT, Option.bind, Option.map, List.headD, List.tail, opnsL, List.replicate, lendsL, seval, ty_FoX_17, tokD, tokP, List.map_cons, List.map_nil, c17]
          | true =>
            obtain rfl : op = 17 := eq_of_beq c17
            obtain ⟨a, b, c, rfl⟩ := len3 (l := bs) (by rw [hL.len]; exact arity_3 har rfl)
            have hwa := hL.w.1
            rw [pickIf_cons]
            cases c1 : (a.op == 1) with
            | false =>
              rw [if_neg (fun h => by rw [h.2.1] at c1; simp at c1), Exp.dv_mk]
              simp only [List.map_cons, List.map_nil, Exp.dv_eq a]
              rcases t with _ | t
              · simp only [amr, amc, amp, if_true, if_false, ne_eq, gt_iff_lt, Option.getD, argsT, Option.bind, Option.map, List.headD, List.tail, opnsL, List.replicate, lendsL, seval, ty_FoX_17, tokD, tokP, List.map_cons, List.map_nil, c1, beq_self_eq_true]
              · simp only [amr, amc, amp, if_true, if_false, ne_eq, gt_iff_lt, Option.getD, argsT, Option.bind, Option.map, List.headD, List.tail, opnsL, List.replicate, lendsL, seval, ty_FoX_17, tokD, tokP, List.map_cons, List.map_nil, c1, beq_self_eq_true]
            | true =>
              cases c2 : (a.v.kind == 2) with
              | false =>
                rw [if_neg (fun h => by rw [h.2.2] at c2; simp at c2), Exp.dv_mk]
                simp only [List.map_cons, List.map_nil, Exp.dv_eq a]
                rcases t with _ | t
                · simp only [amr, amc, amp, if_true, if_false, ne_eq, gt_iff_lt, Option.getD, argsT, Option.bind, Option.map, List.headD, List.tail, opnsL, List.replicate, lendsL, seval, ty_FoX_17, tokD, tokP, List.map_cons, List.map_nil, c1, c2, beq_self_eq_true]
                · simp only [amr, amc, amp, if_true, if_false, ne_eq, gt_iff_lt, Option.getD, argsT, Option.bind, Option.map, List.headD, List.tail, opnsL, List.replicate, lendsL, seval, ty_FoX_17, tokD, tokP, List.map_cons, List.map_nil, c1, c2, beq_self_eq_true]
              | true =>
                have hv : VOK a.v := by
                  have h1 : a.op = 1 := eq_of_beq c1
                  obtain ⟨ao, av, an, aa⟩ := a
                  have h2 := hwa.1.2.2.2
                  rw [if_pos (show ao = 1 from h1)] at h2
                  exact (known_kind h2.2.1).2
                have hn := vok_bool hv (eq_of_beq c2)
                rw [if_pos ⟨rfl, eq_of_beq c1, eq_of_beq c2⟩]
                simp only [List.map_cons, List.map_nil, Exp.dv_eq a]
                rcases hn with hn | hn
                · rw [hn, show (([a, b, c] : List Exp).getD ((2 : Int) - 0).toNat (.mk 0 Val.zero [] [])) = c from rfl, Exp.dv_eq c]
                  rcases t with _ | t
                  · simp only [amr, amc, amp, if_true, if_false, ne_eq, gt_iff_lt, Option.getD, argsT, Option.bind, Option.map, List.headD, List.tail, opnsL, List.replicate, lendsL, seval, ty_FoX_17, tokD, tokP, List.map_cons, List.map_nil, c1, c2, beq_self_eq_true, (show IntKind.i64.wrap 0 = 0 from rfl), (show IntKind.i64.wrap 1 = 1 from rfl), (show IntKind.i64.wrap 2 = 2 from rfl), (show IntKind.i64.wrap 3 = 3 from rfl), (show IntKind.i64.wrap 4 = 4 from rfl), (show IntKind.i64.wrap 5 = 5 from rfl), (show IntKind.i64.wrap 6 = 6 from rfl), (show IntKind.i64.wrap 7 = 7 from rfl), (show IntKind.i64.wrap 8 = 8 from rfl), (show IntKind.i64.wrap 9 = 9 from rfl), (show IntKind.i64.wrap 10 = 10 from rfl), (show IntKind.i64.wrap 11 = 11 from rfl), (show IntKind.i64.wrap 12 = 12 from rfl), (show IntKind.i64.wrap 13 = 13 from rfl), (show IntKind.i64.wrap 14 = 14 from rfl)]
                  · simp only [amr, amc, amp, if_true, if_false, ne_eq, gt_iff_lt, Option.getD, argsT, Option.bind, Option.map, List.headD, List.tail, opnsL, List.replicate, lendsL, seval, ty_FoX_17, tokD, tokP, List.map_cons, List.map_nil, c1, c2, beq_self_eq_true, (show IntKind.i64.wrap 0 = 0 from rfl), (show IntKind.i64.wrap 1 = 1 from rfl), (show IntKind.i64.wrap 2 = 2 from rfl), (show IntKind.i64.wrap 3 = 3 from rfl), (show IntKind.i64.wrap 4 = 4 from rfl), (show IntKind.i64.wrap 5 = 5 from rfl), (show IntKind.i64.wrap 6 = 6 from rfl), (show IntKind.i64.wrap 7 = 7 from rfl), (show IntKind.i64.wrap 8 = 8 from rfl), (show IntKind.i64.wrap 9 = 9 from rfl), (show IntKind.i64.wrap 10 = 10 from rfl), (show IntKind.i64.wrap 11 = 11 from rfl), (show IntKind.i64.wrap 12 = 12 from rfl), (show IntKind.i64.wrap 13 = 13 from rfl), (show IntKind.i64.wrap 14 = 14 from rfl)]
                · rw [hn, show (([a, b, c] : List Exp).getD ((2 : Int) - 1).toNat (.mk 0 Val.zero [] [])) = b from rfl, Exp.dv_eq b]
                  rcases t with _ | t
                  · simp only [amr, amc, amp, if_true, if_false, ne_eq, gt_iff_lt, Option.getD, argsT, Option.bind, Option.map, List.headD, List.tail, opnsL, List.replicate, lendsL, seval, ty_FoX_17, tokD, tokP, List.map_cons, List.map_nil, c1, c2, beq_self_eq_true, (show IntKind.i64.wrap 0 = 0 from rfl), (show IntKind.i64.wrap 1 = 1 from rfl), (show IntKind.i64.wrap 2 = 2 from rfl), (show IntKind.i64.wrap 3 = 3 from rfl), (show IntKind.i64.wrap 4 = 4 from rfl), (show IntKind.i64.wrap 5 = 5 from rfl), (show IntKind.i64.wrap 6 = 6 from rfl), (show IntKind.i64.wrap 7 = 7 from rfl), (show IntKind.i64.wrap 8 = 8 from rfl), (show IntKind.i64.wrap 9 = 9 from rfl), (show IntKind.i64.wrap 10 = 10 from rfl), (show IntKind.i64.wrap 11 = 11 from rfl), (show IntKind.i64.wrap 12 = 12 from rfl), (show IntKind.i64.wrap 13 = 13 from rfl), (show IntKind.i64.wrap 14 = 14 from rfl)]
                  · simp only [amr, amc, amp, if_true, if_false, ne_eq, gt_iff_lt, Option.getD, argsT, Option.bind, Option.map, List.headD, List.tail, opnsL, List.replicate, lendsL, seval, ty_FoX_17, tokD, tokP, List.map_cons, List.map_nil, c1, c2, beq_self_eq_true, (show IntKind.i64.wrap 0 = 0 from rfl), (show IntKind.i64.wrap 1 = 1 from rfl), (show IntKind.i64.wrap 2 = 2 from rfl), (show IntKind.i64.wrap 3 = 3 from rfl), (show IntKind.i64.wrap 4 = 4 from rfl), (show IntKind.i64.wrap 5 = 5 from rfl), (show IntKind.i64.wrap 6 = 6 from rfl), (show IntKind.i64.wrap 7 = 7 from rfl), (show IntKind.i64.wrap 8 = 8 from rfl), (show IntKind.i64.wrap 9 = 9 from rfl), (show IntKind.i64.wrap 10 = 10 from rfl), (show IntKind.i64.wrap 11 = 11 from rfl), (show IntKind.i64.wrap 12 = 12 from rfl), (show IntKind.i64.wrap 13 = 13 from rfl), (show IntKind.i64.wrap 14 = 14 from rfl)]
      · rw [q1] at f2
        rw [q2] at f3
        refine stepq_good fn17 rfl rfl ?_
        simp only [amr, amc, amp, if_true, if_false, ne_eq, gt_iff_lt, Option.getD, argsT, Option.bind, Option.map, List.headD, List.tail, opnsL, List.replicate, lendsL, seval, ty_FoX_17, f1, f2, f3]
        refine good_range args (fun k (a : FoS) _ => ⟨[(2, .ptr ⟨0, 2, [0]⟩ 0), (5, .ptr ⟨0, 5, [0, 1, 1]⟩ 0), (24, .d (.sl 6 (args.map Exp.dv))), (25, .d (.int .i64 args.length)), (26, .d (.int .i64 (k : Nat)))],
            tokP 0 35 (a.acc.length * 6) a.t ++ [(⟨0, 5, [0, 1, 1]⟩, .box [.d (.int .i64 op), .d (.int .i64 v.kind), .d (.int .i64 v.n), .d (.str v.s), .d (.str name), .own 6 (a.acc.map Exp.dv) (tokD 0 35 a.t)]), (⟨0, 3, [0, 1]⟩, .box [.d (.int .i64 w.kind), .d (.int .i64 w.n), .d (.str w.s)]), (⟨0, 2, [0]⟩, .box [.d (.int .i64 0), .d (.int .i64 0), .d (.int .i64 0), .d (.str []), .d (.str []), .own 6 [] none])], a.g⟩)
          (fun k a => a.acc.length ≤ k ∧ 3 ≤ a.g.length) (fun k a r => a.acc ++ foldEL r)
          (fun (o : List Exp) (q : Out) (S : St) => q = .exit 0 ∧ ∃ t g, Sub ⟨[(2, .ptr ⟨0, 2, [0]⟩ 0), (5, .ptr ⟨0, 5, [0, 1, 1]⟩ 0)],
            tokP 0 35 (o.length * 6) t ++ [(⟨0, 5, [0, 1, 1]⟩, .box [.d (.int .i64 op), .d (.int .i64 v.kind), .d (.int .i64 v.n), .d (.str v.s), .d (.str name), .own 6 (o.map Exp.dv) (tokD 0 35 t)]), (⟨0, 3, [0, 1]⟩, .box [.d (.int .i64 w.kind), .d (.int .i64 w.n), .d (.str w.s)]), (⟨0, 2, [0]⟩, .box [.d (.int .i64 0), .d (.int .i64 0), .d (.int .i64 0), .d (.str []), .d (.str []), .own 6 [] none])], g⟩ S)
          ⟨[], none, [1, 1, 1]⟩ kp17_7 (fun _ => up_tok) ⟨Nat.le_refl _, by simp⟩ (by simp only [Exp.nodes] at hN; omega) (by simp only [Exp.nodes] at hN; omega) ?_ ?_ ?_ ?_
        · rintro j ⟨acc, t, g⟩ _ x rest hj hget hd ⟨hI, hI2⟩ hb w1
          have hget' : (args.map Exp.dv)[j]? = some x.dv := by rw [List.getElem?_map, hget]; rfl
          simp only at hI hI2
          have hA : ((acc.length + 1) * 80 ≤ 140737488355328) = True := eq_true (by simp only [Exp.nodes] at hN; omega)
          have fE := fun (S : St) (d dst : Nat) => ca_retZ (d := d) (dst := dst) (S := S) (args := [.d x.dv]) (ds := [x.dv]) (by decide) (ih x (List.mem_of_getElem? hget)) rfl (tab_opn (by kernel_rfl)) (tab_res (by kernel_rfl))
          have hS : acc ++ foldEL (x :: rest) = (acc ++ [foldE x]) ++ foldEL rest := by simp [foldEL]
          rw [Exp.dv_eq x, Exp.dv_eq (foldE x)] at fE
          rw [Exp.dv_eq x] at hget'
          generalize foldE x = x' at *
          have hsx : ∀ (m a b : Nat), (List.drop m [0, 1, 1] = a :: b :: g) = False := fun m a b => eq_false (fun h => by have := congrArg List.length h; simp only [List.length_drop, List.length_cons, List.length_nil] at this; omega)
          have hsx2 : ∀ (m a b : Nat), (List.drop m [0, 1] = a :: b :: g) = False := fun m a b => eq_false (fun h => by have := congrArg List.length h; simp only [List.length_drop, List.length_cons, List.length_nil] at this; omega)
          rcases t with _ | t
          · simp only [amr, amc, amp, if_true, if_false, ne_eq, gt_iff_lt, Option.getD, argsT, Option.bind, Option.map, List.headD, List.tail, opnsL, List.replicate, lendsL, seval, ty_FoX_17, hb, hget', w1, sx1, sx2, fE, hA, hsx, hsx2, tokD, tokP]
            refine step_nrm (FoS.mk (acc ++ [x']) (some (7 :: 1 :: g)) (1 :: 1 :: g)) ?_ hS ?_
            · simp only [List.length_append, List.length_cons, List.length_nil]; omega
            · (refine ⟨[], ?_⟩; (try simp only [amr, amc, amp, if_true, if_false, ne_eq, gt_iff_lt, Option.getD, argsT, Option.bind, Option.map, List.headD, List.tail, opnsL, List.replicate, lendsL, seval, tokD, tokP, Exp.dv_eq x']); exact sub_mk (by repeat first | exact subT_nil | refine subT_cons (by first | rfl | simp [Tm.get, *]) ?_))
          · simp only [amr, amc, amp, if_true, if_false, ne_eq, gt_iff_lt, Option.getD, argsT, Option.bind, Option.map, List.headD, List.tail, opnsL, List.replicate, lendsL, seval, ty_FoX_17, hb, hget', w1, sx1, sx2, fE, hA, hsx, hsx2, tokD, tokP]
            refine step_nrm (FoS.mk (acc ++ [x']) (some t) (1 :: 1 :: g)) ?_ hS ?_
            · simp only [List.length_append, List.length_cons, List.length_nil]; omega
            · (refine ⟨[], ?_⟩; (try simp only [amr, amc, amp, if_true, if_false, ne_eq, gt_iff_lt, Option.getD, argsT, Option.bind, Option.map, List.headD, List.tail, opnsL, List.replicate, lendsL, seval, tokD, tokP, Exp.dv_eq x']); exact sub_mk (by repeat first | exact subT_nil | refine subT_cons (by first | rfl | simp [Tm.get, *]) ?_))
        · rintro ⟨acc, t, g⟩ _ hI hb
          simp only [amr, amc, amp, if_true, if_false, ne_eq, gt_iff_lt, Option.getD, argsT, Option.bind, Option.map, List.headD, List.tail, opnsL, List.replicate, lendsL, seval, ty_FoX_17, hb]
          refine last_end (by simp) ⟨rfl, t, g, ?_⟩
          simp only [foldEL, List.append_nil]
          rcases t with _ | t
          · simp only [amr, amc, amp, if_true, if_false, ne_eq, gt_iff_lt, Option.getD, argsT, Option.bind, Option.map, List.headD, List.tail, opnsL, List.replicate, lendsL, seval, tokD, tokP]
            exact sub_mk (by repeat first | exact subT_nil | refine subT_cons (by first | rfl | simp [Tm.get, *]) ?_)
          · simp only [amr, amc, amp, if_true, if_false, ne_eq, gt_iff_lt, Option.getD, argsT, Option.bind, Option.map, List.headD, List.tail, opnsL, List.replicate, lendsL, seval, tokD, tokP]
            exact sub_mk (by repeat first | exact subT_nil | refine subT_cons (by first | rfl | simp [Tm.get, *]) ?_)
        · (refine ⟨[], ?_⟩; (try simp only [amr, amc, amp, if_true, if_false, ne_eq, gt_iff_lt, Option.getD, argsT, Option.bind, Option.map, List.headD, List.tail, opnsL, List.replicate, lendsL, seval, tokD, tokP]); exact sub_mk (by repeat first | exact subT_nil | refine subT_cons (by first | rfl | simp [Tm.get, *]) ?_))
        · rintro o S' ⟨rfl, t, g, hs⟩
          refine good_sub_cr up_finq hs ?_
          simp only [List.nil_append]
          generalize foldEL args = bs at *
          cases c17 : (op == 17) with
          | false =>
            rw [pick_no (fun h => by rw [h] at c17; simp at c17), Exp.dv_mk]
            rcases t with _ | t
            · simp only [amr, amc, amp, if_true, if_false, ne_eq, gt_iff_lt, Option.getD, argsT, Option.bind, Option.map, List.headD, List.tail, opnsL, List.replicate, lendsL, seval, ty_FoX_17, tokD, tokP, List.map_cons, List.map_nil, c17]
            · simp only [amr, amc, amp, if_true, if_false, ne_eq, gt_iff_lt, Option.getD, argsT, Option.bind, Option.map, List.headD, List.tail, opnsL, List.replicate, lendsL, seval, ty_FoX_17, tokD, tokP, List.map_cons, List.map_nil, c17]
          | true =>
            obtain rfl : op = 17 := eq_of_beq c17
            obtain ⟨a, b, c, rfl⟩ := len3 (l := bs) (by rw [hL.len]; exact arity_3 har rfl)
            have hwa := hL.w.1
            rw [pickIf_cons]
            cases c1 : (a.op == 1) with
            | false =>
              rw [if_neg (fun h => by rw [h.2.1] at c1; simp at c1), Exp.dv_mk]
              simp only [List.map_cons, List.map_nil, Exp.dv_eq a]
              rcases t with _ | t
              · simp only [amr, amc, amp, if_true, if_false, ne_eq, gt_iff_lt, Option.getD, argsT, Option.bind, Option.map, List.headD, List.tail, opnsL, List.replicate, lendsL, seval, ty_FoX_17, tokD, tokP, List.map_cons, List.map_nil, c1, beq_self_eq_true]
              · simp only [amr, amc, amp, if_true, if_false, ne_eq, gt_iff_lt, Option.getD, argsT, Option.bind, Option.map, List.headD, List.tail, opnsL, List.replicate, lendsL, seval, ty_FoX_17, tokD, tokP, List.map_cons, List.map_nil, c1, beq_self_eq_true]
            | true =>
              cases c2 : (a.v.kind == 2) with
              | false =>
                rw [if_neg (fun h => by rw [h.2.2] at c2; simp at c2), Exp.dv_mk]
                simp only [List.map_cons, List.map_nil, Exp.dv_eq a]
                rcases t with _ | t
                · simp only [amr, amc, amp, if_true, if_false, ne_eq, gt_iff_lt, Option.getD, argsT, Option.bind, Option.map, List.headD, List.tail, opnsL, List.replicate, lendsL, seval, ty_FoX_17, tokD, tokP, List.map_cons, List.map_nil, c1, c2, beq_self_eq_true]
                · simp only [amr, amc, amp, if_true, if_false, ne_eq, gt_iff_lt, Option.getD, argsT, Option.bind, Option.map, List.headD, List.tail, opnsL, List.replicate, lendsL, seval, ty_FoX_17, tokD, tokP, List.map_cons, List.map_nil, c1, c2, beq_self_eq_true]
              | true =>
                have hv : VOK a.v := by
                  have h1 : a.op = 1 := eq_of_beq c1
                  obtain ⟨ao, av, an, aa⟩ := a
                  have h2 := hwa.1.2.2.2
                  rw [if_pos (show ao = 1 from h1)] at h2
                  exact (known_kind h2.2.1).2
                have hn := vok_bool hv (eq_of_beq c2)
                rw [if_pos ⟨rfl, eq_of_beq c1, eq_of_beq c2⟩]
                simp only [List.map_cons, List.map_nil, Exp.dv_eq a]
                rcases hn with hn | hn
                · rw [hn, show (([a, b, c] : List Exp).getD ((2 : Int) - 0).toNat (.mk 0 Val.zero [] [])) = c from rfl, Exp.dv_eq c]
                  rcases t with _ | t
                  · simp only [amr, amc, amp, if_true, if_false, ne_eq, gt_iff_lt, Option.getD, argsT, Option.bind, Option.map, List.headD, List.tail, opnsL, List.replicate, lendsL, seval, ty_FoX_17, tokD, tokP, List.map_cons, List.map_nil, c1, c2, beq_self_eq_true, (show IntKind.i64.wrap 0 = 0 from rfl), (show IntKind.i64.wrap 1 = 1 from rfl), (show IntKind.i64.wrap 2 = 2 from rfl), (show IntKind.i64.wrap 3 = 3 from rfl), (show IntKind.i64.wrap 4 = 4 from rfl), (show IntKind.i64.wrap 5 = 5 from rfl), (show IntKind.i64.wrap 6 = 6 from rfl), (show IntKind.i64.wrap 7 = 7 from rfl), (show IntKind.i64.wrap 8 = 8 from rfl), (show IntKind.i64.wrap 9 = 9 from rfl), (show IntKind.i64.wrap 10 = 10 from rfl), (show IntKind.i64.wrap 11 = 11 from rfl), (show IntKind.i64.wrap 12 = 12 from rfl), (show IntKind.i64.wrap 13 = 13 from rfl), (show IntKind.i64.wrap 14 = 14 from rfl)]
                  · simp only [amr, amc, amp, if_true, if_false, ne_eq, gt_iff_lt, Option.getD, argsT, Option.bind, Option.map, List.headD, List.tail, opnsL, List.replicate, lendsL, seval, ty_FoX_17, tokD, tokP, List.map_cons, List.map_nil, c1, c2, beq_self_eq_true, (show IntKind.i64.wrap 0 = 0 from rfl), (show IntKind.i64.wrap 1 = 1 from rfl), (show IntKind.i64.wrap 2 = 2 from rfl), (show IntKind.i64.wrap 3 = 3 from rfl), (show IntKind.i64.wrap 4 = 4 from rfl), (show IntKind.i64.wrap 5 = 5 from rfl), (show IntKind.i64.wrap 6 = 6 from rfl), (show IntKind.i64.wrap 7 = 7 from rfl), (show IntKind.i64.wrap 8 = 8 from rfl), (show IntKind.i64.wrap 9 = 9 from rfl), (show IntKind.i64.wrap 10 = 10 from rfl), (show IntKind.i64.wrap 11 = 11 from rfl), (show IntKind.i64.wrap 12 = 12 from rfl), (show IntKind.i64.wrap 13 = 13 from rfl), (show IntKind.i64.wrap 14 = 14 from rfl)]
                · rw [hn, show (([a, b, c] : List Exp).getD ((2 : Int) - 1).toNat (.mk 0 Val.zero [] [])) = b from rfl, Exp.dv_eq b]
                  rcases t with _ | t
                  · simp only [amr, amc, amp, if_true, if_false, ne_eq, gt_iff_lt, Option.getD, argsT, Option.bind, Option.map, List.headD, List.tail, opnsL, List.replicate, lendsL, seval, ty_FoX_17, tokD, tokP, List.map_cons, List.map_nil, c1, c2, beq_self_eq_true, (show IntKind.i64.wrap 0 = 0 from rfl), (show IntKind.i64.wrap 1 = 1 from rfl), (show IntKind.i64.wrap 2 = 2 from rfl), (show IntKind.i64.wrap 3 = 3 from rfl), (show IntKind.i64.wrap 4 = 4 from rfl), (show IntKind.i64.wrap 5 = 5 from rfl), (show IntKind.i64.wrap 6 = 6 from rfl), (show IntKind.i64.wrap 7 = 7 from rfl), (show IntKind.i64.wrap 8 = 8 from rfl), (show IntKind.i64.wrap 9 = 9 from rfl), (show IntKind.i64.wrap 10 = 10 from rfl), (show IntKind.i64.wrap 11 = 11 from rfl), (show IntKind.i64.wrap 12 = 12 from rfl), (show IntKind.i64.wrap 13 = 13 from rfl), (show IntKind.i64.wrap 14 = 14 from rfl)]
                  · simp only [amr, amc, amp, if_true, if_false, ne_eq, gt_iff_lt, Option.getD, argsT, Option.bind, Option.map, List.headD, List.tail, opnsL, List.replicate, lendsL, seval, ty_FoX_17, tokD, tokP, List.map_cons, List.map_nil, c1, c2, beq_self_eq_true, (show IntKind.i64.wrap 0 = 0 from rfl), (show IntKind.i64.wrap 1 = 1 from rfl), (show IntKind.i64.wrap 2 = 2 from rfl), (show IntKind.i64.wrap 3 = 3 from rfl), (show IntKind.i64.wrap 4 = 4 from rfl), (show IntKind.i64.wrap 5 = 5 from rfl), (show IntKind.i64.wrap 6 = 6 from rfl), (show IntKind.i64.wrap 7 = 7 from rfl), (show IntKind.i64.wrap 8 = 8 from rfl), (show IntKind.i64.wrap 9 = 9 from rfl), (show IntKind.i64.wrap 10 = 10 from rfl), (show IntKind.i64.wrap 11 = 11 from rfl), (show IntKind.i64.wrap 12 = 12 from rfl), (show IntKind.i64.wrap 13 = 13 from rfl), (show IntKind.i64.wrap 14 = 14 from rfl)]
end Go.Proofs.Ythmggkidmcgfoaa.Am
