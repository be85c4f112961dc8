/- TypingMade, walked. -/
import Derived.Test.YtjjjkoknodcaaaaTyD
import Derived.Test.YtjjjkoknodcaaaaNmB
set_option linter.unusedVariables false
set_option linter.unusedSimpArgs false
namespace Go.Proofs.Ytjjjkoknodcaaaa.Am
open Go Go.RowKit
theorem ty_TyE_59 : type_of% (ai (ai (ai (ai (ai (ai @rs59 @lv59_0) (ai @ro27_1_expr_go_50 (ai @lv59_1 @lv59_2))) (ai (ai @dr59_3 @lv59_3) (ai @lv59_4 (ai @lv59_5 @lv59_8)))) (ai (ai (ai @lv59_9 @lv59_10) (ai @lv59_11 (ai @lv59_12 @lv59_13))) (ai (ai @lv59_6 (ai @lv59_7 @lv59_14)) (ai @und1 (ai @sz1 @ag1))))) (ai (ai (ai (ai @inf1 @und2) (ai @sz2 (ai @ag2 @lv2))) (ai (ai @inf2 (ai @und3 @sz3)) (ai @ag3 (ai @lv3 @inf3)))) (ai (ai (ai @und4 @sz4) (ai @ag4 (ai @lv4 @inf4))) (ai (ai @und9 (ai @sz9 @ag9)) (ai @lv9 (ai @inf9 @und24)))))) (ai (ai (ai (ai (ai @sz24 @ag24) (ai @fo24 (ai @bA24 @pT24_0))) (ai (ai @pT24_1 (ai @pT24_2 @lv24)) (ai @inf24 (ai @und25 @sz25)))) (ai (ai (ai @ag25 @pT25) (ai @inf25 (ai @und27 @sz27))) (ai (ai @ag27 (ai @fo27 @bA27)) (ai @pT27_0 (ai @pT27_1 @pT27_2))))) (ai (ai (ai (ai @pT27_3 @inf27) (ai @und34 (ai @sz34 @ag34))) (ai (ai @lv34 (ai @inf34 @und129)) (ai @sz129 (ai @ag129 @fo129)))) (ai (ai (ai @bA129 @pT129_0) (ai @pT129_1 (ai @pT129_2 @inf129))) (ai (ai @und130 (ai @sz130 @ag130)) (ai @bA130 (ai @pT130 @inf130))))))) := (ai (ai (ai (ai (ai (ai @rs59 @lv59_0) (ai @ro27_1_expr_go_50 (ai @lv59_1 @lv59_2))) (ai (ai @dr59_3 @lv59_3) (ai @lv59_4 (ai @lv59_5 @lv59_8)))) (ai (ai (ai @lv59_9 @lv59_10) (ai @lv59_11 (ai @lv59_12 @lv59_13))) (ai (ai @lv59_6 (ai @lv59_7 @lv59_14)) (ai @und1 (ai @sz1 @ag1))))) (ai (ai (ai (ai @inf1 @und2) (ai @sz2 (ai @ag2 @lv2))) (ai (ai @inf2 (ai @und3 @sz3)) (ai @ag3 (ai @lv3 @inf3)))) (ai (ai (ai @und4 @sz4) (ai @ag4 (ai @lv4 @inf4))) (ai (ai @und9 (ai @sz9 @ag9)) (ai @lv9 (ai @inf9 @und24)))))) (ai (ai (ai (ai (ai @sz24 @ag24) (ai @fo24 (ai @bA24 @pT24_0))) (ai (ai @pT24_1 (ai @pT24_2 @lv24)) (ai @inf24 (ai @und25 @sz25)))) (ai (ai (ai @ag25 @pT25) (ai @inf25 (ai @und27 @sz27))) (ai (ai @ag27 (ai @fo27 @bA27)) (ai @pT27_0 (ai @pT27_1 @pT27_2))))) (ai (ai (ai (ai @pT27_3 @inf27) (ai @und34 (ai @sz34 @ag34))) (ai (ai @lv34 (ai @inf34 @und129)) (ai @sz129 (ai @ag129 @fo129)))) (ai (ai (ai @bA129 @pT129_0) (ai @pT129_1 (ai @pT129_2 @inf129))) (ai (ai @und130 (ai @sz130 @ag130)) (ai @bA130 (ai @pT130 @inf130)))))))
theorem ty_TyE_40 : type_of% (ai (ai (ai (ai (ai @rs40 (ai @lv40_0 @ro27_1_expr_go_75)) (ai (ai @lv40_1 @lv40_2) (ai @lv40_3 @lv40_4))) (ai (ai (ai @lv40_5 @lv40_6) (ai @lv40_7 @lv40_8)) (ai (ai @lv40_9 @lv40_10) (ai @lv40_11 @kp40_5)))) (ai (ai (ai @und3 (ai @sz3 @ag3)) (ai (ai @lv3 @inf3) (ai @und4 @sz4))) (ai (ai (ai @ag4 @lv4) (ai @inf4 @und9)) (ai (ai @sz9 @ag9) (ai @lv9 @inf9))))) (ai (ai (ai (ai @und24 (ai @sz24 @ag24)) (ai (ai @fo24 @bA24) (ai @pT24_0 @pT24_1))) (ai (ai (ai @pT24_2 @lv24) (ai @inf24 @und25)) (ai (ai @sz25 @ag25) (ai @pT25 @inf25)))) (ai (ai (ai @und27 (ai @sz27 @ag27)) (ai (ai @fo27 @bA27) (ai @pT27_0 @pT27_1))) (ai (ai (ai @pT27_2 @pT27_3) (ai @inf27 @und34)) (ai (ai @sz34 @ag34) (ai @lv34 @inf34)))))) := (ai (ai (ai (ai (ai @rs40 (ai @lv40_0 @ro27_1_expr_go_75)) (ai (ai @lv40_1 @lv40_2) (ai @lv40_3 @lv40_4))) (ai (ai (ai @lv40_5 @lv40_6) (ai @lv40_7 @lv40_8)) (ai (ai @lv40_9 @lv40_10) (ai @lv40_11 @kp40_5)))) (ai (ai (ai @und3 (ai @sz3 @ag3)) (ai (ai @lv3 @inf3) (ai @und4 @sz4))) (ai (ai (ai @ag4 @lv4) (ai @inf4 @und9)) (ai (ai @sz9 @ag9) (ai @lv9 @inf9))))) (ai (ai (ai (ai @und24 (ai @sz24 @ag24)) (ai (ai @fo24 @bA24) (ai @pT24_0 @pT24_1))) (ai (ai (ai @pT24_2 @lv24) (ai @inf24 @und25)) (ai (ai @sz25 @ag25) (ai @pT25 @inf25)))) (ai (ai (ai @und27 (ai @sz27 @ag27)) (ai (ai @fo27 @bA27) (ai @pT27_0 @pT27_1))) (ai (ai (ai @pT27_2 @pT27_3) (ai @inf27 @und34)) (ai (ai @sz34 @ag34) (ai @lv34 @inf34))))))
theorem ty_TyE_19 : type_of% (ai (ai (ai (ai (ai @rs19 (ai @lv19_0 @ro27_1_expr_go_88)) (ai (ai @lv19_1 @lv19_2) (ai @lv19_3 @lv19_4))) (ai (ai @lv19_5 (ai @lv19_6 @und1)) (ai (ai @sz1 @ag1) (ai @inf1 @und3)))) (ai (ai (ai @sz3 (ai @ag3 @lv3)) (ai (ai @inf3 @und4) (ai @sz4 @ag4))) (ai (ai (ai @lv4 @inf4) (ai @und9 @sz9)) (ai (ai @ag9 @lv9) (ai @inf9 @und24))))) (ai (ai (ai (ai @sz24 (ai @ag24 @fo24)) (ai (ai @bA24 @pT24_0) (ai @pT24_1 @pT24_2))) (ai (ai @lv24 (ai @inf24 @und25)) (ai (ai @sz25 @ag25) (ai @pT25 @inf25)))) (ai (ai (ai @und27 (ai @sz27 @ag27)) (ai (ai @fo27 @bA27) (ai @pT27_0 @pT27_1))) (ai (ai (ai @pT27_2 @pT27_3) (ai @inf27 @und34)) (ai (ai @sz34 @ag34) (ai @lv34 @inf34)))))) := (ai (ai (ai (ai (ai @rs19 (ai @lv19_0 @ro27_1_expr_go_88)) (ai (ai @lv19_1 @lv19_2) (ai @lv19_3 @lv19_4))) (ai (ai @lv19_5 (ai @lv19_6 @und1)) (ai (ai @sz1 @ag1) (ai @inf1 @und3)))) (ai (ai (ai @sz3 (ai @ag3 @lv3)) (ai (ai @inf3 @und4) (ai @sz4 @ag4))) (ai (ai (ai @lv4 @inf4) (ai @und9 @sz9)) (ai (ai @ag9 @lv9) (ai @inf9 @und24))))) (ai (ai (ai (ai @sz24 (ai @ag24 @fo24)) (ai (ai @bA24 @pT24_0) (ai @pT24_1 @pT24_2))) (ai (ai @lv24 (ai @inf24 @und25)) (ai (ai @sz25 @ag25) (ai @pT25 @inf25)))) (ai (ai (ai @und27 (ai @sz27 @ag27)) (ai (ai @fo27 @bA27) (ai @pT27_0 @pT27_1))) (ai (ai (ai @pT27_2 @pT27_3) (ai @inf27 @und34)) (ai (ai @sz34 @ag34) (ai @lv34 @inf34))))))
theorem ty_TyE_30 : type_of% (ai (ai (ai (ai (ai (ai @rs30 @lv30_0) (ai @ro27_2_typing_go_71 (ai @lv30_1 @lv30_2))) (ai (ai @lv30_3 @dr30_4) (ai @lv30_4 (ai @und1 @sz1)))) (ai (ai (ai @ag1 @inf1) (ai @und3 (ai @sz3 @ag3))) (ai (ai @lv3 (ai @inf3 @und4)) (ai @sz4 (ai @ag4 @lv4))))) (ai (ai (ai (ai @inf4 @und9) (ai @sz9 (ai @ag9 @lv9))) (ai (ai @inf9 (ai @und24 @sz24)) (ai @ag24 (ai @fo24 @bA24)))) (ai (ai (ai @pT24_0 @pT24_1) (ai @pT24_2 (ai @lv24 @inf24))) (ai (ai @und25 (ai @sz25 @ag25)) (ai @pT25 (ai @inf25 @und27)))))) (ai (ai (ai (ai (ai @sz27 @ag27) (ai @fo27 (ai @bA27 @pT27_0))) (ai (ai @pT27_1 (ai @pT27_2 @pT27_3)) (ai @inf27 (ai @und30 @sz30)))) (ai (ai (ai @ag30 @pT30) (ai @inf30 (ai @und34 @sz34))) (ai (ai @ag34 (ai @lv34 @inf34)) (ai @und49 (ai @sz49 @ag49))))) (ai (ai (ai (ai @fo49 @bA49) (ai @pT49_0 (ai @pT49_1 @pT49_2))) (ai (ai @pT49_3 (ai @inf49 @und67)) (ai @sz67 (ai @ag67 @pT67)))) (ai (ai (ai @inf67 @und88) (ai @und90 (ai @und112 @sz112))) (ai (ai @ag112 (ai @fo112 @bA112)) (ai @pT112_0 (ai @pT112_1 @inf112))))))) := (ai (ai (ai (ai (ai (ai @rs30 @lv30_0) (ai @ro27_2_typing_go_71 (ai @lv30_1 @lv30_2))) (ai (ai @lv30_3 @dr30_4) (ai @lv30_4 (ai @und1 @sz1)))) (ai (ai (ai @ag1 @inf1) (ai @und3 (ai @sz3 @ag3))) (ai (ai @lv3 (ai @inf3 @und4)) (ai @sz4 (ai @ag4 @lv4))))) (ai (ai (ai (ai @inf4 @und9) (ai @sz9 (ai @ag9 @lv9))) (ai (ai @inf9 (ai @und24 @sz24)) (ai @ag24 (ai @fo24 @bA24)))) (ai (ai (ai @pT24_0 @pT24_1) (ai @pT24_2 (ai @lv24 @inf24))) (ai (ai @und25 (ai @sz25 @ag25)) (ai @pT25 (ai @inf25 @und27)))))) (ai (ai (ai (ai (ai @sz27 @ag27) (ai @fo27 (ai @bA27 @pT27_0))) (ai (ai @pT27_1 (ai @pT27_2 @pT27_3)) (ai @inf27 (ai @und30 @sz30)))) (ai (ai (ai @ag30 @pT30) (ai @inf30 (ai @und34 @sz34))) (ai (ai @ag34 (ai @lv34 @inf34)) (ai @und49 (ai @sz49 @ag49))))) (ai (ai (ai (ai @fo49 @bA49) (ai @pT49_0 (ai @pT49_1 @pT49_2))) (ai (ai @pT49_3 (ai @inf49 @und67)) (ai @sz67 (ai @ag67 @pT67)))) (ai (ai (ai @inf67 @und88) (ai @und90 (ai @und112 @sz112))) (ai (ai @ag112 (ai @fo112 @bA112)) (ai @pT112_0 (ai @pT112_1 @inf112)))))))
theorem ty_TyE_7 : type_of% (ai (ai (ai (ai (ai (ai @rs7 @lv7_0) (ai @lv7_1 (ai @lv7_2 @dr7_3))) (ai (ai @lv7_3 (ai @dr7_4 @lv7_4)) (ai @lv7_5 (ai @lv7_6 @dr7_7)))) (ai (ai (ai @lv7_7 (ai @lv7_8 @und1)) (ai @sz1 (ai @ag1 @inf1))) (ai (ai @und3 (ai @sz3 @ag3)) (ai @lv3 (ai @inf3 @und4))))) (ai (ai (ai (ai @sz4 @ag4) (ai @lv4 (ai @inf4 @und9))) (ai (ai @sz9 (ai @ag9 @lv9)) (ai @inf9 (ai @und22 @sz22)))) (ai (ai (ai @ag22 (ai @pT22 @inf22)) (ai @und24 (ai @sz24 @ag24))) (ai (ai @fo24 (ai @bA24 @pT24_0)) (ai @pT24_1 (ai @pT24_2 @lv24)))))) (ai (ai (ai (ai (ai @inf24 @und25) (ai @sz25 (ai @ag25 @pT25))) (ai (ai @inf25 (ai @und27 @sz27)) (ai @ag27 (ai @fo27 @bA27)))) (ai (ai (ai @pT27_0 (ai @pT27_1 @pT27_2)) (ai @pT27_3 (ai @inf27 @und30))) (ai (ai @sz30 (ai @ag30 @pT30)) (ai @inf30 (ai @und34 @sz34))))) (ai (ai (ai (ai @ag34 @lv34) (ai @inf34 (ai @und49 @sz49))) (ai (ai @ag49 (ai @fo49 @bA49)) (ai @pT49_0 (ai @pT49_1 @pT49_2)))) (ai (ai (ai @pT49_3 (ai @inf49 @und99)) (ai @sz99 (ai @ag99 @fo99))) (ai (ai @bA99 (ai @pT99_0 @pT99_1)) (ai @pT99_2 (ai @pT99_3 @inf99))))))) := (ai (ai (ai (ai (ai (ai @rs7 @lv7_0) (ai @lv7_1 (ai @lv7_2 @dr7_3))) (ai (ai @lv7_3 (ai @dr7_4 @lv7_4)) (ai @lv7_5 (ai @lv7_6 @dr7_7)))) (ai (ai (ai @lv7_7 (ai @lv7_8 @und1)) (ai @sz1 (ai @ag1 @inf1))) (ai (ai @und3 (ai @sz3 @ag3)) (ai @lv3 (ai @inf3 @und4))))) (ai (ai (ai (ai @sz4 @ag4) (ai @lv4 (ai @inf4 @und9))) (ai (ai @sz9 (ai @ag9 @lv9)) (ai @inf9 (ai @und22 @sz22)))) (ai (ai (ai @ag22 (ai @pT22 @inf22)) (ai @und24 (ai @sz24 @ag24))) (ai (ai @fo24 (ai @bA24 @pT24_0)) (ai @pT24_1 (ai @pT24_2 @lv24)))))) (ai (ai (ai (ai (ai @inf24 @und25) (ai @sz25 (ai @ag25 @pT25))) (ai (ai @inf25 (ai @und27 @sz27)) (ai @ag27 (ai @fo27 @bA27)))) (ai (ai (ai @pT27_0 (ai @pT27_1 @pT27_2)) (ai @pT27_3 (ai @inf27 @und30))) (ai (ai @sz30 (ai @ag30 @pT30)) (ai @inf30 (ai @und34 @sz34))))) (ai (ai (ai (ai @ag34 @lv34) (ai @inf34 (ai @und49 @sz49))) (ai (ai @ag49 (ai @fo49 @bA49)) (ai @pT49_0 (ai @pT49_1 @pT49_2)))) (ai (ai (ai @pT49_3 (ai @inf49 @und99)) (ai @sz99 (ai @ag99 @fo99))) (ai (ai @bA99 (ai @pT99_0 @pT99_1)) (ai @pT99_2 (ai @pT99_3 @inf99)))))))
set_option maxRecDepth 100000
set_option maxHeartbeats 40000000



mutual
theorem ty_put {tm : List (List UInt8 × Int)} {s : List UInt8} {y : Exp} (h : lookI tm s = y.ty tm) : ∀ x : Exp, (putE s y x).ty tm = x.ty tm
  | .mk op v name args => by
    unfold putE
    split
    · rename_i hc
      obtain ⟨rfl, rfl⟩ := hc
      rw [Exp.ty, if_neg (by decide), if_pos rfl, h]
    · rw [Exp.ty, Exp.ty, ty_putL h args]
theorem ty_putL {tm : List (List UInt8 × Int)} {s : List UInt8} {y : Exp} (h : lookI tm s = y.ty tm) : ∀ l : List Exp, Exp.tyL tm (putEL s y l) = Exp.tyL tm l
  | [] => by rw [putEL]
  | x :: r => by rw [putEL, Exp.tyL, Exp.tyL, ty_put h x, ty_putL h r]
end
theorem ca_CheckZ {d dst : Nat} {S : St} : callA tab (callR tab) d dst 19 [.d (.agg [.int .i64 0, .int .i64 0, .int .i64 0, .str [], .str [], .sl 6 []])] S = some (.d (.int .i64 2), S) := by
  refine ca_ret (ds := [ez.dv]) (?_ : Ret tab 19 [.d ez.dv] _) rfl (tab_opn (by kernel_rfl)) (tab_res (by kernel_rfl))
  have f0 := fun (S : St) (d dst : Nat) => ca_Size (d := d) (dst := dst) (S := S) ez (by decide)
  have fp : ∀ (S : St) (d dst : Nat), callA tab (callR tab) d dst 59 [.d (.agg [.int .i64 0, .int .i64 0, .int .i64 0, .str [], .str [], .sl 6 []])] S = some (.d (.int .i64 2), S) := fun S d dst => by
    refine ca_ret (ds := [.agg [.int .i64 0, .int .i64 0, .int .i64 0, .str [], .str [], .sl 6 []]]) ?_ rfl (tab_opn (by kernel_rfl)) (tab_res (by kernel_rfl))
    refine ret_of 1 fn59 rfl rfl ?_
    simp only [amr, amc, amp, if_true, if_false, ne_eq, gt_iff_lt, Option.getD, argsT, Option.bind, Option.map, List.headD, List.tail, opnsL, List.replicate, lendsL, seval, ty_TyE_59]
  have f1 : ∀ (S : St) (d dst : Nat), callA tab (callR tab) d dst 40 [.d (.agg [.int .i64 0, .int .i64 0, .int .i64 0, .str [], .str [], .sl 6 []])] S = some (.d (.int .i64 2), S) := fun S d dst => by
    refine ca_ret (ds := [.agg [.int .i64 0, .int .i64 0, .int .i64 0, .str [], .str [], .sl 6 []]]) ?_ rfl (tab_opn (by kernel_rfl)) (tab_res (by kernel_rfl))
    refine ret_of 1 fn40 rfl rfl ?_
    simp only [amr, amc, amp, if_true, if_false, ne_eq, gt_iff_lt, Option.getD, argsT, Option.bind, Option.map, List.headD, List.tail, opnsL, List.replicate, lendsL, seval, ty_TyE_40, fp]
  have e0 : ez.nodes = 1 := rfl
  have e1 : ez.deep = 1 := rfl
  have e2 : ez.dv = .agg [.int .i64 0, .int .i64 0, .int .i64 0, .str [], .str [], .sl 6 []] := rfl
  rw [e0, e1, e2] at f0
  rw [e2]
  refine ret_of 1 fn19 rfl rfl ?_
  simp only [amr, amc, amp, if_true, if_false, ne_eq, gt_iff_lt, Option.getD, argsT, Option.bind, Option.map, List.headD, List.tail, opnsL, List.replicate, lendsL, seval, ty_TyE_19, f0, f1]
theorem ret_OfZ (fs : List Field) : RetT tab 30 [.d (.agg [.int .i64 0, .int .i64 0, .int .i64 0, .str [], .str [], .sl 6 []]), .d (.sl 9 (fs.map Field.dv))] [.int .i64 0, .int .i64 2] := by
  refine retq_good 1 fn30 rfl rfl ?_
  simp only [amr, amc, amp, if_true, if_false, ne_eq, gt_iff_lt, Option.getD, argsT, Option.bind, Option.map, List.headD, List.tail, opnsL, List.replicate, lendsL, seval, ty_TyE_30, ca_CheckZ]
theorem ca_OfZ {d dst : Nat} {S : St} (fs : List Field) : callA tab (callR tab) d dst 30 [.d (.agg [.int .i64 0, .int .i64 0, .int .i64 0, .str [], .str [], .sl 6 []]), .d (.sl 9 (fs.map Field.dv))] S = some (.tup [.d (.int .i64 0), .d (.int .i64 2)], S) :=
  ca_retT (ds := [.agg [.int .i64 0, .int .i64 0, .int .i64 0, .str [], .str [], .sl 6 []], .sl 9 (fs.map Field.dv)]) (ret_OfZ fs) rfl (tab_opn (by kernel_rfl)) (tab_res (by kernel_rfl))
theorem ret_TypingMade (l m : List Raw) (kind : Int) (hl : l.length ≤ 9223372036854775807) (hr : ∀ r ∈ l, r.ok) (hm : m.length ≤ 9223372036854775807) (hs : ∀ r ∈ m, r.ok) (hki : -9223372036854775808 ≤ kind ∧ kind ≤ 9223372036854775807) : Ret tab 7 [.d (.sl 4 (l.map Raw.dv)), .d (.sl 4 (m.map Raw.dv)), .d (.int .i64 kind)] (.d (.bool true)) := by
  obtain ⟨hty, w1⟩ := ty_pick hki
  have p1 : ∀ (S : St) (d dst : Nat), callA tab (callR tab) d dst 16 [.d (.int .i64 kind), .d (.int .i64 3)] S = some (.d (.int .i64 (pick kind 3)), S) := fun S d dst => ca_picked kind 3 (by decide)
  have fE := fun (S : St) (d dst : Nat) => ca_Expr (d := d) (dst := dst) (S := S) l (1 + pick kind 3) someF (by decide) hl hr
  have fY := fun (S : St) (d dst : Nat) => ca_Expr (d := d) (dst := dst) (S := S) m 1 someF (by decide) hm hs
  have wX := mkE_wf hr hty someF_ok
  have nX := mkE_nodes l (1 + pick kind 3) someF
  have dX := mkE_deep l (1 + pick kind 3) someF
  have tX := mkE_ty hr hty
  have ty1 : Ty 1 := by unfold Ty; decide
  have wY := mkE_wf hs ty1 someF_ok
  have nY := mkE_nodes m 1 someF
  have dY := mkE_deep m 1 someF
  have tY := mkE_ty hs ty1
  generalize mkE l (1 + pick kind 3) someF = X at *
  generalize mkE m 1 someF = Y at *
  have hKne : (1 + pick kind 3) ≠ 0 := by rcases hty with h | h | h <;> omega
  have tZ : (putE [110] Y X).ty (tmap someF) = 1 + pick kind 3 := by rw [ty_put (by rw [tY]; rfl) X, tX]
  have fP := fun (S : St) (d dst : Nat) => ca_Put (d := d) (dst := dst) (S := S) X Y [110] ⟨by omega, by omega⟩ ⟨by omega, by omega⟩ wX wY (by kernel_rfl)
  have f1 := fun (S : St) (d dst : Nat) => ca_OfT (d := d) (dst := dst) (S := S) X someF ⟨by omega, by omega⟩ wX (by rw [tX]; exact hKne)
  have wZ := putE_wf (s := [110]) wY X wX
  rw [tX] at f1
  by_cases he : chkE (putE [110] Y X) = 0
  · have hz : (putE [110] Y X).nodes ≤ 60 ∧ (putE [110] Y X).deep ≤ 12 := by
      unfold chkE at he
      split at he
      · cases he
      · split at he
        · cases he
        · exact ⟨by omega, by omega⟩
    have f2 := fun (S : St) (d dst : Nat) => ca_OfT (d := d) (dst := dst) (S := S) (putE [110] Y X) someF hz wZ (by rw [tZ]; exact hKne)
    rw [tZ] at f2
    simp only [he, if_true] at fP
    generalize putE [110] Y X = Z at *
    simp only [Exp.dv_eq X, Exp.dv_eq Y, Exp.dv_eq Z] at fE fY fP f1 f2
    refine ret_of 1 fn7 rfl rfl ?_
    simp only [amr, amc, amp, if_true, if_false, ne_eq, gt_iff_lt, Option.getD, argsT, Option.bind, Option.map, List.headD, List.tail, opnsL, List.replicate, lendsL, seval, ty_TyE_7, p1, w1, fE, fY, fP, f1, f2, ca_Some, bne_self_eq_false, beq_self_eq_true]
  · have b1 : (chkE (putE [110] Y X) != 0) = true := bne_iff_ne.2 he
    have hz : zE.dv = .agg [.int .i64 0, .int .i64 0, .int .i64 0, .str [], .str [], .sl 6 []] := rfl
    simp only [he, if_false] at fP
    generalize chkE (putE [110] Y X) = e at *
    simp only [Exp.dv_eq X, Exp.dv_eq Y, hz] at fE fY fP f1
    refine ret_of 1 fn7 rfl rfl ?_
    simp only [amr, amc, amp, if_true, if_false, ne_eq, gt_iff_lt, Option.getD, argsT, Option.bind, Option.map, List.headD, List.tail, opnsL, List.replicate, lendsL, seval, ty_TyE_7, p1, w1, fE, fY, fP, f1, ca_OfZ, b1, ca_Some, bne_self_eq_false, beq_self_eq_true]
end Go.Proofs.Ytjjjkoknodcaaaa.Am
