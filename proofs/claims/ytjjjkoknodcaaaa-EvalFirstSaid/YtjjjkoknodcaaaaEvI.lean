/- Of two that can't be known the first one is told. -/
import Derived.Test.YtjjjkoknodcaaaaEvG
import Derived.Test.YtjjjkoknodcaaaaNum
set_option linter.unusedVariables false
set_option linter.unusedSimpArgs false
namespace Go.Proofs.Ytjjjkoknodcaaaa.Am
open Go Go.RowKit
theorem ty_EvI_37 : type_of% (And.intro (And.intro (And.intro (And.intro (And.intro @rs37 @lv37_0) (And.intro @lv37_1 @und3)) (And.intro (And.intro @sz3 @ag3) (And.intro @lv3 (And.intro @inf3 @und9)))) (And.intro (And.intro (And.intro @sz9 @ag9) (And.intro @lv9 (And.intro @inf9 @und24))) (And.intro (And.intro @sz24 @ag24) (And.intro @fo24 (And.intro @bA24 @pT24_0))))) (And.intro (And.intro (And.intro (And.intro @pT24_1 @pT24_2) (And.intro @lv24 @inf24)) (And.intro (And.intro @und25 @sz25) (And.intro @ag25 (And.intro @pT25 @inf25)))) (And.intro (And.intro (And.intro @und27 @sz27) (And.intro @ag27 (And.intro @fo27 @bA27))) (And.intro (And.intro @pT27_0 @pT27_1) (And.intro @pT27_2 (And.intro @pT27_3 @inf27)))))) := (And.intro (And.intro (And.intro (And.intro (And.intro @rs37 @lv37_0) (And.intro @lv37_1 @und3)) (And.intro (And.intro @sz3 @ag3) (And.intro @lv3 (And.intro @inf3 @und9)))) (And.intro (And.intro (And.intro @sz9 @ag9) (And.intro @lv9 (And.intro @inf9 @und24))) (And.intro (And.intro @sz24 @ag24) (And.intro @fo24 (And.intro @bA24 @pT24_0))))) (And.intro (And.intro (And.intro (And.intro @pT24_1 @pT24_2) (And.intro @lv24 @inf24)) (And.intro (And.intro @und25 @sz25) (And.intro @ag25 (And.intro @pT25 @inf25)))) (And.intro (And.intro (And.intro @und27 @sz27) (And.intro @ag27 (And.intro @fo27 @bA27))) (And.intro (And.intro @pT27_0 @pT27_1) (And.intro @pT27_2 (And.intro @pT27_3 @inf27))))))
theorem ty_EvI_35 : type_of% (And.intro (And.intro (And.intro (And.intro (And.intro @rs35 @lv35_0) (And.intro @lv35_1 @und3)) (And.intro (And.intro @sz3 @ag3) (And.intro @lv3 (And.intro @inf3 @und9)))) (And.intro (And.intro (And.intro @sz9 @ag9) (And.intro @lv9 (And.intro @inf9 @und24))) (And.intro (And.intro @sz24 @ag24) (And.intro @fo24 (And.intro @bA24 @pT24_0))))) (And.intro (And.intro (And.intro (And.intro @pT24_1 @pT24_2) (And.intro @lv24 @inf24)) (And.intro (And.intro @und25 @sz25) (And.intro @ag25 (And.intro @pT25 @inf25)))) (And.intro (And.intro (And.intro @und27 @sz27) (And.intro @ag27 (And.intro @fo27 @bA27))) (And.intro (And.intro @pT27_0 @pT27_1) (And.intro @pT27_2 (And.intro @pT27_3 @inf27)))))) := (And.intro (And.intro (And.intro (And.intro (And.intro @rs35 @lv35_0) (And.intro @lv35_1 @und3)) (And.intro (And.intro @sz3 @ag3) (And.intro @lv3 (And.intro @inf3 @und9)))) (And.intro (And.intro (And.intro @sz9 @ag9) (And.intro @lv9 (And.intro @inf9 @und24))) (And.intro (And.intro @sz24 @ag24) (And.intro @fo24 (And.intro @bA24 @pT24_0))))) (And.intro (And.intro (And.intro (And.intro @pT24_1 @pT24_2) (And.intro @lv24 @inf24)) (And.intro (And.intro @und25 @sz25) (And.intro @ag25 (And.intro @pT25 @inf25)))) (And.intro (And.intro (And.intro @und27 @sz27) (And.intro @ag27 (And.intro @fo27 @bA27))) (And.intro (And.intro @pT27_0 @pT27_1) (And.intro @pT27_2 (And.intro @pT27_3 @inf27))))))
theorem ty_EvI_11 : type_of% (And.intro (And.intro (And.intro (And.intro (And.intro (And.intro @rs11 @lv11_0) (And.intro @lv11_1 (And.intro @lv11_2 @lv11_3))) (And.intro (And.intro @lv11_4 (And.intro @lv11_5 @lv11_6)) (And.intro @lv11_7 (And.intro @lv11_8 @und1)))) (And.intro (And.intro (And.intro @sz1 (And.intro @ag1 @inf1)) (And.intro @und2 (And.intro @sz2 @ag2))) (And.intro (And.intro @lv2 (And.intro @inf2 @und3)) (And.intro @sz3 (And.intro @ag3 @lv3))))) (And.intro (And.intro (And.intro (And.intro @inf3 @und4) (And.intro @sz4 (And.intro @ag4 @lv4))) (And.intro (And.intro @inf4 (And.intro @und6 @sz6)) (And.intro @ag6 (And.intro @lv6 @inf6)))) (And.intro (And.intro (And.intro @und9 (And.intro @sz9 @ag9)) (And.intro @lv9 (And.intro @inf9 @und24))) (And.intro (And.intro @sz24 (And.intro @ag24 @fo24)) (And.intro @bA24 (And.intro @pT24_0 @pT24_1)))))) (And.intro (And.intro (And.intro (And.intro (And.intro @pT24_2 @lv24) (And.intro @inf24 (And.intro @und25 @sz25))) (And.intro (And.intro @ag25 (And.intro @pT25 @inf25)) (And.intro @und27 (And.intro @sz27 @ag27)))) (And.intro (And.intro (And.intro @fo27 (And.intro @bA27 @pT27_0)) (And.intro @pT27_1 (And.intro @pT27_2 @pT27_3))) (And.intro (And.intro @inf27 (And.intro @und34 @sz34)) (And.intro @ag34 (And.intro @lv34 @inf34))))) (And.intro (And.intro (And.intro (And.intro @und56 @sz56) (And.intro @ag56 (And.intro @pT56 @inf56))) (And.intro (And.intro @und65 (And.intro @sz65 @ag65)) (And.intro @fo65 (And.intro @bA65 @pT65_0)))) (And.intro (And.intro (And.intro @pT65_1 (And.intro @pT65_2 @inf65)) (And.intro @und66 (And.intro @sz66 @ag66))) (And.intro (And.intro @inf66 (And.intro @und67 @sz67)) (And.intro @ag67 (And.intro @pT67 @inf67))))))) := (And.intro (And.intro (And.intro (And.intro (And.intro (And.intro @rs11 @lv11_0) (And.intro @lv11_1 (And.intro @lv11_2 @lv11_3))) (And.intro (And.intro @lv11_4 (And.intro @lv11_5 @lv11_6)) (And.intro @lv11_7 (And.intro @lv11_8 @und1)))) (And.intro (And.intro (And.intro @sz1 (And.intro @ag1 @inf1)) (And.intro @und2 (And.intro @sz2 @ag2))) (And.intro (And.intro @lv2 (And.intro @inf2 @und3)) (And.intro @sz3 (And.intro @ag3 @lv3))))) (And.intro (And.intro (And.intro (And.intro @inf3 @und4) (And.intro @sz4 (And.intro @ag4 @lv4))) (And.intro (And.intro @inf4 (And.intro @und6 @sz6)) (And.intro @ag6 (And.intro @lv6 @inf6)))) (And.intro (And.intro (And.intro @und9 (And.intro @sz9 @ag9)) (And.intro @lv9 (And.intro @inf9 @und24))) (And.intro (And.intro @sz24 (And.intro @ag24 @fo24)) (And.intro @bA24 (And.intro @pT24_0 @pT24_1)))))) (And.intro (And.intro (And.intro (And.intro (And.intro @pT24_2 @lv24) (And.intro @inf24 (And.intro @und25 @sz25))) (And.intro (And.intro @ag25 (And.intro @pT25 @inf25)) (And.intro @und27 (And.intro @sz27 @ag27)))) (And.intro (And.intro (And.intro @fo27 (And.intro @bA27 @pT27_0)) (And.intro @pT27_1 (And.intro @pT27_2 @pT27_3))) (And.intro (And.intro @inf27 (And.intro @und34 @sz34)) (And.intro @ag34 (And.intro @lv34 @inf34))))) (And.intro (And.intro (And.intro (And.intro @und56 @sz56) (And.intro @ag56 (And.intro @pT56 @inf56))) (And.intro (And.intro @und65 (And.intro @sz65 @ag65)) (And.intro @fo65 (And.intro @bA65 @pT65_0)))) (And.intro (And.intro (And.intro @pT65_1 (And.intro @pT65_2 @inf65)) (And.intro @und66 (And.intro @sz66 @ag66))) (And.intro (And.intro @inf66 (And.intro @und67 @sz67)) (And.intro @ag67 (And.intro @pT67 @inf67)))))))
set_option maxRecDepth 100000
set_option maxHeartbeats 40000000


theorem ca_Of {x : Exp} {l : List Fact} (hx : chkE x = 0) (hB : x.nodes ≤ 1048576) (hw : x.wf) (hl : l.length ≤ 1048576) (h : ∀ f ∈ l, VOK f.has) {d dst : Nat} {S : St} : callA tab (callR tab) d dst 31 [.d x.dv, .own 7 (l.map Fact.dv) none] S = some (.tup [.d (.agg [.int .i64 (evE (fmap [] l) x).kind, .int .i64 (evE (fmap [] l) x).n, .str (evE (fmap [] l) x).s]), .d (.int .i64 0)], S) :=
  ca_ret_tup (ds := [x.dv, .sl 7 (l.map Fact.dv)]) (ys := [(evE (fmap [] l) x).dv, .int .i64 0]) (ret_Of x l hx hB hw hl h) rfl (tab_opn (by kernel_rfl)) (tab_res (by kernel_rfl)) rfl
theorem ret_refF (s : List UInt8) : RetD tab 37 [.d (.str s)] (.agg [.int .i64 2, .int .i64 0, .int .i64 0, .str [], .str s, .sl 6 []]) := by
  refine retq_good 1 fn37 rfl rfl ?_
  simp only [amr, amc, amp, if_true, if_false, ne_eq, gt_iff_lt, Option.getD, argsT, Option.bind, Option.map, List.headD, List.tail, reduceIte, reduceDIte, Nat.reduceEqDiff, Nat.reduceAdd, Nat.reduceSub, Nat.reduceMul, Nat.reduceLT, reduceCtorEq, Int.reduceEq, Int.reduceLT, Int.reduceLE, Int.reduceNeg, Int.reduceToNat, Int.reduceBNe, Int.reduceBEq, Int.reduceAdd, Int.reduceSub, Int.reduceMul, opnsL, Nat.reduceLeDiff, Nat.reduceGT, List.replicate, Nat.reduceShiftRight, Nat.reduceMod, Nat.reduceBEq, lendsL, ty_EvI_37]
theorem ca_refF (s : List UInt8) {d dst : Nat} {S : St} : callA tab (callR tab) d dst 37 [.d (.str s)] S = some (.d (.agg [.int .i64 2, .int .i64 0, .int .i64 0, .str [], .str s, .sl 6 []]), S) :=
  ca_retD (ds := [.str s]) (ret_refF s) rfl (tab_opn (by kernel_rfl)) (tab_res (by kernel_rfl))
theorem ret_with (op : Int) (l : List DV) : Ret tab 35 [.d (.int .i64 op), .d (.sl 6 l)] (.d (.agg [.int .i64 op, .int .i64 0, .int .i64 0, .str [], .str [], .sl 6 l])) := by
  refine ret_of 1 fn35 rfl rfl ?_
  simp only [amr, amc, amp, if_true, if_false, ne_eq, gt_iff_lt, Option.getD, argsT, Option.bind, Option.map, List.headD, List.tail, reduceIte, reduceDIte, Nat.reduceEqDiff, Nat.reduceAdd, Nat.reduceSub, Nat.reduceMul, Nat.reduceLT, reduceCtorEq, Int.reduceEq, Int.reduceLT, Int.reduceLE, Int.reduceNeg, Int.reduceToNat, Int.reduceBNe, Int.reduceBEq, Int.reduceAdd, Int.reduceSub, Int.reduceMul, opnsL, Nat.reduceLeDiff, Nat.reduceGT, List.replicate, Nat.reduceShiftRight, Nat.reduceMod, Nat.reduceBEq, lendsL, ty_EvI_35]
theorem ca_with (op : Int) (l : List DV) {d dst : Nat} {S : St} : callA tab (callR tab) d dst 35 [.d (.int .i64 op), .own 6 l none] S = some (.d (.agg [.int .i64 op, .int .i64 0, .int .i64 0, .str [], .str [], .sl 6 l]), S) :=
  ca_ret (ds := [.int .i64 op, .sl 6 l]) (ret_with op l) rfl (tab_opn (by kernel_rfl)) (tab_res (by kernel_rfl))
theorem el_agg {cs : List AV} {ds s : List DV} (h : allD cs = some ds) : el1 (some (.agg cs)) (some s) = some (.agg ds :: s) := by simp only [el1, toD, h, Option.map_some]
theorem el_one {s : List DV} : el1 (some (.agg [.d (.int .i64 1), .d (.int .i64 1), .d (.int .i64 1), .d (.str []), .d (.str []), .own 6 [] none])) (some s) = some (.agg [.int .i64 1, .int .i64 1, .int .i64 1, .str [], .str [], .sl 6 []] :: s) := el_agg rfl
def refE (s : List UInt8) : Exp := .mk 2 Val.zero s []
def oneE : Exp := .mk 1 ⟨1, 1, []⟩ [] []
def firstL (a b : Int) : List Fact := [⟨[110], Val.zero, fault a⟩, ⟨[109], Val.zero, fault b⟩, ⟨[112], Val.zero, ⟨4, 0, []⟩⟩]
def firstM (a b : Int) : VMap := [([110], fault a), ([109], fault b), ([112], ⟨4, 0, []⟩)]
theorem fmap_first (a b : Int) : fmap [] (firstL a b) = firstM a b := rfl
theorem ev_two {m : VMap} {op : Int} (hop : (3 ≤ op ∧ op ≤ 14) ∨ op = 18) (x y : Exp) : evE m (.mk op Val.zero [] [x, y]) = opV op [evE m x, evE m y] := by
  rw [evE, if_neg (by omega), if_neg (by omega), if_neg (by omega), if_neg (by omega)]
  simp only [evL]
theorem wf_ref (s : List UInt8) (h : nameErr s = 0) : (refE s).wf := ⟨⟨by decide, by decide, rfl, by rw [if_neg (by decide), if_pos rfl]; exact ⟨h, rfl⟩⟩, trivial⟩
theorem wf_one : oneE.wf := ⟨⟨by decide, by decide, rfl, by rw [if_pos rfl]; exact ⟨rfl, rfl, by decide⟩⟩, trivial⟩
theorem wf_two {op : Int} (hop : 5 ≤ op ∧ op ≤ 14) {x y : Exp} (hx : x.wf) (hy : y.wf) : (Exp.mk op Val.zero [] [x, y]).wf := by
  refine ⟨⟨by omega, by omega, ?_, ?_⟩, hx, hy, trivial⟩
  · unfold arity; rw [if_neg (by omega), if_neg (by omega), if_neg (by omega), if_neg (by omega), if_neg (by omega), if_neg (by omega)]; rfl
  · rw [if_neg (by omega), if_neg (by omega)]; exact ⟨rfl, rfl⟩
theorem first_ok {a b : Int} (ha : 1 ≤ a ∧ a ≤ 15) (hb : 1 ≤ b ∧ b ≤ 15) : ∀ f ∈ firstL a b, VOK f.has := by
  intro f hf
  simp only [firstL, List.mem_cons, List.not_mem_nil, or_false] at hf
  rcases hf with rfl | rfl | rfl
  · exact vok_fault ha.1 ha.2
  · exact vok_fault hb.1 hb.2
  · rfl
theorem chk_two (op : Int) {x y : Exp} (hx : x.nodes = 1 ∧ x.deep = 1) (hy : y.nodes = 1 ∧ y.deep = 1) : chkE (.mk op Val.zero [] [x, y]) = 0 ∧ (Exp.mk op Val.zero [] [x, y]).nodes ≤ 1048576 := by
  have h1 : (Exp.mk op Val.zero [] [x, y]).nodes = 3 := by simp only [Exp.nodes, Exp.nodesL, hx.1, hy.1]
  have h2 : (Exp.mk op Val.zero [] [x, y]).deep = 2 := by simp only [Exp.deep, Exp.deepL, hx.2, hy.2]; rfl
  refine ⟨?_, by omega⟩
  unfold chkE
  rw [h1, h2]
  rfl
theorem ca_of2 {op : Int} (hop : 5 ≤ op ∧ op ≤ 14) {x y : Exp} (hx : x.nodes = 1 ∧ x.deep = 1) (hy : y.nodes = 1 ∧ y.deep = 1) (wx : x.wf) (wy : y.wf) {a b : Int} (ha : 1 ≤ a ∧ a ≤ 15) (hb : 1 ≤ b ∧ b ≤ 15) {v : Val} (hv : opV op [evE (firstM a b) x, evE (firstM a b) y] = v) {d dst : Nat} {S : St} :
    callA tab (callR tab) d dst 31 [.d (.agg [.int .i64 op, .int .i64 0, .int .i64 0, .str [], .str [], .sl 6 [x.dv, y.dv]]), .own 7 ((firstL a b).map Fact.dv) none] S = some (.tup [.d (.agg [.int .i64 v.kind, .int .i64 v.n, .str v.s]), .d (.int .i64 0)], S) := by
  have h := ca_Of (x := .mk op Val.zero [] [x, y]) (l := firstL a b) (chk_two op hx hy).1 (chk_two op hx hy).2 (wf_two hop wx wy) (by simp [firstL]) (first_ok ha hb) (d := d) (dst := dst) (S := S)
  rw [fmap_first, ev_two (.inl (by omega)), hv, Exp.dv_mk] at h
  exact h
theorem ret_EvalFirst (n m op : Int) (hn : -9223372036854775808 ≤ n ∧ n ≤ 9223372036854775807) (hm : -9223372036854775808 ≤ m ∧ m ≤ 9223372036854775807) (ho : -9223372036854775808 ≤ op ∧ op ≤ 9223372036854775807) : Ret tab 11 [.d (.int .i64 n), .d (.int .i64 m), .d (.int .i64 op)] (.d (.bool true)) := by
  have p1 := pick_range n 15 hn.1 hn.2 (by decide)
  have p2 := pick_range m 15 hm.1 hm.2 (by decide)
  have p3 := pick_range op 6 ho.1 ho.2 (by decide)
  have hO : ∃ o : Int, (5 ≤ o ∧ o ≤ 14) ∧ ([DV.int .i64 8, .int .i64 5, .int .i64 6, .int .i64 11, .int .i64 13, .int .i64 10])[(pick op 6).toNat]? = some (.int .i64 o) := by
    have : pick op 6 = 0 ∨ pick op 6 = 1 ∨ pick op 6 = 2 ∨ pick op 6 = 3 ∨ pick op 6 = 4 ∨ pick op 6 = 5 := by omega
    rcases this with h | h | h | h | h | h <;> rw [h] <;> exact ⟨_, ⟨by decide, by decide⟩, rfl⟩
  obtain ⟨o, ho5, hget⟩ := hO
  have k1 : (0 ≤ pick op 6) = True := eq_true (by omega)
  have k2 : (pick op 6 < 6) = True := eq_true (by omega)
  have w1' : IntKind.i64.wrap (1 + pick n 15) = 1 + pick n 15 := wrap_in (by omega) (by omega)
  have w2' : IntKind.i64.wrap (1 + pick m 15) = 1 + pick m 15 := wrap_in (by omega) (by omega)
  have f0 : ∀ (S : St) (d dst : Nat), callA tab (callR tab) d dst 16 [.d (.int .i64 n), .d (.int .i64 15)] S = some (.d (.int .i64 (pick n 15)), S) := fun S d dst => ca_picked n 15 (by decide)
  have f1 : ∀ (S : St) (d dst : Nat), callA tab (callR tab) d dst 16 [.d (.int .i64 m), .d (.int .i64 15)] S = some (.d (.int .i64 (pick m 15)), S) := fun S d dst => ca_picked m 15 (by decide)
  have f2 : ∀ (S : St) (d dst : Nat), callA tab (callR tab) d dst 16 [.d (.int .i64 op), .d (.int .i64 6)] S = some (.d (.int .i64 (pick op 6)), S) := fun S d dst => ca_picked op 6 (by decide)
  generalize pick op 6 = q at *
  have W1 : ∃ a, IntKind.i64.wrap (1 + pick n 15) = a ∧ 1 ≤ a ∧ a ≤ 15 := ⟨_, rfl, by omega⟩
  have W2 : ∃ a, IntKind.i64.wrap (1 + pick m 15) = a ∧ 1 ≤ a ∧ a ≤ 15 := ⟨_, rfl, by omega⟩
  obtain ⟨a, w1, hA⟩ := W1
  obtain ⟨b, w2, hB⟩ := W2
  have wn := wf_ref [110] (by kernel_rfl)
  have wm := wf_ref [109] (by kernel_rfl)
  have wp := wf_ref [112] (by kernel_rfl)
  have g1 := fun (S : St) (d dst : Nat) => ca_of2 (x := refE [110]) (y := refE [109]) ho5 ⟨rfl, rfl⟩ ⟨rfl, rfl⟩ wn wm hA hB (v := fault a) rfl (d := d) (dst := dst) (S := S)
  have g2 := fun (S : St) (d dst : Nat) => ca_of2 (x := refE [112]) (y := refE [109]) ho5 ⟨rfl, rfl⟩ ⟨rfl, rfl⟩ wp wm hA hB (v := fault b) rfl (d := d) (dst := dst) (S := S)
  have g3 := fun (S : St) (d dst : Nat) => ca_of2 (x := refE [112]) (y := oneE) ho5 ⟨rfl, rfl⟩ ⟨rfl, rfl⟩ wp wf_one hA hB (v := ⟨4, 0, []⟩) rfl (d := d) (dst := dst) (S := S)
  simp only [firstL, List.map_cons, List.map_nil, Fact.dv, Val.dv, Val.zero, fault, refE, oneE, Exp.dv_mk] at g1 g2 g3
  refine ret_of 1 fn11 rfl rfl ?_
  simp only [amr, amc, amp, if_true, if_false, ne_eq, gt_iff_lt, Option.getD, argsT, Option.bind, Option.map, List.headD, List.tail, reduceIte, reduceDIte, Nat.reduceEqDiff, Nat.reduceAdd, Nat.reduceSub, Nat.reduceMul, Nat.reduceLT, reduceCtorEq, Int.reduceEq, Int.reduceLT, Int.reduceLE, Int.reduceNeg, Int.reduceToNat, Int.reduceBNe, Int.reduceBEq, Int.reduceAdd, Int.reduceSub, Int.reduceMul, opnsL, Nat.reduceLeDiff, Nat.reduceGT, List.replicate, Nat.reduceShiftRight, Nat.reduceMod, Nat.reduceBEq, lendsL, ty_EvI_11, f0, f1, f2, w1, w2, k1, k2, hget, ca_refF, ca_with, g1, g2, g3, el_one, beq_self_eq_true]
end Go.Proofs.Ytjjjkoknodcaaaa.Am
