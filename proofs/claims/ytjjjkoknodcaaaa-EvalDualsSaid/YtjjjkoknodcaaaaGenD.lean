/- Formulas of raw things: of every depth. -/
import Derived.Test.YtjjjkoknodcaaaaGenC
set_option linter.unusedVariables false
set_option linter.unusedSimpArgs false
namespace Go.Proofs.Ytjjjkoknodcaaaa.Am
open Go Go.RowKit
theorem ty_GenD_39 : type_of% (And.intro (And.intro (And.intro (And.intro (And.intro (And.intro @rs39 (And.intro @lv39_0 @ro71_4_raw_go_91)) (And.intro (And.intro @ro30_6_raw_go_91 @ro3_7_raw_go_91) (And.intro @lv39_1 @lv39_2))) (And.intro (And.intro (And.intro @lv39_3 @lv39_4) (And.intro @lv39_5 @lv39_6)) (And.intro (And.intro @lv39_7 @lv39_8) (And.intro @lv39_9 @lv39_10)))) (And.intro (And.intro (And.intro @lv39_12 (And.intro @lv39_13 @lv39_14)) (And.intro (And.intro @lv39_15 @lv39_11) (And.intro @lv39_16 @lv39_17))) (And.intro (And.intro (And.intro @lv39_20 @lv39_21) (And.intro @lv39_22 @lv39_23)) (And.intro (And.intro @lv39_18 @lv39_19) (And.intro @lv39_24 @und1))))) (And.intro (And.intro (And.intro (And.intro @sz1 (And.intro @ag1 @inf1)) (And.intro (And.intro @und2 @sz2) (And.intro @ag2 @lv2))) (And.intro (And.intro (And.intro @inf2 @und3) (And.intro @sz3 @ag3)) (And.intro (And.intro @lv3 @inf3) (And.intro @und4 @sz4)))) (And.intro (And.intro (And.intro @ag4 (And.intro @lv4 @inf4)) (And.intro (And.intro @und5 @sz5) (And.intro @ag5 @lv5))) (And.intro (And.intro (And.intro @inf5 @und9) (And.intro @sz9 @ag9)) (And.intro (And.intro @lv9 @inf9) (And.intro @und24 @sz24)))))) (And.intro (And.intro (And.intro (And.intro (And.intro @ag24 (And.intro @fo24 @bA24)) (And.intro (And.intro @pT24_0 @pT24_1) (And.intro @pT24_2 @lv24))) (And.intro (And.intro (And.intro @inf24 @und25) (And.intro @sz25 @ag25)) (And.intro (And.intro @pT25 @inf25) (And.intro @und27 @sz27)))) (And.intro (And.intro (And.intro @ag27 (And.intro @fo27 @bA27)) (And.intro (And.intro @pT27_0 @pT27_1) (And.intro @pT27_2 @pT27_3))) (And.intro (And.intro (And.intro @inf27 @und30) (And.intro @sz30 @ag30)) (And.intro (And.intro @pT30 @inf30) (And.intro @und49 @sz49))))) (And.intro (And.intro (And.intro (And.intro @ag49 (And.intro @fo49 @bA49)) (And.intro (And.intro @pT49_0 @pT49_1) (And.intro @pT49_2 @pT49_3))) (And.intro (And.intro (And.intro @inf49 @und67) (And.intro @sz67 @ag67)) (And.intro (And.intro @pT67 @inf67) (And.intro @und71 @sz71)))) (And.intro (And.intro (And.intro (And.intro @ag71 @inf71) (And.intro @und99 @sz99)) (And.intro (And.intro @ag99 @fo99) (And.intro @bA99 @pT99_0))) (And.intro (And.intro (And.intro @pT99_1 @pT99_2) (And.intro @pT99_3 @inf99)) (And.intro (And.intro @und103 @sz103) (And.intro @ag103 @inf103))))))) := (And.intro (And.intro (And.intro (And.intro (And.intro (And.intro @rs39 (And.intro @lv39_0 @ro71_4_raw_go_91)) (And.intro (And.intro @ro30_6_raw_go_91 @ro3_7_raw_go_91) (And.intro @lv39_1 @lv39_2))) (And.intro (And.intro (And.intro @lv39_3 @lv39_4) (And.intro @lv39_5 @lv39_6)) (And.intro (And.intro @lv39_7 @lv39_8) (And.intro @lv39_9 @lv39_10)))) (And.intro (And.intro (And.intro @lv39_12 (And.intro @lv39_13 @lv39_14)) (And.intro (And.intro @lv39_15 @lv39_11) (And.intro @lv39_16 @lv39_17))) (And.intro (And.intro (And.intro @lv39_20 @lv39_21) (And.intro @lv39_22 @lv39_23)) (And.intro (And.intro @lv39_18 @lv39_19) (And.intro @lv39_24 @und1))))) (And.intro (And.intro (And.intro (And.intro @sz1 (And.intro @ag1 @inf1)) (And.intro (And.intro @und2 @sz2) (And.intro @ag2 @lv2))) (And.intro (And.intro (And.intro @inf2 @und3) (And.intro @sz3 @ag3)) (And.intro (And.intro @lv3 @inf3) (And.intro @und4 @sz4)))) (And.intro (And.intro (And.intro @ag4 (And.intro @lv4 @inf4)) (And.intro (And.intro @und5 @sz5) (And.intro @ag5 @lv5))) (And.intro (And.intro (And.intro @inf5 @und9) (And.intro @sz9 @ag9)) (And.intro (And.intro @lv9 @inf9) (And.intro @und24 @sz24)))))) (And.intro (And.intro (And.intro (And.intro (And.intro @ag24 (And.intro @fo24 @bA24)) (And.intro (And.intro @pT24_0 @pT24_1) (And.intro @pT24_2 @lv24))) (And.intro (And.intro (And.intro @inf24 @und25) (And.intro @sz25 @ag25)) (And.intro (And.intro @pT25 @inf25) (And.intro @und27 @sz27)))) (And.intro (And.intro (And.intro @ag27 (And.intro @fo27 @bA27)) (And.intro (And.intro @pT27_0 @pT27_1) (And.intro @pT27_2 @pT27_3))) (And.intro (And.intro (And.intro @inf27 @und30) (And.intro @sz30 @ag30)) (And.intro (And.intro @pT30 @inf30) (And.intro @und49 @sz49))))) (And.intro (And.intro (And.intro (And.intro @ag49 (And.intro @fo49 @bA49)) (And.intro (And.intro @pT49_0 @pT49_1) (And.intro @pT49_2 @pT49_3))) (And.intro (And.intro (And.intro @inf49 @und67) (And.intro @sz67 @ag67)) (And.intro (And.intro @pT67 @inf67) (And.intro @und71 @sz71)))) (And.intro (And.intro (And.intro (And.intro @ag71 @inf71) (And.intro @und99 @sz99)) (And.intro (And.intro @ag99 @fo99) (And.intro @bA99 @pT99_0))) (And.intro (And.intro (And.intro @pT99_1 @pT99_2) (And.intro @pT99_3 @inf99)) (And.intro (And.intro @und103 @sz103) (And.intro @ag103 @inf103)))))))
set_option maxRecDepth 100000
set_option maxHeartbeats 40000000



theorem ca_with {deep : Nat} (hge : ExprOK deep) {d dst : Nat} {S : St} (d0 t0 : Nat) (g0 : List Nat) (d4 t4 : Nat) (g4 : List Nat) (h : d0 ≤ d) (h4 : d4 ≤ d) (h04 : d0 < d4) (op : Int) (ks : List Int) (hks : ks.length ≤ 3) (fs : List Field) (hfs : fs.length ≤ 1048576) (l : List Raw) (k : Nat) (hk : k + ks.length * 4 ^ (deep + 2) ≤ 4611686018427387904) (hl : l.length ≤ 9223372036854775807) (hr : ∀ r ∈ l, r.ok) (hd2 : deep ≤ 1000)
    (hg0 : ((0 :: S.g) <:+ g0) = False) (hS4 : S.H.get ⟨d4, t4, g4⟩ = some (.box [.ptr ⟨d0, t0, g0⟩ 0])) (hS : S.H.get ⟨d0, t0, g0⟩ = some (gbox l k)) :
    callA tab (callR tab) d dst 58 [.d (.int .i64 op), .own 1 (ks.map (fun k => DV.int .i64 k)) none, .ptr ⟨d4, t4, g4⟩ 0, .d (.rp [.sl 9 (fs.map Field.dv)]), .d (.rp [.int .i64 ((deep : Int) + 1)])] S =
      some (.d (Exp.mk op Val.zero [] (gargs (gexpr fs l deep) ks k).1).dv, ⟨S.T, upd [(⟨d4, t4, g4⟩, .box [.ptr ⟨d0, t0, g0⟩ 0]), (⟨d0, t0, g0⟩, gbox l (gargs (gexpr fs l deep) ks k).2)] S.H, 1 :: S.g⟩) := by
  obtain ⟨x, H', h1, h2, h3, h5⟩ := run_with hge (p := 0 :: S.g) d0 t0 g0 d4 t4 g4 (Nat.lt_succ_of_le h) (Nat.lt_succ_of_le h4) h04 (of_eq_false hg0) op ks hks fs hfs l k hk hl hr hd2
  have hne : (⟨d0, t0, g0⟩ : Id) ≠ ⟨d4, t4, g4⟩ := fun e => by injection e with e1 _ _; omega
  have hne2 : (⟨d4, t4, g4⟩ : Id) ≠ ⟨d0, t0, g0⟩ := fun e => hne e.symm
  have w4 : within [⟨d4, t4, g4⟩] S.H = [(⟨d4, t4, g4⟩, .box [.ptr ⟨d0, t0, g0⟩ 0])] := by unfold within; rw [hS4]; rfl
  have w2 : within [⟨d4, t4, g4⟩, ⟨d0, t0, g0⟩] S.H = [(⟨d4, t4, g4⟩, .box [.ptr ⟨d0, t0, g0⟩ 0]), (⟨d0, t0, g0⟩, gbox l k)] := by unfold within; rw [hS4]; simp only; unfold within; rw [hS]; rfl
  have hids : ∀ n, idsH [(⟨d4, t4, g4⟩, .box [.ptr ⟨d0, t0, g0⟩ 0]), (⟨d0, t0, g0⟩, gbox l n)] = [⟨d0, t0, g0⟩] := fun n => rfl
  refine ca_open (W0 := [(⟨d4, t4, g4⟩, .box [.ptr ⟨d0, t0, g0⟩ 0]), (⟨d0, t0, g0⟩, gbox l k)]) (W := [(⟨d4, t4, g4⟩, .box [.ptr ⟨d0, t0, g0⟩ 0]), (⟨d0, t0, g0⟩, gbox l (gargs (gexpr fs l deep) ks k).2)]) (by split <;> rfl) (lent_off (tab_lend (by kernel_rfl))) ?_ w2 (by rw [hids]; simp [Am.keys]) ⟨x, H', h1, h2, fun i hi => ?_⟩ rfl rfl ?_
  · show reach S.H 8 [⟨d4, t4, g4⟩] = _
    unfold reach
    rw [w4]
    have : (idsH [(⟨d4, t4, g4⟩, Place.box [AV.ptr ⟨d0, t0, g0⟩ 0])]).all (fun i => [(⟨d4, t4, g4⟩ : Id)].contains i) = false := by
      show ([(⟨d0, t0, g0⟩ : Id)]).all _ = false
      simp [hne]
    rw [this]
    simp only [Bool.false_eq_true, if_false]
    have ha : addIds [(⟨d4, t4, g4⟩ : Id)] (idsH [(⟨d4, t4, g4⟩, Place.box [AV.ptr ⟨d0, t0, g0⟩ 0])]) = [⟨d4, t4, g4⟩, ⟨d0, t0, g0⟩] := by
      show addIds [(⟨d4, t4, g4⟩ : Id)] [⟨d0, t0, g0⟩] = _
      simp [addIds, hne]
    rw [ha]
    unfold reach
    rw [w2, hids, if_pos (by simp)]
    rfl
  · have : i = ⟨d4, t4, g4⟩ ∨ i = ⟨d0, t0, g0⟩ := by simpa [Am.keys] using hi
    rcases this with rfl | rfl
    · rw [h3]; simp [Heap.get]
    · rw [h5]; simp [Heap.get, hne2]
  · show (idsH (within [⟨d4, t4, g4⟩, ⟨d0, t0, g0⟩] [(⟨d4, t4, g4⟩, .box [.ptr ⟨d0, t0, g0⟩ 0]), (⟨d0, t0, g0⟩, gbox l (gargs (gexpr fs l deep) ks k).2)])).all (fun i => [(⟨d4, t4, g4⟩ : Id), ⟨d0, t0, g0⟩].contains i) = true
    have : within [⟨d4, t4, g4⟩, ⟨d0, t0, g0⟩] [(⟨d4, t4, g4⟩, .box [.ptr ⟨d0, t0, g0⟩ 0]), (⟨d0, t0, g0⟩, gbox l (gargs (gexpr fs l deep) ks k).2)] = [(⟨d4, t4, g4⟩, .box [.ptr ⟨d0, t0, g0⟩ 0]), (⟨d0, t0, g0⟩, gbox l (gargs (gexpr fs l deep) ks k).2)] := by
      simp [within, Heap.get, hne2]
    rw [this, hids]
    simp
theorem expr_ok0 : ExprOK 0 := by
  intro d p d0 t0 g0 h hg0 kind fs hfs l k hk hl hr
  have e1 : (d0 = d) = False := eq_false (by omega)
  have e2 : (d = d0) = False := eq_false (by omega)
  have hd1 : decide (d0 < d) = true := decide_eq_true h
  have hs0 : (p <:+ g0) = False := eq_false hg0
  have hk1 := gat_le l k
  refine retq_good 1 fn39 rfl rfl ?_
  have fn := fun (T : Tm) (g : List Nat) (H : Heap) (dst : Nat) (hx : ((0 :: g) <:+ g0) = False) (hS : Heap.get H ⟨d0, t0, g0⟩ = some (gbox l k)) => ca_next (d := d) (dst := dst) (S := ⟨T, H, g⟩) d0 t0 g0 l k (by omega) hl (by omega) hx hS
  have fl := fun (T : Tm) (g : List Nat) (H : Heap) (dst : Nat) (hx : ((0 :: g) <:+ g0) = False) (hS : Heap.get H ⟨d0, t0, g0⟩ = some (gbox l (gat l k))) => ca_leaf (d := d) (dst := dst) (S := ⟨T, H, g⟩) d0 t0 g0 (by omega) kind fs hfs l (gat l k) (by omega) hl hr hx hS
  have hge : gexpr fs l 0 kind k = (gleafE kind fs (gnext l (gat l k)), gat l (gat l k)) := rfl
  rw [hge]
  simp only [Exp.dv_eq (gleafE kind fs (gnext l (gat l k)))] at fl ⊢
  generalize gleafE kind fs (gnext l (gat l k)) = E at *
  generalize gnext l k = r at *
  generalize gat l (gat l k) = k3 at *
  generalize gat l k = k2 at *
  simp only [amr, amc, amp, if_true, if_false, ne_eq, gt_iff_lt, Option.getD, argsT, Option.bind, Option.map, List.headD, List.tail, reduceIte, reduceDIte, Nat.reduceEqDiff, Nat.reduceAdd, Nat.reduceSub, Nat.reduceMul, Nat.reduceLT, reduceCtorEq, Int.reduceEq, Int.reduceLT, Int.reduceLE, Int.reduceNeg, Int.reduceToNat, Int.reduceBNe, Int.reduceBEq, Int.reduceAdd, Int.reduceSub, Int.reduceMul, opnsL, Nat.reduceLeDiff, Nat.reduceGT, List.replicate, Nat.reduceShiftRight, Nat.reduceMod, Nat.reduceBEq, lendsL, ty_GenD_39, fn, fl, suf1 hg0, suf2 hg0, suf3 hg0, suf4 hg0, suf5 hg0, suf6 hg0, hs0, Raw.dv, e1, e2, hd1, upd, Option.getD_none, Option.getD_some, soft_d, Int.le_refl, Int.natCast_zero, Int.cast_ofNat_Int]
theorem expr_okS {n : Nat} (hge : ExprOK n) (hn : n ≤ 1000) : ExprOK (n + 1) := by
  intro d p d0 t0 g0 h hg0 kind fs hfs l k hk hl hr
  have e1 : (d0 = d) = False := eq_false (by omega)
  have e2 : (d = d0) = False := eq_false (by omega)
  have hd1 : decide (d0 < d) = true := decide_eq_true h
  have hs0 : (p <:+ g0) = False := eq_false hg0
  have hk1 := gat_le l k
  have h7 : 4 ^ (n + 1 + 2) = 4 * 4 ^ (n + 2) := by rw [show n + 1 + 2 = (n + 2) + 1 by omega, Nat.pow_succ, Nat.mul_comm]
  have h8 : 16 ≤ 4 ^ (n + 2) := by
    have := Nat.pow_le_pow_right (n := 4) (by decide) (show 2 ≤ n + 2 by omega)
    simpa using this
  have hbnd : ∀ m : Nat, m ≤ 3 → gat l k + m * 4 ^ (n + 2) ≤ 4611686018427387904 := fun m hm => by
    have := Nat.mul_le_mul_right (4 ^ (n + 2)) hm
    omega
  refine retq_good 1 fn39 rfl rfl ?_
  have fn := fun (T : Tm) (g : List Nat) (H : Heap) (dst : Nat) (hx : ((0 :: g) <:+ g0) = False) (hS : Heap.get H ⟨d0, t0, g0⟩ = some (gbox l k)) => ca_next (d := d) (dst := dst) (S := ⟨T, H, g⟩) d0 t0 g0 l k (by omega) hl (by omega) hx hS
  have hc : (((n + 1 : Nat)) : Int) = (n : Int) + 1 := by omega
  rw [hc]
  have b0 : decide ((n : Int) + 1 ≤ 0) = false := decide_eq_false (by omega)
  have hrk := gnext_ok hr k
  have hG : gexpr fs l (n + 1) kind k = if pick (gnext l k).kind 3 = 0 then (gleafE kind fs (gnext l (gat l k)), gat l (gat l k)) else
    (.mk (gshape kind (gnext l k)).1 Val.zero [] (gargs (gexpr fs l n) (gshape kind (gnext l k)).2 (gat l k)).1, (gargs (gexpr fs l n) (gshape kind (gnext l k)).2 (gat l k)).2) := rfl
  rw [hG]
  have p1 := fun (S : St) (d dst : Nat) => ca_picked (d := d) (dst := dst) (S := S) (gnext l k).kind 3 (by decide)
  have p2 := fun (S : St) (d dst : Nat) => ca_picked (d := d) (dst := dst) (S := S) (gnext l k).a 6 (by decide)
  have p3 := fun (S : St) (d dst : Nat) => ca_picked (d := d) (dst := dst) (S := S) (gnext l k).b 7 (by decide)
  have p4 := fun (S : St) (d dst : Nat) => ca_picked (d := d) (dst := dst) (S := S) (gnext l k).a 3 (by decide)
  have q3 := pick_range (gnext l k).b 7 hrk.b.1 hrk.b.2 (by decide)
  have q4 := pick_range (gnext l k).a 3 hrk.a.1 hrk.a.2 (by decide)
  have fl := fun (T : Tm) (g : List Nat) (H : Heap) (dst : Nat) (hx : ((0 :: g) <:+ g0) = False) (hS : Heap.get H ⟨d0, t0, g0⟩ = some (gbox l (gat l k))) => ca_leaf (d := d) (dst := dst) (S := ⟨T, H, g⟩) d0 t0 g0 (by omega) kind fs hfs l (gat l k) (by omega) hl hr hx hS
  simp only [Exp.dv_eq (gleafE kind fs (gnext l (gat l k)))] at fl
  by_cases c1 : pick (gnext l k).kind 3 = 0
  · rw [if_pos c1]
    rw [c1] at p1
    simp only [Exp.dv_eq (gleafE kind fs (gnext l (gat l k)))]
    generalize gleafE kind fs (gnext l (gat l k)) = E at *
    generalize gnext l k = r at *
    generalize gat l (gat l k) = k3 at *
    generalize gat l k = k2 at *
    simp only [amr, amc, amp, if_true, if_false, ne_eq, gt_iff_lt, Option.getD, argsT, Option.bind, Option.map, List.headD, List.tail, reduceIte, reduceDIte, Nat.reduceEqDiff, Nat.reduceAdd, Nat.reduceSub, Nat.reduceMul, Nat.reduceLT, reduceCtorEq, Int.reduceEq, Int.reduceLT, Int.reduceLE, Int.reduceNeg, Int.reduceToNat, Int.reduceBNe, Int.reduceBEq, Int.reduceAdd, Int.reduceSub, Int.reduceMul, opnsL, Nat.reduceLeDiff, Nat.reduceGT, List.replicate, Nat.reduceShiftRight, Nat.reduceMod, Nat.reduceBEq, lendsL, ty_GenD_39, fn, fl, suf1 hg0, suf2 hg0, suf3 hg0, suf4 hg0, suf5 hg0, suf6 hg0, hs0, Raw.dv, e1, e2, hd1, upd, Option.getD_none, Option.getD_some, soft_d, b0, p1, beq_self_eq_true]
  · rw [if_neg c1]
    have b1 : (pick (gnext l k).kind 3 == 0) = false := beq_eq_false_iff_ne.2 c1
    clear fl hG hk1
    generalize gnext l k = r at *
    generalize gat l k = k2 at *
    by_cases c2 : pick r.a 6 = 0
    · have b2 : (pick r.a 6 == 0) = true := beq_iff_eq.2 c2
      have hsh : gshape kind r = (17, [2, kind, kind]) := by unfold gshape; simp [c2]
      rw [hsh]
      have fw := fun (T : Tm) (g : List Nat) (H : Heap) (dst : Nat) (hx : ((0 :: g) <:+ g0) = False) (hS4 : Heap.get H ⟨d, 4, 0 :: p⟩ = some (.box [.ptr ⟨d0, t0, g0⟩ 0])) (hS : Heap.get H ⟨d0, t0, g0⟩ = some (gbox l k2)) => ca_with hge (d := d) (dst := dst) (S := ⟨T, H, g⟩) d0 t0 g0 d 4 (0 :: p) (by omega) (Nat.le_refl _) h (17) [2, kind, kind] (by simp) fs hfs l k2 (hbnd _ (by simp)) hl hr hn hx hS4 hS
      simp only [List.map_cons, List.map_nil, Exp.dv_mk, Val.zero] at fw
      generalize gargs (gexpr fs l n) [2, kind, kind] k2 = y at *
      rw [Exp.dv_mk]
      simp only [Val.zero]
      simp only [amr, amc, amp, if_true, if_false, ne_eq, gt_iff_lt, Option.getD, argsT, Option.bind, Option.map, List.headD, List.tail, reduceIte, reduceDIte, Nat.reduceEqDiff, Nat.reduceAdd, Nat.reduceSub, Nat.reduceMul, Nat.reduceLT, reduceCtorEq, Int.reduceEq, Int.reduceLT, Int.reduceLE, Int.reduceNeg, Int.reduceToNat, Int.reduceBNe, Int.reduceBEq, Int.reduceAdd, Int.reduceSub, Int.reduceMul, opnsL, Nat.reduceLeDiff, Nat.reduceGT, List.replicate, Nat.reduceShiftRight, Nat.reduceMod, Nat.reduceBEq, lendsL, ty_GenD_39, fn, fw, suf1 hg0, suf2 hg0, suf3 hg0, suf4 hg0, suf5 hg0, suf6 hg0, hs0, Raw.dv, e1, e2, hd1, upd, Option.getD_none, Option.getD_some, soft_d, b0, p1, p2, p3, p4, b1, b2]
    · have b2 : (pick r.a 6 == 0) = false := beq_eq_false_iff_ne.2 c2
      by_cases c3 : kind = 1
      · have b3 : (kind == 1) = true := beq_iff_eq.2 c3
        by_cases c4 : pick r.b 7 = 0
        · have b4 : (pick r.b 7 == 0) = true := beq_iff_eq.2 c4
          have hsh : gshape kind r = (3, [1]) := by unfold gshape; simp [c2, c3, c4]
          rw [hsh]
          have fw := fun (T : Tm) (g : List Nat) (H : Heap) (dst : Nat) (hx : ((0 :: g) <:+ g0) = False) (hS4 : Heap.get H ⟨d, 4, 0 :: p⟩ = some (.box [.ptr ⟨d0, t0, g0⟩ 0])) (hS : Heap.get H ⟨d0, t0, g0⟩ = some (gbox l k2)) => ca_with hge (d := d) (dst := dst) (S := ⟨T, H, g⟩) d0 t0 g0 d 4 (0 :: p) (by omega) (Nat.le_refl _) h (3) [1] (by simp) fs hfs l k2 (hbnd _ (by simp)) hl hr hn hx hS4 hS
          simp only [List.map_cons, List.map_nil, Exp.dv_mk, Val.zero] at fw
          generalize gargs (gexpr fs l n) [1] k2 = y at *
          rw [Exp.dv_mk]
          simp only [Val.zero]
          simp only [amr, amc, amp, if_true, if_false, ne_eq, gt_iff_lt, Option.getD, argsT, Option.bind, Option.map, List.headD, List.tail, reduceIte, reduceDIte, Nat.reduceEqDiff, Nat.reduceAdd, Nat.reduceSub, Nat.reduceMul, Nat.reduceLT, reduceCtorEq, Int.reduceEq, Int.reduceLT, Int.reduceLE, Int.reduceNeg, Int.reduceToNat, Int.reduceBNe, Int.reduceBEq, Int.reduceAdd, Int.reduceSub, Int.reduceMul, opnsL, Nat.reduceLeDiff, Nat.reduceGT, List.replicate, Nat.reduceShiftRight, Nat.reduceMod, Nat.reduceBEq, lendsL, ty_GenD_39, fn, fw, suf1 hg0, suf2 hg0, suf3 hg0, suf4 hg0, suf5 hg0, suf6 hg0, hs0, Raw.dv, e1, e2, hd1, upd, Option.getD_none, Option.getD_some, soft_d, b0, p1, p2, p3, p4, b1, b2, b3, b4]
        · have b4 : (pick r.b 7 == 0) = false := beq_eq_false_iff_ne.2 c4
          by_cases c5 : pick r.b 7 = 1
          · have b5 : (pick r.b 7 == 1) = true := beq_iff_eq.2 c5
            have hsh : gshape kind r = (18, [3]) := by unfold gshape; simp [c2, c3, c4, c5]
            rw [hsh]
            have fw := fun (T : Tm) (g : List Nat) (H : Heap) (dst : Nat) (hx : ((0 :: g) <:+ g0) = False) (hS4 : Heap.get H ⟨d, 4, 0 :: p⟩ = some (.box [.ptr ⟨d0, t0, g0⟩ 0])) (hS : Heap.get H ⟨d0, t0, g0⟩ = some (gbox l k2)) => ca_with hge (d := d) (dst := dst) (S := ⟨T, H, g⟩) d0 t0 g0 d 4 (0 :: p) (by omega) (Nat.le_refl _) h (18) [3] (by simp) fs hfs l k2 (hbnd _ (by simp)) hl hr hn hx hS4 hS
            simp only [List.map_cons, List.map_nil, Exp.dv_mk, Val.zero] at fw
            generalize gargs (gexpr fs l n) [3] k2 = y at *
            rw [Exp.dv_mk]
            simp only [Val.zero]
            simp only [amr, amc, amp, if_true, if_false, ne_eq, gt_iff_lt, Option.getD, argsT, Option.bind, Option.map, List.headD, List.tail, reduceIte, reduceDIte, Nat.reduceEqDiff, Nat.reduceAdd, Nat.reduceSub, Nat.reduceMul, Nat.reduceLT, reduceCtorEq, Int.reduceEq, Int.reduceLT, Int.reduceLE, Int.reduceNeg, Int.reduceToNat, Int.reduceBNe, Int.reduceBEq, Int.reduceAdd, Int.reduceSub, Int.reduceMul, opnsL, Nat.reduceLeDiff, Nat.reduceGT, List.replicate, Nat.reduceShiftRight, Nat.reduceMod, Nat.reduceBEq, lendsL, ty_GenD_39, fn, fw, suf1 hg0, suf2 hg0, suf3 hg0, suf4 hg0, suf5 hg0, suf6 hg0, hs0, Raw.dv, e1, e2, hd1, upd, Option.getD_none, Option.getD_some, soft_d, b0, p1, p2, p3, p4, b1, b2, b3, b4, b5]
          · have b5 : (pick r.b 7 == 1) = false := beq_eq_false_iff_ne.2 c5
            have hsh : gshape kind r = (5 + (pick r.b 7 - 2), [1, 1]) := by unfold gshape; simp [c2, c3, c4, c5]
            have w1 : IntKind.i64.wrap (pick r.b 7 - 2) = pick r.b 7 - 2 := wrap_in (by omega) (by omega)
            have j1 : (0 ≤ pick r.b 7 - 2) = True := eq_true (by omega)
            have j2 : (pick r.b 7 - 2 < 5) = True := eq_true (by omega)
            have hq : ([DV.int .i64 5, DV.int .i64 6, DV.int .i64 7, DV.int .i64 8, DV.int .i64 9])[(pick r.b 7 - 2).toNat]? = some (.int .i64 (5 + (pick r.b 7 - 2))) := by
              have : pick r.b 7 = 2 ∨ pick r.b 7 = 3 ∨ pick r.b 7 = 4 ∨ pick r.b 7 = 5 ∨ pick r.b 7 = 6 := by omega
              rcases this with e | e | e | e | e <;> rw [e] <;> rfl
            rw [hsh]
            have fw := fun (T : Tm) (g : List Nat) (H : Heap) (dst : Nat) (hx : ((0 :: g) <:+ g0) = False) (hS4 : Heap.get H ⟨d, 4, 0 :: p⟩ = some (.box [.ptr ⟨d0, t0, g0⟩ 0])) (hS : Heap.get H ⟨d0, t0, g0⟩ = some (gbox l k2)) => ca_with hge (d := d) (dst := dst) (S := ⟨T, H, g⟩) d0 t0 g0 d 4 (0 :: p) (by omega) (Nat.le_refl _) h (5 + (pick r.b 7 - 2)) [1, 1] (by simp) fs hfs l k2 (hbnd _ (by simp)) hl hr hn hx hS4 hS
            simp only [List.map_cons, List.map_nil, Exp.dv_mk, Val.zero] at fw
            generalize gargs (gexpr fs l n) [1, 1] k2 = y at *
            rw [Exp.dv_mk]
            simp only [Val.zero]
            simp only [amr, amc, amp, if_true, if_false, ne_eq, gt_iff_lt, Option.getD, argsT, Option.bind, Option.map, List.headD, List.tail, reduceIte, reduceDIte, Nat.reduceEqDiff, Nat.reduceAdd, Nat.reduceSub, Nat.reduceMul, Nat.reduceLT, reduceCtorEq, Int.reduceEq, Int.reduceLT, Int.reduceLE, Int.reduceNeg, Int.reduceToNat, Int.reduceBNe, Int.reduceBEq, Int.reduceAdd, Int.reduceSub, Int.reduceMul, opnsL, Nat.reduceLeDiff, Nat.reduceGT, List.replicate, Nat.reduceShiftRight, Nat.reduceMod, Nat.reduceBEq, lendsL, ty_GenD_39, fn, fw, suf1 hg0, suf2 hg0, suf3 hg0, suf4 hg0, suf5 hg0, suf6 hg0, hs0, Raw.dv, e1, e2, hd1, upd, Option.getD_none, Option.getD_some, soft_d, b0, p1, p2, p3, p4, b1, b2, b3, b4, b5, w1, j1, j2, hq]
      · have b3 : (kind == 1) = false := beq_eq_false_iff_ne.2 c3
        by_cases c4 : kind = 2
        · have b4 : (kind == 2) = true := beq_iff_eq.2 c4
          by_cases c5 : pick r.b 7 = 0
          · have b5 : (pick r.b 7 == 0) = true := beq_iff_eq.2 c5
            have hsh : gshape kind r = (4, [2]) := by unfold gshape; simp [c2, c3, c4, c5]
            rw [hsh]
            have fw := fun (T : Tm) (g : List Nat) (H : Heap) (dst : Nat) (hx : ((0 :: g) <:+ g0) = False) (hS4 : Heap.get H ⟨d, 4, 0 :: p⟩ = some (.box [.ptr ⟨d0, t0, g0⟩ 0])) (hS : Heap.get H ⟨d0, t0, g0⟩ = some (gbox l k2)) => ca_with hge (d := d) (dst := dst) (S := ⟨T, H, g⟩) d0 t0 g0 d 4 (0 :: p) (by omega) (Nat.le_refl _) h (4) [2] (by simp) fs hfs l k2 (hbnd _ (by simp)) hl hr hn hx hS4 hS
            simp only [List.map_cons, List.map_nil, Exp.dv_mk, Val.zero] at fw
            generalize gargs (gexpr fs l n) [2] k2 = y at *
            rw [Exp.dv_mk]
            simp only [Val.zero]
            simp only [amr, amc, amp, if_true, if_false, ne_eq, gt_iff_lt, Option.getD, argsT, Option.bind, Option.map, List.headD, List.tail, reduceIte, reduceDIte, Nat.reduceEqDiff, Nat.reduceAdd, Nat.reduceSub, Nat.reduceMul, Nat.reduceLT, reduceCtorEq, Int.reduceEq, Int.reduceLT, Int.reduceLE, Int.reduceNeg, Int.reduceToNat, Int.reduceBNe, Int.reduceBEq, Int.reduceAdd, Int.reduceSub, Int.reduceMul, opnsL, Nat.reduceLeDiff, Nat.reduceGT, List.replicate, Nat.reduceShiftRight, Nat.reduceMod, Nat.reduceBEq, lendsL, ty_GenD_39, fn, fw, suf1 hg0, suf2 hg0, suf3 hg0, suf4 hg0, suf5 hg0, suf6 hg0, hs0, Raw.dv, e1, e2, hd1, upd, Option.getD_none, Option.getD_some, soft_d, b0, p1, p2, p3, p4, b1, b2, b3, b4, b5]
          · have b5 : (pick r.b 7 == 0) = false := beq_eq_false_iff_ne.2 c5
            by_cases c6 : pick r.b 7 < 3
            · have b6 : decide (pick r.b 7 < 3) = true := decide_eq_true c6
              have hsh : gshape kind r = (15 + pick r.b 7 - 1, [2, 2]) := by unfold gshape; simp [c2, c3, c4, c5, c6]
              have w1 : IntKind.i64.wrap (15 + pick r.b 7) = 15 + pick r.b 7 := wrap_in (by omega) (by omega)
              have w2 : IntKind.i64.wrap (15 + pick r.b 7 - 1) = 15 + pick r.b 7 - 1 := wrap_in (by omega) (by omega)
              rw [hsh]
              have fw := fun (T : Tm) (g : List Nat) (H : Heap) (dst : Nat) (hx : ((0 :: g) <:+ g0) = False) (hS4 : Heap.get H ⟨d, 4, 0 :: p⟩ = some (.box [.ptr ⟨d0, t0, g0⟩ 0])) (hS : Heap.get H ⟨d0, t0, g0⟩ = some (gbox l k2)) => ca_with hge (d := d) (dst := dst) (S := ⟨T, H, g⟩) d0 t0 g0 d 4 (0 :: p) (by omega) (Nat.le_refl _) h (15 + pick r.b 7 - 1) [2, 2] (by simp) fs hfs l k2 (hbnd _ (by simp)) hl hr hn hx hS4 hS
              simp only [List.map_cons, List.map_nil, Exp.dv_mk, Val.zero] at fw
              generalize gargs (gexpr fs l n) [2, 2] k2 = y at *
              rw [Exp.dv_mk]
              simp only [Val.zero]
              simp only [amr, amc, amp, if_true, if_false, ne_eq, gt_iff_lt, Option.getD, argsT, Option.bind, Option.map, List.headD, List.tail, reduceIte, reduceDIte, Nat.reduceEqDiff, Nat.reduceAdd, Nat.reduceSub, Nat.reduceMul, Nat.reduceLT, reduceCtorEq, Int.reduceEq, Int.reduceLT, Int.reduceLE, Int.reduceNeg, Int.reduceToNat, Int.reduceBNe, Int.reduceBEq, Int.reduceAdd, Int.reduceSub, Int.reduceMul, opnsL, Nat.reduceLeDiff, Nat.reduceGT, List.replicate, Nat.reduceShiftRight, Nat.reduceMod, Nat.reduceBEq, lendsL, ty_GenD_39, fn, fw, suf1 hg0, suf2 hg0, suf3 hg0, suf4 hg0, suf5 hg0, suf6 hg0, hs0, Raw.dv, e1, e2, hd1, upd, Option.getD_none, Option.getD_some, soft_d, b0, p1, p2, p3, p4, b1, b2, b3, b4, b5, b6, w1, w2]
            · have b6 : decide (pick r.b 7 < 3) = false := decide_eq_false c6
              have hsh : gshape kind r = (11 + pick r.b 7 - 3, [1 + pick r.a 3, 1 + pick r.a 3]) := by unfold gshape; simp [c2, c3, c4, c5, c6]
              have w1 : IntKind.i64.wrap (11 + pick r.b 7) = 11 + pick r.b 7 := wrap_in (by omega) (by omega)
              have w2 : IntKind.i64.wrap (11 + pick r.b 7 - 3) = 11 + pick r.b 7 - 3 := wrap_in (by omega) (by omega)
              have w3 : IntKind.i64.wrap (1 + pick r.a 3) = 1 + pick r.a 3 := wrap_in (by omega) (by omega)
              rw [hsh]
              have fw := fun (T : Tm) (g : List Nat) (H : Heap) (dst : Nat) (hx : ((0 :: g) <:+ g0) = False) (hS4 : Heap.get H ⟨d, 4, 0 :: p⟩ = some (.box [.ptr ⟨d0, t0, g0⟩ 0])) (hS : Heap.get H ⟨d0, t0, g0⟩ = some (gbox l k2)) => ca_with hge (d := d) (dst := dst) (S := ⟨T, H, g⟩) d0 t0 g0 d 4 (0 :: p) (by omega) (Nat.le_refl _) h (11 + pick r.b 7 - 3) [1 + pick r.a 3, 1 + pick r.a 3] (by simp) fs hfs l k2 (hbnd _ (by simp)) hl hr hn hx hS4 hS
              simp only [List.map_cons, List.map_nil, Exp.dv_mk, Val.zero] at fw
              generalize gargs (gexpr fs l n) [1 + pick r.a 3, 1 + pick r.a 3] k2 = y at *
              rw [Exp.dv_mk]
              simp only [Val.zero]
              simp only [amr, amc, amp, if_true, if_false, ne_eq, gt_iff_lt, Option.getD, argsT, Option.bind, Option.map, List.headD, List.tail, reduceIte, reduceDIte, Nat.reduceEqDiff, Nat.reduceAdd, Nat.reduceSub, Nat.reduceMul, Nat.reduceLT, reduceCtorEq, Int.reduceEq, Int.reduceLT, Int.reduceLE, Int.reduceNeg, Int.reduceToNat, Int.reduceBNe, Int.reduceBEq, Int.reduceAdd, Int.reduceSub, Int.reduceMul, opnsL, Nat.reduceLeDiff, Nat.reduceGT, List.replicate, Nat.reduceShiftRight, Nat.reduceMod, Nat.reduceBEq, lendsL, ty_GenD_39, fn, fw, suf1 hg0, suf2 hg0, suf3 hg0, suf4 hg0, suf5 hg0, suf6 hg0, hs0, Raw.dv, e1, e2, hd1, upd, Option.getD_none, Option.getD_some, soft_d, b0, p1, p2, p3, p4, b1, b2, b3, b4, b5, b6, w1, w2, w3]
        · have b4 : (kind == 2) = false := beq_eq_false_iff_ne.2 c4
          have hsh : gshape kind r = (10, [3, 3]) := by unfold gshape; simp [c2, c3, c4]
          rw [hsh]
          have fw := fun (T : Tm) (g : List Nat) (H : Heap) (dst : Nat) (hx : ((0 :: g) <:+ g0) = False) (hS4 : Heap.get H ⟨d, 4, 0 :: p⟩ = some (.box [.ptr ⟨d0, t0, g0⟩ 0])) (hS : Heap.get H ⟨d0, t0, g0⟩ = some (gbox l k2)) => ca_with hge (d := d) (dst := dst) (S := ⟨T, H, g⟩) d0 t0 g0 d 4 (0 :: p) (by omega) (Nat.le_refl _) h (10) [3, 3] (by simp) fs hfs l k2 (hbnd _ (by simp)) hl hr hn hx hS4 hS
          simp only [List.map_cons, List.map_nil, Exp.dv_mk, Val.zero] at fw
          generalize gargs (gexpr fs l n) [3, 3] k2 = y at *
          rw [Exp.dv_mk]
          simp only [Val.zero]
          simp only [amr, amc, amp, if_true, if_false, ne_eq, gt_iff_lt, Option.getD, argsT, Option.bind, Option.map, List.headD, List.tail, reduceIte, reduceDIte, Nat.reduceEqDiff, Nat.reduceAdd, Nat.reduceSub, Nat.reduceMul, Nat.reduceLT, reduceCtorEq, Int.reduceEq, Int.reduceLT, Int.reduceLE, Int.reduceNeg, Int.reduceToNat, Int.reduceBNe, Int.reduceBEq, Int.reduceAdd, Int.reduceSub, Int.reduceMul, opnsL, Nat.reduceLeDiff, Nat.reduceGT, List.replicate, Nat.reduceShiftRight, Nat.reduceMod, Nat.reduceBEq, lendsL, ty_GenD_39, fn, fw, suf1 hg0, suf2 hg0, suf3 hg0, suf4 hg0, suf5 hg0, suf6 hg0, hs0, Raw.dv, e1, e2, hd1, upd, Option.getD_none, Option.getD_some, soft_d, b0, p1, p2, p3, p4, b1, b2, b3, b4]
theorem expr_ok : ∀ n : Nat, n ≤ 1000 → ExprOK n
  | 0, _ => expr_ok0
  | n + 1, h => expr_okS (expr_ok n (by omega)) (by omega)
end Go.Proofs.Ytjjjkoknodcaaaa.Am
