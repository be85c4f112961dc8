/- Formulas of raw things, the fields a list of a call: of every depth. -/
import Derived.Test.YtnombkkfijlkfaaFmC
import Derived.Test.YtnombkkfijlkfaaSl
set_option linter.unusedVariables false
set_option linter.unusedSimpArgs false
namespace Go.Proofs.Ytnombkkfijlkfaa.Am
open Go Go.RowKit
theorem ty_FmD_43 : type_of% (ai (ai (ai (ai (ai (ai @rs43 (ai @lv43_0 @ro78_4_raw_go_91)) (ai (ai @ro23_6_raw_go_91 @ro3_7_raw_go_91) (ai @lv43_1 @lv43_2))) (ai (ai (ai @lv43_3 @lv43_4) (ai @lv43_5 @lv43_6)) (ai (ai @lv43_7 @lv43_8) (ai @lv43_9 @lv43_10)))) (ai (ai (ai @lv43_12 (ai @lv43_13 @lv43_14)) (ai (ai @lv43_15 @lv43_11) (ai @lv43_16 @lv43_17))) (ai (ai (ai @lv43_20 @lv43_21) (ai @lv43_22 @lv43_23)) (ai (ai @lv43_18 @lv43_19) (ai @lv43_24 @und1))))) (ai (ai (ai (ai @sz1 (ai @ag1 @inf1)) (ai (ai @und2 @sz2) (ai @ag2 @lv2))) (ai (ai (ai @inf2 @und3) (ai @sz3 @ag3)) (ai (ai @lv3 @inf3) (ai @und4 @sz4)))) (ai (ai (ai @ag4 (ai @lv4 @inf4)) (ai (ai @und5 @sz5) (ai @ag5 @lv5))) (ai (ai (ai @inf5 @und9) (ai @sz9 @ag9)) (ai (ai @lv9 @inf9) (ai @und23 @sz23)))))) (ai (ai (ai (ai (ai @ag23 (ai @pT23 @inf23)) (ai (ai @und29 @sz29) (ai @ag29 @fo29))) (ai (ai (ai @bA29 @pT29_0) (ai @pT29_1 @pT29_2)) (ai (ai @lv29 @inf29) (ai @und30 @sz30)))) (ai (ai (ai @ag30 (ai @pT30 @inf30)) (ai (ai @und32 @sz32) (ai @ag32 @fo32))) (ai (ai (ai @bA32 @pT32_0) (ai @pT32_1 @pT32_2)) (ai (ai @pT32_3 @inf32) (ai @und34 @sz34))))) (ai (ai (ai (ai @ag34 (ai @fo34 @bA34)) (ai (ai @pT34_0 @pT34_1) (ai @pT34_2 @pT34_3))) (ai (ai (ai @inf34 @und41) (ai @sz41 @ag41)) (ai (ai @fo41 @bA41) (ai @pT41_0 @pT41_1)))) (ai (ai (ai (ai @pT41_2 @pT41_3) (ai @inf41 @und65)) (ai (ai @sz65 @ag65) (ai @pT65 @inf65))) (ai (ai (ai @und78 @sz78) (ai @ag78 @inf78)) (ai (ai @und122 @sz122) (ai @ag122 @inf122))))))) := (ai (ai (ai (ai (ai (ai @rs43 (ai @lv43_0 @ro78_4_raw_go_91)) (ai (ai @ro23_6_raw_go_91 @ro3_7_raw_go_91) (ai @lv43_1 @lv43_2))) (ai (ai (ai @lv43_3 @lv43_4) (ai @lv43_5 @lv43_6)) (ai (ai @lv43_7 @lv43_8) (ai @lv43_9 @lv43_10)))) (ai (ai (ai @lv43_12 (ai @lv43_13 @lv43_14)) (ai (ai @lv43_15 @lv43_11) (ai @lv43_16 @lv43_17))) (ai (ai (ai @lv43_20 @lv43_21) (ai @lv43_22 @lv43_23)) (ai (ai @lv43_18 @lv43_19) (ai @lv43_24 @und1))))) (ai (ai (ai (ai @sz1 (ai @ag1 @inf1)) (ai (ai @und2 @sz2) (ai @ag2 @lv2))) (ai (ai (ai @inf2 @und3) (ai @sz3 @ag3)) (ai (ai @lv3 @inf3) (ai @und4 @sz4)))) (ai (ai (ai @ag4 (ai @lv4 @inf4)) (ai (ai @und5 @sz5) (ai @ag5 @lv5))) (ai (ai (ai @inf5 @und9) (ai @sz9 @ag9)) (ai (ai @lv9 @inf9) (ai @und23 @sz23)))))) (ai (ai (ai (ai (ai @ag23 (ai @pT23 @inf23)) (ai (ai @und29 @sz29) (ai @ag29 @fo29))) (ai (ai (ai @bA29 @pT29_0) (ai @pT29_1 @pT29_2)) (ai (ai @lv29 @inf29) (ai @und30 @sz30)))) (ai (ai (ai @ag30 (ai @pT30 @inf30)) (ai (ai @und32 @sz32) (ai @ag32 @fo32))) (ai (ai (ai @bA32 @pT32_0) (ai @pT32_1 @pT32_2)) (ai (ai @pT32_3 @inf32) (ai @und34 @sz34))))) (ai (ai (ai (ai @ag34 (ai @fo34 @bA34)) (ai (ai @pT34_0 @pT34_1) (ai @pT34_2 @pT34_3))) (ai (ai (ai @inf34 @und41) (ai @sz41 @ag41)) (ai (ai @fo41 @bA41) (ai @pT41_0 @pT41_1)))) (ai (ai (ai (ai @pT41_2 @pT41_3) (ai @inf41 @und65)) (ai (ai @sz65 @ag65) (ai @pT65 @inf65))) (ai (ai (ai @und78 @sz78) (ai @ag78 @inf78)) (ai (ai @und122 @sz122) (ai @ag122 @inf122)))))))
set_option maxRecDepth 100000
set_option maxHeartbeats 40000000



theorem ca_withN {deep : Nat} (hge : ExprOKN deep) {d dst : Nat} {S : St} (d0 t0 : Nat) (g0 : List Nat) (d4 t4 : Nat) (g4 : List Nat) (t6 : Nat) (g6 : List Nat) (h46 : t4 ≠ t6) (h : d0 ≤ d) (h4 : d4 ≤ d) (h04 : d0 < d4) (op : Int) (ks : List Int) (hks : ks.length ≤ 3) (fs : List Field) (hfs : fs.length ≤ 1048576) (l : List Raw) (k : Nat) (hk : k + ks.length * 4 ^ (deep + 2) ≤ 4611686018427387904) (hl : l.length ≤ 9223372036854775807) (hr : ∀ r ∈ l, r.ok) (hd2 : deep ≤ 1000)
    (hg0 : ((0 :: S.g) <:+ g0) = False) (hS4 : S.H.get ⟨d4, t4, g4⟩ = some (.box [.ptr ⟨d0, t0, g0⟩ 0])) (hS6 : S.H.get ⟨d4, t6, g6⟩ = some (.box [.own 9 (fs.map Field.dv) none])) (hS : S.H.get ⟨d0, t0, g0⟩ = some (gbox l k)) :
    callA tab (callR tab) d dst 80 [.d (.int .i64 op), .own 1 (ks.map (fun k => DV.int .i64 k)) none, .ptr ⟨d4, t4, g4⟩ 0, .ptr ⟨d4, t6, g6⟩ 0, .d (.rp [.int .i64 ((deep : Int) + 1)])] S =
      some (.d (Exp.mk op Val.zero [] (gargs (gexpr fs l deep) ks k).1).dv, ⟨S.T, upd [(⟨d4, t4, g4⟩, .box [.ptr ⟨d0, t0, g0⟩ 0]), (⟨d4, t6, g6⟩, .box [.own 9 (fs.map Field.dv) none]), (⟨d0, t0, g0⟩, gbox l (gargs (gexpr fs l deep) ks k).2)] S.H, 1 :: S.g⟩) := by
  obtain ⟨x, H', h1, h2, h3, h5, h6⟩ := run_withN hge (p := 0 :: S.g) d0 t0 g0 d4 t4 g4 t6 g6 h46 (Nat.lt_succ_of_le h) (Nat.lt_succ_of_le h4) h04 (of_eq_false hg0) op ks hks fs hfs l k hk hl hr hd2
  have n46 : (⟨d4, t4, g4⟩ : Id) ≠ ⟨d4, t6, g6⟩ := fun e => h46 (by injection e)
  have n40 : (⟨d4, t4, g4⟩ : Id) ≠ ⟨d0, t0, g0⟩ := fun e => by injection e with e1 _ _; omega
  have n64 : (⟨d4, t6, g6⟩ : Id) ≠ ⟨d4, t4, g4⟩ := fun e => h46 (by injection e with _ e _; exact e.symm)
  have n60 : (⟨d4, t6, g6⟩ : Id) ≠ ⟨d0, t0, g0⟩ := fun e => by injection e with e1 _ _; omega
  have n04 : (⟨d0, t0, g0⟩ : Id) ≠ ⟨d4, t4, g4⟩ := fun e => by injection e with e1 _ _; omega
  have n06 : (⟨d0, t0, g0⟩ : Id) ≠ ⟨d4, t6, g6⟩ := fun e => by injection e with e1 _ _; omega
  have w0 : within [⟨d4, t4, g4⟩, ⟨d4, t6, g6⟩] S.H = [(⟨d4, t4, g4⟩, .box [.ptr ⟨d0, t0, g0⟩ 0]), (⟨d4, t6, g6⟩, .box [.own 9 (fs.map Field.dv) none])] := by simp [within, hS4, hS6]
  have w2 : within [(⟨d4, t4, g4⟩ : Id), ⟨d4, t6, g6⟩, ⟨d0, t0, g0⟩] S.H = [(⟨d4, t4, g4⟩, .box [.ptr ⟨d0, t0, g0⟩ 0]), (⟨d4, t6, g6⟩, .box [.own 9 (fs.map Field.dv) none]), (⟨d0, t0, g0⟩, gbox l k)] := by simp [within, hS4, hS6, hS]
  have hids : ∀ n, idsH [(⟨d4, t4, g4⟩, .box [.ptr ⟨d0, t0, g0⟩ 0]), (⟨d4, t6, g6⟩, .box [.own 9 (fs.map Field.dv) none]), (⟨d0, t0, g0⟩, gbox l n)] = [⟨d0, t0, g0⟩] := fun n => by
    have hg : idsP (gbox l n) = [] := rfl
    simp only [idsH, hg]
    rfl
  have hall : ([⟨d0, t0, g0⟩] : List Id).all (fun i => [(⟨d4, t4, g4⟩ : Id), ⟨d4, t6, g6⟩, ⟨d0, t0, g0⟩].contains i) = true := by simp
  refine ca_open (W0 := [(⟨d4, t4, g4⟩, .box [.ptr ⟨d0, t0, g0⟩ 0]), (⟨d4, t6, g6⟩, .box [.own 9 (fs.map Field.dv) none]), (⟨d0, t0, g0⟩, gbox l k)]) (W := [(⟨d4, t4, g4⟩, .box [.ptr ⟨d0, t0, g0⟩ 0]), (⟨d4, t6, g6⟩, .box [.own 9 (fs.map Field.dv) none]), (⟨d0, t0, g0⟩, gbox l (gargs (gexpr fs l deep) ks k).2)]) (by split <;> rfl) (lent_off (tab_lend (by kernel_rfl))) ?_ w2 (by rw [hids]; exact hall) ⟨x, H', h1, h2, fun i hi => ?_⟩ rfl rfl ?_
  · have ha0 : addIds [] (idsL [AV.d (.int .i64 op), .own 1 (ks.map (fun k => DV.int .i64 k)) none, .ptr ⟨d4, t4, g4⟩ 0, .ptr ⟨d4, t6, g6⟩ 0, .d (.rp [.int .i64 ((deep : Int) + 1)])]) = [⟨d4, t4, g4⟩, ⟨d4, t6, g6⟩] := by
      show addIds [] [(⟨d4, t4, g4⟩ : Id), ⟨d4, t6, g6⟩] = _
      simp [addIds, n64]
    rw [ha0]
    unfold reach
    rw [w0]
    have hi0 : idsH [(⟨d4, t4, g4⟩, Place.box [AV.ptr ⟨d0, t0, g0⟩ 0]), (⟨d4, t6, g6⟩, .box [.own 9 (fs.map Field.dv) none])] = [⟨d0, t0, g0⟩] := rfl
    rw [hi0]
    have hno : ([⟨d0, t0, g0⟩] : List Id).all (fun i => [(⟨d4, t4, g4⟩ : Id), ⟨d4, t6, g6⟩].contains i) = false := by simp [n46, n40, n64, n60, n04, n06]
    rw [hno]
    simp only [Bool.false_eq_true, if_false]
    have ha : addIds [(⟨d4, t4, g4⟩ : Id), ⟨d4, t6, g6⟩] [⟨d0, t0, g0⟩] = [(⟨d4, t4, g4⟩ : Id), ⟨d4, t6, g6⟩, ⟨d0, t0, g0⟩] := by simp [addIds, n46, n40, n64, n60, n04, n06]
    rw [ha]
    unfold reach
    rw [w2, hids, if_pos hall]
    rfl
  · have : i = ⟨d4, t4, g4⟩ ∨ i = ⟨d4, t6, g6⟩ ∨ i = ⟨d0, t0, g0⟩ := by simpa [Am.keys] using hi
    rcases this with rfl | rfl | rfl
    · rw [h3]; simp [Heap.get, n46, n40, n64, n60, n04, n06]
    · rw [h5]; simp [Heap.get, n46, n40, n64, n60, n04, n06]
    · rw [h6]; simp [Heap.get, n46, n40, n64, n60, n04, n06]
  · have : within (Am.keys [(⟨d4, t4, g4⟩, .box [.ptr ⟨d0, t0, g0⟩ 0]), (⟨d4, t6, g6⟩, .box [.own 9 (fs.map Field.dv) none]), (⟨d0, t0, g0⟩, gbox l k)]) [(⟨d4, t4, g4⟩, .box [.ptr ⟨d0, t0, g0⟩ 0]), (⟨d4, t6, g6⟩, .box [.own 9 (fs.map Field.dv) none]), (⟨d0, t0, g0⟩, gbox l (gargs (gexpr fs l deep) ks k).2)] = [(⟨d4, t4, g4⟩, .box [.ptr ⟨d0, t0, g0⟩ 0]), (⟨d4, t6, g6⟩, .box [.own 9 (fs.map Field.dv) none]), (⟨d0, t0, g0⟩, gbox l (gargs (gexpr fs l deep) ks k).2)] := by
      simp [Am.keys, within, Heap.get, n46, n40, n64, n60, n04, n06]
    rw [this, hids]
    exact hall
theorem expr_ok0N : ExprOKN 0 := by
  intro d p d0 t0 g0 h hg0 kind fs hfs l k hk hl hr
  have e1 : (d0 = d) = False := eq_false (by omega)
  have e2 : (d = d0) = False := eq_false (by omega)
  have hd1 : decide (d0 < d) = true := decide_eq_true h
  have hs0 : (p <:+ g0) = False := eq_false hg0
  have hk1 := gat_le l k
  refine retq_good 1 fn43 rfl rfl ?_
  have fn := fun (T : Tm) (g : List Nat) (H : Heap) (dst : Nat) (hx : ((0 :: g) <:+ g0) = False) (hS : Heap.get H ⟨d0, t0, g0⟩ = some (gbox l k)) => ca_next (d := d) (dst := dst) (S := ⟨T, H, g⟩) d0 t0 g0 l k (by omega) hl (by omega) hx hS
  have fl := fun (T : Tm) (g : List Nat) (H : Heap) (dst : Nat) (hx : ((0 :: g) <:+ g0) = False) (hS : Heap.get H ⟨d0, t0, g0⟩ = some (gbox l (gat l k))) => ca_leafN (d := d) (dst := dst) (S := ⟨T, H, g⟩) d0 t0 g0 (by omega) kind fs hfs l (gat l k) (by omega) hl hr hx hS
  have hge : gexpr fs l 0 kind k = (gleafE kind fs (gnext l (gat l k)), gat l (gat l k)) := rfl
  rw [hge]
  simp only [Exp.dv_eq (gleafE kind fs (gnext l (gat l k)))] at fl ⊢
  generalize gleafE kind fs (gnext l (gat l k)) = E at *
  generalize gnext l k = r at *
  generalize gat l (gat l k) = k3 at *
  generalize gat l k = k2 at *
  simp only [amr, amc, amp, if_true, if_false, ne_eq, gt_iff_lt, Option.getD, argsT, Option.bind, Option.map, List.headD, List.tail, opnsL, List.replicate, lendsL, seval, ty_FmD_43, fn, fl, suf1 hg0, suf2 hg0, suf3 hg0, suf4 hg0, suf5 hg0, suf6 hg0, hs0, Raw.dv, e1, e2, hd1, upd, Option.getD_none, Option.getD_some, soft_d, Int.le_refl, Int.natCast_zero, Int.cast_ofNat_Int]
theorem expr_okSN {n : Nat} (hge : ExprOKN n) (hn : n ≤ 1000) : ExprOKN (n + 1) := by
  intro d p d0 t0 g0 h hg0 kind fs hfs l k hk hl hr
  have e1 : (d0 = d) = False := eq_false (by omega)
  have e2 : (d = d0) = False := eq_false (by omega)
  have hd1 : decide (d0 < d) = true := decide_eq_true h
  have hs0 : (p <:+ g0) = False := eq_false hg0
  have hk1 := gat_le l k
  have h7 : 4 ^ (n + 1 + 2) = 4 * 4 ^ (n + 2) := by rw [show n + 1 + 2 = (n + 2) + 1 by omega, Nat.pow_succ, Nat.mul_comm]
  have h8 : 16 ≤ 4 ^ (n + 2) := by
    have := Nat.pow_le_pow_right (n := 4) (by decide) (show 2 ≤ n + 2 by omega)
    simpa using this
  have hbnd : ∀ m : Nat, m ≤ 3 → gat l k + m * 4 ^ (n + 2) ≤ 4611686018427387904 := fun m hm => by
    have := Nat.mul_le_mul_right (4 ^ (n + 2)) hm
    omega
  refine retq_good 1 fn43 rfl rfl ?_
  have fn := fun (T : Tm) (g : List Nat) (H : Heap) (dst : Nat) (hx : ((0 :: g) <:+ g0) = False) (hS : Heap.get H ⟨d0, t0, g0⟩ = some (gbox l k)) => ca_next (d := d) (dst := dst) (S := ⟨T, H, g⟩) d0 t0 g0 l k (by omega) hl (by omega) hx hS
  have hc : (((n + 1 : Nat)) : Int) = (n : Int) + 1 := by omega
  rw [hc]
  have b0 : decide ((n : Int) + 1 ≤ 0) = false := decide_eq_false (by omega)
  have hrk := gnext_ok hr k
  have hG : gexpr fs l (n + 1) kind k = if pick (gnext l k).kind 3 = 0 then (gleafE kind fs (gnext l (gat l k)), gat l (gat l k)) else
    (.mk (gshape kind (gnext l k)).1 Val.zero [] (gargs (gexpr fs l n) (gshape kind (gnext l k)).2 (gat l k)).1, (gargs (gexpr fs l n) (gshape kind (gnext l k)).2 (gat l k)).2) := rfl
  rw [hG]
  have p1 := fun (S : St) (d dst : Nat) => ca_picked (d := d) (dst := dst) (S := S) (gnext l k).kind 3 (by decide)
  have p2 := fun (S : St) (d dst : Nat) => ca_picked (d := d) (dst := dst) (S := S) (gnext l k).a 6 (by decide)
  have p3 := fun (S : St) (d dst : Nat) => ca_picked (d := d) (dst := dst) (S := S) (gnext l k).b 7 (by decide)
  have p4 := fun (S : St) (d dst : Nat) => ca_picked (d := d) (dst := dst) (S := S) (gnext l k).a 3 (by decide)
  have q3 := pick_range (gnext l k).b 7 hrk.b.1 hrk.b.2 (by decide)
  have q4 := pick_range (gnext l k).a 3 hrk.a.1 hrk.a.2 (by decide)
  have fl := fun (T : Tm) (g : List Nat) (H : Heap) (dst : Nat) (hx : ((0 :: g) <:+ g0) = False) (hS : Heap.get H ⟨d0, t0, g0⟩ = some (gbox l (gat l k))) => ca_leafN (d := d) (dst := dst) (S := ⟨T, H, g⟩) d0 t0 g0 (by omega) kind fs hfs l (gat l k) (by omega) hl hr hx hS
  simp only [Exp.dv_eq (gleafE kind fs (gnext l (gat l k)))] at fl
  by_cases c1 : pick (gnext l k).kind 3 = 0
  · rw [if_pos c1]
    rw [c1] at p1
    simp only [Exp.dv_eq (gleafE kind fs (gnext l (gat l k)))]
    generalize gleafE kind fs (gnext l (gat l k)) = E at *
    generalize gnext l k = r at *
    generalize gat l (gat l k) = k3 at *
    generalize gat l k = k2 at *
    simp only [amr, amc, amp, if_true, if_false, ne_eq, gt_iff_lt, Option.getD, argsT, Option.bind, Option.map, List.headD, List.tail, opnsL, List.replicate, lendsL, seval, ty_FmD_43, fn, fl, suf1 hg0, suf2 hg0, suf3 hg0, suf4 hg0, suf5 hg0, suf6 hg0, hs0, Raw.dv, e1, e2, hd1, upd, Option.getD_none, Option.getD_some, soft_d, b0, p1, beq_self_eq_true]
  · rw [if_neg c1]
    have b1 : (pick (gnext l k).kind 3 == 0) = false := beq_eq_false_iff_ne.2 c1
    clear fl hG hk1
    generalize gnext l k = r at *
    generalize gat l k = k2 at *
    by_cases c2 : pick r.a 6 = 0
    · have b2 : (pick r.a 6 == 0) = true := beq_iff_eq.2 c2
      have hsh : gshape kind r = (17, [2, kind, kind]) := by unfold gshape; simp [c2]
      rw [hsh]
      have fw := fun (T : Tm) (g : List Nat) (H : Heap) (dst : Nat) (hx : ((0 :: g) <:+ g0) = False) (hS4 : Heap.get H ⟨d, 4, 0 :: p⟩ = some (.box [.ptr ⟨d0, t0, g0⟩ 0])) (hS6 : Heap.get H ⟨d, 6, 0 :: 1 :: p⟩ = some (.box [.own 9 (fs.map Field.dv) none])) (hS : Heap.get H ⟨d0, t0, g0⟩ = some (gbox l k2)) => ca_withN hge (d := d) (dst := dst) (S := ⟨T, H, g⟩) d0 t0 g0 d 4 (0 :: p) 6 (0 :: 1 :: p) (by decide) (by omega) (Nat.le_refl _) h (17) [2, kind, kind] (by simp) fs hfs l k2 (hbnd _ (by simp)) hl hr hn hx hS4 hS6 hS
      simp only [List.map_cons, List.map_nil, Exp.dv_mk, Val.zero] at fw
      generalize gargs (gexpr fs l n) [2, kind, kind] k2 = y at *
      rw [Exp.dv_mk]
      simp only [Val.zero]
      simp only [amr, amc, amp, if_true, if_false, ne_eq, gt_iff_lt, Option.getD, argsT, Option.bind, Option.map, List.headD, List.tail, opnsL, List.replicate, lendsL, seval, ty_FmD_43, fn, fw, suf1 hg0, suf2 hg0, suf3 hg0, suf4 hg0, suf5 hg0, suf6 hg0, hs0, Raw.dv, e1, e2, hd1, upd, Option.getD_none, Option.getD_some, soft_d, b0, p1, p2, p3, p4, b1, b2]
    · have b2 : (pick r.a 6 == 0) = false := beq_eq_false_iff_ne.2 c2
      by_cases c3 : kind = 1
      · have b3 : (kind == 1) = true := beq_iff_eq.2 c3
        by_cases c4 : pick r.b 7 = 0
        · have b4 : (pick r.b 7 == 0) = true := beq_iff_eq.2 c4
          have hsh : gshape kind r = (3, [1]) := by unfold gshape; simp [c2, c3, c4]
          rw [hsh]
          have fw := fun (T : Tm) (g : List Nat) (H : Heap) (dst : Nat) (hx : ((0 :: g) <:+ g0) = False) (hS4 : Heap.get H ⟨d, 4, 0 :: p⟩ = some (.box [.ptr ⟨d0, t0, g0⟩ 0])) (hS6 : Heap.get H ⟨d, 6, 0 :: 1 :: p⟩ = some (.box [.own 9 (fs.map Field.dv) none])) (hS : Heap.get H ⟨d0, t0, g0⟩ = some (gbox l k2)) => ca_withN hge (d := d) (dst := dst) (S := ⟨T, H, g⟩) d0 t0 g0 d 4 (0 :: p) 6 (0 :: 1 :: p) (by decide) (by omega) (Nat.le_refl _) h (3) [1] (by simp) fs hfs l k2 (hbnd _ (by simp)) hl hr hn hx hS4 hS6 hS
          simp only [List.map_cons, List.map_nil, Exp.dv_mk, Val.zero] at fw
          generalize gargs (gexpr fs l n) [1] k2 = y at *
          rw [Exp.dv_mk]
          simp only [Val.zero]
          simp only [amr, amc, amp, if_true, if_false, ne_eq, gt_iff_lt, Option.getD, argsT, Option.bind, Option.map, List.headD, List.tail, opnsL, List.replicate, lendsL, seval, ty_FmD_43, fn, fw, suf1 hg0, suf2 hg0, suf3 hg0, suf4 hg0, suf5 hg0, suf6 hg0, hs0, Raw.dv, e1, e2, hd1, upd, Option.getD_none, Option.getD_some, soft_d, b0, p1, p2, p3, p4, b1, b2, b3, b4]
        · have b4 : (pick r.b 7 == 0) = false := beq_eq_false_iff_ne.2 c4
          by_cases c5 : pick r.b 7 = 1
          · have b5 : (pick r.b 7 == 1) = true := beq_iff_eq.2 c5
            have hsh : gshape kind r = (18, [3]) := by unfold gshape; simp [c2, c3, c4, c5]
            rw [hsh]
            have fw := fun (T : Tm) (g : List Nat) (H : Heap) (dst : Nat) (hx : ((0 :: g) <:+ g0) = False) (hS4 : Heap.get H ⟨d, 4, 0 :: p⟩ = some (.box [.ptr ⟨d0, t0, g0⟩ 0])) (hS6 : Heap.get H ⟨d, 6, 0 :: 1 :: p⟩ = some (.box [.own 9 (fs.map Field.dv) none])) (hS : Heap.get H ⟨d0, t0, g0⟩ = some (gbox l k2)) => ca_withN hge (d := d) (dst := dst) (S := ⟨T, H, g⟩) d0 t0 g0 d 4 (0 :: p) 6 (0 :: 1 :: p) (by decide) (by omega) (Nat.le_refl _) h (18) [3] (by simp) fs hfs l k2 (hbnd _ (by simp)) hl hr hn hx hS4 hS6 hS
            simp only [List.map_cons, List.map_nil, Exp.dv_mk, Val.zero] at fw
            generalize gargs (gexpr fs l n) [3] k2 = y at *
            rw [Exp.dv_mk]
            simp only [Val.zero]
            simp only [amr, amc, amp, if_true, if_false, ne_eq, gt_iff_lt, Option.getD, argsT, Option.bind, Option.map, List.headD, List.tail, opnsL, List.replicate, lendsL, seval, ty_FmD_43, fn, fw, suf1 hg0, suf2 hg0, suf3 hg0, suf4 hg0, suf5 hg0, suf6 hg0, hs0, Raw.dv, e1, e2, hd1, upd, Option.getD_none, Option.getD_some, soft_d, b0, p1, p2, p3, p4, b1, b2, b3, b4, b5]
          · have b5 : (pick r.b 7 == 1) = false := beq_eq_false_iff_ne.2 c5
            have hsh : gshape kind r = (5 + (pick r.b 7 - 2), [1, 1]) := by unfold gshape; simp [c2, c3, c4, c5]
            have w1 : IntKind.i64.wrap (pick r.b 7 - 2) = pick r.b 7 - 2 := wrap_in (by omega) (by omega)
            have j1 : (0 ≤ pick r.b 7 - 2) = True := eq_true (by omega)
            have j2 : (pick r.b 7 - 2 < 5) = True := eq_true (by omega)
            have hq : ([DV.int .i64 5, DV.int .i64 6, DV.int .i64 7, DV.int .i64 8, DV.int .i64 9])[(pick r.b 7 - 2).toNat]? = some (.int .i64 (5 + (pick r.b 7 - 2))) := by
              have : pick r.b 7 = 2 ∨ pick r.b 7 = 3 ∨ pick r.b 7 = 4 ∨ pick r.b 7 = 5 ∨ pick r.b 7 = 6 := by omega
              rcases this with e | e | e | e | e <;> rw [e] <;> rfl
            rw [hsh]
            have fw := fun (T : Tm) (g : List Nat) (H : Heap) (dst : Nat) (hx : ((0 :: g) <:+ g0) = False) (hS4 : Heap.get H ⟨d, 4, 0 :: p⟩ = some (.box [.ptr ⟨d0, t0, g0⟩ 0])) (hS6 : Heap.get H ⟨d, 6, 0 :: 1 :: p⟩ = some (.box [.own 9 (fs.map Field.dv) none])) (hS : Heap.get H ⟨d0, t0, g0⟩ = some (gbox l k2)) => ca_withN hge (d := d) (dst := dst) (S := ⟨T, H, g⟩) d0 t0 g0 d 4 (0 :: p) 6 (0 :: 1 :: p) (by decide) (by omega) (Nat.le_refl _) h (5 + (pick r.b 7 - 2)) [1, 1] (by simp) fs hfs l k2 (hbnd _ (by simp)) hl hr hn hx hS4 hS6 hS
            simp only [List.map_cons, List.map_nil, Exp.dv_mk, Val.zero] at fw
            generalize gargs (gexpr fs l n) [1, 1] k2 = y at *
            rw [Exp.dv_mk]
            simp only [Val.zero]
            simp only [amr, amc, amp, if_true, if_false, ne_eq, gt_iff_lt, Option.getD, argsT, Option.bind, Option.map, List.headD, List.tail, opnsL, List.replicate, lendsL, seval, ty_FmD_43, fn, fw, suf1 hg0, suf2 hg0, suf3 hg0, suf4 hg0, suf5 hg0, suf6 hg0, hs0, Raw.dv, e1, e2, hd1, upd, Option.getD_none, Option.getD_some, soft_d, b0, p1, p2, p3, p4, b1, b2, b3, b4, b5, w1, j1, j2, hq]
      · have b3 : (kind == 1) = false := beq_eq_false_iff_ne.2 c3
        by_cases c4 : kind = 2
        · have b4 : (kind == 2) = true := beq_iff_eq.2 c4
          by_cases c5 : pick r.b 7 = 0
          · have b5 : (pick r.b 7 == 0) = true := beq_iff_eq.2 c5
            have hsh : gshape kind r = (4, [2]) := by unfold gshape; simp [c2, c3, c4, c5]
            rw [hsh]
            have fw := fun (T : Tm) (g : List Nat) (H : Heap) (dst : Nat) (hx : ((0 :: g) <:+ g0) = False) (hS4 : Heap.get H ⟨d, 4, 0 :: p⟩ = some (.box [.ptr ⟨d0, t0, g0⟩ 0])) (hS6 : Heap.get H ⟨d, 6, 0 :: 1 :: p⟩ = some (.box [.own 9 (fs.map Field.dv) none])) (hS : Heap.get H ⟨d0, t0, g0⟩ = some (gbox l k2)) => ca_withN hge (d := d) (dst := dst) (S := ⟨T, H, g⟩) d0 t0 g0 d 4 (0 :: p) 6 (0 :: 1 :: p) (by decide) (by omega) (Nat.le_refl _) h (4) [2] (by simp) fs hfs l k2 (hbnd _ (by simp)) hl hr hn hx hS4 hS6 hS
            simp only [List.map_cons, List.map_nil, Exp.dv_mk, Val.zero] at fw
            generalize gargs (gexpr fs l n) [2] k2 = y at *
            rw [Exp.dv_mk]
            simp only [Val.zero]
            simp only [amr, amc, amp, if_true, if_false, ne_eq, gt_iff_lt, Option.getD, argsT, Option.bind, Option.map, List.headD, List.tail, opnsL, List.replicate, lendsL, seval, ty_FmD_43, fn, fw, suf1 hg0, suf2 hg0, suf3 hg0, suf4 hg0, suf5 hg0, suf6 hg0, hs0, Raw.dv, e1, e2, hd1, upd, Option.getD_none, Option.getD_some, soft_d, b0, p1, p2, p3, p4, b1, b2, b3, b4, b5]
          · have b5 : (pick r.b 7 == 0) = false := beq_eq_false_iff_ne.2 c5
            by_cases c6 : pick r.b 7 < 3
            · have b6 : decide (pick r.b 7 < 3) = true := decide_eq_true c6
              have hsh : gshape kind r = (15 + pick r.b 7 - 1, [2, 2]) := by unfold gshape; simp [c2, c3, c4, c5, c6]
              have w1 : IntKind.i64.wrap (15 + pick r.b 7) = 15 + pick r.b 7 := wrap_in (by omega) (by omega)
              have w2 : IntKind.i64.wrap (15 + pick r.b 7 - 1) = 15 + pick r.b 7 - 1 := wrap_in (by omega) (by omega)
              rw [hsh]
              have fw := fun (T : Tm) (g : List Nat) (H : Heap) (dst : Nat) (hx : ((0 :: g) <:+ g0) = False) (hS4 : Heap.get H ⟨d, 4, 0 :: p⟩ = some (.box [.ptr ⟨d0, t0, g0⟩ 0])) (hS6 : Heap.get H ⟨d, 6, 0 :: 1 :: p⟩ = some (.box [.own 9 (fs.map Field.dv) none])) (hS : Heap.get H ⟨d0, t0, g0⟩ = some (gbox l k2)) => ca_withN hge (d := d) (dst := dst) (S := ⟨T, H, g⟩) d0 t0 g0 d 4 (0 :: p) 6 (0 :: 1 :: p) (by decide) (by omega) (Nat.le_refl _) h (15 + pick r.b 7 - 1) [2, 2] (by simp) fs hfs l k2 (hbnd _ (by simp)) hl hr hn hx hS4 hS6 hS
              simp only [List.map_cons, List.map_nil, Exp.dv_mk, Val.zero] at fw
              generalize gargs (gexpr fs l n) [2, 2] k2 = y at *
              rw [Exp.dv_mk]
              simp only [Val.zero]
              simp only [amr, amc, amp, if_true, if_false, ne_eq, gt_iff_lt, Option.getD, argsT, Option.bind, Option.map, List.headD, List.tail, opnsL, List.replicate, lendsL, seval, ty_FmD_43, fn, fw, suf1 hg0, suf2 hg0, suf3 hg0, suf4 hg0, suf5 hg0, suf6 hg0, hs0, Raw.dv, e1, e2, hd1, upd, Option.getD_none, Option.getD_some, soft_d, b0, p1, p2, p3, p4, b1, b2, b3, b4, b5, b6, w1, w2]
            · have b6 : decide (pick r.b 7 < 3) = false := decide_eq_false c6
              have hsh : gshape kind r = (11 + pick r.b 7 - 3, [1 + pick r.a 3, 1 + pick r.a 3]) := by unfold gshape; simp [c2, c3, c4, c5, c6]
              have w1 : IntKind.i64.wrap (11 + pick r.b 7) = 11 + pick r.b 7 := wrap_in (by omega) (by omega)
              have w2 : IntKind.i64.wrap (11 + pick r.b 7 - 3) = 11 + pick r.b 7 - 3 := wrap_in (by omega) (by omega)
              have w3 : IntKind.i64.wrap (1 + pick r.a 3) = 1 + pick r.a 3 := wrap_in (by omega) (by omega)
              rw [hsh]
              have fw := fun (T : Tm) (g : List Nat) (H : Heap) (dst : Nat) (hx : ((0 :: g) <:+ g0) = False) (hS4 : Heap.get H ⟨d, 4, 0 :: p⟩ = some (.box [.ptr ⟨d0, t0, g0⟩ 0])) (hS6 : Heap.get H ⟨d, 6, 0 :: 1 :: p⟩ = some (.box [.own 9 (fs.map Field.dv) none])) (hS : Heap.get H ⟨d0, t0, g0⟩ = some (gbox l k2)) => ca_withN hge (d := d) (dst := dst) (S := ⟨T, H, g⟩) d0 t0 g0 d 4 (0 :: p) 6 (0 :: 1 :: p) (by decide) (by omega) (Nat.le_refl _) h (11 + pick r.b 7 - 3) [1 + pick r.a 3, 1 + pick r.a 3] (by simp) fs hfs l k2 (hbnd _ (by simp)) hl hr hn hx hS4 hS6 hS
              simp only [List.map_cons, List.map_nil, Exp.dv_mk, Val.zero] at fw
              generalize gargs (gexpr fs l n) [1 + pick r.a 3, 1 + pick r.a 3] k2 = y at *
              rw [Exp.dv_mk]
              simp only [Val.zero]
              simp only [amr, amc, amp, if_true, if_false, ne_eq, gt_iff_lt, Option.getD, argsT, Option.bind, Option.map, List.headD, List.tail, opnsL, List.replicate, lendsL, seval, ty_FmD_43, fn, fw, suf1 hg0, suf2 hg0, suf3 hg0, suf4 hg0, suf5 hg0, suf6 hg0, hs0, Raw.dv, e1, e2, hd1, upd, Option.getD_none, Option.getD_some, soft_d, b0, p1, p2, p3, p4, b1, b2, b3, b4, b5, b6, w1, w2, w3]
        · have b4 : (kind == 2) = false := beq_eq_false_iff_ne.2 c4
          have hsh : gshape kind r = (10, [3, 3]) := by unfold gshape; simp [c2, c3, c4]
          rw [hsh]
          have fw := fun (T : Tm) (g : List Nat) (H : Heap) (dst : Nat) (hx : ((0 :: g) <:+ g0) = False) (hS4 : Heap.get H ⟨d, 4, 0 :: p⟩ = some (.box [.ptr ⟨d0, t0, g0⟩ 0])) (hS6 : Heap.get H ⟨d, 6, 0 :: 1 :: p⟩ = some (.box [.own 9 (fs.map Field.dv) none])) (hS : Heap.get H ⟨d0, t0, g0⟩ = some (gbox l k2)) => ca_withN hge (d := d) (dst := dst) (S := ⟨T, H, g⟩) d0 t0 g0 d 4 (0 :: p) 6 (0 :: 1 :: p) (by decide) (by omega) (Nat.le_refl _) h (10) [3, 3] (by simp) fs hfs l k2 (hbnd _ (by simp)) hl hr hn hx hS4 hS6 hS
          simp only [List.map_cons, List.map_nil, Exp.dv_mk, Val.zero] at fw
          generalize gargs (gexpr fs l n) [3, 3] k2 = y at *
          rw [Exp.dv_mk]
          simp only [Val.zero]
          simp only [amr, amc, amp, if_true, if_false, ne_eq, gt_iff_lt, Option.getD, argsT, Option.bind, Option.map, List.headD, List.tail, opnsL, List.replicate, lendsL, seval, ty_FmD_43, fn, fw, suf1 hg0, suf2 hg0, suf3 hg0, suf4 hg0, suf5 hg0, suf6 hg0, hs0, Raw.dv, e1, e2, hd1, upd, Option.getD_none, Option.getD_some, soft_d, b0, p1, p2, p3, p4, b1, b2, b3, b4]
theorem expr_okN : ∀ n : Nat, n ≤ 1000 → ExprOKN n
  | 0, _ => expr_ok0N
  | n + 1, h => expr_okSN (expr_okN n (by omega)) (by omega)
theorem ca_withA {deep : Nat} (hge : ExprOKA deep) {d dst : Nat} {S : St} (d0 t0 : Nat) (g0 : List Nat) (d4 t4 : Nat) (g4 : List Nat) (t6 : Nat) (g6 : List Nat) (h46 : t4 ≠ t6) (t1 : Nat) (g1 : List Nat) (ht : t0 ≠ t1) (h : d0 ≤ d) (h4 : d4 ≤ d) (h04 : d0 < d4) (op : Int) (ks : List Int) (hks : ks.length ≤ 3) (fs : List Field) (hfs : fs.length ≤ 1048576) (l : List Raw) (k : Nat) (hk : k + ks.length * 4 ^ (deep + 2) ≤ 4611686018427387904) (hl : l.length ≤ 9223372036854775807) (hr : ∀ r ∈ l, r.ok) (hd2 : deep ≤ 1000)
    (hg0 : ((0 :: S.g) <:+ g0) = False) (hg1 : ((0 :: S.g) <:+ g1) = False) (hS4 : S.H.get ⟨d4, t4, g4⟩ = some (.box [.ptr ⟨d0, t0, g0⟩ 0])) (hS6 : S.H.get ⟨d4, t6, g6⟩ = some (.box [.arr ⟨d0, t1, g1⟩ 0 fs.length 9])) (hS : S.H.get ⟨d0, t0, g0⟩ = some (gbox l k)) (hF : S.H.get ⟨d0, t1, g1⟩ = some (fbox fs)) :
    callA tab (callR tab) d dst 80 [.d (.int .i64 op), .own 1 (ks.map (fun k => DV.int .i64 k)) none, .ptr ⟨d4, t4, g4⟩ 0, .ptr ⟨d4, t6, g6⟩ 0, .d (.rp [.int .i64 ((deep : Int) + 1)])] S =
      some (.d (Exp.mk op Val.zero [] (gargs (gexpr fs l deep) ks k).1).dv, ⟨S.T, upd [(⟨d4, t4, g4⟩, .box [.ptr ⟨d0, t0, g0⟩ 0]), (⟨d4, t6, g6⟩, .box [.arr ⟨d0, t1, g1⟩ 0 fs.length 9]), (⟨d0, t0, g0⟩, gbox l (gargs (gexpr fs l deep) ks k).2), (⟨d0, t1, g1⟩, fbox fs)] S.H, 1 :: S.g⟩) := by
  obtain ⟨x, H', h1, h2, h3, h5, h6, h7⟩ := run_withA hge (p := 0 :: S.g) d0 t0 g0 d4 t4 g4 t6 g6 h46 t1 g1 ht (Nat.lt_succ_of_le h) (Nat.lt_succ_of_le h4) h04 (of_eq_false hg0) (of_eq_false hg1) op ks hks fs hfs l k hk hl hr hd2
  have n46 : (⟨d4, t4, g4⟩ : Id) ≠ ⟨d4, t6, g6⟩ := fun e => h46 (by injection e)
  have n40 : (⟨d4, t4, g4⟩ : Id) ≠ ⟨d0, t0, g0⟩ := fun e => by injection e with e1 _ _; omega
  have n41 : (⟨d4, t4, g4⟩ : Id) ≠ ⟨d0, t1, g1⟩ := fun e => by injection e with e1 _ _; omega
  have n64 : (⟨d4, t6, g6⟩ : Id) ≠ ⟨d4, t4, g4⟩ := fun e => h46 (by injection e with _ e _; exact e.symm)
  have n60 : (⟨d4, t6, g6⟩ : Id) ≠ ⟨d0, t0, g0⟩ := fun e => by injection e with e1 _ _; omega
  have n61 : (⟨d4, t6, g6⟩ : Id) ≠ ⟨d0, t1, g1⟩ := fun e => by injection e with e1 _ _; omega
  have n04 : (⟨d0, t0, g0⟩ : Id) ≠ ⟨d4, t4, g4⟩ := fun e => by injection e with e1 _ _; omega
  have n06 : (⟨d0, t0, g0⟩ : Id) ≠ ⟨d4, t6, g6⟩ := fun e => by injection e with e1 _ _; omega
  have n01 : (⟨d0, t0, g0⟩ : Id) ≠ ⟨d0, t1, g1⟩ := fun e => ht (by injection e)
  have n14 : (⟨d0, t1, g1⟩ : Id) ≠ ⟨d4, t4, g4⟩ := fun e => by injection e with e1 _ _; omega
  have n16 : (⟨d0, t1, g1⟩ : Id) ≠ ⟨d4, t6, g6⟩ := fun e => by injection e with e1 _ _; omega
  have n10 : (⟨d0, t1, g1⟩ : Id) ≠ ⟨d0, t0, g0⟩ := fun e => ht (by injection e with _ e _; exact e.symm)
  have w0 : within [⟨d4, t4, g4⟩, ⟨d4, t6, g6⟩] S.H = [(⟨d4, t4, g4⟩, .box [.ptr ⟨d0, t0, g0⟩ 0]), (⟨d4, t6, g6⟩, .box [.arr ⟨d0, t1, g1⟩ 0 fs.length 9])] := by simp [within, hS4, hS6]
  have w2 : within [(⟨d4, t4, g4⟩ : Id), ⟨d4, t6, g6⟩, ⟨d0, t0, g0⟩, ⟨d0, t1, g1⟩] S.H = [(⟨d4, t4, g4⟩, .box [.ptr ⟨d0, t0, g0⟩ 0]), (⟨d4, t6, g6⟩, .box [.arr ⟨d0, t1, g1⟩ 0 fs.length 9]), (⟨d0, t0, g0⟩, gbox l k), (⟨d0, t1, g1⟩, fbox fs)] := by simp [within, hS4, hS6, hS, hF]
  have hids : ∀ n, idsH [(⟨d4, t4, g4⟩, .box [.ptr ⟨d0, t0, g0⟩ 0]), (⟨d4, t6, g6⟩, .box [.arr ⟨d0, t1, g1⟩ 0 fs.length 9]), (⟨d0, t0, g0⟩, gbox l n), (⟨d0, t1, g1⟩, fbox fs)] = [⟨d0, t0, g0⟩, ⟨d0, t1, g1⟩] := fun n => by
    have hg : idsP (gbox l n) = [] := rfl
    have hf : idsP (fbox fs) = [] := ids_flat _
    simp only [idsH, hg, hf]
    rfl
  have hall : ([⟨d0, t0, g0⟩, ⟨d0, t1, g1⟩] : List Id).all (fun i => [(⟨d4, t4, g4⟩ : Id), ⟨d4, t6, g6⟩, ⟨d0, t0, g0⟩, ⟨d0, t1, g1⟩].contains i) = true := by simp
  refine ca_open (W0 := [(⟨d4, t4, g4⟩, .box [.ptr ⟨d0, t0, g0⟩ 0]), (⟨d4, t6, g6⟩, .box [.arr ⟨d0, t1, g1⟩ 0 fs.length 9]), (⟨d0, t0, g0⟩, gbox l k), (⟨d0, t1, g1⟩, fbox fs)]) (W := [(⟨d4, t4, g4⟩, .box [.ptr ⟨d0, t0, g0⟩ 0]), (⟨d4, t6, g6⟩, .box [.arr ⟨d0, t1, g1⟩ 0 fs.length 9]), (⟨d0, t0, g0⟩, gbox l (gargs (gexpr fs l deep) ks k).2), (⟨d0, t1, g1⟩, fbox fs)]) (by split <;> rfl) (lent_off (tab_lend (by kernel_rfl))) ?_ w2 (by rw [hids]; exact hall) ⟨x, H', h1, h2, fun i hi => ?_⟩ rfl rfl ?_
  · have ha0 : addIds [] (idsL [AV.d (.int .i64 op), .own 1 (ks.map (fun k => DV.int .i64 k)) none, .ptr ⟨d4, t4, g4⟩ 0, .ptr ⟨d4, t6, g6⟩ 0, .d (.rp [.int .i64 ((deep : Int) + 1)])]) = [⟨d4, t4, g4⟩, ⟨d4, t6, g6⟩] := by
      show addIds [] [(⟨d4, t4, g4⟩ : Id), ⟨d4, t6, g6⟩] = _
      simp [addIds, n64]
    rw [ha0]
    unfold reach
    rw [w0]
    have hi0 : idsH [(⟨d4, t4, g4⟩, Place.box [AV.ptr ⟨d0, t0, g0⟩ 0]), (⟨d4, t6, g6⟩, .box [.arr ⟨d0, t1, g1⟩ 0 fs.length 9])] = [⟨d0, t0, g0⟩, ⟨d0, t1, g1⟩] := rfl
    rw [hi0]
    have hno : ([⟨d0, t0, g0⟩, ⟨d0, t1, g1⟩] : List Id).all (fun i => [(⟨d4, t4, g4⟩ : Id), ⟨d4, t6, g6⟩].contains i) = false := by simp [n46, n40, n41, n64, n60, n61, n04, n06, n01, n14, n16, n10]
    rw [hno]
    simp only [Bool.false_eq_true, if_false]
    have ha : addIds [(⟨d4, t4, g4⟩ : Id), ⟨d4, t6, g6⟩] [⟨d0, t0, g0⟩, ⟨d0, t1, g1⟩] = [(⟨d4, t4, g4⟩ : Id), ⟨d4, t6, g6⟩, ⟨d0, t0, g0⟩, ⟨d0, t1, g1⟩] := by simp [addIds, n46, n40, n41, n64, n60, n61, n04, n06, n01, n14, n16, n10]
    rw [ha]
    unfold reach
    rw [w2, hids, if_pos hall]
    rfl
  · have : i = ⟨d4, t4, g4⟩ ∨ i = ⟨d4, t6, g6⟩ ∨ i = ⟨d0, t0, g0⟩ ∨ i = ⟨d0, t1, g1⟩ := by simpa [Am.keys] using hi
    rcases this with rfl | rfl | rfl | rfl
    · rw [h3]; simp [Heap.get, n46, n40, n41, n64, n60, n61, n04, n06, n01, n14, n16, n10]
    · rw [h5]; simp [Heap.get, n46, n40, n41, n64, n60, n61, n04, n06, n01, n14, n16, n10]
    · rw [h6]; simp [Heap.get, n46, n40, n41, n64, n60, n61, n04, n06, n01, n14, n16, n10]
    · rw [h7]; simp [Heap.get, n46, n40, n41, n64, n60, n61, n04, n06, n01, n14, n16, n10]
  · have : within (Am.keys [(⟨d4, t4, g4⟩, .box [.ptr ⟨d0, t0, g0⟩ 0]), (⟨d4, t6, g6⟩, .box [.arr ⟨d0, t1, g1⟩ 0 fs.length 9]), (⟨d0, t0, g0⟩, gbox l k), (⟨d0, t1, g1⟩, fbox fs)]) [(⟨d4, t4, g4⟩, .box [.ptr ⟨d0, t0, g0⟩ 0]), (⟨d4, t6, g6⟩, .box [.arr ⟨d0, t1, g1⟩ 0 fs.length 9]), (⟨d0, t0, g0⟩, gbox l (gargs (gexpr fs l deep) ks k).2), (⟨d0, t1, g1⟩, fbox fs)] = [(⟨d4, t4, g4⟩, .box [.ptr ⟨d0, t0, g0⟩ 0]), (⟨d4, t6, g6⟩, .box [.arr ⟨d0, t1, g1⟩ 0 fs.length 9]), (⟨d0, t0, g0⟩, gbox l (gargs (gexpr fs l deep) ks k).2), (⟨d0, t1, g1⟩, fbox fs)] := by
      simp [Am.keys, within, Heap.get, n46, n40, n41, n64, n60, n61, n04, n06, n01, n14, n16, n10]
    rw [this, hids]
    exact hall
theorem expr_ok0A : ExprOKA 0 := by
  intro d p d0 t0 g0 t1 g1 h hg0 ht hg1 kind fs hfs l k hk hl hr
  have e1 : (d0 = d) = False := eq_false (by omega)
  have e2 : (d = d0) = False := eq_false (by omega)
  have hd1 : decide (d0 < d) = true := decide_eq_true h
  have hs0 : (p <:+ g0) = False := eq_false hg0
  have hs1 : (p <:+ g1) = False := eq_false hg1
  have ht1 : (t0 = t1) = False := eq_false ht
  have ht2 : (t1 = t0) = False := eq_false (fun e => ht e.symm)
  have hk1 := gat_le l k
  refine retq_good 1 fn43 rfl rfl ?_
  have fn := fun (T : Tm) (g : List Nat) (H : Heap) (dst : Nat) (hx : ((0 :: g) <:+ g0) = False) (hS : Heap.get H ⟨d0, t0, g0⟩ = some (gbox l k)) => ca_next (d := d) (dst := dst) (S := ⟨T, H, g⟩) d0 t0 g0 l k (by omega) hl (by omega) hx hS
  have fl := fun (T : Tm) (g : List Nat) (H : Heap) (dst : Nat) (hx : ((0 :: g) <:+ g0) = False) (hx1 : ((0 :: g) <:+ g1) = False) (hS : Heap.get H ⟨d0, t0, g0⟩ = some (gbox l (gat l k))) (hF : Heap.get H ⟨d0, t1, g1⟩ = some (fbox fs)) => ca_leafA (d := d) (dst := dst) (S := ⟨T, H, g⟩) d0 t0 g0 t1 g1 ht (by omega) kind fs hfs l (gat l k) (by omega) hl hr hx hx1 hS hF
  have hge : gexpr fs l 0 kind k = (gleafE kind fs (gnext l (gat l k)), gat l (gat l k)) := rfl
  rw [hge]
  simp only [Exp.dv_eq (gleafE kind fs (gnext l (gat l k)))] at fl ⊢
  generalize gleafE kind fs (gnext l (gat l k)) = E at *
  generalize gnext l k = r at *
  generalize gat l (gat l k) = k3 at *
  generalize gat l k = k2 at *
  simp only [amr, amc, amp, if_true, if_false, ne_eq, gt_iff_lt, Option.getD, argsT, Option.bind, Option.map, List.headD, List.tail, opnsL, List.replicate, lendsL, seval, ty_FmD_43, fn, fl, suf1 hg0, suf2 hg0, suf3 hg0, suf4 hg0, suf5 hg0, suf6 hg0, hs0, nt_arr, ac_arr, cap_arr, plainD_arr, suf1 hg1, suf2 hg1, suf3 hg1, suf4 hg1, suf5 hg1, suf6 hg1, hs1, ht1, ht2, Raw.dv, e1, e2, hd1, upd, Option.getD_none, Option.getD_some, soft_d, Int.le_refl, Int.natCast_zero, Int.cast_ofNat_Int]
theorem expr_okSA {n : Nat} (hge : ExprOKA n) (hn : n ≤ 1000) : ExprOKA (n + 1) := by
  intro d p d0 t0 g0 t1 g1 h hg0 ht hg1 kind fs hfs l k hk hl hr
  have e1 : (d0 = d) = False := eq_false (by omega)
  have e2 : (d = d0) = False := eq_false (by omega)
  have hd1 : decide (d0 < d) = true := decide_eq_true h
  have hs0 : (p <:+ g0) = False := eq_false hg0
  have hs1 : (p <:+ g1) = False := eq_false hg1
  have ht1 : (t0 = t1) = False := eq_false ht
  have ht2 : (t1 = t0) = False := eq_false (fun e => ht e.symm)
  have hk1 := gat_le l k
  have h7 : 4 ^ (n + 1 + 2) = 4 * 4 ^ (n + 2) := by rw [show n + 1 + 2 = (n + 2) + 1 by omega, Nat.pow_succ, Nat.mul_comm]
  have h8 : 16 ≤ 4 ^ (n + 2) := by
    have := Nat.pow_le_pow_right (n := 4) (by decide) (show 2 ≤ n + 2 by omega)
    simpa using this
  have hbnd : ∀ m : Nat, m ≤ 3 → gat l k + m * 4 ^ (n + 2) ≤ 4611686018427387904 := fun m hm => by
    have := Nat.mul_le_mul_right (4 ^ (n + 2)) hm
    omega
  refine retq_good 1 fn43 rfl rfl ?_
  have fn := fun (T : Tm) (g : List Nat) (H : Heap) (dst : Nat) (hx : ((0 :: g) <:+ g0) = False) (hS : Heap.get H ⟨d0, t0, g0⟩ = some (gbox l k)) => ca_next (d := d) (dst := dst) (S := ⟨T, H, g⟩) d0 t0 g0 l k (by omega) hl (by omega) hx hS
  have hc : (((n + 1 : Nat)) : Int) = (n : Int) + 1 := by omega
  rw [hc]
  have b0 : decide ((n : Int) + 1 ≤ 0) = false := decide_eq_false (by omega)
  have hrk := gnext_ok hr k
  have hG : gexpr fs l (n + 1) kind k = if pick (gnext l k).kind 3 = 0 then (gleafE kind fs (gnext l (gat l k)), gat l (gat l k)) else
    (.mk (gshape kind (gnext l k)).1 Val.zero [] (gargs (gexpr fs l n) (gshape kind (gnext l k)).2 (gat l k)).1, (gargs (gexpr fs l n) (gshape kind (gnext l k)).2 (gat l k)).2) := rfl
  rw [hG]
  have p1 := fun (S : St) (d dst : Nat) => ca_picked (d := d) (dst := dst) (S := S) (gnext l k).kind 3 (by decide)
  have p2 := fun (S : St) (d dst : Nat) => ca_picked (d := d) (dst := dst) (S := S) (gnext l k).a 6 (by decide)
  have p3 := fun (S : St) (d dst : Nat) => ca_picked (d := d) (dst := dst) (S := S) (gnext l k).b 7 (by decide)
  have p4 := fun (S : St) (d dst : Nat) => ca_picked (d := d) (dst := dst) (S := S) (gnext l k).a 3 (by decide)
  have q3 := pick_range (gnext l k).b 7 hrk.b.1 hrk.b.2 (by decide)
  have q4 := pick_range (gnext l k).a 3 hrk.a.1 hrk.a.2 (by decide)
  have fl := fun (T : Tm) (g : List Nat) (H : Heap) (dst : Nat) (hx : ((0 :: g) <:+ g0) = False) (hx1 : ((0 :: g) <:+ g1) = False) (hS : Heap.get H ⟨d0, t0, g0⟩ = some (gbox l (gat l k))) (hF : Heap.get H ⟨d0, t1, g1⟩ = some (fbox fs)) => ca_leafA (d := d) (dst := dst) (S := ⟨T, H, g⟩) d0 t0 g0 t1 g1 ht (by omega) kind fs hfs l (gat l k) (by omega) hl hr hx hx1 hS hF
  simp only [Exp.dv_eq (gleafE kind fs (gnext l (gat l k)))] at fl
  by_cases c1 : pick (gnext l k).kind 3 = 0
  · rw [if_pos c1]
    rw [c1] at p1
    simp only [Exp.dv_eq (gleafE kind fs (gnext l (gat l k)))]
    generalize gleafE kind fs (gnext l (gat l k)) = E at *
    generalize gnext l k = r at *
    generalize gat l (gat l k) = k3 at *
    generalize gat l k = k2 at *
    simp only [amr, amc, amp, if_true, if_false, ne_eq, gt_iff_lt, Option.getD, argsT, Option.bind, Option.map, List.headD, List.tail, opnsL, List.replicate, lendsL, seval, ty_FmD_43, fn, fl, suf1 hg0, suf2 hg0, suf3 hg0, suf4 hg0, suf5 hg0, suf6 hg0, hs0, nt_arr, ac_arr, cap_arr, plainD_arr, suf1 hg1, suf2 hg1, suf3 hg1, suf4 hg1, suf5 hg1, suf6 hg1, hs1, ht1, ht2, Raw.dv, e1, e2, hd1, upd, Option.getD_none, Option.getD_some, soft_d, b0, p1, beq_self_eq_true]
  · rw [if_neg c1]
    have b1 : (pick (gnext l k).kind 3 == 0) = false := beq_eq_false_iff_ne.2 c1
    clear fl hG hk1
    generalize gnext l k = r at *
    generalize gat l k = k2 at *
    by_cases c2 : pick r.a 6 = 0
    · have b2 : (pick r.a 6 == 0) = true := beq_iff_eq.2 c2
      have hsh : gshape kind r = (17, [2, kind, kind]) := by unfold gshape; simp [c2]
      rw [hsh]
      have fw := fun (T : Tm) (g : List Nat) (H : Heap) (dst : Nat) (hx : ((0 :: g) <:+ g0) = False) (hx1 : ((0 :: g) <:+ g1) = False) (hS4 : Heap.get H ⟨d, 4, 0 :: p⟩ = some (.box [.ptr ⟨d0, t0, g0⟩ 0])) (hS6 : Heap.get H ⟨d, 6, 0 :: 1 :: p⟩ = some (.box [.arr ⟨d0, t1, g1⟩ 0 fs.length 9])) (hS : Heap.get H ⟨d0, t0, g0⟩ = some (gbox l k2)) (hF : Heap.get H ⟨d0, t1, g1⟩ = some (fbox fs)) => ca_withA hge (d := d) (dst := dst) (S := ⟨T, H, g⟩) d0 t0 g0 d 4 (0 :: p) 6 (0 :: 1 :: p) (by decide) t1 g1 ht (by omega) (Nat.le_refl _) h (17) [2, kind, kind] (by simp) fs hfs l k2 (hbnd _ (by simp)) hl hr hn hx hx1 hS4 hS6 hS hF
      simp only [List.map_cons, List.map_nil, Exp.dv_mk, Val.zero] at fw
      generalize gargs (gexpr fs l n) [2, kind, kind] k2 = y at *
      rw [Exp.dv_mk]
      simp only [Val.zero]
      simp only [amr, amc, amp, if_true, if_false, ne_eq, gt_iff_lt, Option.getD, argsT, Option.bind, Option.map, List.headD, List.tail, opnsL, List.replicate, lendsL, seval, ty_FmD_43, fn, fw, suf1 hg0, suf2 hg0, suf3 hg0, suf4 hg0, suf5 hg0, suf6 hg0, hs0, nt_arr, ac_arr, cap_arr, plainD_arr, suf1 hg1, suf2 hg1, suf3 hg1, suf4 hg1, suf5 hg1, suf6 hg1, hs1, ht1, ht2, Raw.dv, e1, e2, hd1, upd, Option.getD_none, Option.getD_some, soft_d, b0, p1, p2, p3, p4, b1, b2]
    · have b2 : (pick r.a 6 == 0) = false := beq_eq_false_iff_ne.2 c2
      by_cases c3 : kind = 1
      · have b3 : (kind == 1) = true := beq_iff_eq.2 c3
        by_cases c4 : pick r.b 7 = 0
        · have b4 : (pick r.b 7 == 0) = true := beq_iff_eq.2 c4
          have hsh : gshape kind r = (3, [1]) := by unfold gshape; simp [c2, c3, c4]
          rw [hsh]
          have fw := fun (T : Tm) (g : List Nat) (H : Heap) (dst : Nat) (hx : ((0 :: g) <:+ g0) = False) (hx1 : ((0 :: g) <:+ g1) = False) (hS4 : Heap.get H ⟨d, 4, 0 :: p⟩ = some (.box [.ptr ⟨d0, t0, g0⟩ 0])) (hS6 : Heap.get H ⟨d, 6, 0 :: 1 :: p⟩ = some (.box [.arr ⟨d0, t1, g1⟩ 0 fs.length 9])) (hS : Heap.get H ⟨d0, t0, g0⟩ = some (gbox l k2)) (hF : Heap.get H ⟨d0, t1, g1⟩ = some (fbox fs)) => ca_withA hge (d := d) (dst := dst) (S := ⟨T, H, g⟩) d0 t0 g0 d 4 (0 :: p) 6 (0 :: 1 :: p) (by decide) t1 g1 ht (by omega) (Nat.le_refl _) h (3) [1] (by simp) fs hfs l k2 (hbnd _ (by simp)) hl hr hn hx hx1 hS4 hS6 hS hF
          simp only [List.map_cons, List.map_nil, Exp.dv_mk, Val.zero] at fw
          generalize gargs (gexpr fs l n) [1] k2 = y at *
          rw [Exp.dv_mk]
          simp only [Val.zero]
          simp only [amr, amc, amp, if_true, if_false, ne_eq, gt_iff_lt, Option.getD, argsT, Option.bind, Option.map, List.headD, List.tail, opnsL, List.replicate, lendsL, seval, ty_FmD_43, fn, fw, suf1 hg0, suf2 hg0, suf3 hg0, suf4 hg0, suf5 hg0, suf6 hg0, hs0, nt_arr, ac_arr, cap_arr, plainD_arr, suf1 hg1, suf2 hg1, suf3 hg1, suf4 hg1, suf5 hg1, suf6 hg1, hs1, ht1, ht2, Raw.dv, e1, e2, hd1, upd, Option.getD_none, Option.getD_some, soft_d, b0, p1, p2, p3, p4, b1, b2, b3, b4]
        · have b4 : (pick r.b 7 == 0) = false := beq_eq_false_iff_ne.2 c4
          by_cases c5 : pick r.b 7 = 1
          · have b5 : (pick r.b 7 == 1) = true := beq_iff_eq.2 c5
            have hsh : gshape kind r = (18, [3]) := by unfold gshape; simp [c2, c3, c4, c5]
            rw [hsh]
            have fw := fun (T : Tm) (g : List Nat) (H : Heap) (dst : Nat) (hx : ((0 :: g) <:+ g0) = False) (hx1 : ((0 :: g) <:+ g1) = False) (hS4 : Heap.get H ⟨d, 4, 0 :: p⟩ = some (.box [.ptr ⟨d0, t0, g0⟩ 0])) (hS6 : Heap.get H ⟨d, 6, 0 :: 1 :: p⟩ = some (.box [.arr ⟨d0, t1, g1⟩ 0 fs.length 9])) (hS : Heap.get H ⟨d0, t0, g0⟩ = some (gbox l k2)) (hF : Heap.get H ⟨d0, t1, g1⟩ = some (fbox fs)) => ca_withA hge (d := d) (dst := dst) (S := ⟨T, H, g⟩) d0 t0 g0 d 4 (0 :: p) 6 (0 :: 1 :: p) (by decide) t1 g1 ht (by omega) (Nat.le_refl _) h (18) [3] (by simp) fs hfs l k2 (hbnd _ (by simp)) hl hr hn hx hx1 hS4 hS6 hS hF
            simp only [List.map_cons, List.map_nil, Exp.dv_mk, Val.zero] at fw
            generalize gargs (gexpr fs l n) [3] k2 = y at *
            rw [Exp.dv_mk]
            simp only [Val.zero]
            simp only [amr, amc, amp, if_true, if_false, ne_eq, gt_iff_lt, Option.getD, argsT, Option.bind, Option.map, List.headD, List.tail, opnsL, List.replicate, lendsL, seval, ty_FmD_43, fn, fw, suf1 hg0, suf2 hg0, suf3 hg0, suf4 hg0, suf5 hg0, suf6 hg0, hs0, nt_arr, ac_arr, cap_arr, plainD_arr, suf1 hg1, suf2 hg1, suf3 hg1, suf4 hg1, suf5 hg1, suf6 hg1, hs1, ht1, ht2, Raw.dv, e1, e2, hd1, upd, Option.getD_none, Option.getD_some, soft_d, b0, p1, p2, p3, p4, b1, b2, b3, b4, b5]
          · have b5 : (pick r.b 7 == 1) = false := beq_eq_false_iff_ne.2 c5
            have hsh : gshape kind r = (5 + (pick r.b 7 - 2), [1, 1]) := by unfold gshape; simp [c2, c3, c4, c5]
            have w1 : IntKind.i64.wrap (pick r.b 7 - 2) = pick r.b 7 - 2 := wrap_in (by omega) (by omega)
            have j1 : (0 ≤ pick r.b 7 - 2) = True := eq_true (by omega)
            have j2 : (pick r.b 7 - 2 < 5) = True := eq_true (by omega)
            have hq : ([DV.int .i64 5, DV.int .i64 6, DV.int .i64 7, DV.int .i64 8, DV.int .i64 9])[(pick r.b 7 - 2).toNat]? = some (.int .i64 (5 + (pick r.b 7 - 2))) := by
              have : pick r.b 7 = 2 ∨ pick r.b 7 = 3 ∨ pick r.b 7 = 4 ∨ pick r.b 7 = 5 ∨ pick r.b 7 = 6 := by omega
              rcases this with e | e | e | e | e <;> rw [e] <;> rfl
            rw [hsh]
            have fw := fun (T : Tm) (g : List Nat) (H : Heap) (dst : Nat) (hx : ((0 :: g) <:+ g0) = False) (hx1 : ((0 :: g) <:+ g1) = False) (hS4 : Heap.get H ⟨d, 4, 0 :: p⟩ = some (.box [.ptr ⟨d0, t0, g0⟩ 0])) (hS6 : Heap.get H ⟨d, 6, 0 :: 1 :: p⟩ = some (.box [.arr ⟨d0, t1, g1⟩ 0 fs.length 9])) (hS : Heap.get H ⟨d0, t0, g0⟩ = some (gbox l k2)) (hF : Heap.get H ⟨d0, t1, g1⟩ = some (fbox fs)) => ca_withA hge (d := d) (dst := dst) (S := ⟨T, H, g⟩) d0 t0 g0 d 4 (0 :: p) 6 (0 :: 1 :: p) (by decide) t1 g1 ht (by omega) (Nat.le_refl _) h (5 + (pick r.b 7 - 2)) [1, 1] (by simp) fs hfs l k2 (hbnd _ (by simp)) hl hr hn hx hx1 hS4 hS6 hS hF
            simp only [List.map_cons, List.map_nil, Exp.dv_mk, Val.zero] at fw
            generalize gargs (gexpr fs l n) [1, 1] k2 = y at *
            rw [Exp.dv_mk]
            simp only [Val.zero]
            simp only [amr, amc, amp, if_true, if_false, ne_eq, gt_iff_lt, Option.getD, argsT, Option.bind, Option.map, List.headD, List.tail, opnsL, List.replicate, lendsL, seval, ty_FmD_43, fn, fw, suf1 hg0, suf2 hg0, suf3 hg0, suf4 hg0, suf5 hg0, suf6 hg0, hs0, nt_arr, ac_arr, cap_arr, plainD_arr, suf1 hg1, suf2 hg1, suf3 hg1, suf4 hg1, suf5 hg1, suf6 hg1, hs1, ht1, ht2, Raw.dv, e1, e2, hd1, upd, Option.getD_none, Option.getD_some, soft_d, b0, p1, p2, p3, p4, b1, b2, b3, b4, b5, w1, j1, j2, hq]
      · have b3 : (kind == 1) = false := beq_eq_false_iff_ne.2 c3
        by_cases c4 : kind = 2
        · have b4 : (kind == 2) = true := beq_iff_eq.2 c4
          by_cases c5 : pick r.b 7 = 0
          · have b5 : (pick r.b 7 == 0) = true := beq_iff_eq.2 c5
            have hsh : gshape kind r = (4, [2]) := by unfold gshape; simp [c2, c3, c4, c5]
            rw [hsh]
            have fw := fun (T : Tm) (g : List Nat) (H : Heap) (dst : Nat) (hx : ((0 :: g) <:+ g0) = False) (hx1 : ((0 :: g) <:+ g1) = False) (hS4 : Heap.get H ⟨d, 4, 0 :: p⟩ = some (.box [.ptr ⟨d0, t0, g0⟩ 0])) (hS6 : Heap.get H ⟨d, 6, 0 :: 1 :: p⟩ = some (.box [.arr ⟨d0, t1, g1⟩ 0 fs.length 9])) (hS : Heap.get H ⟨d0, t0, g0⟩ = some (gbox l k2)) (hF : Heap.get H ⟨d0, t1, g1⟩ = some (fbox fs)) => ca_withA hge (d := d) (dst := dst) (S := ⟨T, H, g⟩) d0 t0 g0 d 4 (0 :: p) 6 (0 :: 1 :: p) (by decide) t1 g1 ht (by omega) (Nat.le_refl _) h (4) [2] (by simp) fs hfs l k2 (hbnd _ (by simp)) hl hr hn hx hx1 hS4 hS6 hS hF
            simp only [List.map_cons, List.map_nil, Exp.dv_mk, Val.zero] at fw
            generalize gargs (gexpr fs l n) [2] k2 = y at *
            rw [Exp.dv_mk]
            simp only [Val.zero]
            simp only [amr, amc, amp, if_true, if_false, ne_eq, gt_iff_lt, Option.getD, argsT, Option.bind, Option.map, List.headD, List.tail, opnsL, List.replicate, lendsL, seval, ty_FmD_43, fn, fw, suf1 hg0, suf2 hg0, suf3 hg0, suf4 hg0, suf5 hg0, suf6 hg0, hs0, nt_arr, ac_arr, cap_arr, plainD_arr, suf1 hg1, suf2 hg1, suf3 hg1, suf4 hg1, suf5 hg1, suf6 hg1, hs1, ht1, ht2, Raw.dv, e1, e2, hd1, upd, Option.getD_none, Option.getD_some, soft_d, b0, p1, p2, p3, p4, b1, b2, b3, b4, b5]
          · have b5 : (pick r.b 7 == 0) = false := beq_eq_false_iff_ne.2 c5
            by_cases c6 : pick r.b 7 < 3
            · have b6 : decide (pick r.b 7 < 3) = true := decide_eq_true c6
              have hsh : gshape kind r = (15 + pick r.b 7 - 1, [2, 2]) := by unfold gshape; simp [c2, c3, c4, c5, c6]
              have w1 : IntKind.i64.wrap (15 + pick r.b 7) = 15 + pick r.b 7 := wrap_in (by omega) (by omega)
              have w2 : IntKind.i64.wrap (15 + pick r.b 7 - 1) = 15 + pick r.b 7 - 1 := wrap_in (by omega) (by omega)
              rw [hsh]
              have fw := fun (T : Tm) (g : List Nat) (H : Heap) (dst : Nat) (hx : ((0 :: g) <:+ g0) = False) (hx1 : ((0 :: g) <:+ g1) = False) (hS4 : Heap.get H ⟨d, 4, 0 :: p⟩ = some (.box [.ptr ⟨d0, t0, g0⟩ 0])) (hS6 : Heap.get H ⟨d, 6, 0 :: 1 :: p⟩ = some (.box [.arr ⟨d0, t1, g1⟩ 0 fs.length 9])) (hS : Heap.get H ⟨d0, t0, g0⟩ = some (gbox l k2)) (hF : Heap.get H ⟨d0, t1, g1⟩ = some (fbox fs)) => ca_withA hge (d := d) (dst := dst) (S := ⟨T, H, g⟩) d0 t0 g0 d 4 (0 :: p) 6 (0 :: 1 :: p) (by decide) t1 g1 ht (by omega) (Nat.le_refl _) h (15 + pick r.b 7 - 1) [2, 2] (by simp) fs hfs l k2 (hbnd _ (by simp)) hl hr hn hx hx1 hS4 hS6 hS hF
              simp only [List.map_cons, List.map_nil, Exp.dv_mk, Val.zero] at fw
              generalize gargs (gexpr fs l n) [2, 2] k2 = y at *
              rw [Exp.dv_mk]
              simp only [Val.zero]
              simp only [amr, amc, amp, if_true, if_false, ne_eq, gt_iff_lt, Option.getD, argsT, Option.bind, Option.map, List.headD, List.tail, opnsL, List.replicate, lendsL, seval, ty_FmD_43, fn, fw, suf1 hg0, suf2 hg0, suf3 hg0, suf4 hg0, suf5 hg0, suf6 hg0, hs0, nt_arr, ac_arr, cap_arr, plainD_arr, suf1 hg1, suf2 hg1, suf3 hg1, suf4 hg1, suf5 hg1, suf6 hg1, hs1, ht1, ht2, Raw.dv, e1, e2, hd1, upd, Option.getD_none, Option.getD_some, soft_d, b0, p1, p2, p3, p4, b1, b2, b3, b4, b5, b6, w1, w2]
            · have b6 : decide (pick r.b 7 < 3) = false := decide_eq_false c6
              have hsh : gshape kind r = (11 + pick r.b 7 - 3, [1 + pick r.a 3, 1 + pick r.a 3]) := by unfold gshape; simp [c2, c3, c4, c5, c6]
              have w1 : IntKind.i64.wrap (11 + pick r.b 7) = 11 + pick r.b 7 := wrap_in (by omega) (by omega)
              have w2 : IntKind.i64.wrap (11 + pick r.b 7 - 3) = 11 + pick r.b 7 - 3 := wrap_in (by omega) (by omega)
              have w3 : IntKind.i64.wrap (1 + pick r.a 3) = 1 + pick r.a 3 := wrap_in (by omega) (by omega)
              rw [hsh]
              have fw := fun (T : Tm) (g : List Nat) (H : Heap) (dst : Nat) (hx : ((0 :: g) <:+ g0) = False) (hx1 : ((0 :: g) <:+ g1) = False) (hS4 : Heap.get H ⟨d, 4, 0 :: p⟩ = some (.box [.ptr ⟨d0, t0, g0⟩ 0])) (hS6 : Heap.get H ⟨d, 6, 0 :: 1 :: p⟩ = some (.box [.arr ⟨d0, t1, g1⟩ 0 fs.length 9])) (hS : Heap.get H ⟨d0, t0, g0⟩ = some (gbox l k2)) (hF : Heap.get H ⟨d0, t1, g1⟩ = some (fbox fs)) => ca_withA hge (d := d) (dst := dst) (S := ⟨T, H, g⟩) d0 t0 g0 d 4 (0 :: p) 6 (0 :: 1 :: p) (by decide) t1 g1 ht (by omega) (Nat.le_refl _) h (11 + pick r.b 7 - 3) [1 + pick r.a 3, 1 + pick r.a 3] (by simp) fs hfs l k2 (hbnd _ (by simp)) hl hr hn hx hx1 hS4 hS6 hS hF
              simp only [List.map_cons, List.map_nil, Exp.dv_mk, Val.zero] at fw
              generalize gargs (gexpr fs l n) [1 + pick r.a 3, 1 + pick r.a 3] k2 = y at *
              rw [Exp.dv_mk]
              simp only [Val.zero]
              simp only [amr, amc, amp, if_true, if_false, ne_eq, gt_iff_lt, Option.getD, argsT, Option.bind, Option.map, List.headD, List.tail, opnsL, List.replicate, lendsL, seval, ty_FmD_43, fn, fw, suf1 hg0, suf2 hg0, suf3 hg0, suf4 hg0, suf5 hg0, suf6 hg0, hs0, nt_arr, ac_arr, cap_arr, plainD_arr, suf1 hg1, suf2 hg1, suf3 hg1, suf4 hg1, suf5 hg1, suf6 hg1, hs1, ht1, ht2, Raw.dv, e1, e2, hd1, upd, Option.getD_none, Option.getD_some, soft_d, b0, p1, p2, p3, p4, b1, b2, b3, b4, b5, b6, w1, w2, w3]
        · have b4 : (kind == 2) = false := beq_eq_false_iff_ne.2 c4
          have hsh : gshape kind r = (10, [3, 3]) := by unfold gshape; simp [c2, c3, c4]
          rw [hsh]
          have fw := fun (T : Tm) (g : List Nat) (H : Heap) (dst : Nat) (hx : ((0 :: g) <:+ g0) = False) (hx1 : ((0 :: g) <:+ g1) = False) (hS4 : Heap.get H ⟨d, 4, 0 :: p⟩ = some (.box [.ptr ⟨d0, t0, g0⟩ 0])) (hS6 : Heap.get H ⟨d, 6, 0 :: 1 :: p⟩ = some (.box [.arr ⟨d0, t1, g1⟩ 0 fs.length 9])) (hS : Heap.get H ⟨d0, t0, g0⟩ = some (gbox l k2)) (hF : Heap.get H ⟨d0, t1, g1⟩ = some (fbox fs)) => ca_withA hge (d := d) (dst := dst) (S := ⟨T, H, g⟩) d0 t0 g0 d 4 (0 :: p) 6 (0 :: 1 :: p) (by decide) t1 g1 ht (by omega) (Nat.le_refl _) h (10) [3, 3] (by simp) fs hfs l k2 (hbnd _ (by simp)) hl hr hn hx hx1 hS4 hS6 hS hF
          simp only [List.map_cons, List.map_nil, Exp.dv_mk, Val.zero] at fw
          generalize gargs (gexpr fs l n) [3, 3] k2 = y at *
          rw [Exp.dv_mk]
          simp only [Val.zero]
          simp only [amr, amc, amp, if_true, if_false, ne_eq, gt_iff_lt, Option.getD, argsT, Option.bind, Option.map, List.headD, List.tail, opnsL, List.replicate, lendsL, seval, ty_FmD_43, fn, fw, suf1 hg0, suf2 hg0, suf3 hg0, suf4 hg0, suf5 hg0, suf6 hg0, hs0, nt_arr, ac_arr, cap_arr, plainD_arr, suf1 hg1, suf2 hg1, suf3 hg1, suf4 hg1, suf5 hg1, suf6 hg1, hs1, ht1, ht2, Raw.dv, e1, e2, hd1, upd, Option.getD_none, Option.getD_some, soft_d, b0, p1, p2, p3, p4, b1, b2, b3, b4]
theorem expr_okA : ∀ n : Nat, n ≤ 1000 → ExprOKA n
  | 0, _ => expr_ok0A
  | n + 1, h => expr_okSA (expr_okA n (by omega)) (by omega)
end Go.Proofs.Ytnombkkfijlkfaa.Am
