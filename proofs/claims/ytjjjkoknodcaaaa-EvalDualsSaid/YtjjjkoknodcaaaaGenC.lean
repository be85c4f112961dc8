/- Formulas of raw things, walked. -/
import Derived.Test.YtjjjkoknodcaaaaGenB
set_option linter.unusedVariables false
set_option linter.unusedSimpArgs false
namespace Go.Proofs.Ytjjjkoknodcaaaa.Am
open Go Go.RowKit
theorem ty_GenC_58 : type_of% (And.intro (And.intro (And.intro (And.intro (And.intro (And.intro @rs58 @lv58_0) (And.intro @lv58_1 @lv58_2)) (And.intro (And.intro @lv58_3 @lv58_4) (And.intro @dr58_5 (And.intro @lv58_5 @mu25_28)))) (And.intro (And.intro (And.intro @lv58_6 @lv58_7) (And.intro @kp58_3 @und1)) (And.intro (And.intro @sz1 @ag1) (And.intro @inf1 (And.intro @und3 @sz3))))) (And.intro (And.intro (And.intro (And.intro @ag3 @lv3) (And.intro @inf3 @und9)) (And.intro (And.intro @sz9 @ag9) (And.intro @lv9 (And.intro @inf9 @und24)))) (And.intro (And.intro (And.intro @sz24 @ag24) (And.intro @fo24 (And.intro @bA24 @pT24_0))) (And.intro (And.intro @pT24_1 @pT24_2) (And.intro @lv24 (And.intro @inf24 @und25)))))) (And.intro (And.intro (And.intro (And.intro (And.intro @sz25 @ag25) (And.intro @pT25 @inf25)) (And.intro (And.intro @und27 @sz27) (And.intro @ag27 (And.intro @fo27 @bA27)))) (And.intro (And.intro (And.intro @pT27_0 @pT27_1) (And.intro @pT27_2 (And.intro @pT27_3 @inf27))) (And.intro (And.intro @und30 @sz30) (And.intro @ag30 (And.intro @pT30 @inf30))))) (And.intro (And.intro (And.intro (And.intro @und49 @sz49) (And.intro @ag49 @fo49)) (And.intro (And.intro @bA49 @pT49_0) (And.intro @pT49_1 (And.intro @pT49_2 @pT49_3)))) (And.intro (And.intro (And.intro @inf49 @und67) (And.intro @sz67 (And.intro @ag67 @pT67))) (And.intro (And.intro @inf67 @und71) (And.intro @sz71 (And.intro @ag71 @inf71))))))) := (And.intro (And.intro (And.intro (And.intro (And.intro (And.intro @rs58 @lv58_0) (And.intro @lv58_1 @lv58_2)) (And.intro (And.intro @lv58_3 @lv58_4) (And.intro @dr58_5 (And.intro @lv58_5 @mu25_28)))) (And.intro (And.intro (And.intro @lv58_6 @lv58_7) (And.intro @kp58_3 @und1)) (And.intro (And.intro @sz1 @ag1) (And.intro @inf1 (And.intro @und3 @sz3))))) (And.intro (And.intro (And.intro (And.intro @ag3 @lv3) (And.intro @inf3 @und9)) (And.intro (And.intro @sz9 @ag9) (And.intro @lv9 (And.intro @inf9 @und24)))) (And.intro (And.intro (And.intro @sz24 @ag24) (And.intro @fo24 (And.intro @bA24 @pT24_0))) (And.intro (And.intro @pT24_1 @pT24_2) (And.intro @lv24 (And.intro @inf24 @und25)))))) (And.intro (And.intro (And.intro (And.intro (And.intro @sz25 @ag25) (And.intro @pT25 @inf25)) (And.intro (And.intro @und27 @sz27) (And.intro @ag27 (And.intro @fo27 @bA27)))) (And.intro (And.intro (And.intro @pT27_0 @pT27_1) (And.intro @pT27_2 (And.intro @pT27_3 @inf27))) (And.intro (And.intro @und30 @sz30) (And.intro @ag30 (And.intro @pT30 @inf30))))) (And.intro (And.intro (And.intro (And.intro @und49 @sz49) (And.intro @ag49 @fo49)) (And.intro (And.intro @bA49 @pT49_0) (And.intro @pT49_1 (And.intro @pT49_2 @pT49_3)))) (And.intro (And.intro (And.intro @inf49 @und67) (And.intro @sz67 (And.intro @ag67 @pT67))) (And.intro (And.intro @inf67 @und71) (And.intro @sz71 (And.intro @ag71 @inf71)))))))
set_option maxRecDepth 100000
set_option maxHeartbeats 40000000



/-- One formula behind the other. -/
def gargs (ge : Int → Nat → Exp × Nat) : List Int → Nat → List Exp × Nat
  | [], n => ([], n)
  | k :: ks, n => ((ge k n).1 :: (gargs ge ks (ge k n).2).1, (gargs ge ks (ge k n).2).2)
/-- An op, and of which kinds its arguments are. -/
def gshape (kind : Int) (r : Raw) : Int × List Int :=
  if pick r.a 6 = 0 then (17, [2, kind, kind])
  else if kind = 1 then (if pick r.b 7 = 0 then (3, [1]) else if pick r.b 7 = 1 then (18, [3]) else (5 + (pick r.b 7 - 2), [1, 1]))
  else if kind = 2 then (if pick r.b 7 = 0 then (4, [2]) else if pick r.b 7 < 3 then (15 + pick r.b 7 - 1, [2, 2]) else (11 + pick r.b 7 - 3, [1 + pick r.a 3, 1 + pick r.a 3]))
  else (10, [3, 3])
def gexpr (fs : List Field) (l : List Raw) : Nat → Int → Nat → Exp × Nat
  | 0, kind, k => (gleafE kind fs (gnext l (gat l k)), gat l (gat l k))
  | d + 1, kind, k => if pick (gnext l k).kind 3 = 0 then (gleafE kind fs (gnext l (gat l k)), gat l (gat l k)) else
    (.mk (gshape kind (gnext l k)).1 Val.zero [] (gargs (gexpr fs l d) (gshape kind (gnext l k)).2 (gat l k)).1, (gargs (gexpr fs l d) (gshape kind (gnext l k)).2 (gat l k)).2)
theorem gargs_at {ge : Int → Nat → Exp × Nat} {c : Nat} (h : ∀ k n, n ≤ (ge k n).2 ∧ (ge k n).2 ≤ n + c) : ∀ (ks : List Int) (n : Nat), n ≤ (gargs ge ks n).2 ∧ (gargs ge ks n).2 ≤ n + ks.length * c
  | [], n => by simp [gargs]
  | k :: ks, n => by
    have h1 := h k n
    have h2 := gargs_at h ks (ge k n).2
    simp only [gargs, List.length_cons, Nat.add_mul]
    omega
theorem gshape_len (kind : Int) (r : Raw) : (gshape kind r).2.length ≤ 3 := by
  unfold gshape
  split
  · simp
  · split
    · split
      · simp
      · split <;> simp
    · split
      · split
        · simp
        · split <;> simp
      · simp
theorem gexpr_at (fs : List Field) (l : List Raw) : ∀ (d : Nat) (kind : Int) (k : Nat), k ≤ (gexpr fs l d kind k).2 ∧ (gexpr fs l d kind k).2 ≤ k + 4 ^ (d + 2)
  | 0, kind, k => by
    have h1 := gat_le l k
    have h2 := gat_le l (gat l k)
    simp only [gexpr]
    omega
  | d + 1, kind, k => by
    have h1 := gat_le l k
    have h2 := gat_le l (gat l k)
    have h3 := gargs_at (ge := gexpr fs l d) (gexpr_at fs l d) (gshape kind (gnext l k)).2 (gat l k)
    have h4 := gshape_len kind (gnext l k)
    have h5 : (gshape kind (gnext l k)).2.length * 4 ^ (d + 2) ≤ 3 * 4 ^ (d + 2) := Nat.mul_le_mul_right _ h4
    have h6 : 0 < 4 ^ (d + 2) := Nat.pow_pos (by decide)
    have h7 : 4 ^ (d + 1 + 2) = 4 * 4 ^ (d + 2) := by rw [show d + 1 + 2 = (d + 2) + 1 by omega, Nat.pow_succ, Nat.mul_comm]
    have h8 : 16 ≤ 4 ^ (d + 2) := by
      have := Nat.pow_le_pow_right (n := 4) (by decide) (show 2 ≤ d + 2 by omega)
      simpa using this
    unfold gexpr
    split
    · simp only; omega
    · simp only; omega
def ExprOK (deep : Nat) : Prop := ∀ {d : Nat} {p : List Nat} (d0 t0 : Nat) (g0 : List Nat), d0 < d → ¬ p <:+ g0 → ∀ (kind : Int) (fs : List Field), fs.length ≤ 1048576 → ∀ (l : List Raw) (k : Nat), k + 4 ^ (deep + 2) ≤ 4611686018427387904 → l.length ≤ 9223372036854775807 → (∀ r ∈ l, r.ok) →
    ∃ x H', callR tab d 39 [.ptr ⟨d0, t0, g0⟩ 0, .d (.int .i64 kind), .d (.sl 9 (fs.map Field.dv)), .d (.int .i64 deep)] [(⟨d0, t0, g0⟩, gbox l k)] p = some (x, H') ∧ (soft tab 39 x = .d (gexpr fs l deep kind k).1.dv ∧ H'.get ⟨d0, t0, g0⟩ = some (gbox l (gexpr fs l deep kind k).2))
theorem ca_exprH {deep : Nat} (hge : ExprOK deep) {d dst : Nat} {S : St} (d0 t0 : Nat) (g0 : List Nat) (h : d0 ≤ d) (kind : Int) (fs : List Field) (hfs : fs.length ≤ 1048576) (l : List Raw) (k : Nat) (hk : k + 4 ^ (deep + 2) ≤ 4611686018427387904) (hl : l.length ≤ 9223372036854775807) (hr : ∀ r ∈ l, r.ok) (hg0 : ((0 :: S.g) <:+ g0) = False) (hS : S.H.get ⟨d0, t0, g0⟩ = some (gbox l k)) :
    callA tab (callR tab) d dst 39 [.ptr ⟨d0, t0, g0⟩ 0, .d (.int .i64 kind), .d (.sl 9 (fs.map Field.dv)), .d (.int .i64 deep)] S = some (.d (gexpr fs l deep kind k).1.dv, ⟨S.T, upd [(⟨d0, t0, g0⟩, gbox l (gexpr fs l deep kind k).2)] S.H, 1 :: S.g⟩) := by
  obtain ⟨x, H', h1, h2, h3⟩ := hge (p := 0 :: S.g) d0 t0 g0 (Nat.lt_succ_of_le h) (of_eq_false hg0) kind fs hfs l k hk hl hr
  exact ca_open1 (cs := [.d (.sl 4 (l.map Raw.dv)), .d (.int .i64 k)]) (cs' := [.d (.sl 4 (l.map Raw.dv)), .d (.int .i64 (gexpr fs l deep kind k).2)]) (by split <;> rfl) (lent_off (tab_lend (by kernel_rfl))) rfl rfl rfl ⟨x, H', h1, h2, h3⟩ rfl hS
/-- What a formula's arguments are made with. -/
structure GW where
  acc : List Exp
  t : Option (List Nat)
  n : Nat
  g : List Nat
theorem run_with {deep : Nat} (hge : ExprOK deep) {d : Nat} {p : List Nat} (d0 t0 : Nat) (g0 : List Nat) (d4 t4 : Nat) (g4 : List Nat) (h : d0 < d) (h4 : d4 < d) (h04 : d0 < d4) (hg0 : ¬ p <:+ g0) (op : Int) (ks : List Int) (hks : ks.length ≤ 3) (fs : List Field) (hfs : fs.length ≤ 1048576) (l : List Raw) (k : Nat) (hk : k + ks.length * 4 ^ (deep + 2) ≤ 4611686018427387904) (hl : l.length ≤ 9223372036854775807) (hr : ∀ r ∈ l, r.ok) (hd2 : deep ≤ 1000) :
    ∃ x H', callR tab d 58 [.d (.int .i64 op), .own 1 (ks.map (fun k => DV.int .i64 k)) none, .ptr ⟨d4, t4, g4⟩ 0, .d (.rp [.sl 9 (fs.map Field.dv)]), .d (.rp [.int .i64 ((deep : Int) + 1)])] [(⟨d4, t4, g4⟩, .box [.ptr ⟨d0, t0, g0⟩ 0]), (⟨d0, t0, g0⟩, gbox l k)] p = some (x, H') ∧
      (soft tab 58 x = .d (Exp.mk op Val.zero [] (gargs (gexpr fs l deep) ks k).1).dv ∧ H'.get ⟨d4, t4, g4⟩ = some (.box [.ptr ⟨d0, t0, g0⟩ 0]) ∧ H'.get ⟨d0, t0, g0⟩ = some (gbox l (gargs (gexpr fs l deep) ks k).2)) := by
  have e1 : (d0 = d) = False := eq_false (by omega)
  have e2 : (d = d0) = False := eq_false (by omega)
  have e3 : (d4 = d) = False := eq_false (by omega)
  have e4 : (d = d4) = False := eq_false (by omega)
  have e5 : (d0 = d4) = False := eq_false (by omega)
  have e6 : (d4 = d0) = False := eq_false (by omega)
  have hd1 : decide (d0 < d) = true := decide_eq_true h
  have hd4 : decide (d4 < d) = true := decide_eq_true h4
  have hs0 : (p <:+ g0) = False := eq_false hg0
  refine retq_good (ks.length + 1) fn58 rfl rfl ?_
  simp only [amr, amc, amp, if_true, if_false, ne_eq, gt_iff_lt, Option.getD, argsT, Option.bind, Option.map, List.headD, List.tail, reduceIte, reduceDIte, Nat.reduceEqDiff, Nat.reduceAdd, Nat.reduceSub, Nat.reduceMul, Nat.reduceLT, reduceCtorEq, Int.reduceEq, Int.reduceLT, Int.reduceLE, Int.reduceNeg, Int.reduceToNat, Int.reduceBNe, Int.reduceBEq, Int.reduceAdd, Int.reduceSub, Int.reduceMul, opnsL, Nat.reduceLeDiff, Nat.reduceGT, List.replicate, Nat.reduceShiftRight, Nat.reduceMod, Nat.reduceBEq, lendsL, ty_GenC_58]
  refine good_range ks (fun k' (a : GW) _ => ⟨[(2, .ptr ⟨d4, t4, g4⟩ 0), (3, .d (.rp [.sl 9 (fs.map Field.dv)])), (4, .d (.rp [.int .i64 ((deep : Int) + 1)])), (7, .ptr ⟨d, 7, 0 :: p⟩ 0), (8, .ptr ⟨d, 8, 0 :: 1 :: p⟩ 0), (13, .own 1 (ks.map (fun k => DV.int .i64 k)) none), (14, .d (.int .i64 ks.length)), (15, .d (.int .i64 (k' : Nat)))],
      tokP d 28 (a.acc.length * 6) a.t ++ [(⟨d, 8, 0 :: 1 :: p⟩, .box [.d (.int .i64 op), .d (.int .i64 0), .d (.int .i64 0), .d (.str []), .d (.str []), .own 6 (a.acc.map Exp.dv) (tokD d 28 a.t)]), (⟨d, 7, 0 :: p⟩, .box [.d (.int .i64 0), .d (.int .i64 0), .d (.int .i64 0), .d (.str []), .d (.str []), .own 6 [] none]), (⟨d4, t4, g4⟩, .box [.ptr ⟨d0, t0, g0⟩ 0]), (⟨d0, t0, g0⟩, gbox l a.n)], a.g⟩)
    (fun k' a => a.acc.length ≤ k' ∧ k ≤ a.n ∧ a.n ≤ k + k' * 4 ^ (deep + 2) ∧ ¬ a.g <:+ g0 ∧ p.length + 2 ≤ a.g.length) (fun k' a r => (a.acc ++ (gargs (gexpr fs l deep) r a.n).1, (gargs (gexpr fs l deep) r a.n).2))
    (fun (o : List Exp × Nat) (q : Out) (S : St) => q = .exit 0 ∧ ∃ t g, Sub ⟨[(7, .ptr ⟨d, 7, 0 :: p⟩ 0), (8, .ptr ⟨d, 8, 0 :: 1 :: p⟩ 0)],
      tokP d 28 (o.1.length * 6) t ++ [(⟨d, 8, 0 :: 1 :: p⟩, .box [.d (.int .i64 op), .d (.int .i64 0), .d (.int .i64 0), .d (.str []), .d (.str []), .own 6 (o.1.map Exp.dv) (tokD d 28 t)]), (⟨d, 7, 0 :: p⟩, .box [.d (.int .i64 0), .d (.int .i64 0), .d (.int .i64 0), .d (.str []), .d (.str []), .own 6 [] none]), (⟨d4, t4, g4⟩, .box [.ptr ⟨d0, t0, g0⟩ 0]), (⟨d0, t0, g0⟩, gbox l o.2)], g⟩ S) ⟨[], none, k, 1 :: 1 :: p⟩ kp58_3 (fun r => up_tok) ⟨Nat.le_refl _, Nat.le_refl _, by simp, apart_cons (apart_cons hg0), by simp⟩ (by omega) (by omega) ?_ ?_ ?_ ?_
  · rintro k' ⟨acc, t, n, g⟩ _ x rest hk' hget hdr hI hb w1
    have hget' : (ks.map (fun k => DV.int .i64 k))[k']? = some (.int .i64 x) := by rw [List.getElem?_map, hget]; rfl
    simp only at hI
    obtain ⟨hI1, hI2, hI3, hI4, hI5⟩ := hI
    have hsx : ∀ (m b : Nat), (List.drop m (0 :: 1 :: p) = b :: g) = False := fun m b => eq_false (fun h => by have := congrArg List.length h; simp only [List.length_drop, List.length_cons] at this; omega)
    have fR : ∀ (Q : Tm) (H : Heap) (q : List Nat) (a b c : DV), Heap.get H ⟨d0, t0, g0⟩ = some (gbox l n) → ftC ⟨Q, H, q⟩ [.ptr ⟨d0, t0, g0⟩ 0, .d a, .d b, .d c] none = ⟨[], [⟨d0, t0, g0⟩], true⟩ := fun Q H q a b c hS => ftC_1 rfl hS rfl
    have hA : ((acc.length + 1) * 80 ≤ 140737488355328) = True := eq_true (by omega)
    have hkl : ((k' : Int) < (ks.length : Int)) = True := eq_true (by omega)
    have hb1 : k' * 4 ^ (deep + 2) + 4 ^ (deep + 2) ≤ ks.length * 4 ^ (deep + 2) := by
      rw [← Nat.succ_mul]
      exact Nat.mul_le_mul_right _ hk'
    have w2 : IntKind.i64.wrap ((deep : Int) + 1 - 1) = (deep : Int) := by rw [wrap_in (by omega) (by omega)]; omega
    have fE := fun (T : Tm) (g : List Nat) (H : Heap) (dst : Nat) (hx : ((0 :: g) <:+ g0) = False) (hS : Heap.get H ⟨d0, t0, g0⟩ = some (gbox l n)) => ca_exprH hge (d := d) (dst := dst) (S := ⟨T, H, g⟩) d0 t0 g0 (by omega) x fs hfs l n (by omega) hl hr hx hS
    have ha := gexpr_at fs l deep x n
    have hsp : gargs (gexpr fs l deep) (x :: rest) n = ((gexpr fs l deep x n).1 :: (gargs (gexpr fs l deep) rest (gexpr fs l deep x n).2).1, (gargs (gexpr fs l deep) rest (gexpr fs l deep x n).2).2) := rfl
    simp only [Exp.dv_eq (gexpr fs l deep x n).1] at fE
    generalize gexpr fs l deep x n = y at *
    rcases t with _ | t
    · simp only [amr, amc, amp, if_true, if_false, ne_eq, gt_iff_lt, Option.getD, argsT, Option.bind, Option.map, List.headD, List.tail, reduceIte, reduceDIte, Nat.reduceEqDiff, Nat.reduceAdd, Nat.reduceSub, Nat.reduceMul, Nat.reduceLT, reduceCtorEq, Int.reduceEq, Int.reduceLT, Int.reduceLE, Int.reduceNeg, Int.reduceToNat, Int.reduceBNe, Int.reduceBEq, Int.reduceAdd, Int.reduceSub, Int.reduceMul, opnsL, Nat.reduceLeDiff, Nat.reduceGT, List.replicate, Nat.reduceShiftRight, Nat.reduceMod, Nat.reduceBEq, lendsL, ty_GenC_58, hb, w1, w2, hget', hkl, tokD, tokP, hA, e1, e2, e3, e4, e5, e6, hd1, hd4, sx1, sx2, fE, fR, hsx, suf1 hI4, suf2 hI4, suf3 hI4, suf4 hI4, upd, Option.getD_some, Option.getD_none]
      refine step_nrm (GW.mk (acc ++ [y.1]) (some (11 :: g)) y.2 (1 :: g)) ?_ ?_ ?_
      · refine ⟨?_, ?_, ?_, ?_, ?_⟩
        · simp only [List.length_append, List.length_cons, List.length_nil]; omega
        · simp only; omega
        · simp only [Nat.succ_mul]; omega
        · exact apart_cons hI4
        · simp only [List.length_cons]; omega
      · rw [hsp]; simp
      · (refine ⟨[], ?_⟩; (try simp only [amr, amc, amp, if_true, if_false, ne_eq, gt_iff_lt, Option.getD, argsT, Option.bind, Option.map, List.headD, List.tail, reduceIte, reduceDIte, Nat.reduceEqDiff, Nat.reduceAdd, Nat.reduceSub, Nat.reduceMul, Nat.reduceLT, reduceCtorEq, Int.reduceEq, Int.reduceLT, Int.reduceLE, Int.reduceNeg, Int.reduceToNat, Int.reduceBNe, Int.reduceBEq, Int.reduceAdd, Int.reduceSub, Int.reduceMul, opnsL, Nat.reduceLeDiff, Nat.reduceGT, List.replicate, Nat.reduceShiftRight, Nat.reduceMod, Nat.reduceBEq, lendsL, tokD, tokP, e1, e2, e3, e4, e5, e6, hd1, hd4, Exp.dv_eq y.1]); exact sub_mk (by repeat first | exact subT_nil | refine subT_cons (by first | rfl | simp [Tm.get, *]) ?_))
    · simp only [amr, amc, amp, if_true, if_false, ne_eq, gt_iff_lt, Option.getD, argsT, Option.bind, Option.map, List.headD, List.tail, reduceIte, reduceDIte, Nat.reduceEqDiff, Nat.reduceAdd, Nat.reduceSub, Nat.reduceMul, Nat.reduceLT, reduceCtorEq, Int.reduceEq, Int.reduceLT, Int.reduceLE, Int.reduceNeg, Int.reduceToNat, Int.reduceBNe, Int.reduceBEq, Int.reduceAdd, Int.reduceSub, Int.reduceMul, opnsL, Nat.reduceLeDiff, Nat.reduceGT, List.replicate, Nat.reduceShiftRight, Nat.reduceMod, Nat.reduceBEq, lendsL, ty_GenC_58, hb, w1, w2, hget', hkl, tokD, tokP, hA, e1, e2, e3, e4, e5, e6, hd1, hd4, sx1, sx2, fE, fR, hsx, suf1 hI4, suf2 hI4, suf3 hI4, suf4 hI4, upd, Option.getD_some, Option.getD_none]
      refine step_nrm (GW.mk (acc ++ [y.1]) (some t) y.2 (1 :: g)) ?_ ?_ ?_
      · refine ⟨?_, ?_, ?_, ?_, ?_⟩
        · simp only [List.length_append, List.length_cons, List.length_nil]; omega
        · simp only; omega
        · simp only [Nat.succ_mul]; omega
        · exact apart_cons hI4
        · simp only [List.length_cons]; omega
      · rw [hsp]; simp
      · (refine ⟨[], ?_⟩; (try simp only [amr, amc, amp, if_true, if_false, ne_eq, gt_iff_lt, Option.getD, argsT, Option.bind, Option.map, List.headD, List.tail, reduceIte, reduceDIte, Nat.reduceEqDiff, Nat.reduceAdd, Nat.reduceSub, Nat.reduceMul, Nat.reduceLT, reduceCtorEq, Int.reduceEq, Int.reduceLT, Int.reduceLE, Int.reduceNeg, Int.reduceToNat, Int.reduceBNe, Int.reduceBEq, Int.reduceAdd, Int.reduceSub, Int.reduceMul, opnsL, Nat.reduceLeDiff, Nat.reduceGT, List.replicate, Nat.reduceShiftRight, Nat.reduceMod, Nat.reduceBEq, lendsL, tokD, tokP, e1, e2, e3, e4, e5, e6, hd1, hd4, Exp.dv_eq y.1]); exact sub_mk (by repeat first | exact subT_nil | refine subT_cons (by first | rfl | simp [Tm.get, *]) ?_))
  · rintro ⟨acc, t, n, g⟩ _ _ hb
    simp only [amr, amc, amp, if_true, if_false, ne_eq, gt_iff_lt, Option.getD, argsT, Option.bind, Option.map, List.headD, List.tail, reduceIte, reduceDIte, Nat.reduceEqDiff, Nat.reduceAdd, Nat.reduceSub, Nat.reduceMul, Nat.reduceLT, reduceCtorEq, Int.reduceEq, Int.reduceLT, Int.reduceLE, Int.reduceNeg, Int.reduceToNat, Int.reduceBNe, Int.reduceBEq, Int.reduceAdd, Int.reduceSub, Int.reduceMul, opnsL, Nat.reduceLeDiff, Nat.reduceGT, List.replicate, Nat.reduceShiftRight, Nat.reduceMod, Nat.reduceBEq, lendsL, ty_GenC_58, hb]
    refine last_end (by simp) ⟨rfl, t, ?_⟩
    simp only [gargs, List.append_nil]
    rcases t with _ | t
    · (apply Exists.intro; (try simp only [amr, amc, amp, if_true, if_false, ne_eq, gt_iff_lt, Option.getD, argsT, Option.bind, Option.map, List.headD, List.tail, reduceIte, reduceDIte, Nat.reduceEqDiff, Nat.reduceAdd, Nat.reduceSub, Nat.reduceMul, Nat.reduceLT, reduceCtorEq, Int.reduceEq, Int.reduceLT, Int.reduceLE, Int.reduceNeg, Int.reduceToNat, Int.reduceBNe, Int.reduceBEq, Int.reduceAdd, Int.reduceSub, Int.reduceMul, opnsL, Nat.reduceLeDiff, Nat.reduceGT, List.replicate, Nat.reduceShiftRight, Nat.reduceMod, Nat.reduceBEq, lendsL, tokD, tokP, e1, e2, e3, e4, e5, e6, hd1, hd4]); exact sub_mk (by repeat first | exact subT_nil | refine subT_cons (by first | rfl | simp [Tm.get, *]) ?_))
    · (apply Exists.intro; (try simp only [amr, amc, amp, if_true, if_false, ne_eq, gt_iff_lt, Option.getD, argsT, Option.bind, Option.map, List.headD, List.tail, reduceIte, reduceDIte, Nat.reduceEqDiff, Nat.reduceAdd, Nat.reduceSub, Nat.reduceMul, Nat.reduceLT, reduceCtorEq, Int.reduceEq, Int.reduceLT, Int.reduceLE, Int.reduceNeg, Int.reduceToNat, Int.reduceBNe, Int.reduceBEq, Int.reduceAdd, Int.reduceSub, Int.reduceMul, opnsL, Nat.reduceLeDiff, Nat.reduceGT, List.replicate, Nat.reduceShiftRight, Nat.reduceMod, Nat.reduceBEq, lendsL, tokD, tokP, e1, e2, e3, e4, e5, e6, hd1, hd4]); exact sub_mk (by repeat first | exact subT_nil | refine subT_cons (by first | rfl | simp [Tm.get, *]) ?_))
  · (refine ⟨[], ?_⟩; (try simp only [amr, amc, amp, if_true, if_false, ne_eq, gt_iff_lt, Option.getD, argsT, Option.bind, Option.map, List.headD, List.tail, reduceIte, reduceDIte, Nat.reduceEqDiff, Nat.reduceAdd, Nat.reduceSub, Nat.reduceMul, Nat.reduceLT, reduceCtorEq, Int.reduceEq, Int.reduceLT, Int.reduceLE, Int.reduceNeg, Int.reduceToNat, Int.reduceBNe, Int.reduceBEq, Int.reduceAdd, Int.reduceSub, Int.reduceMul, opnsL, Nat.reduceLeDiff, Nat.reduceGT, List.replicate, Nat.reduceShiftRight, Nat.reduceMod, Nat.reduceBEq, lendsL, tokD, tokP, e1, e2, e3, e4, e5, e6, hd1, hd4]); exact sub_mk (by repeat first | exact subT_nil | refine subT_cons (by first | rfl | simp [Tm.get, *]) ?_))
  · rintro o S' ⟨rfl, t, g, hs⟩
    refine good_sub_cr up_finq hs ?_
    simp only [List.nil_append]
    generalize gargs (gexpr fs l deep) ks k = o at *
    rw [Exp.dv_mk]
    rcases t with _ | t
    · simp only [amr, amc, amp, if_true, if_false, ne_eq, gt_iff_lt, Option.getD, argsT, Option.bind, Option.map, List.headD, List.tail, reduceIte, reduceDIte, Nat.reduceEqDiff, Nat.reduceAdd, Nat.reduceSub, Nat.reduceMul, Nat.reduceLT, reduceCtorEq, Int.reduceEq, Int.reduceLT, Int.reduceLE, Int.reduceNeg, Int.reduceToNat, Int.reduceBNe, Int.reduceBEq, Int.reduceAdd, Int.reduceSub, Int.reduceMul, opnsL, Nat.reduceLeDiff, Nat.reduceGT, List.replicate, Nat.reduceShiftRight, Nat.reduceMod, Nat.reduceBEq, lendsL, ty_GenC_58, tokD, tokP, e1, e2, e3, e4, e5, e6, hd1, hd4]
      exact soft_agg (by kernel_rfl) rfl
    · simp only [amr, amc, amp, if_true, if_false, ne_eq, gt_iff_lt, Option.getD, argsT, Option.bind, Option.map, List.headD, List.tail, reduceIte, reduceDIte, Nat.reduceEqDiff, Nat.reduceAdd, Nat.reduceSub, Nat.reduceMul, Nat.reduceLT, reduceCtorEq, Int.reduceEq, Int.reduceLT, Int.reduceLE, Int.reduceNeg, Int.reduceToNat, Int.reduceBNe, Int.reduceBEq, Int.reduceAdd, Int.reduceSub, Int.reduceMul, opnsL, Nat.reduceLeDiff, Nat.reduceGT, List.replicate, Nat.reduceShiftRight, Nat.reduceMod, Nat.reduceBEq, lendsL, ty_GenC_58, tokD, tokP, e1, e2, e3, e4, e5, e6, hd1, hd4]
      exact soft_agg (by kernel_rfl) rfl
end Go.Proofs.Ytjjjkoknodcaaaa.Am
