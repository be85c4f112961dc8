/- Formulas of raw things, the fields a list of a call: their arguments, walked. -/
import Derived.Test.YtnombkkfijlkfaaFmB
import Derived.Test.YtnombkkfijlkfaaSl
set_option linter.unusedVariables false
set_option linter.unusedSimpArgs false
namespace Go.Proofs.Ytnombkkfijlkfaa.Am
open Go Go.RowKit
theorem ty_FmC_80 : type_of% (ai (ai (ai (ai (ai (ai @rs80 @lv80_0) (ai @lv80_1 @lv80_2)) (ai (ai @lv80_3 @lv80_4) (ai @dr80_5 (ai @lv80_5 @mu30_28)))) (ai (ai (ai @lv80_6 @lv80_7) (ai @kp80_3 @und1)) (ai (ai @sz1 @ag1) (ai @inf1 (ai @und3 @sz3))))) (ai (ai (ai (ai @ag3 @lv3) (ai @inf3 @und9)) (ai (ai @sz9 @ag9) (ai @lv9 (ai @inf9 @und23)))) (ai (ai (ai @sz23 @ag23) (ai @pT23 (ai @inf23 @und29))) (ai (ai @sz29 @ag29) (ai @fo29 (ai @bA29 @pT29_0)))))) (ai (ai (ai (ai (ai @pT29_1 @pT29_2) (ai @lv29 @inf29)) (ai (ai @und30 @sz30) (ai @ag30 (ai @pT30 @inf30)))) (ai (ai (ai @und32 @sz32) (ai @ag32 (ai @fo32 @bA32))) (ai (ai @pT32_0 @pT32_1) (ai @pT32_2 (ai @pT32_3 @inf32))))) (ai (ai (ai (ai @und34 @sz34) (ai @ag34 @fo34)) (ai (ai @bA34 @pT34_0) (ai @pT34_1 (ai @pT34_2 @pT34_3)))) (ai (ai (ai @inf34 @und65) (ai @sz65 (ai @ag65 @pT65))) (ai (ai @inf65 @und78) (ai @sz78 (ai @ag78 @inf78))))))) := (ai (ai (ai (ai (ai (ai @rs80 @lv80_0) (ai @lv80_1 @lv80_2)) (ai (ai @lv80_3 @lv80_4) (ai @dr80_5 (ai @lv80_5 @mu30_28)))) (ai (ai (ai @lv80_6 @lv80_7) (ai @kp80_3 @und1)) (ai (ai @sz1 @ag1) (ai @inf1 (ai @und3 @sz3))))) (ai (ai (ai (ai @ag3 @lv3) (ai @inf3 @und9)) (ai (ai @sz9 @ag9) (ai @lv9 (ai @inf9 @und23)))) (ai (ai (ai @sz23 @ag23) (ai @pT23 (ai @inf23 @und29))) (ai (ai @sz29 @ag29) (ai @fo29 (ai @bA29 @pT29_0)))))) (ai (ai (ai (ai (ai @pT29_1 @pT29_2) (ai @lv29 @inf29)) (ai (ai @und30 @sz30) (ai @ag30 (ai @pT30 @inf30)))) (ai (ai (ai @und32 @sz32) (ai @ag32 (ai @fo32 @bA32))) (ai (ai @pT32_0 @pT32_1) (ai @pT32_2 (ai @pT32_3 @inf32))))) (ai (ai (ai (ai @und34 @sz34) (ai @ag34 @fo34)) (ai (ai @bA34 @pT34_0) (ai @pT34_1 (ai @pT34_2 @pT34_3)))) (ai (ai (ai @inf34 @und65) (ai @sz65 (ai @ag65 @pT65))) (ai (ai @inf65 @und78) (ai @sz78 (ai @ag78 @inf78)))))))
set_option maxRecDepth 100000
set_option maxHeartbeats 40000000



def ExprOKN (deep : Nat) : Prop := ∀ {d : Nat} {p : List Nat} (d0 t0 : Nat) (g0 : List Nat), d0 < d → ¬ p <:+ g0 → ∀ (kind : Int) (fs : List Field), fs.length ≤ 1048576 → ∀ (l : List Raw) (k : Nat), k + 4 ^ (deep + 2) ≤ 4611686018427387904 → l.length ≤ 9223372036854775807 → (∀ r ∈ l, r.ok) →
    ∃ x H', callR tab d 43 [.ptr ⟨d0, t0, g0⟩ 0, .d (.int .i64 kind), .own 9 (fs.map Field.dv) none, .d (.int .i64 deep)] [(⟨d0, t0, g0⟩, gbox l k)] p = some (x, H') ∧ (soft tab 43 x = .d (gexpr fs l deep kind k).1.dv ∧ H'.get ⟨d0, t0, g0⟩ = some (gbox l (gexpr fs l deep kind k).2))
theorem ca_exprHN {deep : Nat} (hge : ExprOKN deep) {d dst : Nat} {S : St} (d0 t0 : Nat) (g0 : List Nat) (h : d0 ≤ d) (kind : Int) (fs : List Field) (hfs : fs.length ≤ 1048576) (l : List Raw) (k : Nat) (hk : k + 4 ^ (deep + 2) ≤ 4611686018427387904) (hl : l.length ≤ 9223372036854775807) (hr : ∀ r ∈ l, r.ok) (hg0 : ((0 :: S.g) <:+ g0) = False) (hS : S.H.get ⟨d0, t0, g0⟩ = some (gbox l k)) :
    callA tab (callR tab) d dst 43 [.ptr ⟨d0, t0, g0⟩ 0, .d (.int .i64 kind), .own 9 (fs.map Field.dv) none, .d (.int .i64 deep)] S = some (.d (gexpr fs l deep kind k).1.dv, ⟨S.T, upd [(⟨d0, t0, g0⟩, gbox l (gexpr fs l deep kind k).2)] S.H, 1 :: S.g⟩) := by
  obtain ⟨x, H', h1, h2, h3⟩ := hge (p := 0 :: S.g) d0 t0 g0 (Nat.lt_succ_of_le h) (of_eq_false hg0) kind fs hfs l k hk hl hr
  exact ca_open1 (cs := [.d (.sl 4 (l.map Raw.dv)), .d (.int .i64 k)]) (cs' := [.d (.sl 4 (l.map Raw.dv)), .d (.int .i64 (gexpr fs l deep kind k).2)]) (by split <;> rfl) (lent_off (tab_lend (by kernel_rfl))) rfl rfl rfl ⟨x, H', h1, h2, h3⟩ rfl hS
/-- What a formula's arguments are made with. -/
structure GWN where
  acc : List Exp
  t : Option (List Nat)
  n : Nat
  g : List Nat
theorem run_withN {deep : Nat} (hge : ExprOKN deep) {d : Nat} {p : List Nat} (d0 t0 : Nat) (g0 : List Nat) (d4 t4 : Nat) (g4 : List Nat) (t6 : Nat) (g6 : List Nat) (h46 : t4 ≠ t6) (h : d0 < d) (h4 : d4 < d) (h04 : d0 < d4) (hg0 : ¬ p <:+ g0) (op : Int) (ks : List Int) (hks : ks.length ≤ 3) (fs : List Field) (hfs : fs.length ≤ 1048576) (l : List Raw) (k : Nat) (hk : k + ks.length * 4 ^ (deep + 2) ≤ 4611686018427387904) (hl : l.length ≤ 9223372036854775807) (hr : ∀ r ∈ l, r.ok) (hd2 : deep ≤ 1000) :
    ∃ x H', callR tab d 80 [.d (.int .i64 op), .own 1 (ks.map (fun k => DV.int .i64 k)) none, .ptr ⟨d4, t4, g4⟩ 0, .ptr ⟨d4, t6, g6⟩ 0, .d (.rp [.int .i64 ((deep : Int) + 1)])] [(⟨d4, t4, g4⟩, .box [.ptr ⟨d0, t0, g0⟩ 0]), (⟨d4, t6, g6⟩, .box [.own 9 (fs.map Field.dv) none]), (⟨d0, t0, g0⟩, gbox l k)] p = some (x, H') ∧
      (soft tab 80 x = .d (Exp.mk op Val.zero [] (gargs (gexpr fs l deep) ks k).1).dv ∧ H'.get ⟨d4, t4, g4⟩ = some (.box [.ptr ⟨d0, t0, g0⟩ 0]) ∧ H'.get ⟨d4, t6, g6⟩ = some (.box [.own 9 (fs.map Field.dv) none]) ∧ H'.get ⟨d0, t0, g0⟩ = some (gbox l (gargs (gexpr fs l deep) ks k).2)) := by
  have e1 : (d0 = d) = False := eq_false (by omega)
  have e2 : (d = d0) = False := eq_false (by omega)
  have e3 : (d4 = d) = False := eq_false (by omega)
  have e4 : (d = d4) = False := eq_false (by omega)
  have e5 : (d0 = d4) = False := eq_false (by omega)
  have e6 : (d4 = d0) = False := eq_false (by omega)
  have e7 : (t4 = t6) = False := eq_false h46
  have e8 : (t6 = t4) = False := eq_false (fun e => h46 e.symm)
  have hd1 : decide (d0 < d) = true := decide_eq_true h
  have hd4 : decide (d4 < d) = true := decide_eq_true h4
  have hs0 : (p <:+ g0) = False := eq_false hg0
  refine retq_good (ks.length + 1) fn80 rfl rfl ?_
  simp only [amr, amc, amp, if_true, if_false, ne_eq, gt_iff_lt, Option.getD, argsT, Option.bind, Option.map, List.headD, List.tail, opnsL, List.replicate, lendsL, seval, ty_FmC_80]
  refine good_range ks (fun k' (a : GWN) _ => ⟨[(2, .ptr ⟨d4, t4, g4⟩ 0), (3, .ptr ⟨d4, t6, g6⟩ 0), (4, .d (.rp [.int .i64 ((deep : Int) + 1)])), (7, .ptr ⟨d, 7, 0 :: p⟩ 0), (8, .ptr ⟨d, 8, 0 :: 1 :: p⟩ 0), (13, .own 1 (ks.map (fun k => DV.int .i64 k)) none), (14, .d (.int .i64 ks.length)), (15, .d (.int .i64 (k' : Nat)))],
      tokP d 28 (a.acc.length * 6) a.t ++ [(⟨d, 8, 0 :: 1 :: p⟩, .box [.d (.int .i64 op), .d (.int .i64 0), .d (.int .i64 0), .d (.str []), .d (.str []), .own 6 (a.acc.map Exp.dv) (tokD d 28 a.t)]), (⟨d, 7, 0 :: p⟩, .box [.d (.int .i64 0), .d (.int .i64 0), .d (.int .i64 0), .d (.str []), .d (.str []), .own 6 [] none]), (⟨d4, t4, g4⟩, .box [.ptr ⟨d0, t0, g0⟩ 0]), (⟨d4, t6, g6⟩, .box [.own 9 (fs.map Field.dv) none]), (⟨d0, t0, g0⟩, gbox l a.n)], a.g⟩)
    (fun k' a => a.acc.length ≤ k' ∧ k ≤ a.n ∧ a.n ≤ k + k' * 4 ^ (deep + 2) ∧ ¬ a.g <:+ g0 ∧ p.length + 2 ≤ a.g.length) (fun k' a r => (a.acc ++ (gargs (gexpr fs l deep) r a.n).1, (gargs (gexpr fs l deep) r a.n).2))
    (fun (o : List Exp × Nat) (q : Out) (S : St) => q = .exit 0 ∧ ∃ t g, Sub ⟨[(7, .ptr ⟨d, 7, 0 :: p⟩ 0), (8, .ptr ⟨d, 8, 0 :: 1 :: p⟩ 0)],
      tokP d 28 (o.1.length * 6) t ++ [(⟨d, 8, 0 :: 1 :: p⟩, .box [.d (.int .i64 op), .d (.int .i64 0), .d (.int .i64 0), .d (.str []), .d (.str []), .own 6 (o.1.map Exp.dv) (tokD d 28 t)]), (⟨d, 7, 0 :: p⟩, .box [.d (.int .i64 0), .d (.int .i64 0), .d (.int .i64 0), .d (.str []), .d (.str []), .own 6 [] none]), (⟨d4, t4, g4⟩, .box [.ptr ⟨d0, t0, g0⟩ 0]), (⟨d4, t6, g6⟩, .box [.own 9 (fs.map Field.dv) none]), (⟨d0, t0, g0⟩, gbox l o.2)], g⟩ S) ⟨[], none, k, 1 :: 1 :: p⟩ kp80_3 (fun r => up_tok) ⟨Nat.le_refl _, Nat.le_refl _, by simp, apart_cons (apart_cons hg0), by simp⟩ (by omega) (by omega) ?_ ?_ ?_ ?_
  · rintro k' ⟨acc, t, n, g⟩ _ x rest hk' hget hdr hI hb w1
    have hget' : (ks.map (fun k => DV.int .i64 k))[k']? = some (.int .i64 x) := by rw [List.getElem?_map, hget]; rfl
    simp only at hI
    obtain ⟨hI1, hI2, hI3, hI4, hI5⟩ := hI
    have hsx : ∀ (m b : Nat), (List.drop m (0 :: 1 :: p) = b :: g) = False := fun m b => eq_false (fun h => by have := congrArg List.length h; simp only [List.length_drop, List.length_cons] at this; omega)
    have fR : ∀ (Q : Tm) (H : Heap) (q : List Nat) (a c : DV), Heap.get H ⟨d0, t0, g0⟩ = some (gbox l n) → ftC ⟨Q, H, q⟩ [.ptr ⟨d0, t0, g0⟩ 0, .d a, .own 9 (fs.map Field.dv) none, .d c] none = ⟨[], [⟨d0, t0, g0⟩], true⟩ := fun Q H q a c hS => ftC_1 rfl hS rfl
    have hA : ((acc.length + 1) * 80 ≤ 140737488355328) = True := eq_true (by omega)
    have hkl : ((k' : Int) < (ks.length : Int)) = True := eq_true (by omega)
    have hb1 : k' * 4 ^ (deep + 2) + 4 ^ (deep + 2) ≤ ks.length * 4 ^ (deep + 2) := by
      rw [← Nat.succ_mul]
      exact Nat.mul_le_mul_right _ hk'
    have w2 : IntKind.i64.wrap ((deep : Int) + 1 - 1) = (deep : Int) := by rw [wrap_in (by omega) (by omega)]; omega
    have fE := fun (T : Tm) (g : List Nat) (H : Heap) (dst : Nat) (hx : ((0 :: g) <:+ g0) = False) (hS : Heap.get H ⟨d0, t0, g0⟩ = some (gbox l n)) => ca_exprHN hge (d := d) (dst := dst) (S := ⟨T, H, g⟩) d0 t0 g0 (by omega) x fs hfs l n (by omega) hl hr hx hS
    have ha := gexpr_at fs l deep x n
    have hsp : gargs (gexpr fs l deep) (x :: rest) n = ((gexpr fs l deep x n).1 :: (gargs (gexpr fs l deep) rest (gexpr fs l deep x n).2).1, (gargs (gexpr fs l deep) rest (gexpr fs l deep x n).2).2) := rfl
    simp only [Exp.dv_eq (gexpr fs l deep x n).1] at fE
    generalize gexpr fs l deep x n = y at *
    rcases t with _ | t
    · simp only [amr, amc, amp, if_true, if_false, ne_eq, gt_iff_lt, Option.getD, argsT, Option.bind, Option.map, List.headD, List.tail, opnsL, List.replicate, lendsL, seval, ty_FmC_80, hb, w1, w2, hget', hkl, tokD, tokP, hA, e1, e2, e3, e4, e5, e6, e7, e8, hd1, hd4, sx1, sx2, fE, fR, hsx, suf1 hI4, suf2 hI4, suf3 hI4, suf4 hI4, upd, Option.getD_some, Option.getD_none]
      refine step_nrm (GWN.mk (acc ++ [y.1]) (some (11 :: g)) y.2 (1 :: g)) ?_ ?_ ?_
      · refine ⟨?_, ?_, ?_, ?_, ?_⟩
        · simp only [List.length_append, List.length_cons, List.length_nil]; omega
        · simp only; omega
        · simp only [Nat.succ_mul]; omega
        · exact apart_cons hI4
        · simp only [List.length_cons]; omega
      · rw [hsp]; simp
      · (refine ⟨[], ?_⟩; (try simp only [amr, amc, amp, if_true, if_false, ne_eq, gt_iff_lt, Option.getD, argsT, Option.bind, Option.map, List.headD, List.tail, opnsL, List.replicate, lendsL, seval, tokD, tokP, e1, e2, e3, e4, e5, e6, e7, e8, hd1, hd4, Exp.dv_eq y.1]); exact sub_mk (by repeat first | exact subT_nil | refine subT_cons (by first | rfl | simp [Tm.get, *]) ?_))
    · simp only [amr, amc, amp, if_true, if_false, ne_eq, gt_iff_lt, Option.getD, argsT, Option.bind, Option.map, List.headD, List.tail, opnsL, List.replicate, lendsL, seval, ty_FmC_80, hb, w1, w2, hget', hkl, tokD, tokP, hA, e1, e2, e3, e4, e5, e6, e7, e8, hd1, hd4, sx1, sx2, fE, fR, hsx, suf1 hI4, suf2 hI4, suf3 hI4, suf4 hI4, upd, Option.getD_some, Option.getD_none]
      refine step_nrm (GWN.mk (acc ++ [y.1]) (some t) y.2 (1 :: g)) ?_ ?_ ?_
      · refine ⟨?_, ?_, ?_, ?_, ?_⟩
        · simp only [List.length_append, List.length_cons, List.length_nil]; omega
        · simp only; omega
        · simp only [Nat.succ_mul]; omega
        · exact apart_cons hI4
        · simp only [List.length_cons]; omega
      · rw [hsp]; simp
      · (refine ⟨[], ?_⟩; (try simp only [amr, amc, amp, if_true, if_false, ne_eq, gt_iff_lt, Option.getD, argsT, Option.bind, Option.map, List.headD, List.tail, opnsL, List.replicate, lendsL, seval, tokD, tokP, e1, e2, e3, e4, e5, e6, e7, e8, hd1, hd4, Exp.dv_eq y.1]); exact sub_mk (by repeat first | exact subT_nil | refine subT_cons (by first | rfl | simp [Tm.get, *]) ?_))
  · rintro ⟨acc, t, n, g⟩ _ _ hb
    simp only [amr, amc, amp, if_true, if_false, ne_eq, gt_iff_lt, Option.getD, argsT, Option.bind, Option.map, List.headD, List.tail, opnsL, List.replicate, lendsL, seval, ty_FmC_80, hb, e7, e8]
    refine last_end (by simp) ⟨rfl, t, ?_⟩
    simp only [gargs, List.append_nil]
    rcases t with _ | t
    · (apply Exists.intro; (try simp only [amr, amc, amp, if_true, if_false, ne_eq, gt_iff_lt, Option.getD, argsT, Option.bind, Option.map, List.headD, List.tail, opnsL, List.replicate, lendsL, seval, tokD, tokP, e1, e2, e3, e4, e5, e6, e7, e8, hd1, hd4]); exact sub_mk (by repeat first | exact subT_nil | refine subT_cons (by first | rfl | simp [Tm.get, *]) ?_))
    · (apply Exists.intro; (try simp only [amr, amc, amp, if_true, if_false, ne_eq, gt_iff_lt, Option.getD, argsT, Option.bind, Option.map, List.headD, List.tail, opnsL, List.replicate, lendsL, seval, tokD, tokP, e1, e2, e3, e4, e5, e6, e7, e8, hd1, hd4]); exact sub_mk (by repeat first | exact subT_nil | refine subT_cons (by first | rfl | simp [Tm.get, *]) ?_))
  · (refine ⟨[], ?_⟩; (try simp only [amr, amc, amp, if_true, if_false, ne_eq, gt_iff_lt, Option.getD, argsT, Option.bind, Option.map, List.headD, List.tail, opnsL, List.replicate, lendsL, seval, tokD, tokP, e1, e2, e3, e4, e5, e6, e7, e8, hd1, hd4]); exact sub_mk (by repeat first | exact subT_nil | refine subT_cons (by first | rfl | simp [Tm.get, *]) ?_))
  · rintro o S' ⟨rfl, t, g, hs⟩
    refine good_sub_cr up_finq hs ?_
    simp only [List.nil_append]
    generalize gargs (gexpr fs l deep) ks k = o at *
    rw [Exp.dv_mk]
    rcases t with _ | t
    · simp only [amr, amc, amp, if_true, if_false, ne_eq, gt_iff_lt, Option.getD, argsT, Option.bind, Option.map, List.headD, List.tail, opnsL, List.replicate, lendsL, seval, ty_FmC_80, tokD, tokP, e1, e2, e3, e4, e5, e6, e7, e8, hd1, hd4]
      exact soft_agg (by kernel_rfl) rfl
    · simp only [amr, amc, amp, if_true, if_false, ne_eq, gt_iff_lt, Option.getD, argsT, Option.bind, Option.map, List.headD, List.tail, opnsL, List.replicate, lendsL, seval, ty_FmC_80, tokD, tokP, e1, e2, e3, e4, e5, e6, e7, e8, hd1, hd4]
      exact soft_agg (by kernel_rfl) rfl
def ExprOKA (deep : Nat) : Prop := ∀ {d : Nat} {p : List Nat} (d0 t0 : Nat) (g0 : List Nat) (t1 : Nat) (g1 : List Nat), d0 < d → ¬ p <:+ g0 → t0 ≠ t1 → ¬ p <:+ g1 → ∀ (kind : Int) (fs : List Field), fs.length ≤ 1048576 → ∀ (l : List Raw) (k : Nat), k + 4 ^ (deep + 2) ≤ 4611686018427387904 → l.length ≤ 9223372036854775807 → (∀ r ∈ l, r.ok) →
    ∃ x H', callR tab d 43 [.ptr ⟨d0, t0, g0⟩ 0, .d (.int .i64 kind), .arr ⟨d0, t1, g1⟩ 0 fs.length 9, .d (.int .i64 deep)] [(⟨d0, t0, g0⟩, gbox l k), (⟨d0, t1, g1⟩, fbox fs)] p = some (x, H') ∧ (soft tab 43 x = .d (gexpr fs l deep kind k).1.dv ∧ H'.get ⟨d0, t0, g0⟩ = some (gbox l (gexpr fs l deep kind k).2) ∧ H'.get ⟨d0, t1, g1⟩ = some (fbox fs))
theorem ca_exprHA {deep : Nat} (hge : ExprOKA deep) {d dst : Nat} {S : St} (d0 t0 : Nat) (g0 : List Nat) (t1 : Nat) (g1 : List Nat) (ht : t0 ≠ t1) (h : d0 ≤ d) (kind : Int) (fs : List Field) (hfs : fs.length ≤ 1048576) (l : List Raw) (k : Nat) (hk : k + 4 ^ (deep + 2) ≤ 4611686018427387904) (hl : l.length ≤ 9223372036854775807) (hr : ∀ r ∈ l, r.ok) (hg0 : ((0 :: S.g) <:+ g0) = False) (hg1 : ((0 :: S.g) <:+ g1) = False) (hS : S.H.get ⟨d0, t0, g0⟩ = some (gbox l k)) (hF : S.H.get ⟨d0, t1, g1⟩ = some (fbox fs)) :
    callA tab (callR tab) d dst 43 [.ptr ⟨d0, t0, g0⟩ 0, .d (.int .i64 kind), .arr ⟨d0, t1, g1⟩ 0 fs.length 9, .d (.int .i64 deep)] S = some (.d (gexpr fs l deep kind k).1.dv, ⟨S.T, upd [(⟨d0, t0, g0⟩, gbox l (gexpr fs l deep kind k).2), (⟨d0, t1, g1⟩, fbox fs)] S.H, 1 :: S.g⟩) := by
  obtain ⟨x, H', h1, h2, h3, h4⟩ := hge (p := 0 :: S.g) d0 t0 g0 t1 g1 (Nat.lt_succ_of_le h) (of_eq_false hg0) ht (of_eq_false hg1) kind fs hfs l k hk hl hr
  exact ca_open2 (cs := [.d (.sl 4 (l.map Raw.dv)), .d (.int .i64 k)]) (cs' := [.d (.sl 4 (l.map Raw.dv)), .d (.int .i64 (gexpr fs l deep kind k).2)]) (by split <;> rfl) (lent_off (tab_lend (by kernel_rfl))) (id_ne ht) rfl rfl rfl (ids_flat _) ⟨x, H', h1, h2, h3, h4⟩ rfl hS hF
/-- What a formula's arguments are made with. -/
structure GWA where
  acc : List Exp
  t : Option (List Nat)
  n : Nat
  g : List Nat
theorem run_withA {deep : Nat} (hge : ExprOKA deep) {d : Nat} {p : List Nat} (d0 t0 : Nat) (g0 : List Nat) (d4 t4 : Nat) (g4 : List Nat) (t6 : Nat) (g6 : List Nat) (h46 : t4 ≠ t6) (t1 : Nat) (g1 : List Nat) (ht : t0 ≠ t1) (h : d0 < d) (h4 : d4 < d) (h04 : d0 < d4) (hg0 : ¬ p <:+ g0) (hg1 : ¬ p <:+ g1) (op : Int) (ks : List Int) (hks : ks.length ≤ 3) (fs : List Field) (hfs : fs.length ≤ 1048576) (l : List Raw) (k : Nat) (hk : k + ks.length * 4 ^ (deep + 2) ≤ 4611686018427387904) (hl : l.length ≤ 9223372036854775807) (hr : ∀ r ∈ l, r.ok) (hd2 : deep ≤ 1000) :
    ∃ x H', callR tab d 80 [.d (.int .i64 op), .own 1 (ks.map (fun k => DV.int .i64 k)) none, .ptr ⟨d4, t4, g4⟩ 0, .ptr ⟨d4, t6, g6⟩ 0, .d (.rp [.int .i64 ((deep : Int) + 1)])] [(⟨d4, t4, g4⟩, .box [.ptr ⟨d0, t0, g0⟩ 0]), (⟨d4, t6, g6⟩, .box [.arr ⟨d0, t1, g1⟩ 0 fs.length 9]), (⟨d0, t0, g0⟩, gbox l k), (⟨d0, t1, g1⟩, fbox fs)] p = some (x, H') ∧
      (soft tab 80 x = .d (Exp.mk op Val.zero [] (gargs (gexpr fs l deep) ks k).1).dv ∧ H'.get ⟨d4, t4, g4⟩ = some (.box [.ptr ⟨d0, t0, g0⟩ 0]) ∧ H'.get ⟨d4, t6, g6⟩ = some (.box [.arr ⟨d0, t1, g1⟩ 0 fs.length 9]) ∧ H'.get ⟨d0, t0, g0⟩ = some (gbox l (gargs (gexpr fs l deep) ks k).2) ∧ H'.get ⟨d0, t1, g1⟩ = some (fbox fs)) := by
  have e1 : (d0 = d) = False := eq_false (by omega)
  have e2 : (d = d0) = False := eq_false (by omega)
  have e3 : (d4 = d) = False := eq_false (by omega)
  have e4 : (d = d4) = False := eq_false (by omega)
  have e5 : (d0 = d4) = False := eq_false (by omega)
  have e6 : (d4 = d0) = False := eq_false (by omega)
  have e7 : (t4 = t6) = False := eq_false h46
  have e8 : (t6 = t4) = False := eq_false (fun e => h46 e.symm)
  have e9 : (t0 = t1) = False := eq_false ht
  have e10 : (t1 = t0) = False := eq_false (fun e => ht e.symm)
  have hd1 : decide (d0 < d) = true := decide_eq_true h
  have hd4 : decide (d4 < d) = true := decide_eq_true h4
  have hs0 : (p <:+ g0) = False := eq_false hg0
  have hs1 : (p <:+ g1) = False := eq_false hg1
  refine retq_good (ks.length + 1) fn80 rfl rfl ?_
  simp only [amr, amc, amp, if_true, if_false, ne_eq, gt_iff_lt, Option.getD, argsT, Option.bind, Option.map, List.headD, List.tail, opnsL, List.replicate, lendsL, seval, ty_FmC_80]
  refine good_range ks (fun k' (a : GWA) _ => ⟨[(2, .ptr ⟨d4, t4, g4⟩ 0), (3, .ptr ⟨d4, t6, g6⟩ 0), (4, .d (.rp [.int .i64 ((deep : Int) + 1)])), (7, .ptr ⟨d, 7, 0 :: p⟩ 0), (8, .ptr ⟨d, 8, 0 :: 1 :: p⟩ 0), (13, .own 1 (ks.map (fun k => DV.int .i64 k)) none), (14, .d (.int .i64 ks.length)), (15, .d (.int .i64 (k' : Nat)))],
      tokP d 28 (a.acc.length * 6) a.t ++ [(⟨d, 8, 0 :: 1 :: p⟩, .box [.d (.int .i64 op), .d (.int .i64 0), .d (.int .i64 0), .d (.str []), .d (.str []), .own 6 (a.acc.map Exp.dv) (tokD d 28 a.t)]), (⟨d, 7, 0 :: p⟩, .box [.d (.int .i64 0), .d (.int .i64 0), .d (.int .i64 0), .d (.str []), .d (.str []), .own 6 [] none]), (⟨d4, t4, g4⟩, .box [.ptr ⟨d0, t0, g0⟩ 0]), (⟨d4, t6, g6⟩, .box [.arr ⟨d0, t1, g1⟩ 0 fs.length 9]), (⟨d0, t0, g0⟩, gbox l a.n), (⟨d0, t1, g1⟩, fbox fs)], a.g⟩)
    (fun k' a => a.acc.length ≤ k' ∧ k ≤ a.n ∧ a.n ≤ k + k' * 4 ^ (deep + 2) ∧ (¬ a.g <:+ g0 ∧ ¬ a.g <:+ g1) ∧ p.length + 2 ≤ a.g.length) (fun k' a r => (a.acc ++ (gargs (gexpr fs l deep) r a.n).1, (gargs (gexpr fs l deep) r a.n).2))
    (fun (o : List Exp × Nat) (q : Out) (S : St) => q = .exit 0 ∧ ∃ t g, Sub ⟨[(7, .ptr ⟨d, 7, 0 :: p⟩ 0), (8, .ptr ⟨d, 8, 0 :: 1 :: p⟩ 0)],
      tokP d 28 (o.1.length * 6) t ++ [(⟨d, 8, 0 :: 1 :: p⟩, .box [.d (.int .i64 op), .d (.int .i64 0), .d (.int .i64 0), .d (.str []), .d (.str []), .own 6 (o.1.map Exp.dv) (tokD d 28 t)]), (⟨d, 7, 0 :: p⟩, .box [.d (.int .i64 0), .d (.int .i64 0), .d (.int .i64 0), .d (.str []), .d (.str []), .own 6 [] none]), (⟨d4, t4, g4⟩, .box [.ptr ⟨d0, t0, g0⟩ 0]), (⟨d4, t6, g6⟩, .box [.arr ⟨d0, t1, g1⟩ 0 fs.length 9]), (⟨d0, t0, g0⟩, gbox l o.2), (⟨d0, t1, g1⟩, fbox fs)], g⟩ S) ⟨[], none, k, 1 :: 1 :: p⟩ kp80_3 (fun r => up_tok) ⟨Nat.le_refl _, Nat.le_refl _, by simp, ⟨apart_cons (apart_cons hg0), apart_cons (apart_cons hg1)⟩, by simp⟩ (by omega) (by omega) ?_ ?_ ?_ ?_
  · rintro k' ⟨acc, t, n, g⟩ _ x rest hk' hget hdr hI hb w1
    have hget' : (ks.map (fun k => DV.int .i64 k))[k']? = some (.int .i64 x) := by rw [List.getElem?_map, hget]; rfl
    simp only at hI
    obtain ⟨hI1, hI2, hI3, ⟨hI4, hI6⟩, hI5⟩ := hI
    have hsx : ∀ (m b : Nat), (List.drop m (0 :: 1 :: p) = b :: g) = False := fun m b => eq_false (fun h => by have := congrArg List.length h; simp only [List.length_drop, List.length_cons] at this; omega)
    have fR : ∀ (Q : Tm) (H : Heap) (q : List Nat) (a b : DV), Heap.get H ⟨d0, t0, g0⟩ = some (gbox l n) → Heap.get H ⟨d0, t1, g1⟩ = some (fbox fs) → ftC ⟨Q, H, q⟩ [.ptr ⟨d0, t0, g0⟩ 0, .d a, .arr ⟨d0, t1, g1⟩ 0 fs.length 9, .d b] none = ⟨[], [⟨d0, t0, g0⟩, ⟨d0, t1, g1⟩], true⟩ := fun Q H q a b hS hT => ftC_2 (id_ne ht) rfl hS hT rfl (ids_flat _)
    have hA : ((acc.length + 1) * 80 ≤ 140737488355328) = True := eq_true (by omega)
    have hkl : ((k' : Int) < (ks.length : Int)) = True := eq_true (by omega)
    have hb1 : k' * 4 ^ (deep + 2) + 4 ^ (deep + 2) ≤ ks.length * 4 ^ (deep + 2) := by
      rw [← Nat.succ_mul]
      exact Nat.mul_le_mul_right _ hk'
    have w2 : IntKind.i64.wrap ((deep : Int) + 1 - 1) = (deep : Int) := by rw [wrap_in (by omega) (by omega)]; omega
    have fE := fun (T : Tm) (g : List Nat) (H : Heap) (dst : Nat) (hx : ((0 :: g) <:+ g0) = False) (hx1 : ((0 :: g) <:+ g1) = False) (hS : Heap.get H ⟨d0, t0, g0⟩ = some (gbox l n)) (hT : Heap.get H ⟨d0, t1, g1⟩ = some (fbox fs)) => ca_exprHA hge (d := d) (dst := dst) (S := ⟨T, H, g⟩) d0 t0 g0 t1 g1 ht (by omega) x fs hfs l n (by omega) hl hr hx hx1 hS hT
    have ha := gexpr_at fs l deep x n
    have hsp : gargs (gexpr fs l deep) (x :: rest) n = ((gexpr fs l deep x n).1 :: (gargs (gexpr fs l deep) rest (gexpr fs l deep x n).2).1, (gargs (gexpr fs l deep) rest (gexpr fs l deep x n).2).2) := rfl
    simp only [Exp.dv_eq (gexpr fs l deep x n).1] at fE
    generalize gexpr fs l deep x n = y at *
    rcases t with _ | t
    · simp only [amr, amc, amp, if_true, if_false, ne_eq, gt_iff_lt, Option.getD, argsT, Option.bind, Option.map, List.headD, List.tail, opnsL, List.replicate, lendsL, seval, ty_FmC_80, hb, w1, w2, hget', hkl, tokD, tokP, hA, e1, e2, e3, e4, e5, e6, e7, e8, e9, e10, hd1, hd4, sx1, sx2, fE, fR, hsx, suf1 hI4, suf2 hI4, suf3 hI4, suf4 hI4, suf1 hI6, suf2 hI6, suf3 hI6, suf4 hI6, upd, Option.getD_some, Option.getD_none]
      refine step_nrm (GWA.mk (acc ++ [y.1]) (some (11 :: g)) y.2 (1 :: g)) ?_ ?_ ?_
      · refine ⟨?_, ?_, ?_, ?_, ?_⟩
        · simp only [List.length_append, List.length_cons, List.length_nil]; omega
        · simp only; omega
        · simp only [Nat.succ_mul]; omega
        · exact ⟨apart_cons hI4, apart_cons hI6⟩
        · simp only [List.length_cons]; omega
      · rw [hsp]; simp
      · (refine ⟨[], ?_⟩; (try simp only [amr, amc, amp, if_true, if_false, ne_eq, gt_iff_lt, Option.getD, argsT, Option.bind, Option.map, List.headD, List.tail, opnsL, List.replicate, lendsL, seval, tokD, tokP, e1, e2, e3, e4, e5, e6, e7, e8, e9, e10, hd1, hd4, Exp.dv_eq y.1]); exact sub_mk (by repeat first | exact subT_nil | refine subT_cons (by first | rfl | simp [Tm.get, *]) ?_))
    · simp only [amr, amc, amp, if_true, if_false, ne_eq, gt_iff_lt, Option.getD, argsT, Option.bind, Option.map, List.headD, List.tail, opnsL, List.replicate, lendsL, seval, ty_FmC_80, hb, w1, w2, hget', hkl, tokD, tokP, hA, e1, e2, e3, e4, e5, e6, e7, e8, e9, e10, hd1, hd4, sx1, sx2, fE, fR, hsx, suf1 hI4, suf2 hI4, suf3 hI4, suf4 hI4, suf1 hI6, suf2 hI6, suf3 hI6, suf4 hI6, upd, Option.getD_some, Option.getD_none]
      refine step_nrm (GWA.mk (acc ++ [y.1]) (some t) y.2 (1 :: g)) ?_ ?_ ?_
      · refine ⟨?_, ?_, ?_, ?_, ?_⟩
        · simp only [List.length_append, List.length_cons, List.length_nil]; omega
        · simp only; omega
        · simp only [Nat.succ_mul]; omega
        · exact ⟨apart_cons hI4, apart_cons hI6⟩
        · simp only [List.length_cons]; omega
      · rw [hsp]; simp
      · (refine ⟨[], ?_⟩; (try simp only [amr, amc, amp, if_true, if_false, ne_eq, gt_iff_lt, Option.getD, argsT, Option.bind, Option.map, List.headD, List.tail, opnsL, List.replicate, lendsL, seval, tokD, tokP, e1, e2, e3, e4, e5, e6, e7, e8, e9, e10, hd1, hd4, Exp.dv_eq y.1]); exact sub_mk (by repeat first | exact subT_nil | refine subT_cons (by first | rfl | simp [Tm.get, *]) ?_))
  · rintro ⟨acc, t, n, g⟩ _ _ hb
    simp only [amr, amc, amp, if_true, if_false, ne_eq, gt_iff_lt, Option.getD, argsT, Option.bind, Option.map, List.headD, List.tail, opnsL, List.replicate, lendsL, seval, ty_FmC_80, hb, e7, e8]
    refine last_end (by simp) ⟨rfl, t, ?_⟩
    simp only [gargs, List.append_nil]
    rcases t with _ | t
    · (apply Exists.intro; (try simp only [amr, amc, amp, if_true, if_false, ne_eq, gt_iff_lt, Option.getD, argsT, Option.bind, Option.map, List.headD, List.tail, opnsL, List.replicate, lendsL, seval, tokD, tokP, e1, e2, e3, e4, e5, e6, e7, e8, e9, e10, hd1, hd4]); exact sub_mk (by repeat first | exact subT_nil | refine subT_cons (by first | rfl | simp [Tm.get, *]) ?_))
    · (apply Exists.intro; (try simp only [amr, amc, amp, if_true, if_false, ne_eq, gt_iff_lt, Option.getD, argsT, Option.bind, Option.map, List.headD, List.tail, opnsL, List.replicate, lendsL, seval, tokD, tokP, e1, e2, e3, e4, e5, e6, e7, e8, e9, e10, hd1, hd4]); exact sub_mk (by repeat first | exact subT_nil | refine subT_cons (by first | rfl | simp [Tm.get, *]) ?_))
  · (refine ⟨[], ?_⟩; (try simp only [amr, amc, amp, if_true, if_false, ne_eq, gt_iff_lt, Option.getD, argsT, Option.bind, Option.map, List.headD, List.tail, opnsL, List.replicate, lendsL, seval, tokD, tokP, e1, e2, e3, e4, e5, e6, e7, e8, e9, e10, hd1, hd4]); exact sub_mk (by repeat first | exact subT_nil | refine subT_cons (by first | rfl | simp [Tm.get, *]) ?_))
  · rintro o S' ⟨rfl, t, g, hs⟩
    refine good_sub_cr up_finq hs ?_
    simp only [List.nil_append]
    generalize gargs (gexpr fs l deep) ks k = o at *
    rw [Exp.dv_mk]
    rcases t with _ | t
    · simp only [amr, amc, amp, if_true, if_false, ne_eq, gt_iff_lt, Option.getD, argsT, Option.bind, Option.map, List.headD, List.tail, opnsL, List.replicate, lendsL, seval, ty_FmC_80, tokD, tokP, e1, e2, e3, e4, e5, e6, e7, e8, e9, e10, hd1, hd4]
      exact soft_agg (by kernel_rfl) rfl
    · simp only [amr, amc, amp, if_true, if_false, ne_eq, gt_iff_lt, Option.getD, argsT, Option.bind, Option.map, List.headD, List.tail, opnsL, List.replicate, lendsL, seval, ty_FmC_80, tokD, tokP, e1, e2, e3, e4, e5, e6, e7, e8, e9, e10, hd1, hd4]
      exact soft_agg (by kernel_rfl) rfl
end Go.Proofs.Ytnombkkfijlkfaa.Am
