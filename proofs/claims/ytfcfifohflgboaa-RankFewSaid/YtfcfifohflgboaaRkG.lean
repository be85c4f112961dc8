/- RankFew, RankRises, walked. -/
import Derived.Test.YtfcfifohflgboaaRkF
set_option linter.unusedVariables false
set_option linter.unusedSimpArgs false
namespace Go.Proofs.Ytfcfifohflgboaa.Am
open Go Go.RowKit
theorem ty_RkG_7 : type_of% (ai (ai (ai (ai @rs7 @lw7) (ai @tt1 (ai @tt2 @tt3))) (ai (ai @tt4 @tt9) (ai @tt22 (ai @tt23 @tt24)))) (ai (ai (ai @tt26 @tt28) (ai @tt31 (ai @tt33 @tt34))) (ai (ai @tt36 @tt38) (ai @tt48 (ai @tt50 @tt69))))) := (ai (ai (ai (ai @rs7 @lw7) (ai @tt1 (ai @tt2 @tt3))) (ai (ai @tt4 @tt9) (ai @tt22 (ai @tt23 @tt24)))) (ai (ai (ai @tt26 @tt28) (ai @tt31 (ai @tt33 @tt34))) (ai (ai @tt36 @tt38) (ai @tt48 (ai @tt50 @tt69)))))
set_option maxRecDepth 100000
set_option maxHeartbeats 40000000





theorem mem_rk {fs : List Field} (h : RkFs fs) {v : Int} (hv : v ∈ rkF fs) : 0 ≤ v ∧ v < fs.length := by
  obtain ⟨i, hi⟩ := List.getElem?_of_mem hv
  obtain ⟨h1, h2⟩ := List.getElem?_eq_some_iff.1 hi
  have := rkF_lt h i (by rw [← rkF_len h]; exact h1)
  rw [List.getD_eq_getElem?_getD, hi] at this
  exact this
theorem ret_RankFew (l : List Raw) (hl : l.length ≤ 9223372036854775807) (hr : ∀ r ∈ l, r.ok) : ∃ x H', stepA tab (callZ zR 64 20) 64 0 7 ([.sl 4 (l.map Raw.dv)].map AV.d) [] [] = some (x, H') ∧ x = .d (.bool true) := by
  have hk := rkfs hr
  have fF := fun (S : St) (d dst : Nat) => (ca_Z (Z := zR) (N := 64) (k := 20) (by decide) (by decide)).trans (ca_Form (d := d) (dst := dst) (S := S) l hl hr)
  have f1 := fun (S : St) (d dst : Nat) => ca_retZT (d := d) (dst := dst) (S := S) (args := [.d (.sl 9 ((mkForm l).fields.map Field.dv))]) (ds := [.sl 9 ((mkForm l).fields.map Field.dv)]) (by decide) (ret_OfR 17 (mkForm l).fields hk) rfl (tab_opn (by kernel_rfl)) (tab_res (by kernel_rfl))
  have f2 := fun (S : St) (d dst : Nat) => ca_retZ (d := d) (dst := dst) (S := S) (args := []) (ds := []) (by decide) (ret_ranked 16) rfl (tab_opn (by kernel_rfl)) (tab_res (by kernel_rfl))
  simp only [Frm.dv] at fF
  generalize (mkForm l).pages.map Page.dv = ps at *
  generalize (mkForm l).fields = fs at *
  have hlen := rkF_len hk
  have hmem := fun v => mem_rk (v := v) hk
  obtain ⟨j, hj1, hj2⟩ := rkF_first hk
  have h14 := hk.ok.len
  have hj3 : (0 : Int) ∈ rkF fs := by
    have h3 : j < (rkF fs).length := by omega
    have : (rkF fs)[j] = 0 := by rw [← hj2, List.getD_eq_getElem?_getD, List.getElem?_eq_getElem h3]; rfl
    rw [← this]
    exact List.getElem_mem h3
  have hp := hk.pos
  generalize fs.map Field.dv = fd at *
  generalize rkF fs = R at *
  match R, hlen, hmem, hj3 with
  | [], hlen, _, _ => simp at hlen; omega
  | x :: xs, hlen, hmem, hj3 =>
    simp only [List.length_cons] at hlen
    have f3 := fun (S : St) (d dst : Nat) => (ca_Z (Z := zR) (N := 64) (k := 20) (by decide) (by decide)).trans (ca_Min (d := d) (dst := dst) (S := S) x xs (by omega))
    have f4 := fun (S : St) (d dst : Nat) => (ca_Z (Z := zR) (N := 64) (k := 20) (by decide) (by decide)).trans (ca_Max (d := d) (dst := dst) (S := S) x xs (by omega))
    have h5 : minL xs x = 0 := by
      have h6 := minL_le xs x
      have h7 := minL_ge (b := 0) xs x (hmem x (by simp)).1 (fun y hy => (hmem y (by simp [hy])).1)
      rcases List.mem_cons.1 hj3 with h | h
      · omega
      · have := h6.2 0 h; omega
    have h6 : maxL xs x < fs.length := maxL_lt xs x (hmem x (by simp)).2 (fun y hy => (hmem y (by simp [hy])).2)
    rw [h5] at f3
    have hln : ((x :: xs).map (DV.int .i64)).length = fs.length := by simp; omega
    have b1 : decide (maxL xs x < (fs.length : Int)) = true := decide_eq_true h6
    have b2 : ((fs.length : Int) == 0) = false := beq_eq_false_iff_ne.2 (by omega)
    generalize maxL xs x = mx at *
    unfold intD at *
    generalize (x :: xs).map (DV.int .i64) = rd at *
    refine stepq_good fn7 rfl rfl ?_
    simp only [amr, amc, amp, if_true, if_false, ne_eq, gt_iff_lt, Option.getD, argsT, Option.bind, Option.map, List.headD, List.tail, opnsL, List.replicate, lendsL, seval, ty_RkG_7, fF, f1, f2, f3, f4, hln, b1, b2, beq_self_eq_true, bne_self_eq_false]
end Go.Proofs.Ytfcfifohflgboaa.Am
