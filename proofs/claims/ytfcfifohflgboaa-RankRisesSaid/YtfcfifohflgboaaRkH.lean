/- RankRises, walked. -/
import Derived.Test.YtfcfifohflgboaaRkG
set_option linter.unusedVariables false
set_option linter.unusedSimpArgs false
namespace Go.Proofs.Ytfcfifohflgboaa.Am
open Go Go.RowKit
theorem ty_RkH_5 : type_of% (ai (ai (ai (ai @rs5 @lw5) (ai @kp5_6 (ai @kp5_10 @tt1))) (ai (ai @tt2 (ai @tt3 @tt4)) (ai @tt9 (ai @tt22 @tt23)))) (ai (ai (ai @tt24 @tt26) (ai @tt28 (ai @tt31 @tt33))) (ai (ai @tt34 (ai @tt36 @tt38)) (ai @tt48 (ai @tt50 @tt69))))) := (ai (ai (ai (ai @rs5 @lw5) (ai @kp5_6 (ai @kp5_10 @tt1))) (ai (ai @tt2 (ai @tt3 @tt4)) (ai @tt9 (ai @tt22 @tt23)))) (ai (ai (ai @tt24 @tt26) (ai @tt28 (ai @tt31 @tt33))) (ai (ai @tt34 (ai @tt36 @tt38)) (ai @tt48 (ai @tt50 @tt69)))))
set_option maxRecDepth 100000
set_option maxHeartbeats 40000000





def fcellL (x : Field) : List AV := [.d (.str x.name), .d (.int .i64 x.kind), .d (.int .i64 x.ty), .d (.int .i64 x.source.op), .d (.int .i64 x.source.v.kind), .d (.int .i64 x.source.v.n), .d (.str x.source.v.s), .d (.str x.source.name), .d (.sl 6 (x.source.args.map Exp.dv))]
theorem ret_RankRises (l : List Raw) (hl : l.length ≤ 9223372036854775807) (hr : ∀ r ∈ l, r.ok) : ∃ x H', stepA tab (callZ zR 64 20) 64 0 5 ([.sl 4 (l.map Raw.dv)].map AV.d) [] [] = some (x, H') ∧ x = .d (.bool true) := by
  have hk := rkfs hr
  have fF := fun (S : St) (d dst : Nat) => (ca_Z (Z := zR) (N := 64) (k := 20) (by decide) (by decide)).trans (ca_Form (d := d) (dst := dst) (S := S) l hl hr)
  have f1 := fun (S : St) (d dst : Nat) => ca_retZT (d := d) (dst := dst) (S := S) (args := [.d (.sl 9 ((mkForm l).fields.map Field.dv))]) (ds := [.sl 9 ((mkForm l).fields.map Field.dv)]) (by decide) (ret_OfR 17 (mkForm l).fields hk) rfl (tab_opn (by kernel_rfl)) (tab_res (by kernel_rfl))
  have f2 := fun (S : St) (d dst : Nat) => ca_retZ (d := d) (dst := dst) (S := S) (args := []) (ds := []) (by decide) (ret_ranked 16) rfl (tab_opn (by kernel_rfl)) (tab_res (by kernel_rfl))
  simp only [Frm.dv] at fF
  generalize (mkForm l).pages.map Page.dv = ps at *
  generalize (mkForm l).fields = fs at *
  have hlen := rkF_len hk
  have h14 := hk.ok.len
  have hln : ((rkF fs).map (DV.int .i64)).length = fs.length := by simp [hlen]
  have hln2 : (fs.map Field.dv).length = fs.length := by simp
  have hRg : ∀ k, k < fs.length → ((rkF fs).map (DV.int .i64))[k]? = some (.int .i64 ((rkF fs).getD k 0)) := fun k hk2 => by
    have h3 : k < (rkF fs).length := by omega
    rw [List.getElem?_map, List.getD_eq_getElem?_getD, List.getElem?_eq_getElem h3]; rfl
  have hfg : ∀ (k : Nat) (x : Field), fs[k]? = some x → (fs.map Field.dv)[k]? = some x.dv := fun k x h => by rw [List.getElem?_map, h]; rfl
  unfold intD at *
  generalize hrd : (rkF fs).map (DV.int .i64) = rd at *
  generalize hfd : fs.map Field.dv = fd at *
  have bz : ((fs.length : Int) != (fs.length : Int)) = false := by simp
  refine stepq_good fn5 rfl rfl ?_
  simp only [amr, amc, amp, amz, seval, ty_RkH_5, fF, f1, f2, hln, hln2, bz, bne_self_eq_false]
  refine good_range fs (fun k (_ : Unit) g => ⟨[(3, .d (.sl 9 fd)), (4, .d (.sl 1 rd)), (39, .d (.sl 9 fd)), (40, .d (.int .i64 fs.length)), (41, .d (.int .i64 (k : Nat)))], [], g⟩) (fun _ _ => True) (fun _ _ _ => ())
    (QX (.exit 0) (fun _ g => ⟨[], [], g⟩)) () kp5_6 up_qx trivial (by omega) (by omega) ?_ ?_ ?_ ?_
  · rintro i a g x rest hi hget hdr _ hb w1
    have hget' := hfg i x hget
    rw [Field.dv_eq x] at hget'
    have hRi := hRg i hi
    have hre := rise_eq hk hget
    have fH := fun (s : List UInt8) (S : St) (d dst : Nat) => (ca_Z (Z := zR) (N := 64) (k := 20) (by decide) (by decide)).trans (ca_Has (d := d) (dst := dst) (S := S) x.source s)
    rw [Exp.dv_eq x.source] at fH
    simp only [amr, amc, amp, amz, seval, ty_RkH_5, hb, hget', hln2, w1]
    refine good_range fs (fun j (m : Int) g2 => ⟨[(3, .d (.sl 9 fd)), (4, .d (.sl 1 rd)), (7, .d (.int .i64 (i : Nat))), (8, .ptr ⟨0, 8, 0 :: g⟩ 0), (9, .d (.int .i64 m)), (39, .d (.sl 9 fd)), (40, .d (.int .i64 fs.length)), (41, .d (.int .i64 (i : Nat))), (46, .d (.sl 9 fd)), (47, .d (.int .i64 fs.length)), (48, .d (.int .i64 (j : Nat)))], [(⟨0, 8, 0 :: g⟩, .box (fcellL x))], g2⟩)
      (fun _ _ => True) (fun j m r => riseL (rkF fs) x j r m)
      (QX (.exit 2) (fun (o : Int) g2 => ⟨[(3, .d (.sl 9 fd)), (4, .d (.sl 1 rd)), (7, .d (.int .i64 (i : Nat))), (9, .d (.int .i64 o)), (39, .d (.sl 9 fd)), (40, .d (.int .i64 fs.length)), (41, .d (.int .i64 (i : Nat)))], [(⟨0, 8, 0 :: g⟩, .box (fcellL x))], g2⟩)) 0 kp5_10 up_qx trivial (by omega) (by omega) ?_ ?_ ?_ ?_
    · rintro j m g2 y rest2 hj hget2 hdr2 _ hb2 w2
      have hgy := hfg j y hget2
      rw [Field.dv_eq y] at hgy
      have hRj := hRg j hj
      have hlj := rkF_lt hk j hj
      have hS : riseL (rkF fs) x j (y :: rest2) m = riseL (rkF fs) x (j + 1) rest2 (if x.kind ≠ 1 ∧ y.name ∈ x.source.refs then (if (rkF fs).getD j 0 + 1 > m then (rkF fs).getD j 0 + 1 else m) else m) := rfl
      generalize (rkF fs).getD j 0 = v at *
      have wv : IntKind.i64.wrap (v + 1) = v + 1 := wrap_in (by omega) (by omega)
      by_cases c : x.kind = 1
      · have b1 : (x.kind != 1) = false := by rw [c]; rfl
        rw [if_neg (fun h => h.1 c)] at hS
        simp only [amr, amc, amp, amz, seval, ty_RkH_5, fcellL, hb2, hgy, b1, w2]
        refine step_nrm m trivial hS ?_
        (apply Exists.intro; (try simp only [amr, amc, amp, amz, seval, fcellL]); exact sub_mk (by repeat first | exact subT_nil | refine subT_cons (by first | rfl | simp [Tm.get, *]) ?_))
      · have b1 : (x.kind != 1) = true := by simp [c]
        by_cases e : y.name ∈ x.source.refs
        · have fH2 := fH y.name
          rw [decide_eq_true e] at fH2
          rw [if_pos ⟨c, e⟩] at hS
          simp only [amr, amc, amp, amz, seval, ty_RkH_5, fcellL, hb2, hgy, b1, w2, fH2, hRj, wv]
          refine step_nrm (if v + 1 > m then v + 1 else m) trivial hS ?_
          (apply Exists.intro; (try simp only [amr, amc, amp, amz, seval, fcellL]); exact sub_mk (by repeat first | exact subT_nil | refine subT_cons (by first | rfl | simp [Tm.get, *]) ?_))
        · have fH2 := fH y.name
          rw [decide_eq_false e] at fH2
          rw [if_neg (fun h => e h.2)] at hS
          simp only [amr, amc, amp, amz, seval, ty_RkH_5, fcellL, hb2, hgy, b1, w2, fH2]
          refine step_nrm m trivial hS ?_
          (apply Exists.intro; (try simp only [amr, amc, amp, amz, seval, fcellL]); exact sub_mk (by repeat first | exact subT_nil | refine subT_cons (by first | rfl | simp [Tm.get, *]) ?_))
    · intro m g2 _ hb2
      simp only [amr, amc, amp, amz, seval, ty_RkH_5, hb2]
      refine last_end (by simp) ⟨rfl, ?_⟩
      simp only [riseL]
      (apply Exists.intro; (try simp only [amr, amc, amp, amz, seval, fcellL]); exact sub_mk (by repeat first | exact subT_nil | refine subT_cons (by first | rfl | simp [Tm.get, *]) ?_))
    · (apply Exists.intro; (try simp only [amr, amc, amp, amz, seval, fcellL]); exact sub_mk (by repeat first | exact subT_nil | refine subT_cons (by first | rfl | simp [Tm.get, *]) ?_))
    · rintro o S' ⟨rfl, g2, hs⟩
      refine good_sub_cr (up_stepr up_qx) hs ?_
      rw [hre]
      generalize (rkF fs).getD i 0 = v at *
      have bv : (v != v) = false := by simp
      simp only [amr, amc, amp, amz, seval, ty_RkH_5, fcellL, hRi, bv, w1]
      refine step_nrm () trivial rfl ?_
      (apply Exists.intro; (try simp only [amr, amc, amp, amz, seval]); exact sub_mk (by repeat first | exact subT_nil | refine subT_cons (by first | rfl | simp [Tm.get, *]) ?_))
  · intro a g _ hb
    simp only [amr, amc, amp, amz, seval, ty_RkH_5, hb]
    refine last_end (by simp) ⟨rfl, ?_⟩
    (apply Exists.intro; (try simp only [amr, amc, amp, amz, seval]); exact sub_mk (by repeat first | exact subT_nil | refine subT_cons (by first | rfl | simp [Tm.get, *]) ?_))
  · (apply Exists.intro; (try simp only [amr, amc, amp, amz, seval]); exact sub_mk (by repeat first | exact subT_nil | refine subT_cons (by first | rfl | simp [Tm.get, *]) ?_))
  · rintro o S' ⟨rfl, g, hs⟩
    refine good_sub_cr up_finq hs ?_
    simp only [amr, amc, amp, amz, seval, ty_RkH_5]
end Go.Proofs.Ytfcfifohflgboaa.Am
