/- fold, walked. -/
import Derived.Test.YthmggkidmcgfoaaFoQ
import Derived.Test.YthmggkidmcgfoaaOfZ
import Derived.Test.YthmggkidmcgfoaaOfP
set_option linter.unusedVariables false
set_option linter.unusedSimpArgs false
namespace Go.Proofs.Ythmggkidmcgfoaa.Am
open Go Go.RowKit
theorem ty_FoW_22 : type_of% (ai (ai (ai (ai (ai @rs22 (ai @lv22_0 @ro27_1_fold_go_13)) (ai (ai @lv22_1 @lv22_2) (ai @und1 @sz1))) (ai (ai @ag1 (ai @inf1 @und3)) (ai (ai @sz3 @ag3) (ai @lv3 @inf3)))) (ai (ai (ai @und4 (ai @sz4 @ag4)) (ai (ai @lv4 @inf4) (ai @und9 @sz9))) (ai (ai (ai @ag9 @lv9) (ai @inf9 @und24)) (ai (ai @sz24 @ag24) (ai @fo24 @bA24))))) (ai (ai (ai (ai @pT24_0 (ai @pT24_1 @pT24_2)) (ai (ai @lv24 @inf24) (ai @und25 @sz25))) (ai (ai (ai @ag25 @pT25) (ai @inf25 @und27)) (ai (ai @sz27 @ag27) (ai @fo27 @bA27)))) (ai (ai (ai @pT27_0 (ai @pT27_1 @pT27_2)) (ai (ai @pT27_3 @inf27) (ai @und32 @sz32))) (ai (ai (ai @ag32 @lv32) (ai @inf32 @und83)) (ai (ai @sz83 @ag83) (ai @pT83 @inf83)))))) := (ai (ai (ai (ai (ai @rs22 (ai @lv22_0 @ro27_1_fold_go_13)) (ai (ai @lv22_1 @lv22_2) (ai @und1 @sz1))) (ai (ai @ag1 (ai @inf1 @und3)) (ai (ai @sz3 @ag3) (ai @lv3 @inf3)))) (ai (ai (ai @und4 (ai @sz4 @ag4)) (ai (ai @lv4 @inf4) (ai @und9 @sz9))) (ai (ai (ai @ag9 @lv9) (ai @inf9 @und24)) (ai (ai @sz24 @ag24) (ai @fo24 @bA24))))) (ai (ai (ai (ai @pT24_0 (ai @pT24_1 @pT24_2)) (ai (ai @lv24 @inf24) (ai @und25 @sz25))) (ai (ai (ai @ag25 @pT25) (ai @inf25 @und27)) (ai (ai @sz27 @ag27) (ai @fo27 @bA27)))) (ai (ai (ai @pT27_0 (ai @pT27_1 @pT27_2)) (ai (ai @pT27_3 @inf27) (ai @und32 @sz32))) (ai (ai (ai @ag32 @lv32) (ai @inf32 @und83)) (ai (ai @sz83 @ag83) (ai @pT83 @inf83))))))
theorem ty_FoW_28 : type_of% (ai (ai (ai (ai (ai @rs28 (ai @lv28_0 @ro24_1_fold_go_19)) (ai @lv28_1 (ai @lv28_2 @lv28_3))) (ai (ai @lv28_4 (ai @und1 @sz1)) (ai @ag1 (ai @inf1 @und3)))) (ai (ai (ai @sz3 (ai @ag3 @lv3)) (ai @inf3 (ai @und4 @sz4))) (ai (ai @ag4 (ai @lv4 @inf4)) (ai (ai @und9 @sz9) (ai @ag9 @lv9))))) (ai (ai (ai (ai @inf9 (ai @und24 @sz24)) (ai @ag24 (ai @fo24 @bA24))) (ai (ai @pT24_0 (ai @pT24_1 @pT24_2)) (ai (ai @lv24 @inf24) (ai @und25 @sz25)))) (ai (ai (ai @ag25 (ai @pT25 @inf25)) (ai @und27 (ai @sz27 @ag27))) (ai (ai @fo27 (ai @bA27 @pT27_0)) (ai (ai @pT27_1 @pT27_2) (ai @pT27_3 @inf27)))))) := (ai (ai (ai (ai (ai @rs28 (ai @lv28_0 @ro24_1_fold_go_19)) (ai @lv28_1 (ai @lv28_2 @lv28_3))) (ai (ai @lv28_4 (ai @und1 @sz1)) (ai @ag1 (ai @inf1 @und3)))) (ai (ai (ai @sz3 (ai @ag3 @lv3)) (ai @inf3 (ai @und4 @sz4))) (ai (ai @ag4 (ai @lv4 @inf4)) (ai (ai @und9 @sz9) (ai @ag9 @lv9))))) (ai (ai (ai (ai @inf9 (ai @und24 @sz24)) (ai @ag24 (ai @fo24 @bA24))) (ai (ai @pT24_0 (ai @pT24_1 @pT24_2)) (ai (ai @lv24 @inf24) (ai @und25 @sz25)))) (ai (ai (ai @ag25 (ai @pT25 @inf25)) (ai @und27 (ai @sz27 @ag27))) (ai (ai @fo27 (ai @bA27 @pT27_0)) (ai (ai @pT27_1 @pT27_2) (ai @pT27_3 @inf27))))))
open Go.Maps
set_option maxRecDepth 100000
set_option maxHeartbeats 40000000



/-- The functions that reach names.Of. -/
def zF (f : Nat) : Bool := [22, 17, 9, 12].contains f
theorem names_nil (X : Ex) : ((namesR X).length : Int) = 0 ↔ X.refs = [] := by
  obtain ⟨es, h1, h2, h3, h4⟩ := setD_keys X.refs.reverse
  have hk : strKeys (revD X.refs) = es.map fun p => strOf p.1 := by unfold revD; rw [h1]; rfl
  have hp : (namesR X).Perm (strKeys (revD X.refs)) := List.mergeSort_perm _ _
  rw [hk] at hp
  have hl := hp.length_eq
  constructor
  · intro h
    have h0 : es.map (fun p => strOf p.1) = [] := List.eq_nil_of_length_eq_zero (by omega)
    rw [h0] at h4
    exact List.eq_nil_iff_forall_not_mem.2 (fun s hs => by have := (h4 s).2 (by simpa using hs); cases this)
  · intro h
    rw [h] at h4
    have h0 : es.map (fun p => strOf p.1) = [] := List.eq_nil_iff_forall_not_mem.2 (fun s hs => by have := (h4 s).1 hs; cases this)
    rw [h0] at hl
    simp at hl
    rw [hl]
    rfl
/-- A formula that fold may be called with. -/
structure FOk (x : Exp) : Prop where
  w : x.wf
  n : x.nodes ≤ 60
  d : x.deep ≤ 12
  s : ∀ s ∈ x.refs, s.length ≤ 1000
theorem ret_closed (k : Nat) (x : Exp) (hx : FOk x) : RetZ zF 64 k 22 [.d x.dv] (.bool (decide (x.refs = []))) := by
  have hok := ofOk x hx.s ⟨hx.n, hx.d⟩ hx.w
  have f0 := fun (S : St) (d dst : Nat) => ca_OfZ (Z := zF) (N := 64) (k := k) (d := d) (dst := dst) (S := S) (by decide) x.ex hok
  have hn := names_nil x.ex
  rw [ex_refs] at hn
  rw [ex_dv] at f0
  have hd : (((namesR x.ex).length : Int) == 0) = decide (x.refs = []) := by
    by_cases h : x.refs = []
    · rw [decide_eq_true h]; exact beq_iff_eq.2 (hn.2 h)
    · rw [decide_eq_false h]; exact beq_eq_false_iff_ne.2 (fun e => h (hn.1 e))
  generalize namesR x.ex = L at *
  rw [← hd]
  rw [Exp.dv_eq x] at f0 ⊢
  refine stepq_good fn22 rfl rfl ?_
  simp only [amr, amc, amp, if_true, if_false, ne_eq, gt_iff_lt, Option.getD, argsT, Option.bind, Option.map, List.headD, List.tail, opnsL, List.replicate, lendsL, seval, ty_FoW_22, f0, List.length_map]
theorem ret_negC (v : Val) (hv : valKnown v = true) : RetD tab 28 [.d v.dv] (negC v).dv := by
  unfold negC
  by_cases h1 : v.kind = 1
  · have hr := chk_range.1 (known_int hv h1).1
    by_cases h2 : v.n < 0
    · have b1 : (v.kind == 1) = true := beq_iff_eq.2 h1
      have b2 : decide (v.n < 0) = true := decide_eq_true h2
      have w1 : IntKind.i64.wrap (0 - v.n) = -v.n := by rw [Int.zero_sub]; exact wrap_in (by omega) (by omega)
      rw [if_pos ⟨h1, h2⟩]
      simp only [Exp.dv_mk, List.map_cons, List.map_nil, Val.dv, Val.zero]
      refine retq_good 1 fn28 rfl rfl ?_
      simp only [amr, amc, amp, if_true, if_false, ne_eq, gt_iff_lt, Option.getD, argsT, Option.bind, Option.map, List.headD, List.tail, opnsL, List.replicate, lendsL, seval, ty_FoW_28, b1, b2, w1, el_agg, toD, allD, toDc, Option.map_some]
    · have b1 : (v.kind == 1) = true := beq_iff_eq.2 h1
      have b2 : decide (v.n < 0) = false := decide_eq_false h2
      rw [if_neg (fun h => h2 h.2)]
      simp only [Exp.dv_mk, List.map_nil, Val.dv]
      refine retq_good 1 fn28 rfl rfl ?_
      simp only [amr, amc, amp, if_true, if_false, ne_eq, gt_iff_lt, Option.getD, argsT, Option.bind, Option.map, List.headD, List.tail, opnsL, List.replicate, lendsL, seval, ty_FoW_28, b1, b2]
  · have b1 : (v.kind == 1) = false := beq_eq_false_iff_ne.2 h1
    rw [if_neg (fun h => h1 h.1)]
    simp only [Exp.dv_mk, List.map_nil, Val.dv]
    refine retq_good 1 fn28 rfl rfl ?_
    simp only [amr, amc, amp, if_true, if_false, ne_eq, gt_iff_lt, Option.getD, argsT, Option.bind, Option.map, List.headD, List.tail, opnsL, List.replicate, lendsL, seval, ty_FoW_28, b1]
theorem ca_negC {d dst : Nat} {S : St} (v : Val) (hv : valKnown v = true) : callA tab (callR tab) d dst 28 [.d (.agg [.int .i64 v.kind, .int .i64 v.n, .str v.s])] S = some (.d (negC v).dv, S) :=
  ca_retD (ds := [v.dv]) (ret_negC v hv) rfl (tab_opn (by kernel_rfl)) (tab_res (by kernel_rfl))
end Go.Proofs.Ythmggkidmcgfoaa.Am
