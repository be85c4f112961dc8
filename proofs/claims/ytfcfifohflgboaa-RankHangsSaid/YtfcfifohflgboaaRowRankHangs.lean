/- What hangs on what hangs on a field hangs on it. -/
import Derived.Test.YtfcfifohflgboaaRows
import Derived.Test.YtfcfifohflgboaaRkW
import Derived.Test.YtfcfifohflgboaaRowKit
import Derived.Test.YtfcfifohflgboaaRowList
import Derived.WalkKit
import Derived.ProofKit
import Derived.OpenShut
import Derived.ShutString
import Derived.ChangeOld
import Derived.ChangeMaps5
import Derived.Below
import Derived.SizedLaws
namespace Go.Proofs.Ytfcfifohflgboaa.rankHangs
open Go.ChangeShapes Go.WideShapes Go.ChangeAt Go.RowKit
open Go.ChangeMaps (open_string shut_string)
set_option linter.unusedVariables false
theorem own : ownKnob Try.prog.godebug = none := by kernel_rfl
theorem int_range {n : Int} (h : (Lit.int .i64 n).wf = true) : -9223372036854775808 ≤ n ∧ n ≤ 9223372036854775807 := by
  simp only [Lit.wf, Bool.and_eq_true, decide_eq_true_eq] at h
  exact h
theorem walk (W : World) (a : Value) (al : List Am.Raw) (ah : Am.RepD W (fun _ _ => True) a (.sl 4 (al.map Am.Raw.dv))) (b : Int) (c : Int) (wa : (∀ r ∈ al, r.ok) ∧ al.length ≤ 9223372036854775807) (wb : (Lit.int .i64 b).wf = true) (wc : (Lit.int .i64 c).wf = true) : Calls Try.prog 9 #[a, .int .i64 b, .int .i64 c] W fun e W' => e = .returned (.bool true) ∧ Below W.heap.size W W' := by
  obtain ⟨_, H0, h0, rfl⟩ := Am.ret_RankHangs (al) b c wa.2 wa.1 (int_range wb) (int_range wc)
  refine (Am.closed_Z (Z := Am.zR) (N := 64) (k := 20) (ds := [.sl 4 (al.map Am.Raw.dv), .int .i64 b, .int .i64 c]) (F := fun _ _ => True) h0 rfl (fun i x hx => ?_)).mono fun e W' ⟨v, F', he, hb, hv⟩ => ?_
  · match i, hx with
    | 0, hx => simp at hx; subst hx; exact ⟨_, rfl, by first | exact ah | simpa using ah⟩
    | 1, hx => simp at hx; subst hx; exact ⟨_, rfl, .int _ _⟩
    | 2, hx => simp at hx; subst hx; exact ⟨_, rfl, .int _ _⟩
  · cases hv
    exact ⟨he, hb⟩
set_option maxRecDepth 100000 in
theorem lifted (os : Os) (started : os.Started) (H : Type) (enc : TypeId × Value → H) :
    ReturnsInHanded {} Try.checked os 9 .any (Rows.rankHangsSpec.pre6 enc Try.prog Try.f9 Rows.rankHangsRow.domain false) (Rows.rankHangsSpec.post enc Try.prog Try.f9 false true false false) := by
  refine returnsInHanded_of_change_sized (C := Try.checked) own started (by kernel_rfl) Try.func9
    (ChangeSpec.witness6 (enc := enc) (C := Try.checked) false ⟨#[], #[.slice none 0 0, .int .i64 0, .int .i64 0], []⟩ 8 (by kernel_rfl) (by kernel_rfl) (by kernel_rfl) (by kernel_rfl)) ?_
  intro W base args ds gs before hval0 hW hcnd hsz0 _
  have hval : ∀ (j : Nat) t v, Try.f9.params[j]? = some t → args[j]? = some v → Value.okWide Try.prog W .any base t v := hval0
  have hW' := hW
  obtain ⟨p, q, hA0, hV, rfl, hfz, hnd⟩ := hW
  have hA : DataW.TrodAll enc Try.prog W 0 (fun _ => true) true Try.f9.params.toList args.toList ds p := hA0
  rw [Try.params9] at hA hval
  obtain ⟨v0, vs0, d0, ds0, p0, q0, hargs, rfl, rfl, h0, r0⟩ := trodAll_cons hA
  obtain ⟨v1, vs1, d1, ds1, p1, q1, rfl, rfl, rfl, h1, r1⟩ := trodAll_cons r0
  obtain ⟨v2, vs2, d2, ds2, p2, q2, rfl, rfl, rfl, h2, r2⟩ := trodAll_cons r1
  obtain ⟨rfl, rfl, rfl⟩ := trodAll_nil r2
  obtain rfl : args = #[v0, v1, v2] := by cases args; simp_all
  obtain ⟨rfl, rfl⟩ := trodVars_none hV
  obtain ⟨A0, n0, c0, e0⟩ := okWide_slice Try.underlying22 (hval 0 22 v0 rfl rfl)
  have h0k := h0
  obtain ⟨l0, g0, w0, z0, _, y0⟩ := Am.open_rawl e0 h0
  obtain ⟨a1, rfl, rfl, rfl, w1⟩ := open_int Try.underlying3 (hval 1 3 v1 rfl rfl) h1
  obtain ⟨a2, rfl, rfl, rfl, w2⟩ := open_int Try.underlying3 (hval 2 3 v2 rfl rfl) h2
  clear hA0 hval0 hsz0
  refine (walk W v0 l0 g0 a1 a2 ⟨w0, z0⟩ w1 w2).mono fun e W' ⟨he, bel⟩ => ?_
  subst he
  exact ⟨_, rfl, _, _, _, [], _, [], hW', trodAll_mk1 (shut_bool Try.underlying4 _), (trodAll_cons_mk (Below.trod (by kernel_rfl) (by kernel_rfl) (of_decide_eq_true (by kernel_rfl)) h0k bel (fun x hx => by simpa using hW'.lt x (by simp [hx]))) (trodAll_cons_mk (shut_int Try.underlying3 w1) (trodAll_cons_mk (shut_int Try.underlying3 w2) trodAll_mk0))), rfl, bel.frame _, fun h => by cases h⟩
theorem over : Rows.rankHangsRow.holds Try.pinned (OpenSpec.ofChange Rows.rankHangsSpec) :=
  OpenClaim.holds_of_wide 9 Try.f9 rfl rfl rfl rfl rfl rfl rfl ⟨rfl, rfl, rfl, rfl, rfl⟩ rfl rfl rfl rfl rfl (by as_aux_lemma => kernel_rfl) Try.func9 (by as_aux_lemma => kernel_rfl)
    (of_decide_eq_true (by as_aux_lemma => kernel_rfl)) (by unfold Func.isWrapper; first | (rw [if_pos (by decide +kernel)]; kernel_rfl) | (rw [if_neg (by decide +kernel)]; exact ⟨rfl, rfl⟩))
    (fun os started H enc _ => lifted os started H enc)
theorem proved : Rows.RankHangsSaid := over
#print axioms proved
end Go.Proofs.Ytfcfifohflgboaa.rankHangs
namespace Go.Proofs.Ytfcfifohflgboaa
theorem rankHangs_holds : Rows.RankHangsSaid := rankHangs.proved
end Go.Proofs.Ytfcfifohflgboaa
