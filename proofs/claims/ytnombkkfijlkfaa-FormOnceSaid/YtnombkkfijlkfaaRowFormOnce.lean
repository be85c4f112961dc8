/- A field is told once. -/
import Derived.Test.YtnombkkfijlkfaaRows
import Derived.Test.YtnombkkfijlkfaaFmO
import Derived.Test.YtnombkkfijlkfaaRowKit
import Derived.Test.YtnombkkfijlkfaaRowList
import Derived.WalkKit
import Derived.ProofKit
import Derived.OpenShut
import Derived.ShutString
import Derived.ChangeOld
import Derived.ChangeMaps5
import Derived.Below
import Derived.SizedLaws
namespace Go.Proofs.Ytnombkkfijlkfaa.formOnce
open Go.ChangeShapes Go.WideShapes Go.ChangeAt Go.RowKit
open Go.ChangeMaps (open_string shut_string)
set_option linter.unusedVariables false
theorem own : ownKnob Try.prog.godebug = none := by kernel_rfl
theorem int_range {n : Int} (h : (Lit.int .i64 n).wf = true) : -9223372036854775808 ≤ n ∧ n ≤ 9223372036854775807 := by
  simp only [Lit.wf, Bool.and_eq_true, decide_eq_true_eq] at h
  exact h
theorem walk (W : World) (a : Value) (al : List Am.Raw) (ah : Am.RepD W (fun _ _ => True) a (.sl 4 (al.map Am.Raw.dv))) (b : Value) (bl : List Am.Raw) (bh : Am.RepD W (fun _ _ => True) b (.sl 4 (bl.map Am.Raw.dv))) (c : Int) (wa : (∀ r ∈ al, r.ok) ∧ al.length ≤ 9223372036854775807) (wb : (∀ r ∈ bl, r.ok) ∧ bl.length ≤ 9223372036854775807) (wc : (Lit.int .i64 c).wf = true) : Calls Try.prog 5 #[a, b, .int .i64 c] W fun e W' => e = .returned (.bool true) ∧ Below W.heap.size W W' := by
  obtain ⟨H0, h0⟩ := Am.ret_FormOnce (al) (bl) c wa.2 wa.1 wb.2 wb.1 (int_range wc)
  refine (Am.closed_ok Am.tab_ok Am.prim_ok (ds := [.sl 4 (al.map Am.Raw.dv), .sl 4 (bl.map Am.Raw.dv), .int .i64 c]) (F := fun _ _ => True) h0 rfl (fun i x hx => ?_)).mono fun e W' ⟨v, F', he, hb, hv⟩ => ?_
  · match i, hx with
    | 0, hx => simp at hx; subst hx; exact ⟨_, rfl, by first | exact ah | simpa using ah⟩
    | 1, hx => simp at hx; subst hx; exact ⟨_, rfl, by first | exact bh | simpa using bh⟩
    | 2, hx => simp at hx; subst hx; exact ⟨_, rfl, .int _ _⟩
  · cases hv
    exact ⟨he, hb⟩
set_option maxRecDepth 100000 in
theorem lifted (os : Os) (started : os.Started) (H : Type) (enc : TypeId × Value → H) :
    ReturnsInHanded {} Try.checked os 5 .any (Rows.formOnceSpec.pre6 enc Try.prog Try.f5 Rows.formOnceRow.domain false) (Rows.formOnceSpec.post enc Try.prog Try.f5 false true false false) := by
  refine returnsInHanded_of_change_sized (C := Try.checked) own started (by kernel_rfl) Try.func5
    (ChangeSpec.witness6 (enc := enc) (C := Try.checked) false ⟨#[], #[.slice none 0 0, .slice none 0 0, .int .i64 0], []⟩ 8 (by kernel_rfl) (by kernel_rfl) (by kernel_rfl) (by kernel_rfl)) ?_
  intro W base args ds gs before hval0 hW hcnd hsz0 _
  have hval : ∀ (j : Nat) t v, Try.f5.params[j]? = some t → args[j]? = some v → Value.okWide Try.prog W .any base t v := hval0
  have hW' := hW
  obtain ⟨p, q, hA0, hV, rfl, hfz, hnd⟩ := hW
  have hA : DataW.TrodAll enc Try.prog W 0 (fun _ => true) true Try.f5.params.toList args.toList ds p := hA0
  rw [Try.params5] at hA hval
  obtain ⟨v0, vs0, d0, ds0, p0, q0, hargs, rfl, rfl, h0, r0⟩ := trodAll_cons hA
  obtain ⟨v1, vs1, d1, ds1, p1, q1, rfl, rfl, rfl, h1, r1⟩ := trodAll_cons r0
  obtain ⟨v2, vs2, d2, ds2, p2, q2, rfl, rfl, rfl, h2, r2⟩ := trodAll_cons r1
  obtain ⟨rfl, rfl, rfl⟩ := trodAll_nil r2
  obtain rfl : args = #[v0, v1, v2] := by cases args; simp_all
  obtain ⟨rfl, rfl⟩ := trodVars_none hV
  obtain ⟨A0, n0, c0, e0⟩ := okWide_slice Try.underlying22 (hval 0 22 v0 rfl rfl)
  have h0k := h0
  obtain ⟨l0, g0, w0, z0, _, y0⟩ := Am.open_rawl e0 h0
  obtain ⟨A1, n1, c1, e1⟩ := okWide_slice Try.underlying22 (hval 1 22 v1 rfl rfl)
  have h1k := h1
  obtain ⟨l1, g1, w1, z1, _, y1⟩ := Am.open_rawl e1 h1
  obtain ⟨a2, rfl, rfl, rfl, w2⟩ := open_int Try.underlying3 (hval 2 3 v2 rfl rfl) h2
  clear hA0 hval0 hsz0
  refine (walk W v0 l0 g0 v1 l1 g1 a2 ⟨w0, z0⟩ ⟨w1, z1⟩ w2).mono fun e W' ⟨he, bel⟩ => ?_
  subst he
  exact ⟨_, rfl, _, _, _, [], _, [], hW', trodAll_mk1 (shut_bool Try.underlying4 _), (trodAll_cons_mk (Below.trod (by kernel_rfl) (by kernel_rfl) (of_decide_eq_true (by kernel_rfl)) h0k bel (fun x hx => by simpa using hW'.lt x (by simp [hx]))) (trodAll_cons_mk (Below.trod (by kernel_rfl) (by kernel_rfl) (of_decide_eq_true (by kernel_rfl)) h1k bel (fun x hx => by simpa using hW'.lt x (by simp [hx]))) (trodAll_cons_mk (shut_int Try.underlying3 w2) trodAll_mk0))), rfl, bel.frame _, fun h => by cases h⟩
theorem over : Rows.formOnceRow.holds Try.pinned (OpenSpec.ofChange Rows.formOnceSpec) :=
  OpenClaim.holds_of_wide 5 Try.f5 rfl rfl rfl rfl rfl rfl rfl ⟨rfl, rfl, rfl, rfl, rfl⟩ rfl rfl rfl rfl rfl (by as_aux_lemma => kernel_rfl) Try.func5 (by as_aux_lemma => kernel_rfl)
    (of_decide_eq_true (by as_aux_lemma => kernel_rfl)) (by unfold Func.isWrapper; first | (rw [if_pos (by decide +kernel)]; kernel_rfl) | (rw [if_neg (by decide +kernel)]; exact ⟨rfl, rfl⟩))
    (fun os started H enc _ => lifted os started H enc)
theorem proved : Rows.FormOnceSaid := over
#print axioms proved
end Go.Proofs.Ytnombkkfijlkfaa.formOnce
namespace Go.Proofs.Ytnombkkfijlkfaa
/-- The row, under a short name, for the claim. -/
theorem formOnce_holds : Rows.FormOnceSaid := formOnce.proved
end Go.Proofs.Ytnombkkfijlkfaa
