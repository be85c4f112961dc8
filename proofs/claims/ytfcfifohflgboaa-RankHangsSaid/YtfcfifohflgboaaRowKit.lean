/- Raw things and lists of them, as a statement hands them in. -/
import Derived.Test.YtfcfifohflgboaaGenL
import Derived.WalkKit
import Derived.ProofKit
import Derived.OpenShut
import Derived.ShutString
import Derived.ChangeOld
import Derived.ChangeMaps5
import Derived.Below
import Derived.Carry
import Derived.SizedLaws
set_option linter.unusedVariables false
set_option linter.unusedSimpArgs false
namespace Go.Proofs.Ytfcfifohflgboaa.Am
set_option maxRecDepth 100000
open Go Go.RowKit Go.ChangeShapes Go.WideShapes Go.ChangeAt

section
variable {H : Type} {enc : TypeId × Value → H} {W : World} {base : Nat} {sp : Nat → Bool} {held : Bool}
structure RawB where
  kind : Int
  a : Int
  b : Int
  text : ByteArray
def RawB.val (r : RawB) : Value := .agg #[.int .i64 r.kind, .int .i64 r.a, .int .i64 r.b, .string r.text]
def RawB.raw (r : RawB) : Raw := ⟨r.kind, r.a, r.b, r.text.data.toList⟩
theorem RawB.rep (r : RawB) (F : Nat → Nat → Prop) : RepD W F r.val r.raw.dv := by
  refine .agg _ _ rfl (fun i x hx => ?_) (fun i v x hv hx => ?_)
  · match i, hx with
    | 0, hx | 1, hx | 2, hx | 3, hx => simp [RawB.raw] at hx; subst hx; rfl
  · match i, hv, hx with
    | 0, hv, hx | 1, hv, hx | 2, hv, hx => simp [RawB.raw] at hv hx; subst hv; subst hx; exact .int _ _
    | 3, hv, hx => simp [RawB.raw] at hv hx; subst hv; subst hx; exact .str _
theorem int_range {n : Int} (h : (Lit.int .i64 n).wf = true) : -9223372036854775808 ≤ n ∧ n ≤ 9223372036854775807 := by
  simp only [Lit.wf, Bool.and_eq_true, decide_eq_true_eq] at h
  exact h
theorem open_raw_cells {fuel : Nat} {cs : List Value} {x : DataW H × List MemPlace} (h : DataW.trod enc Try.prog W base sp held fuel 69 cs = some x) : ∃ r : RawB, cs = r.val.cells.toList ∧ r.raw.ok := by
  obtain ⟨xs, n, rfl, rfl, hl, hlen, hf⟩ := DataW.trod_struct Try.underlying69 h
  have hc : Try.prog.cellsOf 69 = 4 := by kernel_rfl
  have hc3 : Try.prog.cellsOf 3 = 1 := by kernel_rfl
  have hc9 : Try.prog.cellsOf 9 = 1 := by kernel_rfl
  rw [hc] at hl
  match cs, hl with
  | [c0, c1, c2, c3], _ =>
    match xs, hlen with
    | [x0, x1, x2, x3], _ =>
      have h0 := hf 0 _ rfl
      have h1 := hf 1 _ rfl
      have h2 := hf 2 _ rfl
      have h3 := hf 3 _ rfl
      simp only [hc3, hc9, List.drop_zero, List.drop_succ_cons, List.take_succ_cons, List.take_zero, List.getElem?_cons_zero, List.getElem?_cons_succ] at h0 h1 h2 h3
      obtain ⟨k, e0, _, w0⟩ := DataW.trod_int Try.underlying3 h0
      obtain ⟨a, e1, _, w1⟩ := DataW.trod_int Try.underlying3 h1
      obtain ⟨b, e2, _, w2⟩ := DataW.trod_int Try.underlying3 h2
      obtain ⟨s, e3, _, w3⟩ := DataW.trod_string Try.underlying9 h3
      injection e0 with e0; injection e1 with e1; injection e2 with e2; injection e3 with e3
      subst e0; subst e1; subst e2; subst e3
      refine ⟨⟨k, a, b, s⟩, rfl, int_range w0, int_range w1, int_range w2, ?_⟩
      have : s.size ≤ 9223372036854775807 := by simpa [maxLen] using w3
      simpa [RawB.raw] using this
end
end Go.Proofs.Ytfcfifohflgboaa.Am
