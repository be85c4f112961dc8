/- Which names a formula asks for. -/
import Derived.Test.YthmggkidmcgfoaaGenL
set_option linter.unusedVariables false
set_option linter.unusedSimpArgs false
namespace Go.Proofs.Ythmggkidmcgfoaa.Am
open Go Go.RowKit
set_option maxRecDepth 100000
set_option maxHeartbeats 40000000



mutual
def Exp.ex : Exp → Ex
  | .mk op v name args => .mk op v.kind v.n v.s name (Exp.exL args)
def Exp.exL : List Exp → List Ex
  | [] => []
  | x :: r => x.ex :: Exp.exL r
end
mutual
theorem ex_dv : ∀ x : Exp, x.ex.dv = x.dv
  | .mk op v name args => by rw [Exp.ex, Ex.dv, ex_dvs args, Exp.dv]
theorem ex_dvs : ∀ l : List Exp, Ex.dvs (Exp.exL l) = Exp.dvs l
  | [] => by rw [Exp.exL, Ex.dvs, Exp.dvs]
  | x :: r => by rw [Exp.exL, Ex.dvs, ex_dv x, ex_dvs r, Exp.dvs]
end
mutual
/-- The names that a formula asks for. -/
def Exp.refs : Exp → List (List UInt8)
  | .mk op v name args => (if op = 2 then [name] else []) ++ Exp.refsL args
def Exp.refsL : List Exp → List (List UInt8)
  | [] => []
  | x :: r => x.refs ++ Exp.refsL r
end
mutual
theorem ex_refs : ∀ x : Exp, x.ex.refs = x.refs
  | .mk op v name args => by rw [Exp.ex, Ex.refs, ex_refsL args, Exp.refs]
theorem ex_refsL : ∀ l : List Exp, Ex.refsL (Exp.exL l) = Exp.refsL l
  | [] => by rw [Exp.exL, Ex.refsL, Exp.refsL]
  | x :: r => by rw [Exp.exL, Ex.refsL, ex_refs x, ex_refsL r, Exp.refsL]
end
/-- A call of a primitive. -/
theorem call_prim {f d dst : Nat} {S : St} {args : List AV} {ds : List DV} {p : List DV → Option (AV × Heap)} {y : DV} (hp : tab.prim f = some p) (ha : toDs args = some ds) (ho : tab.opn f = false) (hl : tab.lend f = false) (ht : tab.thaw f dst = none) (hr : tab.res f = none) (h : p ds = some (.d y, [])) :
    callA tab (callR tab) d dst f args S = some (.d y, S) := by
  unfold callA
  rw [lent_off hl]
  simp only
  unfold callO
  rw [ho]
  simp only [Bool.false_eq_true, if_false, ha, hp, h, adopt, ht]
  exact adoptO_plain hr rfl rfl
theorem ca_Has {d dst : Nat} {S : St} (x : Exp) (s : List UInt8) : callA tab (callR tab) d dst 15 [.d x.dv, .d (.str s)] S = some (.d (.bool (decide (s ∈ x.refs))), S) := by
  refine call_prim prim15 (ds := [x.dv, .str s]) rfl (tab_opn (by kernel_rfl)) (tab_lend (by kernel_rfl)) (by simp only [tab]; exact look2_none _ _ _ (by kernel_rfl)) (by kernel_rfl) ?_
  rw [← ex_dv x, hasP_eq, ex_refs]
end Go.Proofs.Ythmggkidmcgfoaa.Am
