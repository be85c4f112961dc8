/-
  No cell of these rows narrows 'for every input' (looked for: loops, veiled, ifaces, maps, wideKeys, modest, calm, conditions, laid).
  DERIVED. THE GIVEN ROWS OF THIS SEAT. 7 by the template 'for every input the law returns true; each argument reads behind the call as it read before'; 0 by the template 'total and deterministic' (their statements: YtfcfifohflgboaaTotals.lean).
  GIVEN WITH THE SEED: the statements are not yours to turn. If you find one false, say at which input.
  Laid BY PROGRAM, IN A SANDBOX (cutbox-rows.mjs): the forced cells as the released guide's own fill.sh prints them over the translation a1f7f60e061f2746… (all of the seat's roots in one cut). By AI agents, Wed Nov 11 2026. No macro, syntax, notation, axiom, sorry.
-/
import Derived.Test.YtfcfifohflgboaaChecked
import GoSem.Claim
import GoSem.ClaimJoined
import GoSem.ClaimMapViews
import Derived.JoinedTies
import Derived.KernelRfl
namespace Go.Proofs.Ytfcfifohflgboaa
/- THE CELL 'sum', in the pinned program and in every row, IS THE sha256 OF THE DUMP (.gsa) THAT YtfcfifohflgboaaProg.lean LOADS. Nothing in Lean hashes anything: it is a label: what it is worth is what the hold of that sum in a sandbox is worth. -/
noncomputable def Try.pinned : Pinned := { name := "ytfcfifohflgboaa", sum := "a1f7f60e061f27460787e5b1b8d71c2561e27bb4812ce2728517825694929d9a", checked := Try.checked }
namespace Rows
def none {H : Type} : Left H := { results := [], args := [] }

/-- 'lychwaykeep.PageOnce': WHATEVER THE INPUT: true; the input reads as it did. -/
def pageOnceSpec : ChangeSpec := { name := "pageOnce", fn := fun _ => fun
  | [d1, d2] => { results := [.lit (.bool true)], args := [d1, d2] }
  | _ => none }
def pageOnceRow : OpenClaim := { program := "ytfcfifohflgboaa", sum := "a1f7f60e061f27460787e5b1b8d71c2561e27bb4812ce2728517825694929d9a", func := "lychway/lychwaykeep.PageOnce", spec := "pageOnce", unfollowed := true, recurses := true, apart := false }
def PageOnceSaid : Prop := pageOnceRow.holds Try.pinned (OpenSpec.ofChange pageOnceSpec)

/-- ITS FALSE NEIGHBOUR: 'it returns false'. Refute it at one input. -/
def pageOnceWrong : ChangeSpec := { name := "pageOnce", fn := fun _ => fun
  | [d1, d2] => { results := [.lit (.bool false)], args := [d1, d2] }
  | _ => none }
def PageOnceWrongFalsely : Prop := pageOnceRow.holds Try.pinned (OpenSpec.ofChange pageOnceWrong)

/-- 'lychwaykeep.FormFree': WHATEVER THE INPUT: true; the input reads as it did. -/
def formFreeSpec : ChangeSpec := { name := "formFree", fn := fun _ => fun
  | [d] => { results := [.lit (.bool true)], args := [d] }
  | _ => none }
def formFreeRow : OpenClaim := { program := "ytfcfifohflgboaa", sum := "a1f7f60e061f27460787e5b1b8d71c2561e27bb4812ce2728517825694929d9a", func := "lychway/lychwaykeep.FormFree", spec := "formFree", unfollowed := true, recurses := true, apart := false }
def FormFreeSaid : Prop := formFreeRow.holds Try.pinned (OpenSpec.ofChange formFreeSpec)

/-- ITS FALSE NEIGHBOUR: 'it returns false'. Refute it at one input. -/
def formFreeWrong : ChangeSpec := { name := "formFree", fn := fun _ => fun
  | [d] => { results := [.lit (.bool false)], args := [d] }
  | _ => none }
def FormFreeWrongFalsely : Prop := formFreeRow.holds Try.pinned (OpenSpec.ofChange formFreeWrong)

/-- 'lychwaykeep.RankRises': WHATEVER THE INPUT: true; the input reads as it did. -/
def rankRisesSpec : ChangeSpec := { name := "rankRises", fn := fun _ => fun
  | [d] => { results := [.lit (.bool true)], args := [d] }
  | _ => none }
def rankRisesRow : OpenClaim := { program := "ytfcfifohflgboaa", sum := "a1f7f60e061f27460787e5b1b8d71c2561e27bb4812ce2728517825694929d9a", func := "lychway/lychwaykeep.RankRises", spec := "rankRises", unfollowed := true, recurses := true, apart := false }
def RankRisesSaid : Prop := rankRisesRow.holds Try.pinned (OpenSpec.ofChange rankRisesSpec)

/-- ITS FALSE NEIGHBOUR: 'it returns false'. Refute it at one input. -/
def rankRisesWrong : ChangeSpec := { name := "rankRises", fn := fun _ => fun
  | [d] => { results := [.lit (.bool false)], args := [d] }
  | _ => none }
def RankRisesWrongFalsely : Prop := rankRisesRow.holds Try.pinned (OpenSpec.ofChange rankRisesWrong)

/-- 'lychwaykeep.RankCycles': WHATEVER THE INPUT: true; the input reads as it did. -/
def rankCyclesSpec : ChangeSpec := { name := "rankCycles", fn := fun _ => fun
  | [d1, d2] => { results := [.lit (.bool true)], args := [d1, d2] }
  | _ => none }
def rankCyclesRow : OpenClaim := { program := "ytfcfifohflgboaa", sum := "a1f7f60e061f27460787e5b1b8d71c2561e27bb4812ce2728517825694929d9a", func := "lychway/lychwaykeep.RankCycles", spec := "rankCycles", unfollowed := true, recurses := true, apart := false }
def RankCyclesSaid : Prop := rankCyclesRow.holds Try.pinned (OpenSpec.ofChange rankCyclesSpec)

/-- ITS FALSE NEIGHBOUR: 'it returns false'. Refute it at one input. -/
def rankCyclesWrong : ChangeSpec := { name := "rankCycles", fn := fun _ => fun
  | [d1, d2] => { results := [.lit (.bool false)], args := [d1, d2] }
  | _ => none }
def RankCyclesWrongFalsely : Prop := rankCyclesRow.holds Try.pinned (OpenSpec.ofChange rankCyclesWrong)

/-- 'lychwaykeep.RankFew': WHATEVER THE INPUT: true; the input reads as it did. -/
def rankFewSpec : ChangeSpec := { name := "rankFew", fn := fun _ => fun
  | [d] => { results := [.lit (.bool true)], args := [d] }
  | _ => none }
def rankFewRow : OpenClaim := { program := "ytfcfifohflgboaa", sum := "a1f7f60e061f27460787e5b1b8d71c2561e27bb4812ce2728517825694929d9a", func := "lychway/lychwaykeep.RankFew", spec := "rankFew", unfollowed := true, recurses := true, apart := false }
def RankFewSaid : Prop := rankFewRow.holds Try.pinned (OpenSpec.ofChange rankFewSpec)

/-- ITS FALSE NEIGHBOUR: 'it returns false'. Refute it at one input. -/
def rankFewWrong : ChangeSpec := { name := "rankFew", fn := fun _ => fun
  | [d] => { results := [.lit (.bool false)], args := [d] }
  | _ => none }
def RankFewWrongFalsely : Prop := rankFewRow.holds Try.pinned (OpenSpec.ofChange rankFewWrong)

/-- 'lychwaykeep.RankOrdered': WHATEVER THE INPUT: true; the input reads as it did. -/
def rankOrderedSpec : ChangeSpec := { name := "rankOrdered", fn := fun _ => fun
  | [d] => { results := [.lit (.bool true)], args := [d] }
  | _ => none }
def rankOrderedRow : OpenClaim := { program := "ytfcfifohflgboaa", sum := "a1f7f60e061f27460787e5b1b8d71c2561e27bb4812ce2728517825694929d9a", func := "lychway/lychwaykeep.RankOrdered", spec := "rankOrdered", unfollowed := true, recurses := true, apart := false }
def RankOrderedSaid : Prop := rankOrderedRow.holds Try.pinned (OpenSpec.ofChange rankOrderedSpec)

/-- ITS FALSE NEIGHBOUR: 'it returns false'. Refute it at one input. -/
def rankOrderedWrong : ChangeSpec := { name := "rankOrdered", fn := fun _ => fun
  | [d] => { results := [.lit (.bool false)], args := [d] }
  | _ => none }
def RankOrderedWrongFalsely : Prop := rankOrderedRow.holds Try.pinned (OpenSpec.ofChange rankOrderedWrong)

/-- 'lychwaykeep.RankHangs': WHATEVER THE INPUT: true; the input reads as it did. -/
def rankHangsSpec : ChangeSpec := { name := "rankHangs", fn := fun _ => fun
  | [d1, d2, d3] => { results := [.lit (.bool true)], args := [d1, d2, d3] }
  | _ => none }
def rankHangsRow : OpenClaim := { program := "ytfcfifohflgboaa", sum := "a1f7f60e061f27460787e5b1b8d71c2561e27bb4812ce2728517825694929d9a", func := "lychway/lychwaykeep.RankHangs", spec := "rankHangs", unfollowed := true, recurses := true, apart := false }
def RankHangsSaid : Prop := rankHangsRow.holds Try.pinned (OpenSpec.ofChange rankHangsSpec)

/-- ITS FALSE NEIGHBOUR: 'it returns false'. Refute it at one input. -/
def rankHangsWrong : ChangeSpec := { name := "rankHangs", fn := fun _ => fun
  | [d1, d2, d3] => { results := [.lit (.bool false)], args := [d1, d2, d3] }
  | _ => none }
def RankHangsWrongFalsely : Prop := rankHangsRow.holds Try.pinned (OpenSpec.ofChange rankHangsWrong)

/- THE SECOND FORM. 'bulk': how many values and letters a reading holds, each counted each time it is reached (what is shared counts as often as it is met; a slice's spare places count too). A statement '..UptoSaid' is the law's where the arguments, and the package variables that the reading takes, are together of bulk at most 1048576: NARROWER than '..Said'. Prove '..Said' where nothing that the law and all that it calls make is longer than what came in: it says more and counts as full. Else prove '..UptoSaid'. A law counts once. -/
mutual
def uptoBulk {H : Type} : DataW H → Nat
  | .lit (.string bytes) => bytes.length + 1
  | .lit _ => 1
  | .nil => 1
  | .ptr d => uptoBulk d + 1
  | .slice elems spare => uptoBulkAll elems + uptoBulkAll spare + 1
  | .agg parts => uptoBulkAll parts + 1
  | .iface _ d => uptoBulk d + 1
  | .map entries => uptoBulkEntries entries + 1
  | .held _ => 1
def uptoBulkAll {H : Type} : List (DataW H) → Nat
  | [] => 0
  | d :: r => uptoBulk d + uptoBulkAll r
def uptoBulkEntries {H : Type} : List (Lit × DataW H) → Nat
  | [] => 0
  | x :: r => uptoBulkEntry x + uptoBulkEntries r
def uptoBulkEntry {H : Type} : Lit × DataW H → Nat
  | (.string bytes, d) => bytes.length + uptoBulk d + 1
  | (_, d) => uptoBulk d + 1
 end
def uptoSmall : (H : Type) → List (DataW H) → Bool := fun _ ds => decide (uptoBulkAll ds ≤ 1048576)
def OpenSpec.upto (s : _root_.Go.ChangeSpec) : _root_.Go.OpenSpec := { _root_.Go.OpenSpec.ofChange s with cond := some uptoSmall }

/-- 'lychwaykeep.PageOnce', WHERE WHAT IT READS IS OF BULK AT MOST 1048576: true; the input reads as it did. -/
def pageOnceUptoRow : OpenClaim := { program := "ytfcfifohflgboaa", sum := "a1f7f60e061f27460787e5b1b8d71c2561e27bb4812ce2728517825694929d9a", func := "lychway/lychwaykeep.PageOnce", spec := "pageOnce", unfollowed := true, recurses := true, apart := false, narrowed := true }
def PageOnceUptoSaid : Prop := pageOnceUptoRow.holds Try.pinned (OpenSpec.upto pageOnceSpec)

/-- 'lychwaykeep.FormFree', WHERE WHAT IT READS IS OF BULK AT MOST 1048576: true; the input reads as it did. -/
def formFreeUptoRow : OpenClaim := { program := "ytfcfifohflgboaa", sum := "a1f7f60e061f27460787e5b1b8d71c2561e27bb4812ce2728517825694929d9a", func := "lychway/lychwaykeep.FormFree", spec := "formFree", unfollowed := true, recurses := true, apart := false, narrowed := true }
def FormFreeUptoSaid : Prop := formFreeUptoRow.holds Try.pinned (OpenSpec.upto formFreeSpec)

/-- 'lychwaykeep.RankRises', WHERE WHAT IT READS IS OF BULK AT MOST 1048576: true; the input reads as it did. -/
def rankRisesUptoRow : OpenClaim := { program := "ytfcfifohflgboaa", sum := "a1f7f60e061f27460787e5b1b8d71c2561e27bb4812ce2728517825694929d9a", func := "lychway/lychwaykeep.RankRises", spec := "rankRises", unfollowed := true, recurses := true, apart := false, narrowed := true }
def RankRisesUptoSaid : Prop := rankRisesUptoRow.holds Try.pinned (OpenSpec.upto rankRisesSpec)

/-- 'lychwaykeep.RankCycles', WHERE WHAT IT READS IS OF BULK AT MOST 1048576: true; the input reads as it did. -/
def rankCyclesUptoRow : OpenClaim := { program := "ytfcfifohflgboaa", sum := "a1f7f60e061f27460787e5b1b8d71c2561e27bb4812ce2728517825694929d9a", func := "lychway/lychwaykeep.RankCycles", spec := "rankCycles", unfollowed := true, recurses := true, apart := false, narrowed := true }
def RankCyclesUptoSaid : Prop := rankCyclesUptoRow.holds Try.pinned (OpenSpec.upto rankCyclesSpec)

/-- 'lychwaykeep.RankFew', WHERE WHAT IT READS IS OF BULK AT MOST 1048576: true; the input reads as it did. -/
def rankFewUptoRow : OpenClaim := { program := "ytfcfifohflgboaa", sum := "a1f7f60e061f27460787e5b1b8d71c2561e27bb4812ce2728517825694929d9a", func := "lychway/lychwaykeep.RankFew", spec := "rankFew", unfollowed := true, recurses := true, apart := false, narrowed := true }
def RankFewUptoSaid : Prop := rankFewUptoRow.holds Try.pinned (OpenSpec.upto rankFewSpec)

/-- 'lychwaykeep.RankOrdered', WHERE WHAT IT READS IS OF BULK AT MOST 1048576: true; the input reads as it did. -/
def rankOrderedUptoRow : OpenClaim := { program := "ytfcfifohflgboaa", sum := "a1f7f60e061f27460787e5b1b8d71c2561e27bb4812ce2728517825694929d9a", func := "lychway/lychwaykeep.RankOrdered", spec := "rankOrdered", unfollowed := true, recurses := true, apart := false, narrowed := true }
def RankOrderedUptoSaid : Prop := rankOrderedUptoRow.holds Try.pinned (OpenSpec.upto rankOrderedSpec)

/-- 'lychwaykeep.RankHangs', WHERE WHAT IT READS IS OF BULK AT MOST 1048576: true; the input reads as it did. -/
def rankHangsUptoRow : OpenClaim := { program := "ytfcfifohflgboaa", sum := "a1f7f60e061f27460787e5b1b8d71c2561e27bb4812ce2728517825694929d9a", func := "lychway/lychwaykeep.RankHangs", spec := "rankHangs", unfollowed := true, recurses := true, apart := false, narrowed := true }
def RankHangsUptoSaid : Prop := rankHangsUptoRow.holds Try.pinned (OpenSpec.upto rankHangsSpec)

end Rows
end Go.Proofs.Ytfcfifohflgboaa
