/-
  No cell of these rows narrows 'for every input' (looked for: loops, veiled, ifaces, maps, wideKeys, modest, calm, conditions, laid).
  DERIVED. THE GIVEN ROWS OF THIS SEAT. 12 by the template 'for every input the law returns true; each argument reads behind the call as it read before'; 0 by the template 'total and deterministic' (their statements: YtfcakcipnikcjaaTotals.lean).
  GIVEN WITH THE SEED: the statements are not yours to turn. If you find one false, say at which input.
  Laid BY PROGRAM, IN A SANDBOX (cutbox-rows.mjs): the forced cells as the released guide's own fill.sh prints them over the translation f0b9d51808eb01e0… (all of the seat's roots in one cut). By AI agents, Wed Nov 11 2026. No macro, syntax, notation, axiom, sorry.
-/
import Derived.Test.YtfcakcipnikcjaaChecked
import GoSem.Claim
import GoSem.ClaimJoined
import GoSem.ClaimMapViews
import Derived.JoinedTies
import Derived.KernelRfl
namespace Go.Proofs.Ytfcakcipnikcjaa
/- THE CELL 'sum', in the pinned program and in every row, IS THE sha256 OF THE DUMP (.gsa) THAT YtfcakcipnikcjaaProg.lean LOADS. Nothing in Lean hashes anything: it is a label: what it is worth is what the hold of that sum in a sandbox is worth. -/
noncomputable def Try.pinned : Pinned := { name := "ytfcakcipnikcjaa", sum := "f0b9d51808eb01e0d7dacaad95cc717aa977de4639ee02e13987b9b5a9ecdcd4", checked := Try.checked }
namespace Rows
def none {H : Type} : Left H := { results := [], args := [] }

/-- 'lychwaykeep.FieldPlaces': WHATEVER THE INPUT: true; the input reads as it did. -/
def fieldPlacesSpec : ChangeSpec := { name := "fieldPlaces", fn := fun _ => fun
  | [d] => { results := [.lit (.bool true)], args := [d] }
  | _ => none }
def fieldPlacesRow : OpenClaim := { program := "ytfcakcipnikcjaa", sum := "f0b9d51808eb01e0d7dacaad95cc717aa977de4639ee02e13987b9b5a9ecdcd4", func := "lychway/lychwaykeep.FieldPlaces", spec := "fieldPlaces", unfollowed := true, recurses := true, apart := false }
def FieldPlacesSaid : Prop := fieldPlacesRow.holds Try.pinned (OpenSpec.ofChange fieldPlacesSpec)

/-- ITS FALSE NEIGHBOUR: 'it returns false'. Refute it at one input. -/
def fieldPlacesWrong : ChangeSpec := { name := "fieldPlaces", fn := fun _ => fun
  | [d] => { results := [.lit (.bool false)], args := [d] }
  | _ => none }
def FieldPlacesWrongFalsely : Prop := fieldPlacesRow.holds Try.pinned (OpenSpec.ofChange fieldPlacesWrong)

/-- 'lychwaykeep.NumBack': WHATEVER THE INPUT: true; the input reads as it did. -/
def numBackSpec : ChangeSpec := { name := "numBack", fn := fun _ => fun
  | [d1, d2] => { results := [.lit (.bool true)], args := [d1, d2] }
  | _ => none }
def numBackRow : OpenClaim := { program := "ytfcakcipnikcjaa", sum := "f0b9d51808eb01e0d7dacaad95cc717aa977de4639ee02e13987b9b5a9ecdcd4", func := "lychway/lychwaykeep.NumBack", spec := "numBack", unfollowed := true, recurses := true, apart := false }
def NumBackSaid : Prop := numBackRow.holds Try.pinned (OpenSpec.ofChange numBackSpec)

/-- ITS FALSE NEIGHBOUR: 'it returns false'. Refute it at one input. -/
def numBackWrong : ChangeSpec := { name := "numBack", fn := fun _ => fun
  | [d1, d2] => { results := [.lit (.bool false)], args := [d1, d2] }
  | _ => none }
def NumBackWrongFalsely : Prop := numBackRow.holds Try.pinned (OpenSpec.ofChange numBackWrong)

/-- 'lychwaykeep.NumGroups': WHATEVER THE INPUT: true; the input reads as it did. -/
def numGroupsSpec : ChangeSpec := { name := "numGroups", fn := fun _ => fun
  | [d1, d2, d3] => { results := [.lit (.bool true)], args := [d1, d2, d3] }
  | _ => none }
def numGroupsRow : OpenClaim := { program := "ytfcakcipnikcjaa", sum := "f0b9d51808eb01e0d7dacaad95cc717aa977de4639ee02e13987b9b5a9ecdcd4", func := "lychway/lychwaykeep.NumGroups", spec := "numGroups", unfollowed := true, recurses := true, apart := false }
def NumGroupsSaid : Prop := numGroupsRow.holds Try.pinned (OpenSpec.ofChange numGroupsSpec)

/-- ITS FALSE NEIGHBOUR: 'it returns false'. Refute it at one input. -/
def numGroupsWrong : ChangeSpec := { name := "numGroups", fn := fun _ => fun
  | [d1, d2, d3] => { results := [.lit (.bool false)], args := [d1, d2, d3] }
  | _ => none }
def NumGroupsWrongFalsely : Prop := numGroupsRow.holds Try.pinned (OpenSpec.ofChange numGroupsWrong)

/-- 'lychwaykeep.GapRises': WHATEVER THE INPUT: true; the input reads as it did. -/
def gapRisesSpec : ChangeSpec := { name := "gapRises", fn := fun _ => fun
  | [d1, d2, d3] => { results := [.lit (.bool true)], args := [d1, d2, d3] }
  | _ => none }
def gapRisesRow : OpenClaim := { program := "ytfcakcipnikcjaa", sum := "f0b9d51808eb01e0d7dacaad95cc717aa977de4639ee02e13987b9b5a9ecdcd4", func := "lychway/lychwaykeep.GapRises", spec := "gapRises", apart := false }
def GapRisesSaid : Prop := gapRisesRow.holds Try.pinned (OpenSpec.ofChange gapRisesSpec)

/-- ITS FALSE NEIGHBOUR: 'it returns false'. Refute it at one input. -/
def gapRisesWrong : ChangeSpec := { name := "gapRises", fn := fun _ => fun
  | [d1, d2, d3] => { results := [.lit (.bool false)], args := [d1, d2, d3] }
  | _ => none }
def GapRisesWrongFalsely : Prop := gapRisesRow.holds Try.pinned (OpenSpec.ofChange gapRisesWrong)

/-- 'lychwaykeep.NumShares': WHATEVER THE INPUT: true; the input reads as it did. -/
def numSharesSpec : ChangeSpec := { name := "numShares", fn := fun _ => fun
  | [d1, d2, d3] => { results := [.lit (.bool true)], args := [d1, d2, d3] }
  | _ => none }
def numSharesRow : OpenClaim := { program := "ytfcakcipnikcjaa", sum := "f0b9d51808eb01e0d7dacaad95cc717aa977de4639ee02e13987b9b5a9ecdcd4", func := "lychway/lychwaykeep.NumShares", spec := "numShares", unfollowed := true, recurses := true, apart := false }
def NumSharesSaid : Prop := numSharesRow.holds Try.pinned (OpenSpec.ofChange numSharesSpec)

/-- ITS FALSE NEIGHBOUR: 'it returns false'. Refute it at one input. -/
def numSharesWrong : ChangeSpec := { name := "numShares", fn := fun _ => fun
  | [d1, d2, d3] => { results := [.lit (.bool false)], args := [d1, d2, d3] }
  | _ => none }
def NumSharesWrongFalsely : Prop := numSharesRow.holds Try.pinned (OpenSpec.ofChange numSharesWrong)

/-- 'lychwaykeep.NumEuclid': WHATEVER THE INPUT: true; the input reads as it did. -/
def numEuclidSpec : ChangeSpec := { name := "numEuclid", fn := fun _ => fun
  | [d1, d2] => { results := [.lit (.bool true)], args := [d1, d2] }
  | _ => none }
def numEuclidRow : OpenClaim := { program := "ytfcakcipnikcjaa", sum := "f0b9d51808eb01e0d7dacaad95cc717aa977de4639ee02e13987b9b5a9ecdcd4", func := "lychway/lychwaykeep.NumEuclid", spec := "numEuclid", unfollowed := true, recurses := true, apart := false }
def NumEuclidSaid : Prop := numEuclidRow.holds Try.pinned (OpenSpec.ofChange numEuclidSpec)

/-- ITS FALSE NEIGHBOUR: 'it returns false'. Refute it at one input. -/
def numEuclidWrong : ChangeSpec := { name := "numEuclid", fn := fun _ => fun
  | [d1, d2] => { results := [.lit (.bool false)], args := [d1, d2] }
  | _ => none }
def NumEuclidWrongFalsely : Prop := numEuclidRow.holds Try.pinned (OpenSpec.ofChange numEuclidWrong)

/-- 'lychwaykeep.FieldAsks': WHATEVER THE INPUT: true; the input reads as it did. -/
def fieldAsksSpec : ChangeSpec := { name := "fieldAsks", fn := fun _ => fun
  | [d1, d2, d3] => { results := [.lit (.bool true)], args := [d1, d2, d3] }
  | _ => none }
def fieldAsksRow : OpenClaim := { program := "ytfcakcipnikcjaa", sum := "f0b9d51808eb01e0d7dacaad95cc717aa977de4639ee02e13987b9b5a9ecdcd4", func := "lychway/lychwaykeep.FieldAsks", spec := "fieldAsks", unfollowed := true, recurses := true, apart := false }
def FieldAsksSaid : Prop := fieldAsksRow.holds Try.pinned (OpenSpec.ofChange fieldAsksSpec)

/-- ITS FALSE NEIGHBOUR: 'it returns false'. Refute it at one input. -/
def fieldAsksWrong : ChangeSpec := { name := "fieldAsks", fn := fun _ => fun
  | [d1, d2, d3] => { results := [.lit (.bool false)], args := [d1, d2, d3] }
  | _ => none }
def FieldAsksWrongFalsely : Prop := fieldAsksRow.holds Try.pinned (OpenSpec.ofChange fieldAsksWrong)

/-- 'lychwaykeep.LexWrong': WHATEVER THE INPUT: true; the input reads as it did. -/
def lexWrongSpec : ChangeSpec := { name := "lexWrong", fn := fun _ => fun
  | [d] => { results := [.lit (.bool true)], args := [d] }
  | _ => none }
def lexWrongRow : OpenClaim := { program := "ytfcakcipnikcjaa", sum := "f0b9d51808eb01e0d7dacaad95cc717aa977de4639ee02e13987b9b5a9ecdcd4", func := "lychway/lychwaykeep.LexWrong", spec := "lexWrong", unfollowed := true, recurses := true, apart := false }
def LexWrongSaid : Prop := lexWrongRow.holds Try.pinned (OpenSpec.ofChange lexWrongSpec)

/-- ITS FALSE NEIGHBOUR: 'it returns false'. Refute it at one input. -/
def lexWrongWrong : ChangeSpec := { name := "lexWrong", fn := fun _ => fun
  | [d] => { results := [.lit (.bool false)], args := [d] }
  | _ => none }
def LexWrongWrongFalsely : Prop := lexWrongRow.holds Try.pinned (OpenSpec.ofChange lexWrongWrong)

/-- 'lychwaykeep.ValueOrderly': WHATEVER THE INPUT: true; the input reads as it did. -/
def valueOrderlySpec : ChangeSpec := { name := "valueOrderly", fn := fun _ => fun
  | [d1, d2, d3, d4] => { results := [.lit (.bool true)], args := [d1, d2, d3, d4] }
  | _ => none }
def valueOrderlyRow : OpenClaim := { program := "ytfcakcipnikcjaa", sum := "f0b9d51808eb01e0d7dacaad95cc717aa977de4639ee02e13987b9b5a9ecdcd4", func := "lychway/lychwaykeep.ValueOrderly", spec := "valueOrderly", apart := false }
def ValueOrderlySaid : Prop := valueOrderlyRow.holds Try.pinned (OpenSpec.ofChange valueOrderlySpec)

/-- ITS FALSE NEIGHBOUR: 'it returns false'. Refute it at one input. -/
def valueOrderlyWrong : ChangeSpec := { name := "valueOrderly", fn := fun _ => fun
  | [d1, d2, d3, d4] => { results := [.lit (.bool false)], args := [d1, d2, d3, d4] }
  | _ => none }
def ValueOrderlyWrongFalsely : Prop := valueOrderlyRow.holds Try.pinned (OpenSpec.ofChange valueOrderlyWrong)

/-- 'lychwaykeep.ClockSorted': WHATEVER THE INPUT: true; the input reads as it did. -/
def clockSortedSpec : ChangeSpec := { name := "clockSorted", fn := fun _ => fun
  | [d] => { results := [.lit (.bool true)], args := [d] }
  | _ => none }
def clockSortedRow : OpenClaim := { program := "ytfcakcipnikcjaa", sum := "f0b9d51808eb01e0d7dacaad95cc717aa977de4639ee02e13987b9b5a9ecdcd4", func := "lychway/lychwaykeep.ClockSorted", spec := "clockSorted", unfollowed := true, recurses := true, apart := false }
def ClockSortedSaid : Prop := clockSortedRow.holds Try.pinned (OpenSpec.ofChange clockSortedSpec)

/-- ITS FALSE NEIGHBOUR: 'it returns false'. Refute it at one input. -/
def clockSortedWrong : ChangeSpec := { name := "clockSorted", fn := fun _ => fun
  | [d] => { results := [.lit (.bool false)], args := [d] }
  | _ => none }
def ClockSortedWrongFalsely : Prop := clockSortedRow.holds Try.pinned (OpenSpec.ofChange clockSortedWrong)

/-- 'lychwaykeep.FormOnce': WHATEVER THE INPUT: true; the input reads as it did. -/
def formOnceSpec : ChangeSpec := { name := "formOnce", fn := fun _ => fun
  | [d1, d2, d3] => { results := [.lit (.bool true)], args := [d1, d2, d3] }
  | _ => none }
def formOnceRow : OpenClaim := { program := "ytfcakcipnikcjaa", sum := "f0b9d51808eb01e0d7dacaad95cc717aa977de4639ee02e13987b9b5a9ecdcd4", func := "lychway/lychwaykeep.FormOnce", spec := "formOnce", unfollowed := true, recurses := true, apart := false }
def FormOnceSaid : Prop := formOnceRow.holds Try.pinned (OpenSpec.ofChange formOnceSpec)

/-- ITS FALSE NEIGHBOUR: 'it returns false'. Refute it at one input. -/
def formOnceWrong : ChangeSpec := { name := "formOnce", fn := fun _ => fun
  | [d1, d2, d3] => { results := [.lit (.bool false)], args := [d1, d2, d3] }
  | _ => none }
def FormOnceWrongFalsely : Prop := formOnceRow.holds Try.pinned (OpenSpec.ofChange formOnceWrong)

/-- 'lychwaykeep.LexFew': WHATEVER THE INPUT: true; the input reads as it did. -/
def lexFewSpec : ChangeSpec := { name := "lexFew", fn := fun _ => fun
  | [d] => { results := [.lit (.bool true)], args := [d] }
  | _ => none }
def lexFewRow : OpenClaim := { program := "ytfcakcipnikcjaa", sum := "f0b9d51808eb01e0d7dacaad95cc717aa977de4639ee02e13987b9b5a9ecdcd4", func := "lychway/lychwaykeep.LexFew", spec := "lexFew", unfollowed := true, recurses := true, apart := false }
def LexFewSaid : Prop := lexFewRow.holds Try.pinned (OpenSpec.ofChange lexFewSpec)

/-- ITS FALSE NEIGHBOUR: 'it returns false'. Refute it at one input. -/
def lexFewWrong : ChangeSpec := { name := "lexFew", fn := fun _ => fun
  | [d] => { results := [.lit (.bool false)], args := [d] }
  | _ => none }
def LexFewWrongFalsely : Prop := lexFewRow.holds Try.pinned (OpenSpec.ofChange lexFewWrong)

/- THE SECOND FORM. 'bulk': how many values and letters a reading holds, each counted each time it is reached (what is shared counts as often as it is met; a slice's spare places count too). A statement '..UptoSaid' is the law's where the arguments, and the package variables that the reading takes, are together of bulk at most 1048576: NARROWER than '..Said'. Prove '..Said' where nothing that the law and all that it calls make is longer than what came in: it says more and counts as full. Else prove '..UptoSaid'. A law counts once. -/
mutual
def uptoBulk {H : Type} : DataW H → Nat
  | .lit (.string bytes) => bytes.length + 1
  | .lit _ => 1
  | .nil => 1
  | .ptr d => uptoBulk d + 1
  | .slice elems spare => uptoBulkAll elems + uptoBulkAll spare + 1
  | .agg parts => uptoBulkAll parts + 1
  | .iface _ d => uptoBulk d + 1
  | .map entries => uptoBulkEntries entries + 1
  | .held _ => 1
def uptoBulkAll {H : Type} : List (DataW H) → Nat
  | [] => 0
  | d :: r => uptoBulk d + uptoBulkAll r
def uptoBulkEntries {H : Type} : List (Lit × DataW H) → Nat
  | [] => 0
  | x :: r => uptoBulkEntry x + uptoBulkEntries r
def uptoBulkEntry {H : Type} : Lit × DataW H → Nat
  | (.string bytes, d) => bytes.length + uptoBulk d + 1
  | (_, d) => uptoBulk d + 1
 end
def uptoSmall : (H : Type) → List (DataW H) → Bool := fun _ ds => decide (uptoBulkAll ds ≤ 1048576)
def OpenSpec.upto (s : _root_.Go.ChangeSpec) : _root_.Go.OpenSpec := { _root_.Go.OpenSpec.ofChange s with cond := some uptoSmall }

/-- 'lychwaykeep.FieldPlaces', WHERE WHAT IT READS IS OF BULK AT MOST 1048576: true; the input reads as it did. -/
def fieldPlacesUptoRow : OpenClaim := { program := "ytfcakcipnikcjaa", sum := "f0b9d51808eb01e0d7dacaad95cc717aa977de4639ee02e13987b9b5a9ecdcd4", func := "lychway/lychwaykeep.FieldPlaces", spec := "fieldPlaces", unfollowed := true, recurses := true, apart := false, narrowed := true }
def FieldPlacesUptoSaid : Prop := fieldPlacesUptoRow.holds Try.pinned (OpenSpec.upto fieldPlacesSpec)

/-- 'lychwaykeep.NumBack', WHERE WHAT IT READS IS OF BULK AT MOST 1048576: true; the input reads as it did. -/
def numBackUptoRow : OpenClaim := { program := "ytfcakcipnikcjaa", sum := "f0b9d51808eb01e0d7dacaad95cc717aa977de4639ee02e13987b9b5a9ecdcd4", func := "lychway/lychwaykeep.NumBack", spec := "numBack", unfollowed := true, recurses := true, apart := false, narrowed := true }
def NumBackUptoSaid : Prop := numBackUptoRow.holds Try.pinned (OpenSpec.upto numBackSpec)

/-- 'lychwaykeep.NumGroups', WHERE WHAT IT READS IS OF BULK AT MOST 1048576: true; the input reads as it did. -/
def numGroupsUptoRow : OpenClaim := { program := "ytfcakcipnikcjaa", sum := "f0b9d51808eb01e0d7dacaad95cc717aa977de4639ee02e13987b9b5a9ecdcd4", func := "lychway/lychwaykeep.NumGroups", spec := "numGroups", unfollowed := true, recurses := true, apart := false, narrowed := true }
def NumGroupsUptoSaid : Prop := numGroupsUptoRow.holds Try.pinned (OpenSpec.upto numGroupsSpec)

/-- 'lychwaykeep.GapRises', WHERE WHAT IT READS IS OF BULK AT MOST 1048576: true; the input reads as it did. -/
def gapRisesUptoRow : OpenClaim := { program := "ytfcakcipnikcjaa", sum := "f0b9d51808eb01e0d7dacaad95cc717aa977de4639ee02e13987b9b5a9ecdcd4", func := "lychway/lychwaykeep.GapRises", spec := "gapRises", apart := false, narrowed := true }
def GapRisesUptoSaid : Prop := gapRisesUptoRow.holds Try.pinned (OpenSpec.upto gapRisesSpec)

/-- 'lychwaykeep.NumShares', WHERE WHAT IT READS IS OF BULK AT MOST 1048576: true; the input reads as it did. -/
def numSharesUptoRow : OpenClaim := { program := "ytfcakcipnikcjaa", sum := "f0b9d51808eb01e0d7dacaad95cc717aa977de4639ee02e13987b9b5a9ecdcd4", func := "lychway/lychwaykeep.NumShares", spec := "numShares", unfollowed := true, recurses := true, apart := false, narrowed := true }
def NumSharesUptoSaid : Prop := numSharesUptoRow.holds Try.pinned (OpenSpec.upto numSharesSpec)

/-- 'lychwaykeep.NumEuclid', WHERE WHAT IT READS IS OF BULK AT MOST 1048576: true; the input reads as it did. -/
def numEuclidUptoRow : OpenClaim := { program := "ytfcakcipnikcjaa", sum := "f0b9d51808eb01e0d7dacaad95cc717aa977de4639ee02e13987b9b5a9ecdcd4", func := "lychway/lychwaykeep.NumEuclid", spec := "numEuclid", unfollowed := true, recurses := true, apart := false, narrowed := true }
def NumEuclidUptoSaid : Prop := numEuclidUptoRow.holds Try.pinned (OpenSpec.upto numEuclidSpec)

/-- 'lychwaykeep.FieldAsks', WHERE WHAT IT READS IS OF BULK AT MOST 1048576: true; the input reads as it did. -/
def fieldAsksUptoRow : OpenClaim := { program := "ytfcakcipnikcjaa", sum := "f0b9d51808eb01e0d7dacaad95cc717aa977de4639ee02e13987b9b5a9ecdcd4", func := "lychway/lychwaykeep.FieldAsks", spec := "fieldAsks", unfollowed := true, recurses := true, apart := false, narrowed := true }
def FieldAsksUptoSaid : Prop := fieldAsksUptoRow.holds Try.pinned (OpenSpec.upto fieldAsksSpec)

/-- 'lychwaykeep.LexWrong', WHERE WHAT IT READS IS OF BULK AT MOST 1048576: true; the input reads as it did. -/
def lexWrongUptoRow : OpenClaim := { program := "ytfcakcipnikcjaa", sum := "f0b9d51808eb01e0d7dacaad95cc717aa977de4639ee02e13987b9b5a9ecdcd4", func := "lychway/lychwaykeep.LexWrong", spec := "lexWrong", unfollowed := true, recurses := true, apart := false, narrowed := true }
def LexWrongUptoSaid : Prop := lexWrongUptoRow.holds Try.pinned (OpenSpec.upto lexWrongSpec)

/-- 'lychwaykeep.ValueOrderly', WHERE WHAT IT READS IS OF BULK AT MOST 1048576: true; the input reads as it did. -/
def valueOrderlyUptoRow : OpenClaim := { program := "ytfcakcipnikcjaa", sum := "f0b9d51808eb01e0d7dacaad95cc717aa977de4639ee02e13987b9b5a9ecdcd4", func := "lychway/lychwaykeep.ValueOrderly", spec := "valueOrderly", apart := false, narrowed := true }
def ValueOrderlyUptoSaid : Prop := valueOrderlyUptoRow.holds Try.pinned (OpenSpec.upto valueOrderlySpec)

/-- 'lychwaykeep.ClockSorted', WHERE WHAT IT READS IS OF BULK AT MOST 1048576: true; the input reads as it did. -/
def clockSortedUptoRow : OpenClaim := { program := "ytfcakcipnikcjaa", sum := "f0b9d51808eb01e0d7dacaad95cc717aa977de4639ee02e13987b9b5a9ecdcd4", func := "lychway/lychwaykeep.ClockSorted", spec := "clockSorted", unfollowed := true, recurses := true, apart := false, narrowed := true }
def ClockSortedUptoSaid : Prop := clockSortedUptoRow.holds Try.pinned (OpenSpec.upto clockSortedSpec)

/-- 'lychwaykeep.FormOnce', WHERE WHAT IT READS IS OF BULK AT MOST 1048576: true; the input reads as it did. -/
def formOnceUptoRow : OpenClaim := { program := "ytfcakcipnikcjaa", sum := "f0b9d51808eb01e0d7dacaad95cc717aa977de4639ee02e13987b9b5a9ecdcd4", func := "lychway/lychwaykeep.FormOnce", spec := "formOnce", unfollowed := true, recurses := true, apart := false, narrowed := true }
def FormOnceUptoSaid : Prop := formOnceUptoRow.holds Try.pinned (OpenSpec.upto formOnceSpec)

/-- 'lychwaykeep.LexFew', WHERE WHAT IT READS IS OF BULK AT MOST 1048576: true; the input reads as it did. -/
def lexFewUptoRow : OpenClaim := { program := "ytfcakcipnikcjaa", sum := "f0b9d51808eb01e0d7dacaad95cc717aa977de4639ee02e13987b9b5a9ecdcd4", func := "lychway/lychwaykeep.LexFew", spec := "lexFew", unfollowed := true, recurses := true, apart := false, narrowed := true }
def LexFewUptoSaid : Prop := lexFewUptoRow.holds Try.pinned (OpenSpec.upto lexFewSpec)

end Rows
end Go.Proofs.Ytfcakcipnikcjaa
