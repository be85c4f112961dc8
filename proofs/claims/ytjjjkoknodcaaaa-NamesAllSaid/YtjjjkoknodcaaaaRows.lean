/-
  No cell of these rows narrows 'for every input' (looked for: loops, veiled, ifaces, maps, wideKeys, modest, calm, conditions, laid).
  DERIVED. THE GIVEN ROWS OF THIS SEAT. 12 by the template 'for every input the law returns true; each argument reads behind the call as it read before'; 0 by the template 'total and deterministic' (their statements: YtjjjkoknodcaaaaTotals.lean).
  GIVEN WITH THE SEED: the statements are not yours to turn. If you find one false, say at which input.
  Laid BY PROGRAM, IN A SANDBOX (cutbox-rows.mjs): the forced cells as the released guide's own fill.sh prints them over the translation 3a909a065086b845… (all of the seat's roots in one cut). By AI agents, Wed Nov 11 2026. No macro, syntax, notation, axiom, sorry.
-/
import Derived.Test.YtjjjkoknodcaaaaChecked
import GoSem.Claim
import GoSem.ClaimJoined
import GoSem.ClaimMapViews
import Derived.JoinedTies
import Derived.KernelRfl
namespace Go.Proofs.Ytjjjkoknodcaaaa
/- THE CELL 'sum', in the pinned program and in every row, IS THE sha256 OF THE DUMP (.gsa) THAT YtjjjkoknodcaaaaProg.lean LOADS. Nothing in Lean hashes anything: it is a label: what it is worth is what the hold of that sum in a sandbox is worth. -/
noncomputable def Try.pinned : Pinned := { name := "ytjjjkoknodcaaaa", sum := "3a909a065086b8454ec5c4403cd3b4c9c5e5c6d2b103a31014246dca6f175ac7", checked := Try.checked }
namespace Rows
def none {H : Type} : Left H := { results := [], args := [] }

/-- 'lychwaykeep.ExprSized': WHATEVER THE INPUT: true; the input reads as it did. -/
def exprSizedSpec : ChangeSpec := { name := "exprSized", fn := fun _ => fun
  | [d1, d2] => { results := [.lit (.bool true)], args := [d1, d2] }
  | _ => none }
def exprSizedRow : OpenClaim := { program := "ytjjjkoknodcaaaa", sum := "3a909a065086b8454ec5c4403cd3b4c9c5e5c6d2b103a31014246dca6f175ac7", func := "lychway/lychwaykeep.ExprSized", spec := "exprSized", unfollowed := true, recurses := true, apart := false }
def ExprSizedSaid : Prop := exprSizedRow.holds Try.pinned (OpenSpec.ofChange exprSizedSpec)

/-- ITS FALSE NEIGHBOUR: 'it returns false'. Refute it at one input. -/
def exprSizedWrong : ChangeSpec := { name := "exprSized", fn := fun _ => fun
  | [d1, d2] => { results := [.lit (.bool false)], args := [d1, d2] }
  | _ => none }
def ExprSizedWrongFalsely : Prop := exprSizedRow.holds Try.pinned (OpenSpec.ofChange exprSizedWrong)

/-- 'lychwaykeep.NamesPut': WHATEVER THE INPUT: true; the input reads as it did. -/
def namesPutSpec : ChangeSpec := { name := "namesPut", fn := fun _ => fun
  | [d1, d2, d3] => { results := [.lit (.bool true)], args := [d1, d2, d3] }
  | _ => none }
def namesPutRow : OpenClaim := { program := "ytjjjkoknodcaaaa", sum := "3a909a065086b8454ec5c4403cd3b4c9c5e5c6d2b103a31014246dca6f175ac7", func := "lychway/lychwaykeep.NamesPut", spec := "namesPut", unfollowed := true, recurses := true, apart := false }
def NamesPutSaid : Prop := namesPutRow.holds Try.pinned (OpenSpec.ofChange namesPutSpec)

/-- ITS FALSE NEIGHBOUR: 'it returns false'. Refute it at one input. -/
def namesPutWrong : ChangeSpec := { name := "namesPut", fn := fun _ => fun
  | [d1, d2, d3] => { results := [.lit (.bool false)], args := [d1, d2, d3] }
  | _ => none }
def NamesPutWrongFalsely : Prop := namesPutRow.holds Try.pinned (OpenSpec.ofChange namesPutWrong)

/-- 'lychwaykeep.NamesAll': WHATEVER THE INPUT: true; the input reads as it did. -/
def namesAllSpec : ChangeSpec := { name := "namesAll", fn := fun _ => fun
  | [d1, d2] => { results := [.lit (.bool true)], args := [d1, d2] }
  | _ => none }
def namesAllRow : OpenClaim := { program := "ytjjjkoknodcaaaa", sum := "3a909a065086b8454ec5c4403cd3b4c9c5e5c6d2b103a31014246dca6f175ac7", func := "lychway/lychwaykeep.NamesAll", spec := "namesAll", unfollowed := true, recurses := true, apart := false }
def NamesAllSaid : Prop := namesAllRow.holds Try.pinned (OpenSpec.ofChange namesAllSpec)

/-- ITS FALSE NEIGHBOUR: 'it returns false'. Refute it at one input. -/
def namesAllWrong : ChangeSpec := { name := "namesAll", fn := fun _ => fun
  | [d1, d2] => { results := [.lit (.bool false)], args := [d1, d2] }
  | _ => none }
def NamesAllWrongFalsely : Prop := namesAllRow.holds Try.pinned (OpenSpec.ofChange namesAllWrong)

/-- 'lychwaykeep.TypingOne': WHATEVER THE INPUT: true; the input reads as it did. -/
def typingOneSpec : ChangeSpec := { name := "typingOne", fn := fun _ => fun
  | [d1, d2] => { results := [.lit (.bool true)], args := [d1, d2] }
  | _ => none }
def typingOneRow : OpenClaim := { program := "ytjjjkoknodcaaaa", sum := "3a909a065086b8454ec5c4403cd3b4c9c5e5c6d2b103a31014246dca6f175ac7", func := "lychway/lychwaykeep.TypingOne", spec := "typingOne", unfollowed := true, recurses := true, apart := false }
def TypingOneSaid : Prop := typingOneRow.holds Try.pinned (OpenSpec.ofChange typingOneSpec)

/-- ITS FALSE NEIGHBOUR: 'it returns false'. Refute it at one input. -/
def typingOneWrong : ChangeSpec := { name := "typingOne", fn := fun _ => fun
  | [d1, d2] => { results := [.lit (.bool false)], args := [d1, d2] }
  | _ => none }
def TypingOneWrongFalsely : Prop := typingOneRow.holds Try.pinned (OpenSpec.ofChange typingOneWrong)

/-- 'lychwaykeep.TypingMade': WHATEVER THE INPUT: true; the input reads as it did. -/
def typingMadeSpec : ChangeSpec := { name := "typingMade", fn := fun _ => fun
  | [d1, d2, d3] => { results := [.lit (.bool true)], args := [d1, d2, d3] }
  | _ => none }
def typingMadeRow : OpenClaim := { program := "ytjjjkoknodcaaaa", sum := "3a909a065086b8454ec5c4403cd3b4c9c5e5c6d2b103a31014246dca6f175ac7", func := "lychway/lychwaykeep.TypingMade", spec := "typingMade", unfollowed := true, recurses := true, apart := false }
def TypingMadeSaid : Prop := typingMadeRow.holds Try.pinned (OpenSpec.ofChange typingMadeSpec)

/-- ITS FALSE NEIGHBOUR: 'it returns false'. Refute it at one input. -/
def typingMadeWrong : ChangeSpec := { name := "typingMade", fn := fun _ => fun
  | [d1, d2, d3] => { results := [.lit (.bool false)], args := [d1, d2, d3] }
  | _ => none }
def TypingMadeWrongFalsely : Prop := typingMadeRow.holds Try.pinned (OpenSpec.ofChange typingMadeWrong)

/-- 'lychwaykeep.TypingSound': WHATEVER THE INPUT: true; the input reads as it did. -/
def typingSoundSpec : ChangeSpec := { name := "typingSound", fn := fun _ => fun
  | [d1, d2, d3] => { results := [.lit (.bool true)], args := [d1, d2, d3] }
  | _ => none }
def typingSoundRow : OpenClaim := { program := "ytjjjkoknodcaaaa", sum := "3a909a065086b8454ec5c4403cd3b4c9c5e5c6d2b103a31014246dca6f175ac7", func := "lychway/lychwaykeep.TypingSound", spec := "typingSound", unfollowed := true, recurses := true, apart := false }
def TypingSoundSaid : Prop := typingSoundRow.holds Try.pinned (OpenSpec.ofChange typingSoundSpec)

/-- ITS FALSE NEIGHBOUR: 'it returns false'. Refute it at one input. -/
def typingSoundWrong : ChangeSpec := { name := "typingSound", fn := fun _ => fun
  | [d1, d2, d3] => { results := [.lit (.bool false)], args := [d1, d2, d3] }
  | _ => none }
def TypingSoundWrongFalsely : Prop := typingSoundRow.holds Try.pinned (OpenSpec.ofChange typingSoundWrong)

/-- 'lychwaykeep.EvalLazy': WHATEVER THE INPUT: true; the input reads as it did. -/
def evalLazySpec : ChangeSpec := { name := "evalLazy", fn := fun _ => fun
  | [d1, d2, d3, d4] => { results := [.lit (.bool true)], args := [d1, d2, d3, d4] }
  | _ => none }
def evalLazyRow : OpenClaim := { program := "ytjjjkoknodcaaaa", sum := "3a909a065086b8454ec5c4403cd3b4c9c5e5c6d2b103a31014246dca6f175ac7", func := "lychway/lychwaykeep.EvalLazy", spec := "evalLazy", unfollowed := true, recurses := true, apart := false }
def EvalLazySaid : Prop := evalLazyRow.holds Try.pinned (OpenSpec.ofChange evalLazySpec)

/-- ITS FALSE NEIGHBOUR: 'it returns false'. Refute it at one input. -/
def evalLazyWrong : ChangeSpec := { name := "evalLazy", fn := fun _ => fun
  | [d1, d2, d3, d4] => { results := [.lit (.bool false)], args := [d1, d2, d3, d4] }
  | _ => none }
def EvalLazyWrongFalsely : Prop := evalLazyRow.holds Try.pinned (OpenSpec.ofChange evalLazyWrong)

/-- 'lychwaykeep.EvalDuals': WHATEVER THE INPUT: true; the input reads as it did. -/
def evalDualsSpec : ChangeSpec := { name := "evalDuals", fn := fun _ => fun
  | [d1, d2, d3, d4] => { results := [.lit (.bool true)], args := [d1, d2, d3, d4] }
  | _ => none }
def evalDualsRow : OpenClaim := { program := "ytjjjkoknodcaaaa", sum := "3a909a065086b8454ec5c4403cd3b4c9c5e5c6d2b103a31014246dca6f175ac7", func := "lychway/lychwaykeep.EvalDuals", spec := "evalDuals", unfollowed := true, recurses := true, apart := false }
def EvalDualsSaid : Prop := evalDualsRow.holds Try.pinned (OpenSpec.ofChange evalDualsSpec)

/-- ITS FALSE NEIGHBOUR: 'it returns false'. Refute it at one input. -/
def evalDualsWrong : ChangeSpec := { name := "evalDuals", fn := fun _ => fun
  | [d1, d2, d3, d4] => { results := [.lit (.bool false)], args := [d1, d2, d3, d4] }
  | _ => none }
def EvalDualsWrongFalsely : Prop := evalDualsRow.holds Try.pinned (OpenSpec.ofChange evalDualsWrong)

/-- 'lychwaykeep.EvalFirst': WHATEVER THE INPUT: true; the input reads as it did. -/
def evalFirstSpec : ChangeSpec := { name := "evalFirst", fn := fun _ => fun
  | [d1, d2, d3] => { results := [.lit (.bool true)], args := [d1, d2, d3] }
  | _ => none }
def evalFirstRow : OpenClaim := { program := "ytjjjkoknodcaaaa", sum := "3a909a065086b8454ec5c4403cd3b4c9c5e5c6d2b103a31014246dca6f175ac7", func := "lychway/lychwaykeep.EvalFirst", spec := "evalFirst", unfollowed := true, recurses := true, apart := false }
def EvalFirstSaid : Prop := evalFirstRow.holds Try.pinned (OpenSpec.ofChange evalFirstSpec)

/-- ITS FALSE NEIGHBOUR: 'it returns false'. Refute it at one input. -/
def evalFirstWrong : ChangeSpec := { name := "evalFirst", fn := fun _ => fun
  | [d1, d2, d3] => { results := [.lit (.bool false)], args := [d1, d2, d3] }
  | _ => none }
def EvalFirstWrongFalsely : Prop := evalFirstRow.holds Try.pinned (OpenSpec.ofChange evalFirstWrong)

/-- 'lychwaykeep.EvalGrows': WHATEVER THE INPUT: true; the input reads as it did. -/
def evalGrowsSpec : ChangeSpec := { name := "evalGrows", fn := fun _ => fun
  | [d1, d2, d3, d4] => { results := [.lit (.bool true)], args := [d1, d2, d3, d4] }
  | _ => none }
def evalGrowsRow : OpenClaim := { program := "ytjjjkoknodcaaaa", sum := "3a909a065086b8454ec5c4403cd3b4c9c5e5c6d2b103a31014246dca6f175ac7", func := "lychway/lychwaykeep.EvalGrows", spec := "evalGrows", unfollowed := true, recurses := true, apart := false }
def EvalGrowsSaid : Prop := evalGrowsRow.holds Try.pinned (OpenSpec.ofChange evalGrowsSpec)

/-- ITS FALSE NEIGHBOUR: 'it returns false'. Refute it at one input. -/
def evalGrowsWrong : ChangeSpec := { name := "evalGrows", fn := fun _ => fun
  | [d1, d2, d3, d4] => { results := [.lit (.bool false)], args := [d1, d2, d3, d4] }
  | _ => none }
def EvalGrowsWrongFalsely : Prop := evalGrowsRow.holds Try.pinned (OpenSpec.ofChange evalGrowsWrong)

/-- 'lychwaykeep.EvalLocal': WHATEVER THE INPUT: true; the input reads as it did. -/
def evalLocalSpec : ChangeSpec := { name := "evalLocal", fn := fun _ => fun
  | [d1, d2, d3, d4] => { results := [.lit (.bool true)], args := [d1, d2, d3, d4] }
  | _ => none }
def evalLocalRow : OpenClaim := { program := "ytjjjkoknodcaaaa", sum := "3a909a065086b8454ec5c4403cd3b4c9c5e5c6d2b103a31014246dca6f175ac7", func := "lychway/lychwaykeep.EvalLocal", spec := "evalLocal", unfollowed := true, recurses := true, apart := false }
def EvalLocalSaid : Prop := evalLocalRow.holds Try.pinned (OpenSpec.ofChange evalLocalSpec)

/-- ITS FALSE NEIGHBOUR: 'it returns false'. Refute it at one input. -/
def evalLocalWrong : ChangeSpec := { name := "evalLocal", fn := fun _ => fun
  | [d1, d2, d3, d4] => { results := [.lit (.bool false)], args := [d1, d2, d3, d4] }
  | _ => none }
def EvalLocalWrongFalsely : Prop := evalLocalRow.holds Try.pinned (OpenSpec.ofChange evalLocalWrong)

/-- 'lychwaykeep.EvalPut': WHATEVER THE INPUT: true; the input reads as it did. -/
def evalPutSpec : ChangeSpec := { name := "evalPut", fn := fun _ => fun
  | [d1, d2, d3, d4] => { results := [.lit (.bool true)], args := [d1, d2, d3, d4] }
  | _ => none }
def evalPutRow : OpenClaim := { program := "ytjjjkoknodcaaaa", sum := "3a909a065086b8454ec5c4403cd3b4c9c5e5c6d2b103a31014246dca6f175ac7", func := "lychway/lychwaykeep.EvalPut", spec := "evalPut", unfollowed := true, recurses := true, apart := false }
def EvalPutSaid : Prop := evalPutRow.holds Try.pinned (OpenSpec.ofChange evalPutSpec)

/-- ITS FALSE NEIGHBOUR: 'it returns false'. Refute it at one input. -/
def evalPutWrong : ChangeSpec := { name := "evalPut", fn := fun _ => fun
  | [d1, d2, d3, d4] => { results := [.lit (.bool false)], args := [d1, d2, d3, d4] }
  | _ => none }
def EvalPutWrongFalsely : Prop := evalPutRow.holds Try.pinned (OpenSpec.ofChange evalPutWrong)

/- THE SECOND FORM. 'bulk': how many values and letters a reading holds, each counted each time it is reached (what is shared counts as often as it is met; a slice's spare places count too). A statement '..UptoSaid' is the law's where the arguments, and the package variables that the reading takes, are together of bulk at most 1048576: NARROWER than '..Said'. Prove '..Said' where nothing that the law and all that it calls make is longer than what came in: it says more and counts as full. Else prove '..UptoSaid'. A law counts once. -/
mutual
def uptoBulk {H : Type} : DataW H → Nat
  | .lit (.string bytes) => bytes.length + 1
  | .lit _ => 1
  | .nil => 1
  | .ptr d => uptoBulk d + 1
  | .slice elems spare => uptoBulkAll elems + uptoBulkAll spare + 1
  | .agg parts => uptoBulkAll parts + 1
  | .iface _ d => uptoBulk d + 1
  | .map entries => uptoBulkEntries entries + 1
  | .held _ => 1
def uptoBulkAll {H : Type} : List (DataW H) → Nat
  | [] => 0
  | d :: r => uptoBulk d + uptoBulkAll r
def uptoBulkEntries {H : Type} : List (Lit × DataW H) → Nat
  | [] => 0
  | x :: r => uptoBulkEntry x + uptoBulkEntries r
def uptoBulkEntry {H : Type} : Lit × DataW H → Nat
  | (.string bytes, d) => bytes.length + uptoBulk d + 1
  | (_, d) => uptoBulk d + 1
 end
def uptoSmall : (H : Type) → List (DataW H) → Bool := fun _ ds => decide (uptoBulkAll ds ≤ 1048576)
def OpenSpec.upto (s : _root_.Go.ChangeSpec) : _root_.Go.OpenSpec := { _root_.Go.OpenSpec.ofChange s with cond := some uptoSmall }

/-- 'lychwaykeep.ExprSized', WHERE WHAT IT READS IS OF BULK AT MOST 1048576: true; the input reads as it did. -/
def exprSizedUptoRow : OpenClaim := { program := "ytjjjkoknodcaaaa", sum := "3a909a065086b8454ec5c4403cd3b4c9c5e5c6d2b103a31014246dca6f175ac7", func := "lychway/lychwaykeep.ExprSized", spec := "exprSized", unfollowed := true, recurses := true, apart := false, narrowed := true }
def ExprSizedUptoSaid : Prop := exprSizedUptoRow.holds Try.pinned (OpenSpec.upto exprSizedSpec)

/-- 'lychwaykeep.NamesPut', WHERE WHAT IT READS IS OF BULK AT MOST 1048576: true; the input reads as it did. -/
def namesPutUptoRow : OpenClaim := { program := "ytjjjkoknodcaaaa", sum := "3a909a065086b8454ec5c4403cd3b4c9c5e5c6d2b103a31014246dca6f175ac7", func := "lychway/lychwaykeep.NamesPut", spec := "namesPut", unfollowed := true, recurses := true, apart := false, narrowed := true }
def NamesPutUptoSaid : Prop := namesPutUptoRow.holds Try.pinned (OpenSpec.upto namesPutSpec)

/-- 'lychwaykeep.NamesAll', WHERE WHAT IT READS IS OF BULK AT MOST 1048576: true; the input reads as it did. -/
def namesAllUptoRow : OpenClaim := { program := "ytjjjkoknodcaaaa", sum := "3a909a065086b8454ec5c4403cd3b4c9c5e5c6d2b103a31014246dca6f175ac7", func := "lychway/lychwaykeep.NamesAll", spec := "namesAll", unfollowed := true, recurses := true, apart := false, narrowed := true }
def NamesAllUptoSaid : Prop := namesAllUptoRow.holds Try.pinned (OpenSpec.upto namesAllSpec)

/-- 'lychwaykeep.TypingOne', WHERE WHAT IT READS IS OF BULK AT MOST 1048576: true; the input reads as it did. -/
def typingOneUptoRow : OpenClaim := { program := "ytjjjkoknodcaaaa", sum := "3a909a065086b8454ec5c4403cd3b4c9c5e5c6d2b103a31014246dca6f175ac7", func := "lychway/lychwaykeep.TypingOne", spec := "typingOne", unfollowed := true, recurses := true, apart := false, narrowed := true }
def TypingOneUptoSaid : Prop := typingOneUptoRow.holds Try.pinned (OpenSpec.upto typingOneSpec)

/-- 'lychwaykeep.TypingMade', WHERE WHAT IT READS IS OF BULK AT MOST 1048576: true; the input reads as it did. -/
def typingMadeUptoRow : OpenClaim := { program := "ytjjjkoknodcaaaa", sum := "3a909a065086b8454ec5c4403cd3b4c9c5e5c6d2b103a31014246dca6f175ac7", func := "lychway/lychwaykeep.TypingMade", spec := "typingMade", unfollowed := true, recurses := true, apart := false, narrowed := true }
def TypingMadeUptoSaid : Prop := typingMadeUptoRow.holds Try.pinned (OpenSpec.upto typingMadeSpec)

/-- 'lychwaykeep.TypingSound', WHERE WHAT IT READS IS OF BULK AT MOST 1048576: true; the input reads as it did. -/
def typingSoundUptoRow : OpenClaim := { program := "ytjjjkoknodcaaaa", sum := "3a909a065086b8454ec5c4403cd3b4c9c5e5c6d2b103a31014246dca6f175ac7", func := "lychway/lychwaykeep.TypingSound", spec := "typingSound", unfollowed := true, recurses := true, apart := false, narrowed := true }
def TypingSoundUptoSaid : Prop := typingSoundUptoRow.holds Try.pinned (OpenSpec.upto typingSoundSpec)

/-- 'lychwaykeep.EvalLazy', WHERE WHAT IT READS IS OF BULK AT MOST 1048576: true; the input reads as it did. -/
def evalLazyUptoRow : OpenClaim := { program := "ytjjjkoknodcaaaa", sum := "3a909a065086b8454ec5c4403cd3b4c9c5e5c6d2b103a31014246dca6f175ac7", func := "lychway/lychwaykeep.EvalLazy", spec := "evalLazy", unfollowed := true, recurses := true, apart := false, narrowed := true }
def EvalLazyUptoSaid : Prop := evalLazyUptoRow.holds Try.pinned (OpenSpec.upto evalLazySpec)

/-- 'lychwaykeep.EvalDuals', WHERE WHAT IT READS IS OF BULK AT MOST 1048576: true; the input reads as it did. -/
def evalDualsUptoRow : OpenClaim := { program := "ytjjjkoknodcaaaa", sum := "3a909a065086b8454ec5c4403cd3b4c9c5e5c6d2b103a31014246dca6f175ac7", func := "lychway/lychwaykeep.EvalDuals", spec := "evalDuals", unfollowed := true, recurses := true, apart := false, narrowed := true }
def EvalDualsUptoSaid : Prop := evalDualsUptoRow.holds Try.pinned (OpenSpec.upto evalDualsSpec)

/-- 'lychwaykeep.EvalFirst', WHERE WHAT IT READS IS OF BULK AT MOST 1048576: true; the input reads as it did. -/
def evalFirstUptoRow : OpenClaim := { program := "ytjjjkoknodcaaaa", sum := "3a909a065086b8454ec5c4403cd3b4c9c5e5c6d2b103a31014246dca6f175ac7", func := "lychway/lychwaykeep.EvalFirst", spec := "evalFirst", unfollowed := true, recurses := true, apart := false, narrowed := true }
def EvalFirstUptoSaid : Prop := evalFirstUptoRow.holds Try.pinned (OpenSpec.upto evalFirstSpec)

/-- 'lychwaykeep.EvalGrows', WHERE WHAT IT READS IS OF BULK AT MOST 1048576: true; the input reads as it did. -/
def evalGrowsUptoRow : OpenClaim := { program := "ytjjjkoknodcaaaa", sum := "3a909a065086b8454ec5c4403cd3b4c9c5e5c6d2b103a31014246dca6f175ac7", func := "lychway/lychwaykeep.EvalGrows", spec := "evalGrows", unfollowed := true, recurses := true, apart := false, narrowed := true }
def EvalGrowsUptoSaid : Prop := evalGrowsUptoRow.holds Try.pinned (OpenSpec.upto evalGrowsSpec)

/-- 'lychwaykeep.EvalLocal', WHERE WHAT IT READS IS OF BULK AT MOST 1048576: true; the input reads as it did. -/
def evalLocalUptoRow : OpenClaim := { program := "ytjjjkoknodcaaaa", sum := "3a909a065086b8454ec5c4403cd3b4c9c5e5c6d2b103a31014246dca6f175ac7", func := "lychway/lychwaykeep.EvalLocal", spec := "evalLocal", unfollowed := true, recurses := true, apart := false, narrowed := true }
def EvalLocalUptoSaid : Prop := evalLocalUptoRow.holds Try.pinned (OpenSpec.upto evalLocalSpec)

/-- 'lychwaykeep.EvalPut', WHERE WHAT IT READS IS OF BULK AT MOST 1048576: true; the input reads as it did. -/
def evalPutUptoRow : OpenClaim := { program := "ytjjjkoknodcaaaa", sum := "3a909a065086b8454ec5c4403cd3b4c9c5e5c6d2b103a31014246dca6f175ac7", func := "lychway/lychwaykeep.EvalPut", spec := "evalPut", unfollowed := true, recurses := true, apart := false, narrowed := true }
def EvalPutUptoSaid : Prop := evalPutUptoRow.holds Try.pinned (OpenSpec.upto evalPutSpec)

end Rows
end Go.Proofs.Ytjjjkoknodcaaaa
