/-
  No cell of these rows narrows 'for every input' (looked for: loops, veiled, ifaces, maps, wideKeys, modest, calm, conditions, laid).
  DERIVED. THE GIVEN ROWS OF THIS SEAT. 12 by the template 'for every input the law returns true; each argument reads behind the call as it read before'; 0 by the template 'total and deterministic' (their statements: YthnlmhibbmogeaaTotals.lean).
  GIVEN WITH THE SEED: the statements are not yours to turn. If you find one false, say at which input.
  Laid BY PROGRAM, IN A SANDBOX (cutbox-rows.mjs): the forced cells as the released guide's own fill.sh prints them over the translation df2cbdc3146ea28f… (all of the seat's roots in one cut). By AI agents, Wed Nov 11 2026. No macro, syntax, notation, axiom, sorry.
-/
import Derived.Test.YthnlmhibbmogeaaChecked
import GoSem.Claim
import GoSem.ClaimJoined
import GoSem.ClaimMapViews
import Derived.JoinedTies
import Derived.KernelRfl
namespace Go.Proofs.Ythnlmhibbmogeaa
/- THE CELL 'sum', in the pinned program and in every row, IS THE sha256 OF THE DUMP (.gsa) THAT YthnlmhibbmogeaaProg.lean LOADS. Nothing in Lean hashes anything: it is a label: what it is worth is what the hold of that sum in a sandbox is worth. -/
noncomputable def Try.pinned : Pinned := { name := "ythnlmhibbmogeaa", sum := "df2cbdc3146ea28f4aa908edc9bdcd5e00d8e455e2bb12cf136012d31ef101d1", checked := Try.checked }
namespace Rows
def none {H : Type} : Left H := { results := [], args := [] }

/-- 'lychwaykeep.NetApart': WHATEVER THE INPUT: true; the input reads as it did. -/
def netApartSpec : ChangeSpec := { name := "netApart", fn := fun _ => fun
  | [d1, d2, d3] => { results := [.lit (.bool true)], args := [d1, d2, d3] }
  | _ => none }
def netApartRow : OpenClaim := { program := "ythnlmhibbmogeaa", sum := "df2cbdc3146ea28f4aa908edc9bdcd5e00d8e455e2bb12cf136012d31ef101d1", func := "lychway/lychwaykeep.NetApart", spec := "netApart", apart := false }
def NetApartSaid : Prop := netApartRow.holds Try.pinned (OpenSpec.ofChange netApartSpec)

/-- ITS FALSE NEIGHBOUR: 'it returns false'. Refute it at one input. -/
def netApartWrong : ChangeSpec := { name := "netApart", fn := fun _ => fun
  | [d1, d2, d3] => { results := [.lit (.bool false)], args := [d1, d2, d3] }
  | _ => none }
def NetApartWrongFalsely : Prop := netApartRow.holds Try.pinned (OpenSpec.ofChange netApartWrong)

/-- 'lychwaykeep.NetFull': WHATEVER THE INPUT: true; the input reads as it did. -/
def netFullSpec : ChangeSpec := { name := "netFull", fn := fun _ => fun
  | [d1, d2] => { results := [.lit (.bool true)], args := [d1, d2] }
  | _ => none }
def netFullRow : OpenClaim := { program := "ythnlmhibbmogeaa", sum := "df2cbdc3146ea28f4aa908edc9bdcd5e00d8e455e2bb12cf136012d31ef101d1", func := "lychway/lychwaykeep.NetFull", spec := "netFull", apart := false }
def NetFullSaid : Prop := netFullRow.holds Try.pinned (OpenSpec.ofChange netFullSpec)

/-- ITS FALSE NEIGHBOUR: 'it returns false'. Refute it at one input. -/
def netFullWrong : ChangeSpec := { name := "netFull", fn := fun _ => fun
  | [d1, d2] => { results := [.lit (.bool false)], args := [d1, d2] }
  | _ => none }
def NetFullWrongFalsely : Prop := netFullRow.holds Try.pinned (OpenSpec.ofChange netFullWrong)

/-- 'lychwaykeep.CallStale': WHATEVER THE INPUT: true; the input reads as it did. -/
def callStaleSpec : ChangeSpec := { name := "callStale", fn := fun _ => fun
  | [d1, d2, d3, d4, d5] => { results := [.lit (.bool true)], args := [d1, d2, d3, d4, d5] }
  | _ => none }
def callStaleRow : OpenClaim := { program := "ythnlmhibbmogeaa", sum := "df2cbdc3146ea28f4aa908edc9bdcd5e00d8e455e2bb12cf136012d31ef101d1", func := "lychway/lychwaykeep.CallStale", spec := "callStale", apart := false }
def CallStaleSaid : Prop := callStaleRow.holds Try.pinned (OpenSpec.ofChange callStaleSpec)

/-- ITS FALSE NEIGHBOUR: 'it returns false'. Refute it at one input. -/
def callStaleWrong : ChangeSpec := { name := "callStale", fn := fun _ => fun
  | [d1, d2, d3, d4, d5] => { results := [.lit (.bool false)], args := [d1, d2, d3, d4, d5] }
  | _ => none }
def CallStaleWrongFalsely : Prop := callStaleRow.holds Try.pinned (OpenSpec.ofChange callStaleWrong)

/-- 'lychwaykeep.ClientFirst': WHATEVER THE INPUT: true; the input reads as it did. -/
def clientFirstSpec : ChangeSpec := { name := "clientFirst", fn := fun _ => fun
  | [d1, d2] => { results := [.lit (.bool true)], args := [d1, d2] }
  | _ => none }
def clientFirstRow : OpenClaim := { program := "ythnlmhibbmogeaa", sum := "df2cbdc3146ea28f4aa908edc9bdcd5e00d8e455e2bb12cf136012d31ef101d1", func := "lychway/lychwaykeep.ClientFirst", spec := "clientFirst", apart := false }
def ClientFirstSaid : Prop := clientFirstRow.holds Try.pinned (OpenSpec.ofChange clientFirstSpec)

/-- ITS FALSE NEIGHBOUR: 'it returns false'. Refute it at one input. -/
def clientFirstWrong : ChangeSpec := { name := "clientFirst", fn := fun _ => fun
  | [d1, d2] => { results := [.lit (.bool false)], args := [d1, d2] }
  | _ => none }
def ClientFirstWrongFalsely : Prop := clientFirstRow.holds Try.pinned (OpenSpec.ofChange clientFirstWrong)

/-- 'lychwaykeep.ClientKeeps': WHATEVER THE INPUT: true; the input reads as it did. -/
def clientKeepsSpec : ChangeSpec := { name := "clientKeeps", fn := fun _ => fun
  | [d1, d2, d3, d4] => { results := [.lit (.bool true)], args := [d1, d2, d3, d4] }
  | _ => none }
def clientKeepsRow : OpenClaim := { program := "ythnlmhibbmogeaa", sum := "df2cbdc3146ea28f4aa908edc9bdcd5e00d8e455e2bb12cf136012d31ef101d1", func := "lychway/lychwaykeep.ClientKeeps", spec := "clientKeeps", apart := false }
def ClientKeepsSaid : Prop := clientKeepsRow.holds Try.pinned (OpenSpec.ofChange clientKeepsSpec)

/-- ITS FALSE NEIGHBOUR: 'it returns false'. Refute it at one input. -/
def clientKeepsWrong : ChangeSpec := { name := "clientKeeps", fn := fun _ => fun
  | [d1, d2, d3, d4] => { results := [.lit (.bool false)], args := [d1, d2, d3, d4] }
  | _ => none }
def ClientKeepsWrongFalsely : Prop := clientKeepsRow.holds Try.pinned (OpenSpec.ofChange clientKeepsWrong)

/-- 'lychwaykeep.CallEnds': WHATEVER THE INPUT: true; the input reads as it did. -/
def callEndsSpec : ChangeSpec := { name := "callEnds", fn := fun _ => fun
  | [d1, d2, d3, d4, d5] => { results := [.lit (.bool true)], args := [d1, d2, d3, d4, d5] }
  | _ => none }
def callEndsRow : OpenClaim := { program := "ythnlmhibbmogeaa", sum := "df2cbdc3146ea28f4aa908edc9bdcd5e00d8e455e2bb12cf136012d31ef101d1", func := "lychway/lychwaykeep.CallEnds", spec := "callEnds", apart := false }
def CallEndsSaid : Prop := callEndsRow.holds Try.pinned (OpenSpec.ofChange callEndsSpec)

/-- ITS FALSE NEIGHBOUR: 'it returns false'. Refute it at one input. -/
def callEndsWrong : ChangeSpec := { name := "callEnds", fn := fun _ => fun
  | [d1, d2, d3, d4, d5] => { results := [.lit (.bool false)], args := [d1, d2, d3, d4, d5] }
  | _ => none }
def CallEndsWrongFalsely : Prop := callEndsRow.holds Try.pinned (OpenSpec.ofChange callEndsWrong)

/-- 'lychwaykeep.ClockBack': WHATEVER THE INPUT: true; the input reads as it did. -/
def clockBackSpec : ChangeSpec := { name := "clockBack", fn := fun _ => fun
  | [d1, d2] => { results := [.lit (.bool true)], args := [d1, d2] }
  | _ => none }
def clockBackRow : OpenClaim := { program := "ythnlmhibbmogeaa", sum := "df2cbdc3146ea28f4aa908edc9bdcd5e00d8e455e2bb12cf136012d31ef101d1", func := "lychway/lychwaykeep.ClockBack", spec := "clockBack", unfollowed := true, recurses := true, apart := false }
def ClockBackSaid : Prop := clockBackRow.holds Try.pinned (OpenSpec.ofChange clockBackSpec)

/-- ITS FALSE NEIGHBOUR: 'it returns false'. Refute it at one input. -/
def clockBackWrong : ChangeSpec := { name := "clockBack", fn := fun _ => fun
  | [d1, d2] => { results := [.lit (.bool false)], args := [d1, d2] }
  | _ => none }
def ClockBackWrongFalsely : Prop := clockBackRow.holds Try.pinned (OpenSpec.ofChange clockBackWrong)

/-- 'lychwaykeep.CallStays': WHATEVER THE INPUT: true; the input reads as it did. -/
def callStaysSpec : ChangeSpec := { name := "callStays", fn := fun _ => fun
  | [d1, d2, d3, d4] => { results := [.lit (.bool true)], args := [d1, d2, d3, d4] }
  | _ => none }
def callStaysRow : OpenClaim := { program := "ythnlmhibbmogeaa", sum := "df2cbdc3146ea28f4aa908edc9bdcd5e00d8e455e2bb12cf136012d31ef101d1", func := "lychway/lychwaykeep.CallStays", spec := "callStays", apart := false }
def CallStaysSaid : Prop := callStaysRow.holds Try.pinned (OpenSpec.ofChange callStaysSpec)

/-- ITS FALSE NEIGHBOUR: 'it returns false'. Refute it at one input. -/
def callStaysWrong : ChangeSpec := { name := "callStays", fn := fun _ => fun
  | [d1, d2, d3, d4] => { results := [.lit (.bool false)], args := [d1, d2, d3, d4] }
  | _ => none }
def CallStaysWrongFalsely : Prop := callStaysRow.holds Try.pinned (OpenSpec.ofChange callStaysWrong)

/-- 'lychwaykeep.ExprSized': WHATEVER THE INPUT: true; the input reads as it did. -/
def exprSizedSpec : ChangeSpec := { name := "exprSized", fn := fun _ => fun
  | [d1, d2] => { results := [.lit (.bool true)], args := [d1, d2] }
  | _ => none }
def exprSizedRow : OpenClaim := { program := "ythnlmhibbmogeaa", sum := "df2cbdc3146ea28f4aa908edc9bdcd5e00d8e455e2bb12cf136012d31ef101d1", func := "lychway/lychwaykeep.ExprSized", spec := "exprSized", unfollowed := true, recurses := true, apart := false }
def ExprSizedSaid : Prop := exprSizedRow.holds Try.pinned (OpenSpec.ofChange exprSizedSpec)

/-- ITS FALSE NEIGHBOUR: 'it returns false'. Refute it at one input. -/
def exprSizedWrong : ChangeSpec := { name := "exprSized", fn := fun _ => fun
  | [d1, d2] => { results := [.lit (.bool false)], args := [d1, d2] }
  | _ => none }
def ExprSizedWrongFalsely : Prop := exprSizedRow.holds Try.pinned (OpenSpec.ofChange exprSizedWrong)

/-- 'lychwaykeep.ClockMoves': WHATEVER THE INPUT: true; the input reads as it did. -/
def clockMovesSpec : ChangeSpec := { name := "clockMoves", fn := fun _ => fun
  | [d1, d2, d3] => { results := [.lit (.bool true)], args := [d1, d2, d3] }
  | _ => none }
def clockMovesRow : OpenClaim := { program := "ythnlmhibbmogeaa", sum := "df2cbdc3146ea28f4aa908edc9bdcd5e00d8e455e2bb12cf136012d31ef101d1", func := "lychway/lychwaykeep.ClockMoves", spec := "clockMoves", unfollowed := true, recurses := true, apart := false }
def ClockMovesSaid : Prop := clockMovesRow.holds Try.pinned (OpenSpec.ofChange clockMovesSpec)

/-- ITS FALSE NEIGHBOUR: 'it returns false'. Refute it at one input. -/
def clockMovesWrong : ChangeSpec := { name := "clockMoves", fn := fun _ => fun
  | [d1, d2, d3] => { results := [.lit (.bool false)], args := [d1, d2, d3] }
  | _ => none }
def ClockMovesWrongFalsely : Prop := clockMovesRow.holds Try.pinned (OpenSpec.ofChange clockMovesWrong)

/-- 'lychwaykeep.ClockDue': WHATEVER THE INPUT: true; the input reads as it did. -/
def clockDueSpec : ChangeSpec := { name := "clockDue", fn := fun _ => fun
  | [d1, d2] => { results := [.lit (.bool true)], args := [d1, d2] }
  | _ => none }
def clockDueRow : OpenClaim := { program := "ythnlmhibbmogeaa", sum := "df2cbdc3146ea28f4aa908edc9bdcd5e00d8e455e2bb12cf136012d31ef101d1", func := "lychway/lychwaykeep.ClockDue", spec := "clockDue", unfollowed := true, recurses := true, apart := false }
def ClockDueSaid : Prop := clockDueRow.holds Try.pinned (OpenSpec.ofChange clockDueSpec)

/-- ITS FALSE NEIGHBOUR: 'it returns false'. Refute it at one input. -/
def clockDueWrong : ChangeSpec := { name := "clockDue", fn := fun _ => fun
  | [d1, d2] => { results := [.lit (.bool false)], args := [d1, d2] }
  | _ => none }
def ClockDueWrongFalsely : Prop := clockDueRow.holds Try.pinned (OpenSpec.ofChange clockDueWrong)

/-- 'lychwaykeep.LexApart': WHATEVER THE INPUT: true; the input reads as it did. -/
def lexApartSpec : ChangeSpec := { name := "lexApart", fn := fun _ => fun
  | [d] => { results := [.lit (.bool true)], args := [d] }
  | _ => none }
def lexApartRow : OpenClaim := { program := "ythnlmhibbmogeaa", sum := "df2cbdc3146ea28f4aa908edc9bdcd5e00d8e455e2bb12cf136012d31ef101d1", func := "lychway/lychwaykeep.LexApart", spec := "lexApart", inPlace := ["internal/abi.NoEscape", "internal/bytealg.MakeNoZero"], unfollowed := true, recurses := true, apart := false }
def LexApartSaid : Prop := lexApartRow.holds Try.pinned (OpenSpec.ofChange lexApartSpec)

/-- ITS FALSE NEIGHBOUR: 'it returns false'. Refute it at one input. -/
def lexApartWrong : ChangeSpec := { name := "lexApart", fn := fun _ => fun
  | [d] => { results := [.lit (.bool false)], args := [d] }
  | _ => none }
def LexApartWrongFalsely : Prop := lexApartRow.holds Try.pinned (OpenSpec.ofChange lexApartWrong)

/- THE SECOND FORM. 'bulk': how many values and letters a reading holds, each counted each time it is reached (what is shared counts as often as it is met; a slice's spare places count too). A statement '..UptoSaid' is the law's where the arguments, and the package variables that the reading takes, are together of bulk at most 1048576: NARROWER than '..Said'. Prove '..Said' where nothing that the law and all that it calls make is longer than what came in: it says more and counts as full. Else prove '..UptoSaid'. A law counts once. -/
mutual
def uptoBulk {H : Type} : DataW H → Nat
  | .lit (.string bytes) => bytes.length + 1
  | .lit _ => 1
  | .nil => 1
  | .ptr d => uptoBulk d + 1
  | .slice elems spare => uptoBulkAll elems + uptoBulkAll spare + 1
  | .agg parts => uptoBulkAll parts + 1
  | .iface _ d => uptoBulk d + 1
  | .map entries => uptoBulkEntries entries + 1
  | .held _ => 1
def uptoBulkAll {H : Type} : List (DataW H) → Nat
  | [] => 0
  | d :: r => uptoBulk d + uptoBulkAll r
def uptoBulkEntries {H : Type} : List (Lit × DataW H) → Nat
  | [] => 0
  | x :: r => uptoBulkEntry x + uptoBulkEntries r
def uptoBulkEntry {H : Type} : Lit × DataW H → Nat
  | (.string bytes, d) => bytes.length + uptoBulk d + 1
  | (_, d) => uptoBulk d + 1
 end
def uptoSmall : (H : Type) → List (DataW H) → Bool := fun _ ds => decide (uptoBulkAll ds ≤ 1048576)
def OpenSpec.upto (s : _root_.Go.ChangeSpec) : _root_.Go.OpenSpec := { _root_.Go.OpenSpec.ofChange s with cond := some uptoSmall }

/-- 'lychwaykeep.NetApart', WHERE WHAT IT READS IS OF BULK AT MOST 1048576: true; the input reads as it did. -/
def netApartUptoRow : OpenClaim := { program := "ythnlmhibbmogeaa", sum := "df2cbdc3146ea28f4aa908edc9bdcd5e00d8e455e2bb12cf136012d31ef101d1", func := "lychway/lychwaykeep.NetApart", spec := "netApart", apart := false, narrowed := true }
def NetApartUptoSaid : Prop := netApartUptoRow.holds Try.pinned (OpenSpec.upto netApartSpec)

/-- 'lychwaykeep.NetFull', WHERE WHAT IT READS IS OF BULK AT MOST 1048576: true; the input reads as it did. -/
def netFullUptoRow : OpenClaim := { program := "ythnlmhibbmogeaa", sum := "df2cbdc3146ea28f4aa908edc9bdcd5e00d8e455e2bb12cf136012d31ef101d1", func := "lychway/lychwaykeep.NetFull", spec := "netFull", apart := false, narrowed := true }
def NetFullUptoSaid : Prop := netFullUptoRow.holds Try.pinned (OpenSpec.upto netFullSpec)

/-- 'lychwaykeep.CallStale', WHERE WHAT IT READS IS OF BULK AT MOST 1048576: true; the input reads as it did. -/
def callStaleUptoRow : OpenClaim := { program := "ythnlmhibbmogeaa", sum := "df2cbdc3146ea28f4aa908edc9bdcd5e00d8e455e2bb12cf136012d31ef101d1", func := "lychway/lychwaykeep.CallStale", spec := "callStale", apart := false, narrowed := true }
def CallStaleUptoSaid : Prop := callStaleUptoRow.holds Try.pinned (OpenSpec.upto callStaleSpec)

/-- 'lychwaykeep.ClientFirst', WHERE WHAT IT READS IS OF BULK AT MOST 1048576: true; the input reads as it did. -/
def clientFirstUptoRow : OpenClaim := { program := "ythnlmhibbmogeaa", sum := "df2cbdc3146ea28f4aa908edc9bdcd5e00d8e455e2bb12cf136012d31ef101d1", func := "lychway/lychwaykeep.ClientFirst", spec := "clientFirst", apart := false, narrowed := true }
def ClientFirstUptoSaid : Prop := clientFirstUptoRow.holds Try.pinned (OpenSpec.upto clientFirstSpec)

/-- 'lychwaykeep.ClientKeeps', WHERE WHAT IT READS IS OF BULK AT MOST 1048576: true; the input reads as it did. -/
def clientKeepsUptoRow : OpenClaim := { program := "ythnlmhibbmogeaa", sum := "df2cbdc3146ea28f4aa908edc9bdcd5e00d8e455e2bb12cf136012d31ef101d1", func := "lychway/lychwaykeep.ClientKeeps", spec := "clientKeeps", apart := false, narrowed := true }
def ClientKeepsUptoSaid : Prop := clientKeepsUptoRow.holds Try.pinned (OpenSpec.upto clientKeepsSpec)

/-- 'lychwaykeep.CallEnds', WHERE WHAT IT READS IS OF BULK AT MOST 1048576: true; the input reads as it did. -/
def callEndsUptoRow : OpenClaim := { program := "ythnlmhibbmogeaa", sum := "df2cbdc3146ea28f4aa908edc9bdcd5e00d8e455e2bb12cf136012d31ef101d1", func := "lychway/lychwaykeep.CallEnds", spec := "callEnds", apart := false, narrowed := true }
def CallEndsUptoSaid : Prop := callEndsUptoRow.holds Try.pinned (OpenSpec.upto callEndsSpec)

/-- 'lychwaykeep.ClockBack', WHERE WHAT IT READS IS OF BULK AT MOST 1048576: true; the input reads as it did. -/
def clockBackUptoRow : OpenClaim := { program := "ythnlmhibbmogeaa", sum := "df2cbdc3146ea28f4aa908edc9bdcd5e00d8e455e2bb12cf136012d31ef101d1", func := "lychway/lychwaykeep.ClockBack", spec := "clockBack", unfollowed := true, recurses := true, apart := false, narrowed := true }
def ClockBackUptoSaid : Prop := clockBackUptoRow.holds Try.pinned (OpenSpec.upto clockBackSpec)

/-- 'lychwaykeep.CallStays', WHERE WHAT IT READS IS OF BULK AT MOST 1048576: true; the input reads as it did. -/
def callStaysUptoRow : OpenClaim := { program := "ythnlmhibbmogeaa", sum := "df2cbdc3146ea28f4aa908edc9bdcd5e00d8e455e2bb12cf136012d31ef101d1", func := "lychway/lychwaykeep.CallStays", spec := "callStays", apart := false, narrowed := true }
def CallStaysUptoSaid : Prop := callStaysUptoRow.holds Try.pinned (OpenSpec.upto callStaysSpec)

/-- 'lychwaykeep.ExprSized', WHERE WHAT IT READS IS OF BULK AT MOST 1048576: true; the input reads as it did. -/
def exprSizedUptoRow : OpenClaim := { program := "ythnlmhibbmogeaa", sum := "df2cbdc3146ea28f4aa908edc9bdcd5e00d8e455e2bb12cf136012d31ef101d1", func := "lychway/lychwaykeep.ExprSized", spec := "exprSized", unfollowed := true, recurses := true, apart := false, narrowed := true }
def ExprSizedUptoSaid : Prop := exprSizedUptoRow.holds Try.pinned (OpenSpec.upto exprSizedSpec)

/-- 'lychwaykeep.ClockMoves', WHERE WHAT IT READS IS OF BULK AT MOST 1048576: true; the input reads as it did. -/
def clockMovesUptoRow : OpenClaim := { program := "ythnlmhibbmogeaa", sum := "df2cbdc3146ea28f4aa908edc9bdcd5e00d8e455e2bb12cf136012d31ef101d1", func := "lychway/lychwaykeep.ClockMoves", spec := "clockMoves", unfollowed := true, recurses := true, apart := false, narrowed := true }
def ClockMovesUptoSaid : Prop := clockMovesUptoRow.holds Try.pinned (OpenSpec.upto clockMovesSpec)

/-- 'lychwaykeep.ClockDue', WHERE WHAT IT READS IS OF BULK AT MOST 1048576: true; the input reads as it did. -/
def clockDueUptoRow : OpenClaim := { program := "ythnlmhibbmogeaa", sum := "df2cbdc3146ea28f4aa908edc9bdcd5e00d8e455e2bb12cf136012d31ef101d1", func := "lychway/lychwaykeep.ClockDue", spec := "clockDue", unfollowed := true, recurses := true, apart := false, narrowed := true }
def ClockDueUptoSaid : Prop := clockDueUptoRow.holds Try.pinned (OpenSpec.upto clockDueSpec)

/-- 'lychwaykeep.LexApart', WHERE WHAT IT READS IS OF BULK AT MOST 1048576: true; the input reads as it did. -/
def lexApartUptoRow : OpenClaim := { program := "ythnlmhibbmogeaa", sum := "df2cbdc3146ea28f4aa908edc9bdcd5e00d8e455e2bb12cf136012d31ef101d1", func := "lychway/lychwaykeep.LexApart", spec := "lexApart", inPlace := ["internal/abi.NoEscape", "internal/bytealg.MakeNoZero"], unfollowed := true, recurses := true, apart := false, narrowed := true }
def LexApartUptoSaid : Prop := lexApartUptoRow.holds Try.pinned (OpenSpec.upto lexApartSpec)

end Rows
end Go.Proofs.Ythnlmhibbmogeaa
