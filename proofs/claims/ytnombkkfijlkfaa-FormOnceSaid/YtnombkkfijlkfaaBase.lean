/- The program's plain types. -/
import Derived.Test.YtnombkkfijlkfaaNumFacts
set_option linter.unusedVariables false
set_option linter.unusedSimpArgs false
namespace Go.Proofs.Ytnombkkfijlkfaa.Am
open Go Go.RowKit
abbrev Str := List UInt8
structure Val where
  kind : Int
  n : Int
  s : List UInt8
def Val.dv (p : Val) : DV := .agg [.int .i64 p.kind, .int .i64 p.n, .str p.s]
theorem Val.eta {p : Val} : Val.mk p.kind p.n p.s = p := rfl

structure Token where
  kind : Int
  at_ : Int
  s : List UInt8
  v : Val
def Token.dv (p : Token) : DV := .agg [.int .i64 p.kind, .int .i64 p.at_, .str p.s, .int .i64 p.v.kind, .int .i64 p.v.n, .str p.v.s]
theorem Token.eta {p : Token} : Token.mk p.kind p.at_ p.s p.v = p := rfl

structure Timer where
  id : Int
  at_ : Int
def Timer.dv (p : Timer) : DV := .agg [.int .i64 p.id, .int .i64 p.at_]
theorem Timer.eta {p : Timer} : Timer.mk p.id p.at_ = p := rfl

structure Raw where
  kind : Int
  a : Int
  b : Int
  text : List UInt8
def Raw.dv (p : Raw) : DV := .agg [.int .i64 p.kind, .int .i64 p.a, .int .i64 p.b, .str p.text]
theorem Raw.eta {p : Raw} : Raw.mk p.kind p.a p.b p.text = p := rfl

structure Fact where
  name : List UInt8
  key : Val
  has : Val
def Fact.dv (p : Fact) : DV := .agg [.str p.name, .int .i64 p.key.kind, .int .i64 p.key.n, .str p.key.s, .int .i64 p.has.kind, .int .i64 p.has.n, .str p.has.s]
theorem Fact.eta {p : Fact} : Fact.mk p.name p.key p.has = p := rfl

structure Cal where
  state : Int
  id : Int
  tries : Int
  key : Val
  has : Val
  next : Int
def Cal.dv (p : Cal) : DV := .agg [.int .i64 p.state, .int .i64 p.id, .int .i64 p.tries, .int .i64 p.key.kind, .int .i64 p.key.n, .str p.key.s, .int .i64 p.has.kind, .int .i64 p.has.n, .str p.has.s, .int .i64 p.next]
theorem Cal.eta {p : Cal} : Cal.mk p.state p.id p.tries p.key p.has p.next = p := rfl

structure Letter where
  field : List UInt8
  id : Int
  key : Val
  answer : Val
def Letter.dv (p : Letter) : DV := .agg [.str p.field, .int .i64 p.id, .int .i64 p.key.kind, .int .i64 p.key.n, .str p.key.s, .int .i64 p.answer.kind, .int .i64 p.answer.n, .str p.answer.s]
theorem Letter.eta {p : Letter} : Letter.mk p.field p.id p.key p.answer = p := rfl

def Val.zero : Val := ⟨0, 0, []⟩
def Cal.zero : Cal := ⟨0, 0, 0, Val.zero, Val.zero, 0⟩
def Token.zero : Token := ⟨0, 0, [], Val.zero⟩
/-- A list that grows at one place, or has not begun to. -/
def tokI (dst : Nat) : Option (List Nat) → Option Id
  | none => none
  | some g => some ⟨0, dst, 0 :: g⟩
def tokH (dst : Nat) (n : Nat) : Option (List Nat) → Heap
  | none => []
  | some g => [(⟨0, dst, 0 :: g⟩, .grow n)]
end Go.Proofs.Ytnombkkfijlkfaa.Am
