/- An evaluator of translated Go code over pure values: deep lists and structs, no memory but the variables whose address is taken. Definitions alone. -/
import GoSem.Dispatch
set_option linter.unusedVariables false
namespace Go.Proofs.Ytfcfifohflgboaa.Am
open Go

inductive DV where
  | int (k : IntKind) (n : Int)
  | bool (b : Bool)
  | str (s : List UInt8)
  | agg (cs : List DV)
  | sl (sz : Nat) (xs : List DV)
  | rp (cs : List DV)
  | fn (f : Nat) (caps : List DV)
  | mp (es : List (DV × DV))
  | nilf
  | any
  | nils (sz : Nat)
  | emps (sz : Nat)
  | ump (es : List (DV × DV))
  deriving Inhabited

structure Id where
  d : Nat
  t : Nat
  g : List Nat
  deriving DecidableEq, Inhabited

inductive AV where
  | d (x : DV)
  | own (sz : Nat) (xs : List DV) (tok : Option Id)
  | ptr (id : Id) (off : Nat)
  | arr (id : Id) (off n sz : Nat)
  | fn (f : Nat) (caps : List AV)
  | agg (cs : List AV)
  | tup (xs : List AV)
  | mp (id : Id)
  deriving Inhabited

inductive Place where
  | box (cs : List AV)
  | grow (fr : Nat)
  | mpl (es : List (DV × DV))
  deriving Inhabited

abbrev Heap := List (Id × Place)
abbrev Tm := List (Nat × AV)

def Heap.get : Heap → Id → Option Place
  | [], _ => none
  | (i, p) :: r, j => if i = j then some p else Heap.get r j
def Heap.put : Heap → Id → Place → Heap
  | [], _, _ => []
  | (i, p) :: r, j, q => if i = j then (i, q) :: r else (i, p) :: Heap.put r j q

def Heap.erase : Heap → Id → Heap
  | [], _ => []
  | (i, p) :: r, j => if i = j then Heap.erase r j else (i, p) :: Heap.erase r j

def Tm.get : Tm → Nat → Option AV
  | [], _ => none
  | (i, x) :: r, j => if i = j then some x else Tm.get r j
def Tm.set : Tm → Nat → AV → Tm
  | [], j, y => [(j, y)]
  | (i, x) :: r, j, y => if i = j then (i, y) :: r else if j < i then (j, y) :: (i, x) :: r else (i, x) :: Tm.set r j y
def Tm.erase : Tm → Nat → Tm
  | [], _ => []
  | (i, x) :: r, j => if i = j then Tm.erase r j else (i, x) :: Tm.erase r j

structure St where
  T : Tm
  H : Heap
  g : List Nat
  deriving Inhabited

inductive Out where
  | nrm | ret | exit (id : Nat)
  deriving DecidableEq, Inhabited

structure Tab where
  fn : Nat → Option Func
  und : Nat → Option TypeDesc
  inf : Nat → Option (Nat × Nat × List AV)
  keep : Nat → Nat → Option (List Nat × List Nat)
  opn : Nat → Bool
  res : Nat → Option Nat
  cmp : Nat → Bool
  drw : Nat → Nat → Option (List (List Nat))
  lv : Nat → Nat → Option Nat
  prim : Nat → Option (List DV → Option (AV × Heap))
  mutA : Nat → Nat → Bool
  thaw : Nat → Nat → Option Nat
  alt : Nat → Bool
  lend : Nat → Bool
  ro : Nat → Nat → String → Bool

def DV.leaf : DV → Bool
  | .agg _ => false
  | _ => true
def AV.leaf : AV → Bool
  | .d x => x.leaf
  | .agg _ | .tup _ => false
  | _ => true
def AV.cap : AV → Bool
  | .fn _ _ => false
  | x => x.leaf
def noTup : AV → Bool
  | .tup _ => false
  | _ => true
def DV.cells : DV → List DV
  | .agg cs => cs
  | x => [x]
def AV.cells : AV → List AV
  | .d x => x.cells.map .d
  | .agg cs => cs
  | x => [x]

def aggCells : AV → Option (List AV)
  | .agg cs => some cs
  | .d (.agg cs) => some (cs.map .d)
  | _ => none
def toDc : AV → Option DV
  | .d x => some x
  | .own sz xs _ => some (.sl sz xs)
  | _ => none
def allD : List AV → Option (List DV)
  | [] => some []
  | x :: r => match toDc x, allD r with
    | some y, some s => some (y :: s)
    | _, _ => none
def toD : AV → Option DV
  | .d x => some x
  | .own sz xs _ => some (.sl sz xs)
  | .agg cs => match allD cs with
    | some ds => some (.agg ds)
    | none => none
  | .fn f caps => match allD caps with
    | some ds => some (.fn f ds)
    | none => none
  | _ => none
def toDs : List AV → Option (List DV)
  | [] => some []
  | x :: r => match toD x, toDs r with
    | some y, some s => some (y :: s)
    | _, _ => none

def plainD : List AV → Option (List DV)
  | [] => some []
  | .d x :: r => match plainD r with
    | some s => some (x :: s)
    | none => none
  | _ => none
def mkAgg (cs : List AV) : AV := match plainD cs with
  | some ds => .d (.agg ds)
  | none => .agg cs
def mkFn (f : Nat) (cs : List AV) : AV := match plainD cs with
  | some ds => .d (.fn f ds)
  | none => .fn f cs

def isAgg (T : Tab) (t : Nat) : Option Bool := match T.und t with
  | some (.struct _) | some (.array _ _) => some true
  | some _ => some false
  | none => none
def size (T : Tab) (t : Nat) : Option Nat := (T.inf t).map (·.1)

def mkVar (T : Tab) (t : Nat) (cs : List AV) : Option AV := match isAgg T t, size T t with
  | some true, some n => if n ≤ cs.length then some (mkAgg (cs.take n)) else none
  | some false, some n => if n = 1 then cs.head? else none
  | _, _ => none

def constAV (T : Tab) (t : Nat) : Value → Option AV
  | .int k n => some (.d (.int k n))
  | .bool b => some (.d (.bool b))
  | .string s => some (.d (.str s.data.toList))
  | .slice none 0 0 => match T.und t with
    | some (.slice e) => match size T e with
      | some n => some (.own n [] none)
      | none => none
    | _ => none
  | .map none => some (.d .any)
  | .pointer none => some (.d .any)
  | _ => none
def ev (T : Tab) (S : St) (t : Nat) : Operand → Option AV
  | .tmp i => S.T.get i
  | .const v => constAV T t v
  | .func f => some (.d (.fn f []))
  | .global _ => none

def setCells (cs : List AV) (off : Nat) (xs : List AV) : List AV := cs.take off ++ xs ++ cs.drop (off + xs.length)

def behind (S : St) : AV → Option (List AV)
  | .ptr id off => match S.H.get id with
    | some (.box cs) => some (cs.drop off)
    | _ => none
  | .d (.rp cs) => some (cs.map .d)
  | _ => none

def fillA (place : Nat → Option (Nat × Nat)) (cells : List AV) : List (Nat × AV) → Option (List AV)
  | [] => some cells
  | (i, v) :: rest => match place i with
    | none => none
    | some (off, size) => if v.cells.length ≠ size ∨ off + size > cells.length then none else fillA place (setCells cells off v.cells) rest

def partsA (T : Tab) (S : St) (ty : Nat → Nat) : List (Nat × Operand) → Option (List (Nat × AV))
  | [] => some []
  | (i, x) :: r => match ev T S (ty i) x, partsA T S ty r with
    | some v, some s => some ((i, v) :: s)
    | _, _ => none

def evs (T : Tab) (S : St) : List Operand → List Nat → Option (List AV)
  | [], _ => some []
  | x :: r, ts => match ev T S (ts.headD 0) x, evs T S r ts.tail with
    | some v, some s => some (v :: s)
    | _, _ => none

def bytesLt : List UInt8 → List UInt8 → Bool
  | _, [] => false
  | [], _ :: _ => true
  | a :: x, b :: y => a < b || (a == b && bytesLt x y)

def binInt (op : BinOp) (k : IntKind) (a b : Int) : Option DV := match op with
  | .add => some (.int k (k.wrap (a + b)))
  | .sub => some (.int k (k.wrap (a - b)))
  | .mul => some (.int k (k.wrap (a * b)))
  | .quo => if b = 0 then none else some (.int k (k.wrap (a.tdiv b)))
  | .rem => if b = 0 then none else some (.int k (a.tmod b))
  | .eql => some (.bool (a == b))
  | .neq => some (.bool (a != b))
  | .lss => some (.bool (decide (a < b)))
  | .leq => some (.bool (decide (a ≤ b)))
  | .gtr => some (.bool (decide (a > b)))
  | .geq => some (.bool (decide (a ≥ b)))
  | _ => none
def binStr (op : BinOp) (a b : List UInt8) : Option DV := match op with
  | .add => if a.length + b.length ≤ 9223372036854775807 then some (.str (a ++ b)) else none
  | .eql => some (.bool (a == b))
  | .neq => some (.bool (!(a == b)))
  | .lss => some (.bool (bytesLt a b))
  | .leq => some (.bool (bytesLt a b || a == b))
  | .gtr => some (.bool (!(bytesLt a b || a == b)))
  | .geq => some (.bool (!bytesLt a b))
  | _ => none
def leavesF (rec : Nat → Option (List TypeDesc)) : Nat → List Field → Option (List TypeDesc)
  | _, [] => some []
  | off, f :: r => if f.name = "_" ∨ f.offset ≠ off then none else match rec f.type with
    | some ls => match leavesF rec (off + ls.length) r with
      | some ms => some (ls ++ ms)
      | none => none
    | none => none
def sized (T : Tab) (t : Nat) (ls : List TypeDesc) : Option (List TypeDesc) := if size T t = some ls.length then some ls else none
def leaves (T : Tab) : Nat → Nat → Option (List TypeDesc)
  | 0, _ => none
  | k + 1, t => match T.und t with
    | some .bool => sized T t [.bool]
    | some (.int j) => sized T t [.int j]
    | some .string => sized T t [.string]
    | some (.struct fs) => if T.cmp t then (match leavesF (leaves T k) 0 fs.toList with
      | some ls => sized T t ls
      | none => none) else none
    | _ => none
def eqCell : TypeDesc → AV → AV → Option Bool
  | .int _, .d (.int k a), .d (.int j b) => if k = j then some (a == b) else none
  | .bool, .d (.bool a), .d (.bool b) => some (a == b)
  | .string, .d (.str a), .d (.str b) => some (a == b)
  | _, _, _ => none
def eqCells : List TypeDesc → List AV → List AV → Option Bool
  | [], [], [] => some true
  | t :: ts, x :: r, y :: s => match eqCell t x y, eqCells ts r s with
    | some a, some b => some (a && b)
    | _, _ => none
  | _, _, _ => none
def eqA (T : Tab) (t : Nat) (x y : AV) : Option Bool := match leaves T 8 t, isAgg T t with
  | some ls, some true => match aggCells x, aggCells y with
    | some cs, some ds => eqCells ls cs ds
    | _, _ => none
  | some ls, some false => eqCells ls [x] [y]
  | _, _ => none
def binOpA (T : Tab) (op : BinOp) (t : Nat) (x y : AV) : Option DV := match x, y with
  | .d (.int k a), .d (.int j b) => match op with
    | .shl => if b < 0 then none else some (.int k (k.wrap (a * 2 ^ (min b.toNat k.bits))))
    | .shr => if b < 0 then none else some (.int k (a.fdiv (2 ^ (min b.toNat k.bits))))
    | _ => if k = j then binInt op k a b else none
  | .d (.str a), .d (.str b) => binStr op a b
  | _, _ => match op with
    | .eql => match eqA T t x y with
      | some b => some (.bool b)
      | none => none
    | .neq => match eqA T t x y with
      | some b => some (.bool (!b))
      | none => none
    | _ => none

/-! ### calls -/
abbrev Call := Nat → Nat → List AV → Heap → List Nat → Option (AV × Heap)

def ids1 : AV → List Id
  | .own _ _ (some id) => [id]
  | .ptr id _ => [id]
  | .arr id _ _ _ => [id]
  | .mp id => [id]
  | _ => []
def idsC : AV → List Id
  | .fn _ cs => cs.flatMap ids1
  | x => ids1 x
def idsB : AV → List Id
  | .agg cs => cs.flatMap idsC
  | x => idsC x
def idsA : AV → List Id
  | .tup xs => xs.flatMap idsB
  | x => idsB x
def idsL (l : List AV) : List Id := l.flatMap idsA
def idsP : Place → List Id
  | .box cs => idsL cs
  | .grow _ => []
  | .mpl _ => []
def idsH : Heap → List Id
  | [] => []
  | (_, p) :: r => idsP p ++ idsH r
def within : List Id → Heap → Heap
  | [], _ => []
  | i :: r, H => match H.get i with
    | some p => (i, p) :: within r H
    | none => within r H
def addIds (l : List Id) : List Id → List Id
  | [] => l
  | i :: r => if l.contains i then addIds l r else addIds (l ++ [i]) r
def sfx (q g : List Nat) : Bool := g.drop (g.length - q.length) == q
def without (l : List Id) (H : Heap) : Heap := H.filter fun e => !l.contains e.1
def weave (R : List Id) (H1 : Heap) : Heap → Heap
  | [] => []
  | (i, p) :: r => if R.contains i then (match H1.get i with
    | some q => (i, q) :: weave R H1 r
    | none => weave R H1 r) else (i, p) :: weave R H1 r
def fresh (R : List Id) (H : Heap) : Heap → Heap
  | [] => []
  | (i, p) :: r => if (H.get i).isNone || !R.contains i then (i, p) :: fresh R H r else fresh R H r
def weaveH (R : List Id) (H1 H : Heap) : Heap := fresh R H H1 ++ weave R H1 H
def reach (H : Heap) : Nat → List Id → List Id
  | 0, l => l
  | k + 1, l => if (idsH (within l H)).all (fun i => l.contains i) then l else reach H k (addIds l (idsH (within l H)))

def tokLive (H : Heap) (fr : Nat) : Option Id → Bool
  | none => true
  | some id => match H.get id with
    | some (.grow m) => m == fr
    | _ => false
def chop (sz : Nat) : Nat → List DV → List DV
  | 0, _ => []
  | n + 1, l => (if sz = 1 then l.headD .any else .agg (l.take sz)) :: chop sz n (l.drop sz)
def frzV (H : Heap) (x : AV) : AV := match x with
  | .arr id off n sz => match H.get id with
    | some (.box cs) => match allD ((cs.drop off).take (n * sz)) with
      | some ds => if 0 < sz ∧ ds.length = n * sz then .d (.sl sz (chop sz n ds)) else x
      | none => x
    | _ => x
  | .mp id => match H.get id with
    | some (.mpl es) => .d (.mp es)
    | _ => x
  | x => x
def frzB (H : Heap) (x : AV) : AV := match x with
  | .agg cs => .agg (cs.map (frzV H))
  | x => frzV H x
def frz (H : Heap) (x : AV) : AV := match x with
  | .tup xs => .tup (xs.map (frzB H))
  | x => frzB H x
def thawV (H : Heap) (d dst : Nat) (S : St) (x : AV) : Option (AV × St) := match x with
  | .arr id 0 n sz => match H.get id with
    | some (.box cs) => match allD cs with
      | some ds => some (.arr ⟨d, dst, 0 :: S.g⟩ 0 n sz, { S with H := (⟨d, dst, 0 :: S.g⟩, .box (ds.map .d)) :: S.H, g := 1 :: S.g })
      | none => none
    | _ => none
  | .mp id => match H.get id with
    | some (.mpl es) => some (.mp ⟨d, dst, 0 :: S.g⟩, { S with H := (⟨d, dst, 0 :: S.g⟩, .mpl es) :: S.H, g := 1 :: S.g })
    | _ => none
  | .own sz [] none => some (.own sz [] none, S)
  | _ => none
def thawA (H : Heap) (d dst : Nat) (S : St) (j : Nat) (r : AV) : Option (AV × St) := match r with
  | .tup ys => match ys[j]?, toDs (ys.set j (.d (.bool false))) with
    | some y, some ds => match thawV H d dst S y with
      | some (z, S') => some (.tup ((ds.map AV.d).set j z), S')
      | none => none
    | _, _ => none
  | y => thawV H d dst S y
def adoptO (T : Tab) (f d dst : Nat) (H : Heap) (S : St) (r : AV) : Option (AV × St) :=
  match T.res f with
  | none => match r with
    | .tup xs => match toDs xs with
      | some ds => some (.tup (ds.map .d), S)
      | none => none
    | x => match toD x with
      | some y => some (.d y, S)
      | none => none
  | some j => match r with
    | .own sz xs tok => if 0 < sz ∧ tokLive H (xs.length * sz) tok = true then
        some (.own sz xs (some ⟨d, dst, 0 :: S.g⟩), { S with H := (⟨d, dst, 0 :: S.g⟩, .grow (xs.length * sz)) :: S.H, g := 1 :: S.g }) else none
    | .tup ys => match ys[j]?, toDs ys with
      | some (.own sz xs tok), some ds => if 0 < sz ∧ tokLive H (xs.length * sz) tok = true then
          some (.tup ((ds.map AV.d).set j (.own sz xs (some ⟨d, dst, 0 :: S.g⟩))), { S with H := (⟨d, dst, 0 :: S.g⟩, .grow (xs.length * sz)) :: S.H, g := 1 :: S.g }) else none
      | _, _ => none
    | _ => none
def adopt (T : Tab) (f d dst : Nat) (H : Heap) (S : St) (r : AV) : Option (AV × St) := match T.thaw f dst with
  | some j => thawA H d dst S j r
  | none => match T.res f with
    | none => adoptO T f d dst H S (frz H r)
    | some _ => adoptO T f d dst H S r

def softV (x : AV) : AV := match toD x with
  | some y => .d y
  | none => x
def soft (T : Tab) (f : Nat) (r : AV) : AV := if (T.res f).isSome then r else match r with
  | .tup xs => .tup (xs.map softV)
  | x => softV x

/-! lists that can be written to, lent for a call: nobody writes them meanwhile, and nothing of them comes back -/
def DV.flat : DV → Bool
  | .int _ _ | .bool _ | .str _ => true
  | _ => false
def DV.flatB : DV → Bool
  | .agg cs => cs.all DV.flat
  | x => x.flat
def lentA (T : Tab) (S : St) (f : Nat) (args : List AV) : Option (List DV) := if T.lend f = true then (match toDs args with
  | some _ => none
  | none => toDs (args.map (frzB S.H))) else none
def thawF (H : Heap) (d dst : Nat) (S : St) (x : AV) : Option (AV × St) := match x with
  | .arr id 0 n sz => match H.get id with
    | some (.box cs) => match allD cs with
      | some ds => if ds.all DV.flat = true then some (.arr ⟨d, dst, 0 :: S.g⟩ 0 n sz, { S with H := (⟨d, dst, 0 :: S.g⟩, .box (ds.map .d)) :: S.H, g := 1 :: S.g }) else none
      | none => none
    | _ => none
  | .own sz [] none => some (.own sz [] none, S)
  | _ => none
def adoptF (T : Tab) (f d dst : Nat) (H : Heap) (S : St) (r : AV) : Option (AV × St) := match T.thaw f dst with
  | some _ => thawF H d dst S r
  | none => match r with
    | .tup xs => match toDs xs with
      | some ds => if ds.all DV.flatB = true then some (.tup (ds.map .d), S) else none
      | none => none
    | x => match toD x with
      | some y => if y.flatB = true then some (.d y, S) else none
      | none => none
def callO (T : Tab) (call : Call) (d dst f : Nat) (args : List AV) (S : St) : Option (AV × St) :=
  match (if T.opn f then none else toDs args) with
  | some ds => match T.prim f with
    | some p => match p ds with
      | some (r, H1) => adopt T f d dst H1 S r
      | none => none
    | none => match call 0 f (ds.map .d) [] [] with
      | some (r, H1) => adopt T f d dst H1 S r
      | none => none
  | none =>
    let R := reach S.H 8 (addIds [] (idsL args))
    if (idsH (within R S.H)).all (fun i => R.contains i) then
      match call (d + 1) f args (within R S.H) (0 :: S.g) with
      | some (r, H') => some (soft T f r, { S with H := weaveH R ((within (reach H' 8 (addIds R (idsA (soft T f r)))) H').filter (fun e => R.contains e.1 || sfx (0 :: S.g) e.1.g)) S.H, g := 1 :: S.g })
      | none => none
    else none

def callA (T : Tab) (call : Call) (d dst f : Nat) (args : List AV) (S : St) : Option (AV × St) :=
  match lentA T S f args with
  | some ds => match call 0 f (ds.map .d) [] [] with
    | some (r, H1) => adoptF T f d dst H1 S r
    | none => none
  | none => callO T call d dst f args S

/-! ### built-in functions -/
def lenA (T : Tab) (S : St) (t : Nat) (x : AV) : Option Nat := match T.und t with
  | some .string => match x with
    | .d (.str s) => some s.length
    | _ => none
  | some (.slice _) => match x with
    | .d (.sl _ xs) => some xs.length
    | .own _ xs _ => some xs.length
    | .arr id _ n _ => match S.H.get id with
      | some (.box _) => some n
      | _ => none
    | _ => none
  | some (.array n _) => some n
  | _ => none
def elemsA : AV → Option (Nat × List DV)
  | .d (.sl sz xs) => some (sz, xs)
  | .own sz xs _ => some (sz, xs)
  | .d (.nils sz) => some (sz, [])
  | .d (.emps sz) => some (sz, [])
  | _ => none
def minMax (mx : Bool) : List AV → Option DV
  | [.d (.int k a), .d (.int _ b)] => some (.int k (if mx then (if b > a then b else a) else (if b < a then b else a)))
  | _ => none
def flatD (xs : List DV) : List AV := (xs.flatMap DV.cells).map .d
def listC (S : St) : AV → Option (Nat × Nat × List AV)
  | .d (.sl sz xs) => some (sz, xs.length, flatD xs)
  | .own sz xs _ => some (sz, xs.length, flatD xs)
  | .d (.nils sz) => some (sz, 0, [])
  | .d (.emps sz) => some (sz, 0, [])
  | .arr id off n sz => match S.H.get id with
    | some (.box cs) => if off + n * sz ≤ cs.length then some (sz, n, (cs.drop off).take (n * sz)) else none
    | _ => none
  | _ => none
def elemOf (T : Tab) (ts : List Nat) : Option (Nat × Nat) := match ts with
  | [t0, t1] => match T.und t0, T.und t1 with
    | some (.slice e), some (.slice _) => match T.inf e with
      | some (n, bytes, _) => if t0 = t1 ∧ 0 < n ∧ 0 < bytes then some (n, bytes) else none
      | none => none
    | _, _ => none
  | _ => none
def appendB (T : Tab) (d dst : Nat) (S : St) (ts : List Nat) (id : Id) (off k sz : Nat) (x : AV) : Option (AV × St) :=
  match elemOf T ts, S.H.get id, listC S x with
  | some (n, bytes), some (.box cs), some (sz', m, ys) =>
    if sz = n ∧ sz' = n ∧ (k + m) * bytes ≤ 140737488355328 then
      if off + (k + m) * sz ≤ cs.length then some (.arr id off (k + m) sz, { S with H := S.H.put id (.box (setCells cs (off + k * sz) ys)) })
      else if off = 0 ∧ k * sz = cs.length then some (.arr ⟨d, dst, 0 :: S.g⟩ 0 (k + m) sz, { S with H := (⟨d, dst, 0 :: S.g⟩, .box (cs ++ ys)) :: S.H.erase id, g := 1 :: S.g })
      else none
    else none
  | _, _, _ => none
def appendM (T : Tab) (d dst : Nat) (S : St) (ts : List Nat) (sz : Nat) (x : AV) : Option (AV × St) :=
  match elemOf T ts, listC S x with
  | some (n, bytes), some (sz', m, ys) =>
    if sz = n ∧ sz' = n ∧ m * bytes ≤ 140737488355328 then
      if m = 0 then some (.own sz [] none, S)
      else some (.arr ⟨d, dst, 0 :: S.g⟩ 0 m sz, { S with H := (⟨d, dst, 0 :: S.g⟩, .box ys) :: S.H, g := 1 :: S.g })
    else none
  | _, _ => none
def appendO (T : Tab) (d dst : Nat) (S : St) (ts : List Nat) (s x : AV) : Option (AV × St) :=
  match ts with
  | [t0, t1] => match T.und t0, T.und t1 with
    | some (.slice e), some (.slice _) => match T.inf e, s, elemsA x with
      | some (n, bytes, _), .own sz xs tok, some (sz', ys) =>
        if t0 = t1 ∧ sz = n ∧ sz' = n ∧ 0 < n ∧ 0 < bytes ∧ (xs.length + ys.length) * bytes ≤ 140737488355328 then
          match tok with
          | none => some (.own sz (xs ++ ys) (some ⟨d, dst, 0 :: S.g⟩), { S with H := (⟨d, dst, 0 :: S.g⟩, .grow ((xs ++ ys).length * sz)) :: S.H, g := 1 :: S.g })
          | some id => match S.H.get id with
            | some (.grow fr) => if fr = xs.length * sz then some (.own sz (xs ++ ys) (some id), { S with H := S.H.put id (.grow ((xs ++ ys).length * sz)) }) else none
            | _ => none
        else none
      | _, _, _ => none
    | _, _ => none
  | _ => none
def appendZ (T : Tab) (d dst : Nat) (S : St) (ts : List Nat) (sz : Nat) (x : AV) : Option (AV × St) := match ts, x with
  | [t0, _], .d (.int _ n) => match T.und t0 with
    | some (.slice e) => match T.inf e with
      | some (c, bytes, zero) => if sz = c ∧ 0 < c ∧ 0 < bytes ∧ 0 ≤ n ∧ n.toNat * bytes ≤ 140737488355328 then
          if n.toNat = 0 then some (.own sz [] none, S)
          else some (.arr ⟨d, dst, 0 :: S.g⟩ 0 n.toNat sz, { S with H := (⟨d, dst, 0 :: S.g⟩, .box (List.replicate n.toNat zero).flatten) :: S.H, g := 1 :: S.g })
        else none
      | none => none
    | _ => none
  | _, _ => none
def zerosT (T : Tab) : List Nat → Bool
  | [_, t] => match T.und t with
    | some (.int _) => true
    | _ => false
  | _ => false
def appendA (T : Tab) (d dst : Nat) (S : St) (ts : List Nat) (s x : AV) : Option (AV × St) := match s with
  | .arr id off k sz => appendB T d dst S ts id off k sz x
  | .own sz xs tok => if T.mutA (ts.headD 0) dst then (match xs, tok with
    | [], none => if zerosT T ts then appendZ T d dst S ts sz x else appendM T d dst S ts sz x
    | _, _ => none) else appendO T d dst S ts (.own sz xs tok) x
  | _ => none
def copyA (T : Tab) (S : St) (ts : List Nat) (x y : AV) : Option (AV × St) := match elemOf T ts, x with
  | some (n, _), .arr id off k sz => match S.H.get id, listC S y with
    | some (.box cs), some (sz', m, ys) => if sz = n ∧ sz' = n ∧ off + k * sz ≤ cs.length ∧ k ≤ 9223372036854775807 then
        some (.d (.int .i64 (min m k : Nat)), { S with H := S.H.put id (.box (setCells cs off (ys.take (min m k * sz)))) }) else none
    | _, _ => none
  | _, _ => none
def clearA (T : Tab) (S : St) (ts : List Nat) (x : AV) : Option (AV × St) := match ts with
  | [t] => match T.und t with
    | some (.slice e) => match T.inf e, x with
      | some (n, _, zero), .arr id off k sz => match S.H.get id with
        | some (.box cs) => if sz = n ∧ off + k * sz ≤ cs.length ∧ 0 < k then
            some (.tup [], { S with H := S.H.put id (.box (setCells cs off (List.replicate k zero).flatten)) }) else none
        | _ => none
      | _, .d (.sl _ []) => some (.tup [], S)
      | _, _ => none
    | _ => none
  | _ => none
def capA (T : Tab) (S : St) (ts : List Nat) (x : AV) : Option (AV × St) := match ts with
  | [t] => match T.und t, x with
    | some (.slice _), .own _ xs none => some (.d (.int .i64 xs.length), S)
    | _, _ => none
  | _ => none
def builtinA (T : Tab) (d dst : Nat) (S : St) (b : Builtin) (ts : List Nat) (args : List AV) : Option (AV × St) :=
  match b, args with
  | .len, [x] => match ts with
    | [t] => match lenA T S t x with
      | some n => some (.d (.int .i64 n), S)
      | none => none
    | _ => none
  | .min, _ => match minMax false args with
    | some x => some (.d x, S)
    | none => none
  | .max, _ => match minMax true args with
    | some x => some (.d x, S)
    | none => none
  | .append, [s, x] => appendA T d dst S ts s x
  | .copy, [x, y] => copyA T S ts x y
  | .clear, [x] => clearA T S ts x
  | .cap, [x] => capA T S ts x
  | _, _ => none

/-! ### operations -/
def boundA (top dflt : Nat) : Option AV → Option Nat
  | none => some dflt
  | some (.d (.int _ h)) => if 0 ≤ h ∧ h ≤ top then some h.toNat else none
  | _ => none
def sliceA (n : Nat) (lo hi : Option AV) : Option (Nat × Nat) := match boundA n n hi with
  | some h => match boundA h 0 lo with
    | some l => some (l, h)
    | none => none
  | none => none
def sliceB (top n : Nat) (lo hi : Option AV) : Option (Nat × Nat) := match boundA top n hi with
  | some h => match boundA h 0 lo with
    | some l => some (l, h)
    | none => none
  | none => none
def cutB (cs : List AV) (id : Id) (off n sz : Nat) (lo hi : Option AV) : Option AV :=
  if 0 < sz ∧ off ≤ cs.length then match sliceB ((cs.length - off) / sz) n lo hi with
    | some (l, h) => if h ≤ 9223372036854775807 then some (if l = 0 then .arr id off h sz else if l = h then .d (.sl sz []) else .arr id (off + l * sz) (h - l) sz) else none
    | none => none else none
def cutO (b : Bool) (y : AV) (r : DV) : AV := match b, y with
  | true, .own sz [] none => .own sz [] none
  | _, _ => .d r
def cutM (cs : List AV) (off sz : Nat) (lo hi mx : Option AV) : Option AV :=
  if 0 < sz ∧ off ≤ cs.length then match boundA ((cs.length - off) / sz) 0 mx with
    | some m => match boundA m 0 hi with
      | some h => match boundA h 0 lo with
        | some l => some (if m = 0 then .own sz [] none else .d .any)
        | none => none
      | none => none
    | none => none else none
/-! ### maps -/
def sameK : TypeDesc → DV → DV → Option Bool
  | .int _, .int k a, .int j b => if k = j then some (a == b) else none
  | .string, .str a, .str b => some (a == b)
  | .bool, .bool a, .bool b => some (a == b)
  | _, _, _ => none
def findK (kt : TypeDesc) (k : DV) : List (DV × DV) → Option (Option DV)
  | [] => some none
  | (q, x) :: r => match sameK kt k q with
    | some true => some (some x)
    | some false => findK kt k r
    | none => none
def setK (kt : TypeDesc) (k x : DV) : List (DV × DV) → List (DV × DV)
  | [] => [(k, x)]
  | (q, y) :: r => if sameK kt k q = some true then (k, x) :: r else (q, y) :: setK kt k x r
def mapOf (S : St) : AV → Option (List (DV × DV))
  | .mp id => match S.H.get id with
    | some (.mpl es) => some es
    | _ => none
  | .d (.mp es) => some es
  | .d (.ump es) => some es
  | _ => none
def lookA (T : Tab) (S : St) (kt et : Nat) (m k : AV) (ok : Bool) : Option AV := match T.und kt, mapOf S m, k with
  | some kd, some es, .d q => match sameK kd q q, findK kd q es with
    | some true, some (some x) => some (if ok then .tup [.d x, .d (.bool true)] else .d x)
    | some true, some none => match T.inf et with
      | some (_, _, zero) => match mkVar T et zero with
        | some z => some (if ok then .tup [z, .d (.bool false)] else z)
        | none => none
      | none => none
    | _, _ => none
  | _, _, _ => none
def updA (T : Tab) (S : St) (kt : Nat) (m k x : AV) : Option St := match T.und kt, m, k, toD x with
  | some kd, .mp id, .d q, some y => match S.H.get id with
    | some (.mpl es) => match sameK kd q q, findK kd q es with
      | some true, some _ => some { S with H := S.H.put id (.mpl (setK kd q y es)) }
      | _, _ => none
    | _ => none
  | _, _, _, _ => none
def evO (T : Tab) (S : St) : Option Operand → Option (Option AV)
  | none => some none
  | some x => match ev T S 0 x with
    | some v => some (some v)
    | none => none
def strD : List DV → Option (List UInt8)
  | [] => some []
  | .int .u8 n :: r => if 0 ≤ n ∧ n < 256 then match strD r with
    | some s => some (UInt8.ofNat n.toNat :: s)
    | none => none else none
  | _ => none
def strA (S : St) (y : AV) : Option (List UInt8) := match y with
  | .arr id off n sz => match S.H.get id with
    | some (.box cs) => if sz = 1 ∧ off + n ≤ cs.length then (match plainD ((cs.drop off).take n) with
      | some ds => strD ds
      | none => none) else none
    | _ => none
  | _ => match elemsA y with
    | some (sz, xs) => if sz = 1 then strD xs else none
    | none => none

def fieldsOf (T : Tab) (t : Nat) : Option (List Field) := match T.und t with
  | some (.struct fs) => some fs.toList
  | _ => none
def placesL (T : Tab) : List Field → Option (List (Nat × Nat))
  | [] => some []
  | f :: r => match size T f.type, placesL T r with
    | some n, some s => some ((f.offset, n) :: s)
    | _, _ => none
def buildA (T : Tab) (t : Nat) (zero : List AV) (ps : List (Nat × AV)) : Option (List AV) := match T.und t with
  | some (.struct fs) => match placesL T fs.toList with
    | some pl => fillA (fun i => pl[i]?) zero ps
    | none => none
  | some (.array _ e) => match size T e with
    | some n => fillA (fun i => some (i * n, n)) zero ps
    | none => none
  | _ => none
def partType (T : Tab) (t : Nat) (i : Nat) : Nat := match T.und t with
  | some (.struct fs) => match fs[i]? with
    | some f => f.type
    | none => 0
  | some (.array _ e) => e
  | some (.slice e) => e
  | _ => 0
def newBox (d dst : Nat) (S : St) (cs : List AV) : AV × St := (.ptr ⟨d, dst, 0 :: S.g⟩ 0, { S with H := (⟨d, dst, 0 :: S.g⟩, .box cs) :: S.H, g := 1 :: S.g })

def newArr (d dst : Nat) (S : St) (cs : List AV) (n sz : Nat) : AV × St := (.arr ⟨d, dst, 0 :: S.g⟩ 0 n sz, { S with H := (⟨d, dst, 0 :: S.g⟩, .box cs) :: S.H, g := 1 :: S.g })
def bytesAV (s : List UInt8) : List AV := s.map fun b => .d (.int .u8 (b.toNat : Int))
def convS (T : Tab) (d dst : Nat) (S : St) (e : Nat) (s : List UInt8) : Option (AV × St) := match T.und e with
  | some (.int .u8) => if s.length ≤ 9223372036854775807 then some (newArr d dst S (bytesAV s) s.length 1) else none
  | _ => none
def convB (T : Tab) (S : St) (e : Nat) (y : AV) : Option AV := match T.und e with
  | some (.int .u8) => match strA S y with
    | some s => some (.d (.str s))
    | none => none
  | _ => none
def makeA (T : Tab) (d dst : Nat) (S : St) (t : Nat) (n m : Int) : Option (AV × St) := match T.und t with
  | some (.slice e) => match T.inf e with
    | some (sz, bytes, zero) => if n = m ∧ 0 ≤ n ∧ n * bytes ≤ 140737488355328 ∧ n ≤ 9223372036854775807 ∧ 0 < n * sz then some (newArr d dst S (List.replicate n.toNat zero).flatten n.toNat sz) else none
    | none => none
  | _ => none
def elemsL (T : Tab) (e n : Nat) : Nat → List AV → Option (List DV)
  | 0, _ => some []
  | k + 1, cs => match mkVar T e (cs.take n), elemsL T e n k (cs.drop n) with
    | some y, some s => match toD y with
      | some z => some (z :: s)
      | none => none
    | _, _ => none

def isNilC (op : BinOp) : Operand → Bool
  | .const (.slice none 0 0) => match op with
    | .eql => true
    | _ => false
  | _ => false
def nilB (S : St) : AV → Option Bool
  | .d (.sl _ (_ :: _)) => some false
  | .own _ (_ :: _) _ => some false
  | .d (.nils _) => some true
  | .d (.emps _) => some false
  | .arr id _ _ _ => match S.H.get id with
    | some (.box _) => some false
    | _ => none
  | _ => none
def opA (T : Tab) (call : Call) (d : Nat) (o : Oper) (S : St) : Option (Option AV × St) :=
  let dst := o.dst.getD 0
  let v (x : Option AV) : Option (Option AV × St) := match x with
    | some y => some (some y, S)
    | none => none
  let vs (x : Option (AV × St)) : Option (Option AV × St) := match x with
    | some (y, S') => some (some y, S')
    | none => none
  match o.op with
  | .move x | .assign x => v (ev T S o.type x)
  | .pick c a b => match ev T S 0 c with
    | some (.d (.bool t)) => if t then v (ev T S o.type a) else v (ev T S o.type b)
    | _ => none
  | .alloc elem => match T.inf elem with
    | some (_, _, zero) => vs (some (newBox d dst S zero))
    | none => none
  | .box elem x => match size T elem, ev T S elem x with
    | some n, some y => if noTup y ∧ y.cells.length = n then (if T.ro elem dst o.pos = true then (match allD y.cells with
      | some ds => v (some (.d (.rp ds)))
      | none => none) else vs (some (newBox d dst S y.cells))) else none
    | _, _ => none
  | .build t parts => match T.inf t, partsA T S (partType T t) parts.toList with
    | some (_, _, zero), some ps => if ps.all (fun p => noTup p.2) then v ((buildA T t zero ps).map mkAgg) else none
    | _, _ => none
  | .buildSlice t len parts => match T.und t with
    | some (.slice e) => match T.inf e, partsA T S (partType T t) parts.toList with
      | some (n, _, zero), some ps => if len = 0 ∧ parts.size = 0 then v (some (.own n [] none)) else if 0 < n ∧ 0 < len ∧ len * n ≤ 16777216 ∧ ps.all (fun p => noTup p.2) then
          match fillA (fun i => some (i * n, n)) (List.replicate len zero).flatten ps with
          | some cs => match elemsL T e n len cs with
            | some ds => v (some (.own n ds none))
            | none => none
          | none => none
        else none
      | _, _ => none
    | _ => none
  | .load t a => match ev T S 0 a with
    | some p => match behind S p with
      | some cs => v (mkVar T t cs)
      | none => none
    | none => none
  | .store t a x => match ev T S 0 a, ev T S t x, size T t with
    | some (.ptr id off), some y, some n => match S.H.get id with
      | some (.box cs) => if noTup y ∧ y.cells.length = n ∧ off + n ≤ cs.length then some (none, { S with H := S.H.put id (.box (setCells cs off y.cells)) }) else none
      | _ => none
    | _, _, _ => none
  | .nilCheck x => match ev T S 0 x with
    | some (.ptr id off) => match S.H.get id with
      | some (.box _) => v (some (.ptr id off))
      | _ => none
    | some (.d (.rp cs)) => v (some (.d (.rp cs)))
    | _ => none
  | .fieldAddr t x i => match ev T S 0 x, fieldsOf T t with
    | some (.ptr id off), some fs => match fs[i]?, S.H.get id with
      | some f, some (.box _) => match size T f.type with
        | some n => if n = 0 then none else v (some (.ptr id (off + f.offset)))
        | none => none
      | _, _ => none
    | some (.d (.rp cs)), some fs => match fs[i]? with
      | some f => match size T f.type with
        | some n => if n = 0 then none else v (some (.d (.rp (cs.drop f.offset))))
        | none => none
      | none => none
    | _, _ => none
  | .indexAddr t x ix => match T.und t, ev T S 0 x, ev T S 0 ix with
    | some (.slice e), some y, some (.d (.int _ i)) => match y with
      | .arr id off n sz => match S.H.get id with
        | some (.box _) => if 0 ≤ i ∧ i < n ∧ size T e = some sz then v (some (.ptr id (off + i.toNat * sz))) else none
        | _ => none
      | _ => match elemsA y with
        | some (sz, xs) => if 0 ≤ i ∧ size T e = some sz then match xs[i.toNat]? with
          | some z => v (some (.d (.rp z.cells)))
          | none => none else none
        | none => none
    | some (.array n e), some y, some (.d (.int _ i)) => match size T e with
      | some sz => if 0 ≤ i ∧ i < n then match y with
        | .ptr id off => match S.H.get id with
          | some (.box _) => v (some (.ptr id (off + i.toNat * sz)))
          | _ => none
        | .d (.rp cs) => v (some (.d (.rp (cs.drop (i.toNat * sz)))))
        | _ => none else none
      | none => none
    | _, _, _ => none
  | .index t x ix => match T.und t, ev T S 0 x, ev T S 0 ix with
    | some .string, some (.d (.str s)), some (.d (.int _ i)) => if 0 ≤ i then match s[i.toNat]? with
      | some b => v (some (.d (.int .u8 (b.toNat : Int))))
      | none => none else none
    | some (.array n e), some y, some (.d (.int _ i)) => match size T e with
      | some sz => match aggCells y with
        | some cs => if 0 ≤ i ∧ i < n then v (mkVar T e (cs.drop (i.toNat * sz))) else none
        | none => none
      | none => none
    | _, _, _ => none
  | .field t x i => match ev T S 0 x, fieldsOf T t with
    | some y, some fs => match fs[i]?, aggCells y with
      | some f, some cs => v (mkVar T f.type (cs.drop f.offset))
      | _, _ => none
    | _, _ => none
  | .binOp op t x y _ => if isNilC op y = true then (match T.und t, ev T S t x with
    | some (.slice _), some a => v ((nilB S a).map fun b => .d (.bool b))
    | _, _ => none) else match ev T S t x, ev T S t y with
    | some a, some b => v ((binOpA T op t a b).map .d)
    | _, _ => none
  | .unOp op _ x => match op, ev T S 0 x with
    | .neg, some (.d (.int k n)) => v (some (.d (.int k (k.wrap (0 - n)))))
    | .not, some (.d (.bool b)) => v (some (.d (.bool (!b))))
    | _, _ => none
  | .convert src t x => match T.und src, T.und t, ev T S 0 x with
    | some (.int _), some (.int k), some (.d (.int _ n)) => v (some (.d (.int k (k.wrap n))))
    | some .string, some .string, some (.d (.str s)) => v (some (.d (.str s)))
    | some .string, some (.slice e), some (.d (.str s)) => vs (convS T d dst S e s)
    | some (.slice e), some .string, some y => v (convB T S e y)
    | _, _, _ => none
  | .makeSlice t l c => match ev T S 0 l, ev T S 0 c with
    | some (.d (.int _ n)), some (.d (.int _ m)) => vs (makeA T d dst S t n m)
    | _, _ => none
  | .makeFunc (.func f) first caps => if first.size = 0 then match evs T S caps.toList [] with
    | some cs => if cs.all AV.cap then v (some (mkFn f cs)) else none
    | none => none else none
  | .slice t x lo hi mx => match mx, evO T S lo, evO T S hi, ev T S 0 x, T.und t with
    | none, some l, some h, some (.d (.str s)), some .string => match sliceA s.length l h with
      | some (i, j) => v (some (.d (.str ((s.take j).drop i))))
      | none => none
    | none, some l, some h, some (.arr id off n sz), some (.slice e) => match S.H.get id with
      | some (.box cs) => if size T e = some sz then v (cutB cs id off n sz l h) else none
      | _ => none
    | some m, some l, some (some h), some (.arr id off n sz), some (.slice e) => match S.H.get id, ev T S 0 m with
      | some (.box cs), some b => if size T e = some sz then v (cutM cs off sz l (some h) (some b)) else none
      | _, _ => none
    | none, some l, some h, some y, some (.slice e) => match elemsA y with
      | some (sz, xs) => if size T e = some sz then match sliceA xs.length l h with
        | some (i, j) => v (some (cutO (T.mutA t dst) y (.sl sz ((xs.take j).drop i))))
        | none => none else none
      | none => none
    | some m, some l, some (some (.d (.int k a))), some y, some (.slice e) => match ev T S 0 m, elemsA y with
      | some (.d (.int _ b)), some (sz, xs) => if a = b ∧ size T e = some sz then match sliceA xs.length l (some (.d (.int k a))) with
        | some (i, j) => v (some (.own sz ((xs.take j).drop i) none))
        | none => none else none
      | _, _ => none
    | _, _, _, _, _ => none
  | .extract x i => match ev T S 0 x with
    | some (.tup xs) => v xs[i]?
    | _ => none
  | .makeMap _ none => vs (some (.mp ⟨d, dst, 0 :: S.g⟩, { S with H := (⟨d, dst, 0 :: S.g⟩, .mpl []) :: S.H, g := 1 :: S.g }))
  | .lookup t m k ok => match T.und t, ev T S 0 m with
    | some (.map kt et), some y => match ev T S kt k with
      | some q => v (lookA T S kt et y q ok)
      | none => none
    | _, _ => none
  | .mapUpdate t m k x | .insert t m k x => match T.und t, ev T S 0 m with
    | some (.map kt et), some y => match ev T S kt k, ev T S et x with
      | some q, some z => match updA T S kt y q z with
        | some S' => some (none, S')
        | none => none
      | _, _ => none
    | _, _ => none
  | .call c => match c.callee, evs T S c.args.toList c.argTypes.toList with
    | .builtin b, some xs => vs (builtinA T d dst S b c.argTypes.toList xs)
    | .value f, some xs => match ev T S 0 f with
      | some (.d (.fn f caps)) => vs (callA T call d dst f (xs ++ caps.map .d) S)
      | some (.fn f caps) => vs (callA T call d dst f (xs ++ caps) S)
      | _ => none
    | _, _ => none
  | _ => none

/-! ### statements -/
def putA (S : St) (dst : Option Nat) (x : Option AV) : St := match dst, x with
  | some t, some y => { S with T := S.T.set t y }
  | some t, none => { S with T := S.T.set t (.tup []) }
  | none, _ => S
def wantedA (ops : List Oper) (o : Oper) (S : St) : Option Bool := match o.guard with
  | none => some true
  | some (j, want) => match (ops[j]?).bind (·.dst) with
    | some t => match S.T.get t with
      | some (.d (.bool b)) => some (b == want)
      | some (.tup []) => some false
      | _ => none
    | none => none
def opsA (T : Tab) (call : Call) (d : Nat) (ops : List Oper) : List Oper → St → Option St
  | [], S => some S
  | o :: r, S => match wantedA ops o S with
    | some true => match opA T call d o S with
      | some (x, S') => opsA T call d ops r (putA S' o.dst x)
      | none => none
    | some false => opsA T call d ops r (putA S o.dst none)
    | none => none

/-! ### regions whose operations may go in any order that their edges allow -/
structure Foot where
  rd : List Id
  wr : List Id
  al : Bool
  deriving Inhabited
def footV (x : Option AV) : List Id := match x with
  | some y => ids1 y
  | none => []
def footO (T : Tab) (f : Nat) (args : List AV) (S : St) : Foot := match (if T.opn f then none else toDs args) with
  | some _ => ⟨[], [], true⟩
  | none => ⟨[], reach S.H 8 (addIds [] (idsL args)), true⟩
def footC (T : Tab) (f : Nat) (args : List AV) (S : St) : Foot := if (lentA T S f args).isSome = true then ⟨idsL args, [], true⟩ else footO T f args S
def footA (T : Tab) (o : Oper) (S : St) : Foot := match o.op with
  | .load _ a | .nilCheck a | .fieldAddr _ a _ => ⟨footV (ev T S 0 a), [], false⟩
  | .indexAddr _ x _ | .slice _ x _ _ _ | .lookup _ x _ _ => ⟨footV (ev T S 0 x), [], false⟩
  | .binOp op t x y _ => if isNilC op y = true then ⟨footV (ev T S t x), [], false⟩ else ⟨[], [], false⟩
  | .store _ a _ | .mapUpdate _ a _ _ | .insert _ a _ _ => ⟨[], footV (ev T S 0 a), false⟩
  | .alloc _ | .box _ _ | .makeSlice _ _ _ | .makeMap _ _ => ⟨[], [], true⟩
  | .convert s t x => match T.und s, T.und t with
    | some .string, some (.slice _) => ⟨[], [], true⟩
    | some (.slice _), some .string => ⟨footV (ev T S 0 x), [], false⟩
    | _, _ => ⟨[], [], false⟩
  | .call c => match c.callee, evs T S c.args.toList c.argTypes.toList with
    | .builtin .len, xs => ⟨(xs.getD []).flatMap ids1, [], false⟩
    | .builtin .min, _ | .builtin .max, _ => ⟨[], [], false⟩
    | .builtin _, some xs => ⟨[], xs.flatMap ids1, true⟩
    | .value f, some xs => match ev T S 0 f with
      | some (.d (.fn f caps)) => footC T f (xs ++ caps.map .d) S
      | some (.fn f caps) => footC T f (xs ++ caps) S
      | _ => ⟨[], [], true⟩
    | _, _ => ⟨[], [], true⟩
  | _ => ⟨[], [], false⟩
def clsA : Op → Nat
  | .load _ _ | .nilCheck _ | .fieldAddr _ _ _ | .indexAddr _ _ _ | .slice _ _ _ _ _ | .lookup _ _ _ _ => 1
  | .alloc _ | .box _ _ | .makeSlice _ _ _ | .makeMap _ _ => 2
  | .store _ _ _ | .convert _ _ _ | .mapUpdate _ _ _ _ | .insert _ _ _ _ => 3
  | .binOp op _ _ y _ => if isNilC op y = true then 1 else 0
  | .call c => match c.callee with
    | .builtin .len => 1
    | .builtin .min | .builtin .max => 0
    | _ => 3
  | _ => 0
def clash (p : List Nat) (i : Nat) (fi : Foot) (j : Nat) (fj : Foot) : Bool :=
  fi.wr.any (fun id => fj.rd.contains id || fj.wr.contains id) || fj.wr.any (fun id => fi.rd.contains id) ||
  (fi.al && (fj.rd ++ fj.wr).any (fun id => sfx ((i + 2) :: p) id.g)) || (fj.al && (fi.rd ++ fi.wr).any (fun id => sfx ((j + 2) :: p) id.g))
def clearD (p : List Nat) (fs : List Foot) : Nat → List (List Nat) → List Foot → Bool
  | j, l :: L, f :: r => l.all (fun i => match fs[i]? with
    | some fi => !clash p i fi j f
    | none => true) && clearD p fs (j + 1) L r
  | _, _, _ => true
def stepD (T : Tab) (call : Call) (d : Nat) (p : List Nat) (ops : List Oper) (i : Nat) (o : Oper) (S : St) : Option (St × Foot) :=
  match wantedA ops o S with
  | some true => match opA T call d o { S with g := (i + 2) :: p } with
    | some (x, S') => some (putA S' o.dst x, footA T o S)
    | none => none
  | some false => some (putA S o.dst none, ⟨[], [], false⟩)
  | none => none
def opsD (T : Tab) (call : Call) (d : Nat) (p : List Nat) (ops : List Oper) : Nat → List Oper → St → Option (St × List Foot)
  | _, [], S => some (S, [])
  | i, o :: r, S => match stepD T call d p ops i o S with
    | some (S', f) => match opsD T call d p ops (i + 1) r S' with
      | some (S'', fs) => some (S'', f :: fs)
      | none => none
    | none => none
def drawA (T : Tab) (call : Call) (d : Nat) (L : List (List Nat)) (ops : List Oper) (S : St) : Option St :=
  match opsD T call d S.g ops 0 ops S with
  | some (S', fs) => if clearD S.g fs 0 L fs then some { S' with g := 1 :: S.g } else none
  | none => none

def nameOf : Code → Option Nat
  | .region i _ _ => some i
  | .seq a b => match nameOf a with
    | some i => some i
    | none => nameOf b
  | .block _ b | .loop b | .scope b => nameOf b
  | .cond _ a b => match nameOf a with
    | some i => some i
    | none => nameOf b
  | _ => none
def keepA (d : Nat) (k : Option (List Nat × List Nat)) (S : St) : St := match k with
  | some (ts, hs) => { S with T := S.T.filter fun e => ts.contains e.1, H := S.H.filter fun e => e.1.d < d || hs.contains e.1.t }
  | none => S
def fgT (m : Nat) : Tm → Tm
  | [] => []
  | (i, x) :: r => if (m >>> i) % 2 = 1 then (i, x) :: fgT m r else fgT m r
def fgA : Option Nat → St → St
  | some m, S => { S with T := fgT m S.T }
  | none, S => S
def loopA (step : St → Option (Out × St)) (keep : St → St) : Nat → St → Option (Out × St)
  | 0, _ => none
  | k + 1, S => match step (keep S) with
    | some (.nrm, S') => loopA step keep k S'
    | r => r

def codeA (T : Tab) (call : Call) (rounds f d : Nat) : Code → St → Option (Out × St)
  | .skip, S => some (.nrm, S)
  | .region id ops false, S => match opsA T call d ops.toList ops.toList S with
    | some S' => some (.nrm, fgA (T.lv f id) S')
    | none => none
  | .region id ops true, S => match T.drw f id with
    | some L => match drawA T call d L ops.toList S with
      | some S' => some (.nrm, fgA (T.lv f id) S')
      | none => none
    | none => none
  | .seq a b, S => match codeA T call rounds f d a S with
    | some (.nrm, S') => codeA T call rounds f d b S'
    | r => r
  | .cond c a b, S => match ev T S 0 c with
    | some (.d (.bool t)) => if t then codeA T call rounds f d a S else codeA T call rounds f d b S
    | _ => none
  | .block id b, S => match codeA T call rounds f d b S with
    | some (.exit i, S') => if i = id then some (.nrm, S') else some (.exit i, S')
    | r => r
  | .loop b, S => loopA (fun S => codeA T call rounds f d b S) (keepA d ((nameOf b).bind (T.keep f))) rounds S
  | .exit id, S => some (.exit id, S)
  | .ret, S => some (.ret, S)
  | _, _ => none

def resA (T : Tab) (S : St) : List ResultVar → Option (List AV)
  | [] => some []
  | .tmp t :: r => match S.T.get t, resA T S r with
    | some x, some s => some (x :: s)
    | _, _ => none
  | .cell a t :: r => match S.T.get a with
    | some p => match behind S p with
      | some cs => match mkVar T t cs, resA T S r with
        | some x, some s => some (x :: s)
        | _, _ => none
      | none => none
    | none => none
def argsT : Nat → List AV → Tm
  | _, [] => []
  | i, x :: r => (i, x) :: argsT (i + 1) r

def isAlt (T : Tab) (f : Nat) (args : List AV) (H : Heap) : Bool := T.alt f && (match args, H with
  | .d (.sl _ []) :: _, [] => true
  | _, _ => false)
def stepA (T : Tab) (call : Call) (rounds : Nat) : Call := fun d f args H g => match T.fn f with
  | some fn => match fn.body with
    | some c => if args.length = fn.params.size + fn.nfree then match codeA T call rounds f d c { T := argsT 0 args, H := H, g := g } with
      | some (.exit _, _) => none
      | some (_, S) => match resA T S fn.results.toList with
        | some [x] => some (x, S.H)
        | some xs => if xs.all noTup then some (.tup xs, S.H) else none
        | none => none
      | none => none else none
    | none => none
  | none => none

end Go.Proofs.Ytfcfifohflgboaa.Am
