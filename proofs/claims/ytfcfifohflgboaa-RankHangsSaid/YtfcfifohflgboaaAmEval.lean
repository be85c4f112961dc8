/- The evaluator's equations, as rules to rewrite by. -/
import Derived.Test.YtfcfifohflgboaaAmTab
set_option linter.unusedVariables false
set_option linter.unusedSimpArgs false
namespace Go.Proofs.Ytfcfifohflgboaa.Am
open Go Go.RowKit

def v1 (S : St) : Option AV → Option (Option AV × St)
  | some y => some (some y, S)
  | none => none
def v2 : Option (AV × St) → Option (Option AV × St)
  | some (y, S) => some (some y, S)
  | none => none
section
variable {T : Tab} {call : Call} {d : Nat} {ops : List Oper} {dst : Option Nat} {ty : Nat} {pos : String} {af : Array Edge} {gd : Option (Nat × Bool)} {r : List Oper} {S S' : St} {x y z : Operand} {Q : Tm} {H : Heap} {g : List Nat}
theorem v1_some {a : AV} : v1 S (some a) = some (some a, S) := rfl
theorem v2_some {a : AV} : v2 (some (a, S)) = some (some a, S) := rfl
theorem put_some {t : Nat} {a : AV} : putA ⟨Q, H, g⟩ (some t) (some a) = ⟨Q.set t a, H, g⟩ := rfl
theorem put_erase {t : Nat} : putA ⟨Q, H, g⟩ (some t) none = ⟨Q.set t (.tup []), H, g⟩ := rfl
theorem put_none {a : Option AV} : putA S none a = S := by cases a <;> rfl
theorem get_nil {j : Nat} : Tm.get [] j = none := rfl
theorem get_cons {i j : Nat} {a : AV} : Tm.get ((i, a) :: Q) j = if i = j then some a else Tm.get Q j := rfl
theorem set_nil {j : Nat} {a : AV} : Tm.set [] j a = [(j, a)] := rfl
theorem set_cons {i j : Nat} {a b : AV} : Tm.set ((i, a) :: Q) j b = if i = j then (i, b) :: Q else if j < i then (j, b) :: (i, a) :: Q else (i, a) :: Tm.set Q j b := rfl
theorem erase_nil {j : Nat} : Tm.erase [] j = [] := rfl
theorem erase_cons {i j : Nat} {a : AV} : Tm.erase ((i, a) :: Q) j = if i = j then Tm.erase Q j else (i, a) :: Tm.erase Q j := rfl
theorem ev_tmp {i t : Nat} : ev T ⟨Q, H, g⟩ t (.tmp i) = Q.get i := rfl
theorem ev_const {v : Value} {t : Nat} : ev T S t (.const v) = constAV T t v := rfl
theorem ev_func {f t : Nat} : ev T S t (.func f) = some (.d (.fn f [])) := rfl
theorem c_int {k : IntKind} {n : Int} {t : Nat} : constAV T t (.int k n) = some (.d (.int k n)) := rfl
theorem c_bool {b : Bool} {t : Nat} : constAV T t (.bool b) = some (.d (.bool b)) := rfl
theorem c_str {s : ByteArray} {t : Nat} : constAV T t (.string s) = some (.d (.str s.data.toList)) := rfl
theorem o_move : opA T call d ⟨dst, .move x, ty, pos, af, gd⟩ S = v1 S (ev T S ty x) := rfl
theorem o_assign : opA T call d ⟨dst, .assign x, ty, pos, af, gd⟩ S = v1 S (ev T S ty x) := rfl
theorem c_map {t : Nat} : constAV T t (.map none) = some (.d .any) := rfl
theorem c_ptr {t : Nat} : constAV T t (.pointer none) = some (.d .any) := rfl
def pickA (c a b : Option AV) : Option AV := match c with
  | some (.d (.bool t)) => if t then a else b
  | _ => none
theorem o_pick : opA T call d ⟨dst, .pick x y z, ty, pos, af, gd⟩ S = v1 S (pickA (ev T S 0 x) (ev T S ty y) (ev T S ty z)) := by
  cases h : ev T S 0 x with
  | none => simp only [opA, h]; rfl
  | some a => cases a with
    | d q => cases q with
      | bool t => cases t <;> simp only [opA, h] <;> rfl
      | _ => simp only [opA, h]; rfl
    | _ => simp only [opA, h]; rfl
theorem pick_b {t a b : Bool} : pickA (some (.d (.bool t))) (some (.d (.bool a))) (some (.d (.bool b))) = some (.d (.bool (if t then a else b))) := by cases t <;> rfl
theorem pick_t {a b : Option AV} : pickA (some (.d (.bool true))) a b = a := rfl
theorem pick_f {a b : Option AV} : pickA (some (.d (.bool false))) a b = b := rfl
def bin1 (T : Tab) (op : BinOp) (t : Nat) : Option AV → Option AV → Option AV
  | some a, some b => (binOpA T op t a b).map .d
  | _, _ => none
def nb1 (S : St) : Option TypeDesc → Option AV → Option AV
  | some (.slice _), some a => (nilB S a).map fun b => .d (.bool b)
  | _, _ => none
def bq (T : Tab) (S : St) (op : BinOp) (t : Nat) (x y : Operand) : Bool → Option AV
  | true => nb1 S (T.und t) (ev T S t x)
  | false => bin1 T op t (ev T S t x) (ev T S t y)
theorem o_bin {op : BinOp} {t t' : Nat} : opA T call d ⟨dst, .binOp op t x y t', ty, pos, af, gd⟩ S = v1 S (bq T S op t x y (isNilC op y)) := by
  cases hn : isNilC op y with
  | true =>
    cases hu : T.und t with
    | none => simp only [opA, hn, if_true, hu, bq, nb1]; rfl
    | some u =>
      cases h1 : ev T S t x with
      | none => cases u <;> (simp only [opA, hn, if_true, hu, h1, bq, nb1]; rfl)
      | some a =>
        cases u with
        | slice e =>
          simp only [opA, hn, if_true, hu, h1, bq, nb1]
          cases nilB S a <;> rfl
        | _ => simp only [opA, hn, if_true, hu, h1, bq, nb1]; rfl
  | false =>
    cases h1 : ev T S t x <;> cases h2 : ev T S t y <;> simp only [opA, hn, Bool.false_eq_true, if_false, h1, h2, bq, bin1] <;> rfl
theorem bq_f {op : BinOp} {t : Nat} : bq T S op t x y false = bin1 T op t (ev T S t x) (ev T S t y) := rfl
theorem bq_t {op : BinOp} {t : Nat} : bq T S op t x y true = nb1 S (T.und t) (ev T S t x) := rfl
theorem nb_1 {e : Nat} {a : AV} : nb1 S (some (.slice e)) (some a) = (nilB S a).map fun b => .d (.bool b) := rfl
theorem inc_t {op : BinOp} {i : Nat} : isNilC op (.tmp i) = false := rfl
theorem inc_f {op : BinOp} {i : Nat} : isNilC op (.func i) = false := rfl
theorem inc_i {op : BinOp} {k : IntKind} {i : Int} : isNilC op (.const (.int k i)) = false := rfl
theorem inc_b {op : BinOp} {b : Bool} : isNilC op (.const (.bool b)) = false := rfl
theorem inc_s {op : BinOp} {s : ByteArray} : isNilC op (.const (.string s)) = false := rfl
theorem inc_n : isNilC .eql (.const (.slice none 0 0)) = true := rfl
section
variable {k : IntKind} {a b : Int} {t : Nat}
theorem b_add : bin1 T .add t (some (.d (.int k a))) (some (.d (.int k b))) = some (.d (.int k (k.wrap (a + b)))) := by simp [bin1, binOpA, binInt]
theorem b_sub : bin1 T .sub t (some (.d (.int k a))) (some (.d (.int k b))) = some (.d (.int k (k.wrap (a - b)))) := by simp [bin1, binOpA, binInt]
theorem b_mul : bin1 T .mul t (some (.d (.int k a))) (some (.d (.int k b))) = some (.d (.int k (k.wrap (a * b)))) := by simp [bin1, binOpA, binInt]
theorem b_quo : bin1 T .quo t (some (.d (.int k a))) (some (.d (.int k b))) = if b = 0 then none else some (.d (.int k (k.wrap (a.tdiv b)))) := by simp [bin1, binOpA, binInt]; split <;> simp
theorem b_rem : bin1 T .rem t (some (.d (.int k a))) (some (.d (.int k b))) = if b = 0 then none else some (.d (.int k (a.tmod b))) := by simp [bin1, binOpA, binInt]; split <;> simp
theorem b_eql : bin1 T .eql t (some (.d (.int k a))) (some (.d (.int k b))) = some (.d (.bool (a == b))) := by simp [bin1, binOpA, binInt]
theorem b_neq : bin1 T .neq t (some (.d (.int k a))) (some (.d (.int k b))) = some (.d (.bool (a != b))) := by simp [bin1, binOpA, binInt]
theorem b_lss : bin1 T .lss t (some (.d (.int k a))) (some (.d (.int k b))) = some (.d (.bool (decide (a < b)))) := by simp [bin1, binOpA, binInt]
theorem b_leq : bin1 T .leq t (some (.d (.int k a))) (some (.d (.int k b))) = some (.d (.bool (decide (a ≤ b)))) := by simp [bin1, binOpA, binInt]
theorem b_gtr : bin1 T .gtr t (some (.d (.int k a))) (some (.d (.int k b))) = some (.d (.bool (decide (a > b)))) := by simp [bin1, binOpA, binInt]
theorem b_geq : bin1 T .geq t (some (.d (.int k a))) (some (.d (.int k b))) = some (.d (.bool (decide (a ≥ b)))) := by simp [bin1, binOpA, binInt]
end
def neg1 : Option AV → Option AV
  | some (.d (.int k n)) => some (.d (.int k (k.wrap (0 - n))))
  | _ => none
theorem o_neg {t : Nat} : opA T call d ⟨dst, .unOp .neg t x, ty, pos, af, gd⟩ S = v1 S (neg1 (ev T S 0 x)) := by
  cases h : ev T S 0 x with
  | none => simp only [opA, h]; rfl
  | some a => cases a with
    | d q => cases q <;> simp only [opA, h] <;> rfl
    | _ => simp only [opA, h]; rfl
theorem n_int {k : IntKind} {n : Int} : neg1 (some (.d (.int k n))) = some (.d (.int k (k.wrap (0 - n)))) := rfl
def not1 : Option AV → Option AV
  | some (.d (.bool b)) => some (.d (.bool (!b)))
  | _ => none
theorem o_not {t : Nat} : opA T call d ⟨dst, .unOp .not t x, ty, pos, af, gd⟩ S = v1 S (not1 (ev T S 0 x)) := by
  cases h : ev T S 0 x with
  | none => simp only [opA, h]; rfl
  | some a => cases a with
    | d q => cases q <;> simp only [opA, h] <;> rfl
    | _ => simp only [opA, h]; rfl
theorem n_bool {b : Bool} : not1 (some (.d (.bool b))) = some (.d (.bool (!b))) := rfl
def ext1 (i : Nat) : Option AV → Option AV
  | some (.tup xs) => xs[i]?
  | _ => none
theorem o_extract {i : Nat} : opA T call d ⟨dst, .extract x i, ty, pos, af, gd⟩ S = v1 S (ext1 i (ev T S 0 x)) := by
  cases h : ev T S 0 x with
  | none => simp only [opA, h]; rfl
  | some a => cases a <;> simp only [opA, h] <;> rfl
theorem e_tup {i : Nat} {xs : List AV} : ext1 i (some (.tup xs)) = xs[i]? := rfl
def app1 (T : Tab) (call : Call) (d dst : Nat) (xs : Option (List AV)) (f : Option AV) (S : St) : Option (AV × St) := match xs, f with
  | some xs, some (.d (.fn f caps)) => callA T call d dst f (xs ++ caps.map .d) S
  | some xs, some (.fn f caps) => callA T call d dst f (xs ++ caps) S
  | _, _ => none
theorem o_call {args : Array Operand} {ts : Array Nat} : opA T call d ⟨dst, .call { callee := .value x, args := args, argTypes := ts }, ty, pos, af, gd⟩ S = v2 (app1 T call d (dst.getD 0) (evs T S args.toList ts.toList) (ev T S 0 x) S) := by
  cases h : evs T S args.toList ts.toList with
  | none => simp only [opA, h]; rfl
  | some a =>
    cases h2 : ev T S 0 x with
    | none => simp only [opA, h, h2]; rfl
    | some q => cases q with
      | d y => cases y <;> simp only [opA, h, h2] <;> rfl
      | _ => simp only [opA, h, h2]; rfl
theorem app_d {xs : List AV} {f dst' : Nat} {caps : List DV} : app1 T call d dst' (some xs) (some (.d (.fn f caps))) S = callA T call d dst' f (xs ++ caps.map .d) S := rfl
theorem app_f {xs caps : List AV} {f dst' : Nat} : app1 T call d dst' (some xs) (some (.fn f caps)) S = callA T call d dst' f (xs ++ caps) S := rfl
theorem evs_nil {ts : List Nat} : evs T S [] ts = some [] := rfl
def cons1 : Option AV → Option (List AV) → Option (List AV)
  | some v, some s => some (v :: s)
  | _, _ => none
theorem evs_cons {ys : List Operand} {ts : List Nat} : evs T S (x :: ys) ts = cons1 (ev T S (ts.headD 0) x) (evs T S ys ts.tail) := rfl
theorem cons_some {v : AV} {s : List AV} : cons1 (some v) (some s) = some (v :: s) := rfl

theorem frz_ntup {x : AV} {H1 : Heap} (h : noTup x = true) : noTup (frz H1 x) = true := by
  unfold frz
  split
  · cases h
  · exact frzB_ntup h
theorem adoptO_plain {T : Tab} {f d dst : Nat} {H1 : Heap} {S : St} {r : AV} {y : DV} (hr : T.res f = none) (ht : noTup r = true) (hx : toD r = some y) : adoptO T f d dst H1 S r = some (.d y, S) := by
  unfold adoptO
  rw [hr]
  cases r <;> simp_all [noTup]
theorem lent_none {T : Tab} {S : St} {f : Nat} {args : List AV} {ds : List DV} (h : toDs args = some ds) : lentA T S f args = none := by
  simp only [lentA, h]
  split <;> rfl
theorem lent_off {T : Tab} {S : St} {f : Nat} {args : List AV} (h : T.lend f = false) : lentA T S f args = none := by
  simp only [lentA, h, Bool.false_eq_true, if_false]
theorem callA_deep {T : Tab} {call : Call} {args : List AV} {f dst' : Nat} {ds : List DV} (ha : toDs args = some ds) (ho : T.opn f = false) (hp : T.prim f = none) : callA T call d dst' f args S = match call 0 f (ds.map .d) [] [] with
    | some (r, H1) => adopt T f d dst' H1 S r
    | none => none := by
  unfold callA
  rw [lent_none ha]
  simp only
  unfold callO
  rw [ho]
  simp only [Bool.false_eq_true, if_false, ha, hp]
  rfl
theorem call_closed {args dargs : List AV} {f dst' : Nat} {ds : List DV} {x : AV} {y : DV} {H1 : Heap} (h : callR tab 0 f dargs [] [] = some (x, H1)) (ha : toDs args = some ds) (hd : ds.map AV.d = dargs) (ho : tab.opn f = false) (hr : tab.res f = none) (hr2 : tab.thaw f dst' = none) (ht : noTup x = true) (hx : toD (frz H1 x) = some y) (hpr : tab.prim f = none := by exact tab_nprim (by kernel_rfl)) :
    callA tab (callR tab) d dst' f args S = some (.d y, S) := by
  subst hd
  rw [callA_deep ha ho hpr, h]
  simp only [adopt, hr, hr2]
  exact adoptO_plain hr (frz_ntup ht) hx
theorem call_closed_tup {args dargs : List AV} {f dst' : Nat} {ds : List DV} {xs zs : List AV} {ys : List DV} {H1 : Heap} (h : callR tab 0 f dargs [] [] = some (.tup xs, H1)) (ha : toDs args = some ds) (hd : ds.map AV.d = dargs) (ho : tab.opn f = false) (hr : tab.res f = none) (hr2 : tab.thaw f dst' = none) (hx : toDs (xs.map (frzB H1)) = some ys)
    (hz : ys.map AV.d = zs) (hpr : tab.prim f = none := by exact tab_nprim (by kernel_rfl)) : callA tab (callR tab) d dst' f args S = some (.tup zs, S) := by
  subst hd
  subst hz
  rw [callA_deep ha ho hpr, h]
  simp only [adopt, hr, hr2, frz, adoptO, hx]
end

/-! ### code, with what comes after it kept as a list -/
inductive It where
  | seq (c : Code)
  | blk (id : Nat)
  | fg (id : Nat)
  | lp (k : Nat) (b : Code)
def kC (T : Tab) (call : Call) (n f d : Nat) (c : Code) : Option (Out × St) → Option (Out × St)
  | some (.nrm, S) => codeA T call n f d c S
  | q => q
def kB (id : Nat) : Option (Out × St) → Option (Out × St)
  | some (.exit i, S) => if i = id then some (.nrm, S) else some (.exit i, S)
  | q => q
def kL (T : Tab) (call : Call) (n f d k : Nat) (b : Code) : Option (Out × St) → Option (Out × St)
  | some (.nrm, S) => loopA (fun S => codeA T call n f d b S) (keepA d ((nameOf b).bind (T.keep f))) k S
  | q => q
def kG (T : Tab) (f id : Nat) : Option (Out × St) → Option (Out × St)
  | some (.nrm, S) => some (.nrm, fgA (T.lv f id) S)
  | q => q
def kR : Option St → Option (Out × St)
  | some S => some (.nrm, S)
  | none => none
def cr (T : Tab) (call : Call) (n f d : Nat) : List It → Option (Out × St) → Option (Out × St)
  | [], r => r
  | .seq c :: K, r => cr T call n f d K (kC T call n f d c r)
  | .blk id :: K, r => cr T call n f d K (kB id r)
  | .fg id :: K, r => cr T call n f d K (kG T f id r)
  | .lp k b :: K, r => cr T call n f d K (kL T call n f d k b r)
def cx (T : Tab) (call : Call) (n f d : Nat) (K : List It) (c : Code) (S : St) : Option (Out × St) := cr T call n f d K (codeA T call n f d c S)
def co (T : Tab) (call : Call) (n f d : Nat) (K : List It) (all r : List Oper) (S : St) : Option (Out × St) := cr T call n f d K (kR (opsA T call d all r S))
def cp (T : Tab) (call : Call) (n f d : Nat) (K : List It) (all r : List Oper) (dst : Option Nat) : Option (Option AV × St) → Option (Out × St)
  | some (x, S) => co T call n f d K all r (putA S dst x)
  | none => cr T call n f d K none
def gdA (all : List Oper) (j : Nat) (S : St) : Option AV := match (all[j]?).bind (·.dst) with
  | some t => S.T.get t
  | none => none
def cg (T : Tab) (call : Call) (n f d : Nat) (K : List It) (all : List Oper) (o : Oper) (r : List Oper) (w : Bool) (S : St) : Option AV → Option (Out × St)
  | some (.d (.bool b)) => if b = w then co T call n f d K all (o :: r) S else co T call n f d K all r (putA S o.dst none)
  | some (.tup []) => co T call n f d K all r (putA S o.dst none)
  | _ => cr T call n f d K none
def ci (T : Tab) (call : Call) (n f d : Nat) (K : List It) (a b : Code) (S : St) : Option AV → Option (Out × St)
  | some (.d (.bool t)) => if t = true then cx T call n f d K a S else cx T call n f d K b S
  | _ => cr T call n f d K none
def cq (T : Tab) (call : Call) (n f d : Nat) (K : List It) (p : List Nat) (L : List (List Nat)) (all : List Oper) (i : Nat) (r : List Oper) (fs : List Foot) (S : St) : Option (Out × St) :=
  cr T call n f d K (kR (match opsD T call d p all i r S with
    | some (S', fs') => if clearD p (fs ++ fs') 0 L (fs ++ fs') = true then some { S' with g := 1 :: p } else none
    | none => none))
def cqp (T : Tab) (call : Call) (n f d : Nat) (K : List It) (p : List Nat) (L : List (List Nat)) (all : List Oper) (i : Nat) (r : List Oper) (fs : List Foot) (dst : Option Nat) : Option (Option AV × St) → Option (Out × St)
  | some (x, S) => cq T call n f d K p L all i r fs (putA S dst x)
  | none => cr T call n f d K none
def cqg (T : Tab) (call : Call) (n f d : Nat) (K : List It) (p : List Nat) (L : List (List Nat)) (all : List Oper) (i : Nat) (o : Oper) (r : List Oper) (fs : List Foot) (w : Bool) (S : St) : Option AV → Option (Out × St)
  | some (.d (.bool b)) => if b = w then cq T call n f d K p L all i (o :: r) fs S else cq T call n f d K p L all (i + 1) r (fs ++ [⟨[], [], false⟩]) (putA S o.dst none)
  | some (.tup []) => cq T call n f d K p L all (i + 1) r (fs ++ [⟨[], [], false⟩]) (putA S o.dst none)
  | _ => cr T call n f d K none
section
variable {T : Tab} {call : Call} {n f d : Nat} {K : List It} {S : St} {a b : Code} {c : Operand} {all r : List Oper} {dst : Option Nat} {op : Op} {ty : Nat} {pos : String} {af : Array Edge} {Q : Tm} {H : Heap} {g p : List Nat} {L : List (List Nat)} {fs : List Foot} {i : Nat}
theorem cr_none : cr T call n f d K none = none := by
  induction K with
  | nil => rfl
  | cons k K ih => cases k <;> exact ih
theorem cr_nil {r : Option (Out × St)} : cr T call n f d [] r = r := rfl
theorem cr_seq : cr T call n f d (.seq a :: K) (some (.nrm, S)) = cx T call n f d K a S := rfl
theorem cr_seq_ret : cr T call n f d (.seq a :: K) (some (.ret, S)) = cr T call n f d K (some (.ret, S)) := rfl
theorem cr_seq_exit : cr T call n f d (.seq a :: K) (some (.exit i, S)) = cr T call n f d K (some (.exit i, S)) := rfl
theorem cr_blk {id : Nat} : cr T call n f d (.blk id :: K) (some (.nrm, S)) = cr T call n f d K (some (.nrm, S)) := rfl
theorem cr_blk_ret {id : Nat} : cr T call n f d (.blk id :: K) (some (.ret, S)) = cr T call n f d K (some (.ret, S)) := rfl
theorem cr_blk_exit {id : Nat} : cr T call n f d (.blk id :: K) (some (.exit i, S)) = if i = id then cr T call n f d K (some (.nrm, S)) else cr T call n f d K (some (.exit i, S)) := by
  by_cases h : i = id <;> simp [cr, kB, h]
theorem cx_seq : cx T call n f d K (.seq a b) S = cx T call n f d (.seq b :: K) a S := by
  simp only [cx, cr, codeA]
  congr 1
theorem cx_block {id : Nat} : cx T call n f d K (.block id a) S = cx T call n f d (.blk id :: K) a S := by
  simp only [cx, cr, codeA]
  congr 1
theorem cr_fg {id : Nat} : cr T call n f d (.fg id :: K) (some (.nrm, ⟨Q, H, g⟩)) = cr T call n f d K (some (.nrm, fgA (T.lv f id) ⟨Q, H, g⟩)) := rfl
theorem fg_some {m : Nat} : fgA (some m) ⟨Q, H, g⟩ = ⟨fgT m Q, H, g⟩ := rfl
theorem fg_nil {m : Nat} : fgT m [] = [] := rfl
theorem fg_cons {m j : Nat} {x : AV} : fgT m ((j, x) :: Q) = if (m >>> j) % 2 = 1 then (j, x) :: fgT m Q else fgT m Q := rfl
theorem cx_region {id : Nat} {ops : Array Oper} : cx T call n f d K (.region id ops false) S = co T call n f d (.fg id :: K) ops.toList ops.toList S := by
  simp only [cx, co, codeA, cr]
  congr 1
  cases opsA T call d ops.toList ops.toList S <;> rfl
theorem cx_draw {id : Nat} {ops : Array Oper} (h : T.drw f id = some L) : cx T call n f d K (.region id ops true) ⟨Q, H, p⟩ = cq T call n f d (.fg id :: K) p L ops.toList 0 ops.toList [] ⟨Q, H, p⟩ := by
  simp only [cx, cq, codeA, h, drawA, List.nil_append, cr]
  congr 1
  cases opsD T call d p ops.toList 0 ops.toList ⟨Q, H, p⟩ with
  | none => rfl
  | some q =>
    obtain ⟨S', fs⟩ := q
    by_cases hc : clearD p fs 0 L fs = true
    · simp only [if_pos hc]; rfl
    · simp only [if_neg hc]; rfl
theorem cx_cond : cx T call n f d K (.cond c a b) S = ci T call n f d K a b S (ev T S 0 c) := by
  simp only [cx, codeA]
  cases ev T S 0 c with
  | none => rfl
  | some x => cases x with
    | d y => cases y with
      | bool t => cases t <;> rfl
      | _ => rfl
    | _ => rfl
def clp (T : Tab) (call : Call) (n f d : Nat) (K : List It) (b : Code) (S : St) (k : Nat) : Option (Out × St) := cr T call n f d K (loopA (fun S => codeA T call n f d b S) (keepA d ((nameOf b).bind (T.keep f))) k S)
theorem cx_loop : cx T call n f d K (.loop a) S = clp T call n f d K a S n := by simp only [cx, clp, codeA]
theorem clp_s {k : Nat} : clp T call n f d K a S (k + 1) = cx T call n f d (.lp k a :: K) a (keepA d ((nameOf a).bind (T.keep f)) S) := by
  simp only [clp, cx, cr, loopA]
  congr 1
theorem cr_lp {k : Nat} : cr T call n f d (.lp k a :: K) (some (.nrm, S)) = clp T call n f d K a S k := rfl
theorem cr_lp_ret {k : Nat} : cr T call n f d (.lp k a :: K) (some (.ret, S)) = cr T call n f d K (some (.ret, S)) := rfl
theorem cr_lp_exit {k : Nat} : cr T call n f d (.lp k a :: K) (some (.exit i, S)) = cr T call n f d K (some (.exit i, S)) := rfl
theorem cx_skip : cx T call n f d K .skip S = cr T call n f d K (some (.nrm, S)) := rfl
theorem cx_ret : cx T call n f d K .ret S = cr T call n f d K (some (.ret, S)) := rfl
theorem cx_exit {id : Nat} : cx T call n f d K (.exit id) S = cr T call n f d K (some (.exit id, S)) := rfl
theorem ci_true : ci T call n f d K a b S (some (.d (.bool true))) = cx T call n f d K a S := rfl
theorem ci_false : ci T call n f d K a b S (some (.d (.bool false))) = cx T call n f d K b S := rfl
theorem co_nil : co T call n f d K all [] S = cr T call n f d K (some (.nrm, S)) := rfl
theorem co_n : co T call n f d K all (⟨dst, op, ty, pos, af, none⟩ :: r) S = cp T call n f d K all r dst (opA T call d ⟨dst, op, ty, pos, af, none⟩ S) := by
  simp only [co, opsA, wantedA]
  cases opA T call d ⟨dst, op, ty, pos, af, none⟩ S with
  | none => rfl
  | some q => rfl
theorem cp_some {x : Option AV} : cp T call n f d K all r dst (some (x, S)) = co T call n f d K all r (putA S dst x) := rfl
theorem co_g {j : Nat} {w : Bool} : co T call n f d K all (⟨dst, op, ty, pos, af, some (j, w)⟩ :: r) S = cg T call n f d K all ⟨dst, op, ty, pos, af, none⟩ r w S (gdA all j S) := by
  simp only [co, opsA, wantedA, gdA]
  cases (all[j]?).bind (·.dst) with
  | none => rfl
  | some t =>
    simp only
    cases S.T.get t with
    | none => rfl
    | some x => cases x with
      | d y => cases y with
        | bool v => cases v <;> cases w <;> rfl
        | _ => rfl
      | tup xs => cases xs <;> rfl
      | _ => rfl
theorem gd_eq {j : Nat} : gdA all j ⟨Q, H, g⟩ = match (all[j]?).bind (·.dst) with
  | some t => Q.get t
  | none => none := rfl
theorem cg_u {o : Oper} {w : Bool} : cg T call n f d K all o r w S (some (.tup [])) = co T call n f d K all r (putA S o.dst none) := rfl
theorem cqg_u {o : Oper} {w : Bool} : cqg T call n f d K p L all i o r fs w S (some (.tup [])) = cq T call n f d K p L all (i + 1) r (fs ++ [⟨[], [], false⟩]) (putA S o.dst none) := rfl
theorem cg_tt {o : Oper} : cg T call n f d K all o r true S (some (.d (.bool true))) = co T call n f d K all (o :: r) S := rfl
theorem cg_ff {o : Oper} : cg T call n f d K all o r false S (some (.d (.bool false))) = co T call n f d K all (o :: r) S := rfl
theorem cg_tf {o : Oper} : cg T call n f d K all o r true S (some (.d (.bool false))) = co T call n f d K all r (putA S o.dst none) := rfl
theorem cg_ft {o : Oper} : cg T call n f d K all o r false S (some (.d (.bool true))) = co T call n f d K all r (putA S o.dst none) := rfl
theorem cq_nil : cq T call n f d K p L all i [] fs ⟨Q, H, g⟩ = if clearD p fs 0 L fs = true then cr T call n f d K (some (.nrm, ⟨Q, H, 1 :: p⟩)) else none := by
  simp only [cq, opsD, List.append_nil]
  split
  · rfl
  · exact cr_none
theorem cq_n : cq T call n f d K p L all i (⟨dst, op, ty, pos, af, none⟩ :: r) fs ⟨Q, H, g⟩ =
    cqp T call n f d K p L all (i + 1) r (fs ++ [footA T ⟨dst, op, ty, pos, af, none⟩ ⟨Q, H, g⟩]) dst (opA T call d ⟨dst, op, ty, pos, af, none⟩ ⟨Q, H, (i + 2) :: p⟩) := by
  simp only [cq, opsD, stepD, wantedA]
  cases opA T call d ⟨dst, op, ty, pos, af, none⟩ ⟨Q, H, (i + 2) :: p⟩ with
  | none => rfl
  | some q =>
    obtain ⟨x, S'⟩ := q
    simp only [cqp, cq]
    cases opsD T call d p all (i + 1) r (putA S' dst x) with
    | none => rfl
    | some q => simp only [List.append_assoc, List.singleton_append]
theorem cqp_some {x : Option AV} : cqp T call n f d K p L all i r fs dst (some (x, S)) = cq T call n f d K p L all i r fs (putA S dst x) := rfl
theorem cq_g {j : Nat} {w : Bool} : cq T call n f d K p L all i (⟨dst, op, ty, pos, af, some (j, w)⟩ :: r) fs S = cqg T call n f d K p L all i ⟨dst, op, ty, pos, af, none⟩ r fs w S (gdA all j S) := by
  have hf : footA T ⟨dst, op, ty, pos, af, some (j, w)⟩ S = footA T ⟨dst, op, ty, pos, af, none⟩ S := rfl
  have ho : opA T call d ⟨dst, op, ty, pos, af, some (j, w)⟩ { S with g := (i + 2) :: p } = opA T call d ⟨dst, op, ty, pos, af, none⟩ { S with g := (i + 2) :: p } := rfl
  have hskip : cr T call n f d K (kR (match (match opsD T call d p all (i + 1) r (putA S dst none) with | some (S'', fs') => some (S'', (⟨[], [], false⟩ : Foot) :: fs') | none => none) with
      | some (S', fs') => if clearD p (fs ++ fs') 0 L (fs ++ fs') = true then some { S' with g := 1 :: p } else none
      | none => none)) = cq T call n f d K p L all (i + 1) r (fs ++ [⟨[], [], false⟩]) (putA S dst none) := by
    simp only [cq]
    cases opsD T call d p all (i + 1) r (putA S dst none) with
    | none => rfl
    | some q => simp only [List.append_assoc, List.singleton_append]
  simp only [cq, opsD, stepD, wantedA, gdA, hf, ho]
  cases (all[j]?).bind (·.dst) with
  | none => rfl
  | some t =>
    simp only
    cases S.T.get t with
    | none => rfl
    | some x => cases x with
      | d y => cases y with
        | bool v => cases v <;> cases w <;> first | rfl | exact hskip
        | _ => rfl
      | tup xs => cases xs with
        | nil => exact hskip
        | cons _ _ => rfl
      | _ => rfl
theorem cqg_tt {o : Oper} : cqg T call n f d K p L all i o r fs true S (some (.d (.bool true))) = cq T call n f d K p L all i (o :: r) fs S := rfl
theorem cqg_ff {o : Oper} : cqg T call n f d K p L all i o r fs false S (some (.d (.bool false))) = cq T call n f d K p L all i (o :: r) fs S := rfl
theorem cqg_tf {o : Oper} : cqg T call n f d K p L all i o r fs true S (some (.d (.bool false))) = cq T call n f d K p L all (i + 1) r (fs ++ [⟨[], [], false⟩]) (putA S o.dst none) := rfl
theorem cqg_ft {o : Oper} : cqg T call n f d K p L all i o r fs false S (some (.d (.bool true))) = cq T call n f d K p L all (i + 1) r (fs ++ [⟨[], [], false⟩]) (putA S o.dst none) := rfl
end

def kF (rs : List ResultVar) (T : Tab) : Option (Out × St) → Option (AV × Heap)
  | some (.exit _, _) => none
  | some (_, S) => match resA T S rs with
    | some [x] => some (x, S.H)
    | some xs => if xs.all noTup then some (.tup xs, S.H) else none
    | none => none
  | none => none
theorem step_eq {T : Tab} {call : Call} {n d f : Nat} {args : List AV} {H : Heap} {g : List Nat} {F : Func} {c : Code} (h : T.fn f = some F) (hb : F.body = some c) (hl : args.length = F.params.size + F.nfree) :
    stepA T call n d f args H g = kF F.results.toList T (cx T call n f d [] c ⟨argsT 0 args, H, g⟩) := by
  unfold stepA
  rw [h]
  simp only [hb, if_pos hl]
  rfl
section
variable {T : Tab} {S : St} {Q : Tm} {H : Heap} {g : List Nat} {rs : List ResultVar}
def res1 (T : Tab) (S : St) (rs : List ResultVar) : Option (AV × Heap) := match resA T S rs with
    | some [x] => some (x, S.H)
    | some xs => if xs.all noTup then some (.tup xs, S.H) else none
    | none => none
theorem kF_ret : kF rs T (some (.ret, S)) = res1 T S rs := rfl
theorem kF_nrm : kF rs T (some (.nrm, S)) = res1 T S rs := rfl
theorem res_t {t : Nat} : res1 T ⟨Q, H, g⟩ [.tmp t] = (Q.get t).map fun x => (x, H) := by
  unfold res1
  simp only [resA]
  cases Q.get t <;> rfl
end
end Go.Proofs.Ytfcfifohflgboaa.Am
