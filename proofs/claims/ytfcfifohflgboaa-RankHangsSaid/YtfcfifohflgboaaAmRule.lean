/- The evaluator's equations for memory, structs, lists and strings, as rules to rewrite by. -/
import Derived.Test.YtfcfifohflgboaaAmGood
set_option linter.unusedVariables false
set_option linter.unusedSimpArgs false
namespace Go.Proofs.Ytfcfifohflgboaa.Am
open Go Go.RowKit
section
variable {T : Tab} {call : Call} {d k n b f : Nat} {dst : Option Nat} {ty t : Nat} {pos : String} {af : Array Edge} {gd : Option (Nat × Bool)} {S S' : St} {x y z : Operand} {Q : Tm} {H : Heap} {g : List Nat} {K : List It}
def pl1 (v : DV) : Option (List DV) → Option (List DV)
  | some s => some (v :: s)
  | none => none
theorem pl1_some {v : DV} {s : List DV} : pl1 v (some s) = some (v :: s) := rfl
theorem pl1_none {v : DV} : pl1 v none = none := rfl
def rc1 (T : Tab) (t : Nat) : Option (List AV) → Option (List AV) → Option (List AV)
  | some cs, xs => cons1 (mkVar T t cs) xs
  | none, _ => none
def rc2 (T : Tab) (S : St) (t : Nat) : Option AV → Option (List AV) → Option (List AV)
  | some p, xs => rc1 T t (behind S p) xs
  | none, _ => none
theorem resA_cell {a : Nat} {rs : List ResultVar} : resA T ⟨Q, H, g⟩ (.cell a t :: rs) = rc2 T ⟨Q, H, g⟩ t (Q.get a) (resA T ⟨Q, H, g⟩ rs) := by
  simp only [resA]
  cases Q.get a with
  | none => rfl
  | some p =>
    simp only [rc2]
    cases behind ⟨Q, H, g⟩ p with
    | none => rfl
    | some cs =>
      simp only [rc1, cons1]
      cases mkVar T t cs <;> cases resA T ⟨Q, H, g⟩ rs <;> rfl
theorem rc_2 {p : AV} {xs : Option (List AV)} : rc2 T S t (some p) xs = rc1 T t (behind S p) xs := rfl
theorem rc_1 {cs : List AV} {xs : Option (List AV)} : rc1 T t (some cs) xs = cons1 (mkVar T t cs) xs := rfl
/-! draws -/
def cdr (T : Tab) (call : Call) (n f d : Nat) (K : List It) (id : Nat) (ops : List Oper) (Q : Tm) (H : Heap) (p : List Nat) : Option (List (List Nat)) → Option (Out × St)
  | some L => cq T call n f d (.fg id :: K) p L ops 0 ops [] ⟨Q, H, p⟩
  | none => cr T call n f d K none
theorem cx_drw {id : Nat} {ops : Array Oper} : cx T call n f d K (.region id ops true) ⟨Q, H, g⟩ = cdr T call n f d K id ops.toList Q H g (T.drw f id) := by
  cases h : T.drw f id with
  | some L => exact cx_draw h
  | none => simp only [cx, codeA, h]; rfl
theorem cdr_some {id : Nat} {ops : List Oper} {L : List (List Nat)} : cdr T call n f d K id ops Q H g (some L) = cq T call n f d (.fg id :: K) g L ops 0 ops [] ⟨Q, H, g⟩ := rfl
theorem clear_nil {p : List Nat} {fs r : List Foot} {j : Nat} : clearD p fs j [] r = true := by unfold clearD; rfl
theorem clear_nil' {p : List Nat} {fs : List Foot} {j : Nat} {L : List (List Nat)} : clearD p fs j L [] = true := by cases L <;> (unfold clearD; rfl)
theorem clear_e {p : List Nat} {fs r : List Foot} {j : Nat} {L : List (List Nat)} {q : Foot} : clearD p fs j ([] :: L) (q :: r) = clearD p fs (j + 1) L r := by simp [clearD]
def cl1 (p : List Nat) (i : Nat) (j : Nat) (q : Foot) : Option Foot → Bool
  | some fi => !clash p i fi j q
  | none => true
theorem clear_c {p : List Nat} {fs r : List Foot} {j i : Nat} {l : List Nat} {L : List (List Nat)} {q : Foot} : clearD p fs j ((i :: l) :: L) (q :: r) = (cl1 p i j q fs[i]? && clearD p fs j (l :: L) (q :: r)) := by
  simp only [clearD, List.all_cons, Bool.and_assoc]
  cases fs[i]? <;> rfl
theorem cl_some {p : List Nat} {i j : Nat} {q fi : Foot} : cl1 p i j q (some fi) = !clash p i fi j q := rfl
theorem clash_00 {p : List Nat} {i j : Nat} {a b : Bool} : clash p i ⟨[], [], a⟩ j ⟨[], [], b⟩ = false := by cases a <;> cases b <;> rfl
theorem clash_rr {p : List Nat} {i j : Nat} {r s : List Id} : clash p i ⟨r, [], false⟩ j ⟨s, [], false⟩ = false := rfl
theorem clash_eq {p : List Nat} {i j : Nat} {r1 w1 r2 w2 : List Id} {a1 a2 : Bool} : clash p i ⟨r1, w1, a1⟩ j ⟨r2, w2, a2⟩ =
    (w1.any (fun id => r2.contains id || w2.contains id) || w2.any (fun id => r1.contains id) || (a1 && (r2 ++ w2).any (fun id => sfx ((i + 2) :: p) id.g)) || (a2 && (r1 ++ w1).any (fun id => sfx ((j + 2) :: p) id.g))) := rfl
theorem id_beq {a b : Id} : (a == b) = decide (a = b) := by
  by_cases h : a = b <;> simp [h]
theorem sfx_eq {q h : List Nat} : sfx q h = decide (h.drop (h.length - q.length) = q) := by
  unfold sfx
  by_cases e : h.drop (h.length - q.length) = q <;> simp [e]
theorem ft_move : footA T ⟨dst, .move x, ty, pos, af, gd⟩ S = ⟨[], [], false⟩ := rfl
theorem ft_assign : footA T ⟨dst, .assign x, ty, pos, af, gd⟩ S = ⟨[], [], false⟩ := rfl
theorem ft_pick : footA T ⟨dst, .pick x y z, ty, pos, af, gd⟩ S = ⟨[], [], false⟩ := rfl
def ftN (T : Tab) (S : St) (t : Nat) (x : Operand) : Bool → Foot
  | true => ⟨footV (ev T S t x), [], false⟩
  | false => ⟨[], [], false⟩
theorem ft_bin {op : BinOp} {t' : Nat} : footA T ⟨dst, .binOp op t x y t', ty, pos, af, gd⟩ S = ftN T S t x (isNilC op y) := by
  simp only [footA]
  cases isNilC op y <;> rfl
theorem ftN_t : ftN T S t x true = ⟨footV (ev T S t x), [], false⟩ := rfl
theorem ftN_f : ftN T S t x false = ⟨[], [], false⟩ := rfl
theorem nl_c {sz : Nat} {v : DV} {r : List DV} : nilB S (.d (.sl sz (v :: r))) = some false := rfl
theorem nl_oc {sz : Nat} {v : DV} {r : List DV} {tok : Option Id} : nilB S (.own sz (v :: r) tok) = some false := rfl
theorem nl_n {sz : Nat} : nilB S (.d (.nils sz)) = some true := rfl
theorem nl_e {sz : Nat} : nilB S (.d (.emps sz)) = some false := rfl
def nl1 : Option Place → Option Bool
  | some (.box _) => some false
  | _ => none
theorem nl_a {id : Id} {off m sz : Nat} : nilB ⟨Q, H, g⟩ (.arr id off m sz) = nl1 (H.get id) := by
  unfold nilB nl1
  simp only
  cases H.get id with
  | none => rfl
  | some p => cases p <;> rfl
theorem nl_1 {cs : List AV} : nl1 (some (.box cs)) = some false := rfl
theorem el_nils {sz : Nat} : elemsA (.d (.nils sz)) = some (sz, []) := rfl
theorem el_emps {sz : Nat} : elemsA (.d (.emps sz)) = some (sz, []) := rfl
theorem lc_nils {sz : Nat} : listC S (.d (.nils sz)) = some (sz, 0, []) := rfl
theorem lc_emps {sz : Nat} : listC S (.d (.emps sz)) = some (sz, 0, []) := rfl
theorem ft_un {op : UnOp} : footA T ⟨dst, .unOp op t x, ty, pos, af, gd⟩ S = ⟨[], [], false⟩ := rfl
theorem ft_extract {i : Nat} : footA T ⟨dst, .extract x i, ty, pos, af, gd⟩ S = ⟨[], [], false⟩ := rfl
theorem ft_field {i : Nat} : footA T ⟨dst, .field t x i, ty, pos, af, gd⟩ S = ⟨[], [], false⟩ := rfl
theorem ft_build {ps : Array (Nat × Operand)} : footA T ⟨dst, .build t ps, ty, pos, af, gd⟩ S = ⟨[], [], false⟩ := rfl
theorem ft_buildSlice {ps : Array (Nat × Operand)} {m : Nat} : footA T ⟨dst, .buildSlice t m ps, ty, pos, af, gd⟩ S = ⟨[], [], false⟩ := rfl
theorem ft_index {u : Nat} : footA T ⟨dst, .index u x y, ty, pos, af, gd⟩ S = ⟨[], [], false⟩ := rfl
def ftK (x : Option AV) : Option TypeDesc → Option TypeDesc → Foot
  | some .string, some (.slice _) => ⟨[], [], true⟩
  | some (.slice _), some .string => ⟨footV x, [], false⟩
  | _, _ => ⟨[], [], false⟩
theorem ft_convert {u : Nat} : footA T ⟨dst, .convert u t x, ty, pos, af, gd⟩ S = ftK (ev T S 0 x) (T.und u) (T.und t) := rfl
theorem ftK_i {x : Option AV} {j k : IntKind} : ftK x (some (.int j)) (some (.int k)) = ⟨[], [], false⟩ := rfl
theorem ftK_s {x : Option AV} : ftK x (some .string) (some .string) = ⟨[], [], false⟩ := rfl
theorem ftK_b {x : Option AV} {e : Nat} : ftK x (some .string) (some (.slice e)) = ⟨[], [], true⟩ := rfl
theorem ftK_t {x : Option AV} {e : Nat} : ftK x (some (.slice e)) (some .string) = ⟨footV x, [], false⟩ := rfl
theorem ft_make : footA T ⟨dst, .makeSlice t x y, ty, pos, af, gd⟩ S = ⟨[], [], true⟩ := rfl
theorem id_ar {i : Id} {o m z : Nat} : ids1 (.arr i o m z) = [i] := rfl
theorem ft_slice {lo hi mx : Option Operand} : footA T ⟨dst, .slice t x lo hi mx, ty, pos, af, gd⟩ S = ⟨footV (ev T S 0 x), [], false⟩ := rfl
theorem ft_lookup {c : Bool} : footA T ⟨dst, .lookup t x y c, ty, pos, af, gd⟩ S = ⟨footV (ev T S 0 x), [], false⟩ := rfl
theorem ft_upd : footA T ⟨dst, .mapUpdate t x y z, ty, pos, af, gd⟩ S = ⟨[], footV (ev T S 0 x), false⟩ := rfl
theorem ft_ins : footA T ⟨dst, .insert t x y z, ty, pos, af, gd⟩ S = ⟨[], footV (ev T S 0 x), false⟩ := rfl
theorem ft_mm {r : Option Operand} : footA T ⟨dst, .makeMap t r, ty, pos, af, gd⟩ S = ⟨[], [], true⟩ := rfl
theorem id_mp {i : Id} : ids1 (.mp i) = [i] := rfl
theorem ft_load : footA T ⟨dst, .load t x, ty, pos, af, gd⟩ S = ⟨footV (ev T S 0 x), [], false⟩ := rfl
theorem ft_nil : footA T ⟨dst, .nilCheck x, ty, pos, af, gd⟩ S = ⟨footV (ev T S 0 x), [], false⟩ := rfl
theorem ft_fa {i : Nat} : footA T ⟨dst, .fieldAddr t x i, ty, pos, af, gd⟩ S = ⟨footV (ev T S 0 x), [], false⟩ := rfl
theorem ft_ia : footA T ⟨dst, .indexAddr t x y, ty, pos, af, gd⟩ S = ⟨footV (ev T S 0 x), [], false⟩ := rfl
theorem ft_store : footA T ⟨dst, .store t x y, ty, pos, af, gd⟩ S = ⟨[], footV (ev T S 0 x), false⟩ := rfl
theorem ft_alloc : footA T ⟨dst, .alloc t, ty, pos, af, gd⟩ S = ⟨[], [], true⟩ := rfl
theorem ft_box : footA T ⟨dst, .box t x, ty, pos, af, gd⟩ S = ⟨[], [], true⟩ := rfl
theorem ft_len {args : Array Operand} {ts : Array Nat} : footA T ⟨dst, .call { callee := .builtin .len, args := args, argTypes := ts }, ty, pos, af, gd⟩ S = ⟨((evs T S args.toList ts.toList).getD []).flatMap ids1, [], false⟩ := rfl
theorem ft_min {args : Array Operand} {ts : Array Nat} : footA T ⟨dst, .call { callee := .builtin .min, args := args, argTypes := ts }, ty, pos, af, gd⟩ S = ⟨[], [], false⟩ := rfl
theorem ft_max {args : Array Operand} {ts : Array Nat} : footA T ⟨dst, .call { callee := .builtin .max, args := args, argTypes := ts }, ty, pos, af, gd⟩ S = ⟨[], [], false⟩ := rfl
def ftB (x : Option (List AV)) : Foot := match x with
  | some xs => ⟨[], xs.flatMap ids1, true⟩
  | none => ⟨[], [], true⟩
theorem ft_append {args : Array Operand} {ts : Array Nat} : footA T ⟨dst, .call { callee := .builtin .append, args := args, argTypes := ts }, ty, pos, af, gd⟩ S = ftB (evs T S args.toList ts.toList) := by
  cases h : evs T S args.toList ts.toList <;> simp only [footA, h] <;> rfl
theorem ftB_some {xs : List AV} : ftB (some xs) = ⟨[], xs.flatMap ids1, true⟩ := rfl
def ftF (T : Tab) (S : St) (xs : Option (List AV)) (f : Option AV) : Foot := match xs, f with
  | some xs, some (.d (.fn f caps)) => footC T f (xs ++ caps.map .d) S
  | some xs, some (.fn f caps) => footC T f (xs ++ caps) S
  | _, _ => ⟨[], [], true⟩
theorem ft_call {args : Array Operand} {ts : Array Nat} : footA T ⟨dst, .call { callee := .value x, args := args, argTypes := ts }, ty, pos, af, gd⟩ S = ftF T S (evs T S args.toList ts.toList) (ev T S 0 x) := by
  cases h : evs T S args.toList ts.toList with
  | none => simp only [footA, h]; rfl
  | some a =>
    cases h2 : ev T S 0 x with
    | none => simp only [footA, h, h2]; rfl
    | some q => cases q with
      | d y => cases y <;> simp only [footA, h, h2] <;> rfl
      | _ => simp only [footA, h, h2]; rfl
theorem ftF_d {xs : List AV} {f : Nat} {caps : List DV} : ftF T S (some xs) (some (.d (.fn f caps))) = footC T f (xs ++ caps.map .d) S := rfl
theorem ftF_f {xs : List AV} {f : Nat} {caps : List AV} : ftF T S (some xs) (some (.fn f caps)) = footC T f (xs ++ caps) S := rfl
def ftC (S : St) (args : List AV) : Option (List DV) → Foot
  | some _ => ⟨[], [], true⟩
  | none => ⟨[], reach S.H 8 (addIds [] (idsL args)), true⟩
def ftL (S : St) (args : List AV) (r : Option (List DV)) : Option (List DV) → Foot
  | some _ => ⟨idsL args, [], true⟩
  | none => ftC S args r
theorem ftC_eq {f : Nat} {args : List AV} : footC T f args S = ftL S args (if T.opn f = true then none else toDs args) (lentA T S f args) := by
  cases hl : lentA T S f args with
  | some ds => simp only [footC, hl, Option.isSome_some, if_true, ftL]
  | none =>
    simp only [footC, hl, Option.isSome_none, Bool.false_eq_true, if_false, ftL, footO, ftC]
    split <;> simp_all
theorem ftL_n {args : List AV} {r : Option (List DV)} : ftL S args r none = ftC S args r := rfl
theorem ftL_s {args : List AV} {r : Option (List DV)} {ds : List DV} : ftL S args r (some ds) = ⟨idsL args, [], true⟩ := rfl
def lt1 (H : Heap) (args : List AV) (r : Option (List DV)) : Bool → Option (List DV)
  | true => match r with
    | some _ => none
    | none => toDs (args.map (frzB H))
  | false => none
theorem lt_eq {f : Nat} {args : List AV} : lentA T ⟨Q, H, g⟩ f args = lt1 H args (toDs args) (T.lend f) := by
  unfold lentA lt1
  cases T.lend f with
  | false => rfl
  | true => cases toDs args <;> rfl
theorem lt_f {args : List AV} {r : Option (List DV)} : lt1 H args r false = none := rfl
theorem lt_t {args : List AV} {ds : List DV} : lt1 H args (some ds) true = none := rfl
theorem lt_l {args : List AV} : lt1 H args none true = toDs (args.map (frzB H)) := rfl
theorem ftC_some {args : List AV} {ds : List DV} : ftC S args (some ds) = ⟨[], [], true⟩ := rfl
theorem toDs_nil : toDs [] = some [] := rfl
theorem toDs_d {v : DV} {r : List AV} : toDs (.d v :: r) = pl1 v (toDs r) := by
  simp only [toDs, toD, pl1]
  cases toDs r <;> rfl
theorem fv_some {v : AV} : footV (some v) = ids1 v := rfl
theorem id_d {v : DV} : ids1 (.d v) = [] := rfl
theorem id_p {i : Id} {o : Nat} : ids1 (.ptr i o) = [i] := rfl
theorem id_on {sz : Nat} {xs : List DV} : ids1 (.own sz xs none) = [] := rfl
theorem id_os {sz : Nat} {xs : List DV} {i : Id} : ids1 (.own sz xs (some i)) = [i] := rfl
theorem id_a {cs : List AV} : ids1 (.agg cs) = [] := rfl
theorem toDs_o {sz : Nat} {xs : List DV} {tok : Option Id} {r : List AV} : toDs (.own sz xs tok :: r) = pl1 (.sl sz xs) (toDs r) := by
  simp only [toDs, toD, pl1]
  cases toDs r <;> rfl
theorem toDs_p {i : Id} {o : Nat} {r : List AV} : toDs (.ptr i o :: r) = none := rfl
theorem toDs_mp {i : Id} {r : List AV} : toDs (.mp i :: r) = none := rfl
theorem toDs_ar {i : Id} {o m z : Nat} {r : List AV} : toDs (.arr i o m z :: r) = none := rfl
/-! values -/
theorem plainD_nil : plainD [] = some [] := rfl
theorem plainD_d {v : DV} {r : List AV} : plainD (.d v :: r) = pl1 v (plainD r) := by
  simp only [plainD]
  cases plainD r <;> rfl
theorem plainD_o {sz : Nat} {xs : List DV} {tok : Option Id} {r : List AV} : plainD (.own sz xs tok :: r) = none := rfl
theorem plainD_p {id : Id} {o : Nat} {r : List AV} : plainD (.ptr id o :: r) = none := rfl
def mka (cs : List AV) : Option (List DV) → AV
  | some ds => .d (.agg ds)
  | none => .agg cs
theorem mk_eq {cs : List AV} : mkAgg cs = mka cs (plainD cs) := rfl
theorem mka_some {cs : List AV} {ds : List DV} : mka cs (some ds) = .d (.agg ds) := rfl
theorem mka_none {cs : List AV} : mka cs none = .agg cs := rfl
def mkf (f : Nat) (cs : List AV) : Option (List DV) → AV
  | some ds => .d (.fn f ds)
  | none => .fn f cs
theorem mkf_eq {cs : List AV} : mkFn f cs = mkf f cs (plainD cs) := rfl
theorem mkf_some {cs : List AV} {ds : List DV} : mkf f cs (some ds) = .d (.fn f ds) := rfl
theorem mkf_none {cs : List AV} : mkf f cs none = .fn f cs := rfl
theorem ac_d {v : DV} : AV.cells (.d v) = v.cells.map .d := rfl
theorem ac_agg {cs : List AV} : AV.cells (.agg cs) = cs := rfl
theorem ac_own {sz : Nat} {xs : List DV} {tok : Option Id} : AV.cells (.own sz xs tok) = [.own sz xs tok] := rfl
theorem ac_ptr {id : Id} {o : Nat} : AV.cells (.ptr id o) = [.ptr id o] := rfl
theorem ac_fn {cs : List AV} : AV.cells (.fn f cs) = [.fn f cs] := rfl
theorem dc_int {j : IntKind} {i : Int} : DV.cells (.int j i) = [.int j i] := rfl
theorem dc_bool {c : Bool} : DV.cells (.bool c) = [.bool c] := rfl
theorem dc_str {s : List UInt8} : DV.cells (.str s) = [.str s] := rfl
theorem dc_sl {sz : Nat} {xs : List DV} : DV.cells (.sl sz xs) = [.sl sz xs] := rfl
theorem dc_fn {cs : List DV} : DV.cells (.fn f cs) = [.fn f cs] := rfl
theorem dc_rp {cs : List DV} : DV.cells (.rp cs) = [.rp cs] := rfl
theorem dc_agg {cs : List DV} : DV.cells (.agg cs) = cs := rfl
theorem nt_d {v : DV} : noTup (.d v) = true := rfl
theorem nt_agg {cs : List AV} : noTup (.agg cs) = true := rfl
theorem nt_own {sz : Nat} {xs : List DV} {tok : Option Id} : noTup (.own sz xs tok) = true := rfl
theorem nt_ptr {id : Id} {o : Nat} : noTup (.ptr id o) = true := rfl
theorem nt_fn {cs : List AV} : noTup (.fn f cs) = true := rfl
theorem ag_d {cs : List DV} : aggCells (.d (.agg cs)) = some (cs.map .d) := rfl
theorem ag_a {cs : List AV} : aggCells (.agg cs) = some cs := rfl
def mv1 (cs : List AV) : Option Bool → Option Nat → Option AV
  | some true, some n => if n ≤ cs.length then some (mkAgg (cs.take n)) else none
  | some false, some n => if n = 1 then cs.head? else none
  | _, _ => none
theorem mv_eq {cs : List AV} : mkVar T t cs = mv1 cs (isAgg T t) (size T t) := rfl
theorem mv_t {cs : List AV} : mv1 cs (some true) (some n) = if n ≤ cs.length then some (mkAgg (cs.take n)) else none := rfl
theorem mv_f {cs : List AV} : mv1 cs (some false) (some n) = if n = 1 then cs.head? else none := rfl
/-! variables -/
theorem hg_nil {i : Id} : Heap.get [] i = none := rfl
theorem hg_cons {i j : Id} {p : Place} : Heap.get ((i, p) :: H) j = if i = j then some p else Heap.get H j := rfl
theorem hp_nil {i : Id} {p : Place} : Heap.put [] i p = [] := rfl
theorem hp_cons {i j : Id} {p q : Place} : Heap.put ((i, p) :: H) j q = if i = j then (i, q) :: H else (i, p) :: Heap.put H j q := rfl
def al1 (d k : Nat) (Q : Tm) (H : Heap) (g : List Nat) : Option (Nat × Nat × List AV) → Option (Option AV × St)
  | some (_, _, z) => some (some (.ptr ⟨d, k, 0 :: g⟩ 0), ⟨Q, (⟨d, k, 0 :: g⟩, .box z) :: H, 1 :: g⟩)
  | none => none
theorem o_alloc : opA T call d ⟨dst, .alloc t, ty, pos, af, gd⟩ ⟨Q, H, g⟩ = al1 d (dst.getD 0) Q H g (T.inf t) := by
  cases h : T.inf t with
  | none => simp only [opA, h]; rfl
  | some q => obtain ⟨a, b, z⟩ := q; simp only [opA, h]; rfl
theorem al_some {z : List AV} : al1 d k Q H g (some (n, b, z)) = some (some (.ptr ⟨d, k, 0 :: g⟩ 0), ⟨Q, (⟨d, k, 0 :: g⟩, .box z) :: H, 1 :: g⟩) := rfl
def bx3 (S : St) : Option (List DV) → Option (Option AV × St)
  | some ds => some (some (.d (.rp ds)), S)
  | none => none
def bx2 (d k : Nat) (Q : Tm) (H : Heap) (g : List Nat) (y : AV) : Bool → Option (Option AV × St)
  | true => bx3 ⟨Q, H, g⟩ (allD y.cells)
  | false => some (some (.ptr ⟨d, k, 0 :: g⟩ 0), ⟨Q, (⟨d, k, 0 :: g⟩, .box y.cells) :: H, 1 :: g⟩)
def bx1 (T : Tab) (t d k : Nat) (pos : String) (Q : Tm) (H : Heap) (g : List Nat) : Option Nat → Option AV → Option (Option AV × St)
  | some n, some y => if noTup y = true ∧ y.cells.length = n then bx2 d k Q H g y (T.ro t k pos) else none
  | _, _ => none
theorem o_box : opA T call d ⟨dst, .box t x, ty, pos, af, gd⟩ ⟨Q, H, g⟩ = bx1 T t d (dst.getD 0) pos Q H g (size T t) (ev T ⟨Q, H, g⟩ t x) := by
  cases h : size T t with
  | none => simp only [opA, h]; rfl
  | some n =>
    cases h2 : ev T ⟨Q, H, g⟩ t x with
    | none => simp only [opA, h, h2]; rfl
    | some y =>
      simp only [opA, h, h2, bx1, newBox]
      split
      · cases hr : T.ro t (dst.getD 0) pos with
        | false => simp only [Bool.false_eq_true, if_false, bx2]
        | true =>
          simp only [if_true, bx2, bx3]
          cases allD y.cells <;> rfl
      · rfl
theorem bx_some {y : AV} : bx1 T t d k pos Q H g (some n) (some y) = if noTup y = true ∧ y.cells.length = n then bx2 d k Q H g y (T.ro t k pos) else none := rfl
theorem bx_f {y : AV} : bx2 d k Q H g y false = some (some (.ptr ⟨d, k, 0 :: g⟩ 0), ⟨Q, (⟨d, k, 0 :: g⟩, .box y.cells) :: H, 1 :: g⟩) := rfl
theorem bx_t {y : AV} : bx2 d k Q H g y true = bx3 ⟨Q, H, g⟩ (allD y.cells) := rfl
theorem bx_3 {ds : List DV} : bx3 S (some ds) = some (some (.d (.rp ds)), S) := rfl
def bh1 (o : Nat) : Option Place → Option (List AV)
  | some (.box cs) => some (cs.drop o)
  | _ => none
theorem bh_ptr {id : Id} {o : Nat} : behind ⟨Q, H, g⟩ (.ptr id o) = bh1 o (H.get id) := rfl
theorem bh_rp {cs : List DV} : behind S (.d (.rp cs)) = some (cs.map .d) := rfl
theorem bh_box {o : Nat} {cs : List AV} : bh1 o (some (.box cs)) = some (cs.drop o) := rfl
def ld2 (T : Tab) (S : St) (t : Nat) : Option (List AV) → Option (Option AV × St)
  | some cs => v1 S (mkVar T t cs)
  | none => none
def ld1 (T : Tab) (S : St) (t : Nat) : Option AV → Option (Option AV × St)
  | some p => ld2 T S t (behind S p)
  | none => none
theorem o_load : opA T call d ⟨dst, .load t x, ty, pos, af, gd⟩ S = ld1 T S t (ev T S 0 x) := by
  cases h : ev T S 0 x with
  | none => simp only [opA, h]; rfl
  | some p =>
    simp only [opA, h, ld1]
    cases behind S p <;> rfl
theorem ld_1 {p : AV} : ld1 T S t (some p) = ld2 T S t (behind S p) := rfl
theorem ld_2 {cs : List AV} : ld2 T S t (some cs) = v1 S (mkVar T t cs) := rfl
def st2 (Q : Tm) (H : Heap) (g : List Nat) (id : Id) (o : Nat) (y : AV) (n : Nat) : Option Place → Option (Option AV × St)
  | some (.box cs) => if noTup y = true ∧ y.cells.length = n ∧ o + n ≤ cs.length then some (none, ⟨Q, H.put id (.box (setCells cs o y.cells)), g⟩) else none
  | _ => none
def st1 (Q : Tm) (H : Heap) (g : List Nat) : Option AV → Option AV → Option Nat → Option (Option AV × St)
  | some (.ptr id o), some y, some n => st2 Q H g id o y n (H.get id)
  | _, _, _ => none
theorem o_store : opA T call d ⟨dst, .store t x y, ty, pos, af, gd⟩ ⟨Q, H, g⟩ = st1 Q H g (ev T ⟨Q, H, g⟩ 0 x) (ev T ⟨Q, H, g⟩ t y) (size T t) := by
  cases h : ev T ⟨Q, H, g⟩ 0 x with
  | none => simp only [opA, h]; rfl
  | some p =>
    cases h2 : ev T ⟨Q, H, g⟩ t y with
    | none => cases p <;> (simp only [opA, h, h2]; rfl)
    | some v =>
      cases h3 : size T t with
      | none => cases p <;> (simp only [opA, h, h2, h3]; rfl)
      | some n =>
        cases p <;> simp only [opA, h, h2, h3, st1]
        rename_i id o
        simp only [st2]
        cases H.get id with
        | none => rfl
        | some p => cases p <;> rfl
theorem st_1 {id : Id} {o : Nat} {v : AV} : st1 Q H g (some (.ptr id o)) (some v) (some n) = st2 Q H g id o v n (H.get id) := rfl
theorem st_2 {id : Id} {o : Nat} {v : AV} {cs : List AV} : st2 Q H g id o v n (some (.box cs)) = if noTup v = true ∧ v.cells.length = n ∧ o + n ≤ cs.length then some (none, ⟨Q, H.put id (.box (setCells cs o v.cells)), g⟩) else none := rfl
theorem set_cells {cs xs : List AV} {o : Nat} : setCells cs o xs = cs.take o ++ xs ++ cs.drop (o + xs.length) := rfl
def nc2 (S : St) (id : Id) (o : Nat) : Option Place → Option (Option AV × St)
  | some (.box _) => some (some (.ptr id o), S)
  | _ => none
def nc1 (S : St) : Option AV → Option (Option AV × St)
  | some (.ptr id o) => nc2 S id o (S.H.get id)
  | some (.d (.rp cs)) => some (some (.d (.rp cs)), S)
  | _ => none
theorem o_nil : opA T call d ⟨dst, .nilCheck x, ty, pos, af, gd⟩ S = nc1 S (ev T S 0 x) := by
  cases h : ev T S 0 x with
  | none => simp only [opA, h]; rfl
  | some p =>
    cases p with
    | ptr id o =>
      simp only [opA, h, nc1]
      cases S.H.get id with
      | none => rfl
      | some p => cases p <;> rfl
    | d v => cases v <;> simp only [opA, h] <;> rfl
    | _ => simp only [opA, h]; rfl
theorem nc_p {id : Id} {o : Nat} : nc1 ⟨Q, H, g⟩ (some (.ptr id o)) = nc2 ⟨Q, H, g⟩ id o (H.get id) := rfl
theorem nc_b {id : Id} {o : Nat} {cs : List AV} : nc2 S id o (some (.box cs)) = some (some (.ptr id o), S) := rfl
theorem nc_r {cs : List DV} : nc1 S (some (.d (.rp cs))) = some (some (.d (.rp cs)), S) := rfl
def fa3 (S : St) (y : AV) : Option Nat → Option (Option AV × St)
  | some n => if n = 0 then none else some (some y, S)
  | none => none
def fa2 (T : Tab) (S : St) (id : Id) (o : Nat) : Option Field → Option Place → Option (Option AV × St)
  | some f, some (.box _) => fa3 S (.ptr id (o + f.offset)) (size T f.type)
  | _, _ => none
def fa4 (T : Tab) (S : St) (cs : List DV) : Option Field → Option (Option AV × St)
  | some f => fa3 S (.d (.rp (cs.drop f.offset))) (size T f.type)
  | none => none
def fa1 (T : Tab) (S : St) (i : Nat) : Option AV → Option (List Field) → Option (Option AV × St)
  | some (.ptr id o), some fs => fa2 T S id o fs[i]? (S.H.get id)
  | some (.d (.rp cs)), some fs => fa4 T S cs fs[i]?
  | _, _ => none
theorem o_fa {i : Nat} : opA T call d ⟨dst, .fieldAddr t x i, ty, pos, af, gd⟩ S = fa1 T S i (ev T S 0 x) (fieldsOf T t) := by
  cases h : ev T S 0 x with
  | none => simp only [opA, h]; rfl
  | some p =>
    cases h2 : fieldsOf T t with
    | none => cases p <;> first | (simp only [opA, h, h2]; rfl) | (rename_i v; cases v <;> (simp only [opA, h, h2]; rfl))
    | some fs =>
      cases p with
      | ptr id o =>
        simp only [opA, h, h2, fa1, fa2]
        cases fs[i]? with
        | none => rfl
        | some f =>
          cases S.H.get id with
          | none => rfl
          | some p => cases p with
            | box cs => simp only [fa3]; cases size T f.type <;> rfl
            | grow _ => rfl
            | mpl _ => rfl
      | d v =>
        cases v with
        | rp cs =>
          simp only [opA, h, h2, fa1, fa4]
          cases fs[i]? with
          | none => rfl
          | some f => simp only [fa3]; cases size T f.type <;> rfl
        | _ => simp only [opA, h, h2] <;> rfl
      | _ => simp only [opA, h, h2]; rfl
theorem fa_p {i : Nat} {id : Id} {o : Nat} {fs : List Field} : fa1 T ⟨Q, H, g⟩ i (some (.ptr id o)) (some fs) = fa2 T ⟨Q, H, g⟩ id o fs[i]? (H.get id) := rfl
theorem fa_b {id : Id} {o : Nat} {e : Field} {cs : List AV} : fa2 T S id o (some e) (some (.box cs)) = fa3 S (.ptr id (o + e.offset)) (size T e.type) := rfl
theorem fa_r {i : Nat} {cs : List DV} {fs : List Field} : fa1 T S i (some (.d (.rp cs))) (some fs) = fa4 T S cs fs[i]? := rfl
theorem fa_4 {cs : List DV} {e : Field} : fa4 T S cs (some e) = fa3 S (.d (.rp (cs.drop e.offset))) (size T e.type) := rfl
theorem fa_3 {v : AV} : fa3 S v (some n) = if n = 0 then none else some (some v, S) := rfl
/-! lists and strings -/
def ia3 (S : St) : Option DV → Option (Option AV × St)
  | some z => some (some (.d (.rp z.cells)), S)
  | none => none
def ia0 (T : Tab) (S : St) : Option TypeDesc → Option AV → Option AV → Option (Option AV × St)
  | some (.slice e), some y, some (.d (.int _ i)) => match y with
    | .arr id off n sz => match S.H.get id with
      | some (.box _) => if 0 ≤ i ∧ i < n ∧ size T e = some sz then some (some (.ptr id (off + i.toNat * sz)), S) else none
      | _ => none
    | _ => match elemsA y with
      | some (sz, xs) => if 0 ≤ i ∧ size T e = some sz then match xs[i.toNat]? with
        | some z => some (some (.d (.rp z.cells)), S)
        | none => none else none
      | none => none
  | some (.array n e), some y, some (.d (.int _ i)) => match size T e with
    | some sz => if 0 ≤ i ∧ i < n then match y with
      | .ptr id off => match S.H.get id with
        | some (.box _) => some (some (.ptr id (off + i.toNat * sz)), S)
        | _ => none
      | .d (.rp cs) => some (some (.d (.rp (cs.drop (i.toNat * sz)))), S)
      | _ => none else none
    | none => none
  | _, _, _ => none
theorem o_ia : opA T call d ⟨dst, .indexAddr t x y, ty, pos, af, gd⟩ S = ia0 T S (T.und t) (ev T S 0 x) (ev T S 0 y) := by
  simp only [opA, ia0]
  rfl
theorem ia_sl {e sz : Nat} {xs : List DV} {j : IntKind} {i : Int} : ia0 T S (some (.slice e)) (some (.d (.sl sz xs))) (some (.d (.int j i))) = if 0 ≤ i ∧ size T e = some sz then ia3 S xs[i.toNat]? else none := by
  simp only [ia0, elemsA, ia3]
theorem ia_own {e sz : Nat} {xs : List DV} {tok : Option Id} {j : IntKind} {i : Int} : ia0 T S (some (.slice e)) (some (.own sz xs tok)) (some (.d (.int j i))) = if 0 ≤ i ∧ size T e = some sz then ia3 S xs[i.toNat]? else none := by
  simp only [ia0, elemsA, ia3]
theorem ia_3 {v : DV} : ia3 S (some v) = some (some (.d (.rp v.cells)), S) := rfl
def ix2 (S : St) : Option UInt8 → Option (Option AV × St)
  | some b => some (some (.d (.int .u8 (b.toNat : Int))), S)
  | none => none
def ix0 (T : Tab) (S : St) : Option TypeDesc → Option AV → Option AV → Option (Option AV × St)
  | some .string, some (.d (.str s)), some (.d (.int _ i)) => if 0 ≤ i then match s[i.toNat]? with
    | some b => some (some (.d (.int .u8 (b.toNat : Int))), S)
    | none => none else none
  | some (.array n e), some y, some (.d (.int _ i)) => match size T e with
    | some sz => match aggCells y with
      | some cs => if 0 ≤ i ∧ i < n then v1 S (mkVar T e (cs.drop (i.toNat * sz))) else none
      | none => none
    | none => none
  | _, _, _ => none
theorem o_ix : opA T call d ⟨dst, .index t x y, ty, pos, af, gd⟩ S = ix0 T S (T.und t) (ev T S 0 x) (ev T S 0 y) := by
  simp only [opA, ix0]
  rfl
theorem ix_1 {s : List UInt8} {j : IntKind} {i : Int} : ix0 T S (some .string) (some (.d (.str s))) (some (.d (.int j i))) = if 0 ≤ i then ix2 S s[i.toNat]? else none := by
  simp only [ix0, ix2]
def ix3 (T : Tab) (S : St) (e n : Nat) (i : Int) : Option Nat → Option (List AV) → Option (Option AV × St)
  | some sz, some cs => if 0 ≤ i ∧ i < n then v1 S (mkVar T e (cs.drop (i.toNat * sz))) else none
  | _, _ => none
theorem ix_a {e : Nat} {v : AV} {j : IntKind} {i : Int} : ix0 T S (some (.array n e)) (some v) (some (.d (.int j i))) = ix3 T S e n i (size T e) (aggCells v) := by
  simp only [ix0, ix3]
  cases size T e <;> cases aggCells v <;> rfl
theorem ix_3 {e sz : Nat} {cs : List AV} {i : Int} : ix3 T S e n i (some sz) (some cs) = if 0 ≤ i ∧ i < n then v1 S (mkVar T e (cs.drop (i.toNat * sz))) else none := rfl
theorem ix_2 {c : UInt8} : ix2 S (some c) = some (some (.d (.int .u8 (c.toNat : Int))), S) := rfl
def fd2 (T : Tab) (S : St) : Option Field → Option (List AV) → Option (Option AV × St)
  | some f, some cs => v1 S (mkVar T f.type (cs.drop f.offset))
  | _, _ => none
def fd1 (T : Tab) (S : St) (i : Nat) : Option AV → Option (List Field) → Option (Option AV × St)
  | some y, some fs => fd2 T S fs[i]? (aggCells y)
  | _, _ => none
theorem o_field {i : Nat} : opA T call d ⟨dst, .field t x i, ty, pos, af, gd⟩ S = fd1 T S i (ev T S 0 x) (fieldsOf T t) := by
  cases h : ev T S 0 x with
  | none => simp only [opA, h]; rfl
  | some v =>
    cases h2 : fieldsOf T t with
    | none => simp only [opA, h, h2]; rfl
    | some fs =>
      simp only [opA, h, h2, fd1, fd2]
      cases fs[i]? <;> cases aggCells v <;> rfl
theorem fd_1 {i : Nat} {v : AV} {fs : List Field} : fd1 T S i (some v) (some fs) = fd2 T S fs[i]? (aggCells v) := rfl
theorem fd_2 {e : Field} {cs : List AV} : fd2 T S (some e) (some cs) = v1 S (mkVar T e.type (cs.drop e.offset)) := rfl
def cv1 (T : Tab) (d k : Nat) (S : St) : Option TypeDesc → Option TypeDesc → Option AV → Option (Option AV × St)
  | some (.int _), some (.int k), some (.d (.int _ n)) => some (some (.d (.int k (k.wrap n))), S)
  | some .string, some .string, some (.d (.str s)) => some (some (.d (.str s)), S)
  | some .string, some (.slice e), some (.d (.str s)) => v2 (convS T d k S e s)
  | some (.slice e), some .string, some y => v1 S (convB T S e y)
  | _, _, _ => none
theorem o_conv {u : Nat} : opA T call d ⟨dst, .convert u t x, ty, pos, af, gd⟩ S = cv1 T d (dst.getD 0) S (T.und u) (T.und t) (ev T S 0 x) := by
  simp only [opA, cv1]
  split <;> simp_all
  · rename_i e s _ _ _
    cases h : convS T d (dst.getD 0) S e s <;> rfl
  · rename_i e y _ _ _
    cases h : convB T S e y <;> rfl
theorem cv_int {j k m : IntKind} {i : Int} {q : Nat} : cv1 T d q S (some (.int j)) (some (.int k)) (some (.d (.int m i))) = some (some (.d (.int k (k.wrap i))), S) := rfl
theorem cv_str {s : List UInt8} {q : Nat} : cv1 T d q S (some .string) (some .string) (some (.d (.str s))) = some (some (.d (.str s)), S) := rfl
theorem cv_sb {s : List UInt8} {e q : Nat} : cv1 T d q S (some .string) (some (.slice e)) (some (.d (.str s))) = v2 (convS T d q S e s) := rfl
theorem cv_bs {v : AV} {e q : Nat} : cv1 T d q S (some (.slice e)) (some .string) (some v) = v1 S (convB T S e v) := rfl
def cs1 (d k : Nat) (Q : Tm) (H : Heap) (g : List Nat) (s : List UInt8) : Option TypeDesc → Option (AV × St)
  | some (.int .u8) => if s.length ≤ 9223372036854775807 then some (.arr ⟨d, k, 0 :: g⟩ 0 s.length 1, ⟨Q, (⟨d, k, 0 :: g⟩, .box (bytesAV s)) :: H, 1 :: g⟩) else none
  | _ => none
theorem cs_eq {s : List UInt8} {e : Nat} : convS T d k ⟨Q, H, g⟩ e s = cs1 d k Q H g s (T.und e) := by
  cases h : T.und e with
  | none => simp only [convS, h]; rfl
  | some u => cases u with
    | int j => cases j <;> (simp only [convS, h]; rfl)
    | _ => simp only [convS, h]; rfl
theorem cs_1 {s : List UInt8} : cs1 d k Q H g s (some (.int .u8)) = if s.length ≤ 9223372036854775807 then some (.arr ⟨d, k, 0 :: g⟩ 0 s.length 1, ⟨Q, (⟨d, k, 0 :: g⟩, .box (bytesAV s)) :: H, 1 :: g⟩) else none := rfl
def cb2 : Option (List UInt8) → Option AV
  | some s => some (.d (.str s))
  | none => none
def cb1 (S : St) (v : AV) : Option TypeDesc → Option AV
  | some (.int .u8) => cb2 (strA S v)
  | _ => none
theorem cb_eq {v : AV} {e : Nat} : convB T S e v = cb1 S v (T.und e) := by
  cases h : T.und e with
  | none => simp only [convB, h]; rfl
  | some u => cases u with
    | int j => cases j <;> (simp only [convB, h]; rfl)
    | _ => simp only [convB, h]; rfl
theorem cb_1 {v : AV} : cb1 S v (some (.int .u8)) = cb2 (strA S v) := rfl
theorem cb_2 {s : List UInt8} : cb2 (some s) = some (.d (.str s)) := rfl
def sr3 : Option (List DV) → Option (List UInt8)
  | some ds => strD ds
  | none => none
def sr1 (o n : Nat) : Option Place → Option (List UInt8)
  | some (.box cs) => if o + n ≤ cs.length then sr3 (plainD ((cs.drop o).take n)) else none
  | _ => none
theorem sr_arr {i : Id} {o m : Nat} : strA ⟨Q, H, g⟩ (.arr i o m 1) = sr1 o m (H.get i) := by
  simp only [strA, sr1, true_and]
  cases H.get i with
  | none => rfl
  | some p => cases p with
    | box cs =>
      simp only
      split
      · simp only [sr3]; cases plainD ((cs.drop o).take m) <;> rfl
      · rfl
    | grow _ => rfl
    | mpl _ => rfl
theorem sr_1 {o m : Nat} {cs : List AV} : sr1 o m (some (.box cs)) = if o + m ≤ cs.length then sr3 (plainD ((cs.drop o).take m)) else none := rfl
theorem sr_3 {ds : List DV} : sr3 (some ds) = strD ds := rfl
theorem sr_sl {xs : List DV} : strA S (.d (.sl 1 xs)) = strD xs := rfl
theorem sr_own {xs : List DV} {tok : Option Id} : strA S (.own 1 xs tok) = strD xs := rfl
theorem strD_bytes : ∀ s : List UInt8, strD (s.map fun b => .int .u8 (b.toNat : Int)) = some s
  | [] => rfl
  | b :: s => by
    have hb : b.toNat < 256 := b.toNat_lt
    simp only [List.map_cons, strD, strD_bytes s]
    rw [if_pos (by omega)]
    simp
theorem plainD_map : ∀ ds : List DV, plainD (ds.map .d) = some ds
  | [] => rfl
  | x :: r => by simp only [List.map_cons, plainD, plainD_map r]
theorem bytesAV_eq {s : List UInt8} : bytesAV s = (s.map fun b => DV.int .u8 (b.toNat : Int)).map .d := by simp [bytesAV]
def mk2 (d k : Nat) (Q : Tm) (H : Heap) (g : List Nat) (n m : Int) : Option (Nat × Nat × List AV) → Option (AV × St)
  | some (sz, bytes, zero) => if n = m ∧ 0 ≤ n ∧ n * bytes ≤ 140737488355328 ∧ n ≤ 9223372036854775807 ∧ 0 < n * sz then some (.arr ⟨d, k, 0 :: g⟩ 0 n.toNat sz, ⟨Q, (⟨d, k, 0 :: g⟩, .box (List.replicate n.toNat zero).flatten) :: H, 1 :: g⟩) else none
  | none => none
def mk1 (T : Tab) (d k : Nat) (Q : Tm) (H : Heap) (g : List Nat) (n m : Int) : Option TypeDesc → Option (AV × St)
  | some (.slice e) => mk2 d k Q H g n m (T.inf e)
  | _ => none
def mk0 (T : Tab) (d k : Nat) (Q : Tm) (H : Heap) (g : List Nat) (u : Option TypeDesc) : Option AV → Option AV → Option (Option AV × St)
  | some (.d (.int _ n)), some (.d (.int _ m)) => v2 (mk1 T d k Q H g n m u)
  | _, _ => none
theorem o_make : opA T call d ⟨dst, .makeSlice t x y, ty, pos, af, gd⟩ ⟨Q, H, g⟩ = mk0 T d (dst.getD 0) Q H g (T.und t) (ev T ⟨Q, H, g⟩ 0 x) (ev T ⟨Q, H, g⟩ 0 y) := by
  have key : ∀ n m, makeA T d (dst.getD 0) ⟨Q, H, g⟩ t n m = mk1 T d (dst.getD 0) Q H g n m (T.und t) := fun n m => by
    unfold makeA mk1
    cases T.und t with
    | none => rfl
    | some u => cases u with
      | slice e =>
        simp only [mk2]
        cases T.inf e with
        | none => rfl
        | some q => rfl
      | _ => rfl
  simp only [opA, key]
  cases h1 : ev T ⟨Q, H, g⟩ 0 x with
  | none => rfl
  | some a =>
    cases h2 : ev T ⟨Q, H, g⟩ 0 y with
    | none => cases a <;> first | rfl | (rename_i w; cases w <;> rfl)
    | some b => cases a <;> first | rfl | (rename_i w; cases w <;> first | rfl | (cases b <;> first | rfl | (rename_i w2; cases w2 <;> first | rfl | (simp only [mk0]; cases mk1 T d (dst.getD 0) Q H g _ _ (T.und t) <;> rfl))))
theorem mk_0 {j k' : IntKind} {n m : Int} {u : Option TypeDesc} : mk0 T d k Q H g u (some (.d (.int j n))) (some (.d (.int k' m))) = v2 (mk1 T d k Q H g n m u) := rfl
theorem mk_1 {e : Nat} {n m : Int} : mk1 T d k Q H g n m (some (.slice e)) = mk2 d k Q H g n m (T.inf e) := rfl
theorem mk_2 {sz bytes : Nat} {zero : List AV} {n m : Int} : mk2 d k Q H g n m (some (sz, bytes, zero)) = if n = m ∧ 0 ≤ n ∧ n * bytes ≤ 140737488355328 ∧ n ≤ 9223372036854775807 ∧ 0 < n * sz then some (.arr ⟨d, k, 0 :: g⟩ 0 n.toNat sz, ⟨Q, (⟨d, k, 0 :: g⟩, .box (List.replicate n.toNat zero).flatten) :: H, 1 :: g⟩) else none := rfl
/-! arrays that are written -/
def ia4 (T : Tab) (S : St) (id : Id) (off n sz : Nat) (i : Int) (z : Option Nat) : Option Place → Option (Option AV × St)
  | some (.box _) => if 0 ≤ i ∧ i < n ∧ z = some sz then some (some (.ptr id (off + i.toNat * sz)), S) else none
  | _ => none
theorem ia_arr {e sz off m : Nat} {id : Id} {j : IntKind} {i : Int} : ia0 T ⟨Q, H, g⟩ (some (.slice e)) (some (.arr id off m sz)) (some (.d (.int j i))) = ia4 T ⟨Q, H, g⟩ id off m sz i (size T e) (H.get id) := by
  simp only [ia0, ia4]
theorem ia_4 {sz off m : Nat} {id : Id} {i : Int} {z : Option Nat} {cs : List AV} : ia4 T S id off m sz i z (some (.box cs)) = if 0 ≤ i ∧ i < m ∧ z = some sz then some (some (.ptr id (off + i.toNat * sz)), S) else none := rfl
def mf1 (S : St) (f : Nat) : Option (List AV) → Option (Option AV × St)
  | some cs => if cs.all AV.cap = true then some (some (mkFn f cs), S) else none
  | none => none
theorem o_mf {caps : Array Operand} : opA T call d ⟨dst, .makeFunc (.func f) #[] caps, ty, pos, af, gd⟩ S = mf1 S f (evs T S caps.toList []) := by
  simp only [opA, List.size_toArray, List.length_nil, if_true, mf1]
  cases evs T S caps.toList [] <;> rfl
theorem mf_some {cs : List AV} : mf1 S f (some cs) = if cs.all AV.cap = true then some (some (mkFn f cs), S) else none := rfl
theorem cap_d {v : DV} : AV.cap (.d v) = v.leaf := rfl
theorem cap_own {sz : Nat} {xs : List DV} {tok : Option Id} : AV.cap (.own sz xs tok) = true := rfl
theorem cap_ptr {id : Id} {o : Nat} : AV.cap (.ptr id o) = true := rfl
theorem lf_int {j : IntKind} {i : Int} : DV.leaf (.int j i) = true := rfl
theorem lf_bool {c : Bool} : DV.leaf (.bool c) = true := rfl
theorem lf_str {s : List UInt8} : DV.leaf (.str s) = true := rfl
theorem lf_sl {sz : Nat} {xs : List DV} : DV.leaf (.sl sz xs) = true := rfl
theorem lf_fn {cs : List DV} : DV.leaf (.fn f cs) = true := rfl
theorem lf_rp {cs : List DV} : DV.leaf (.rp cs) = true := rfl
/-! built-in functions -/
def bi1 (T : Tab) (d k : Nat) (S : St) (b : Builtin) (ts : List Nat) : Option (List AV) → Option (AV × St)
  | some xs => builtinA T d k S b ts xs
  | none => none
theorem o_bi {b : Builtin} {args : Array Operand} {ts : Array Nat} : opA T call d ⟨dst, .call { callee := .builtin b, args := args, argTypes := ts }, ty, pos, af, gd⟩ S = v2 (bi1 T d (dst.getD 0) S b ts.toList (evs T S args.toList ts.toList)) := by
  cases h : evs T S args.toList ts.toList with
  | none => simp only [opA, h]; rfl
  | some a => simp only [opA, h]; rfl
theorem bi_some {b : Builtin} {ts : List Nat} {xs : List AV} : bi1 T d k S b ts (some xs) = builtinA T d k S b ts xs := rfl
def ln1 (S : St) : Option Nat → Option (AV × St)
  | some n => some (.d (.int .i64 (n : Int)), S)
  | none => none
theorem bl_len {v : AV} : builtinA T d k S .len [t] [v] = ln1 S (lenA T S t v) := by
  simp only [builtinA, ln1]
  cases lenA T S t v <;> rfl
theorem ln_some : ln1 S (some n) = some (.d (.int .i64 (n : Int)), S) := rfl
def la0 (S : St) : Option TypeDesc → AV → Option Nat
  | some .string, x => match x with
    | .d (.str s) => some s.length
    | _ => none
  | some (.slice _), x => match x with
    | .d (.sl _ xs) => some xs.length
    | .own _ xs _ => some xs.length
    | .arr id _ n _ => match S.H.get id with
      | some (.box _) => some n
      | _ => none
    | _ => none
  | some (.array n _), _ => some n
  | _, _ => none
theorem la_eq {v : AV} : lenA T S t v = la0 S (T.und t) v := by
  simp only [lenA, la0]
  cases T.und t with
  | none => rfl
  | some u => cases u <;> rfl
theorem la_str {s : List UInt8} : la0 S (some .string) (.d (.str s)) = some s.length := rfl
theorem la_sl {e sz : Nat} {xs : List DV} : la0 S (some (.slice e)) (.d (.sl sz xs)) = some xs.length := rfl
theorem la_own {e sz : Nat} {xs : List DV} {tok : Option Id} : la0 S (some (.slice e)) (.own sz xs tok) = some xs.length := rfl
def la4 (m : Nat) : Option Place → Option Nat
  | some (.box _) => some m
  | _ => none
theorem la_arr {e off m sz : Nat} {id : Id} : la0 ⟨Q, H, g⟩ (some (.slice e)) (.arr id off m sz) = la4 m (H.get id) := by
  simp only [la0, la4]
theorem la_4 {m : Nat} {cs : List AV} : la4 m (some (.box cs)) = some m := rfl
theorem bl_min {j m : IntKind} {a b : Int} {ts : List Nat} : builtinA T d k S .min ts [.d (.int j a), .d (.int m b)] = some (.d (.int j (if b < a then b else a)), S) := rfl
theorem bl_max {j m : IntKind} {a b : Int} {ts : List Nat} : builtinA T d k S .max ts [.d (.int j a), .d (.int m b)] = some (.d (.int j (if b > a then b else a)), S) := rfl
/-! strings -/
theorem b_sadd {a b : List UInt8} : bin1 T .add t (some (.d (.str a))) (some (.d (.str b))) = if a.length + b.length ≤ 9223372036854775807 then some (.d (.str (a ++ b))) else none := by
  simp only [bin1, binOpA, binStr]
  split <;> rfl
theorem b_seql {a b : List UInt8} : bin1 T .eql t (some (.d (.str a))) (some (.d (.str b))) = some (.d (.bool (a == b))) := rfl
theorem b_sneq {a b : List UInt8} : bin1 T .neq t (some (.d (.str a))) (some (.d (.str b))) = some (.d (.bool (!(a == b)))) := rfl
theorem b_slss {a b : List UInt8} : bin1 T .lss t (some (.d (.str a))) (some (.d (.str b))) = some (.d (.bool (bytesLt a b))) := rfl
/-! comparison cell by cell -/
def eq3 (ls : List TypeDesc) : Option (List AV) → Option (List AV) → Option Bool
  | some cs, some ds => eqCells ls cs ds
  | _, _ => none
def eq1 (x y : AV) : Option (List TypeDesc) → Option Bool → Option Bool
  | some ls, some true => eq3 ls (aggCells x) (aggCells y)
  | some ls, some false => eqCells ls [x] [y]
  | _, _ => none
theorem eqA_eq {v w : AV} : eqA T t v w = eq1 v w (leaves T 8 t) (isAgg T t) := by
  unfold eqA eq1
  cases leaves T 8 t with
  | none => rfl
  | some ls => cases isAgg T t with
    | none => rfl
    | some c => cases c with
      | false => rfl
      | true => simp only [eq3]; cases aggCells v <;> cases aggCells w <;> rfl
def eqb : Option Bool → Option AV
  | some b => some (.d (.bool b))
  | none => none
def neb : Option Bool → Option AV
  | some b => some (.d (.bool (!b)))
  | none => none
theorem b_aeql {a b : List DV} : bin1 T .eql t (some (.d (.agg a))) (some (.d (.agg b))) = eqb (eqA T t (.d (.agg a)) (.d (.agg b))) := by
  simp only [bin1, binOpA]
  cases eqA T t (.d (.agg a)) (.d (.agg b)) <;> rfl
theorem b_aneq {a b : List DV} : bin1 T .neq t (some (.d (.agg a))) (some (.d (.agg b))) = neb (eqA T t (.d (.agg a)) (.d (.agg b))) := by
  simp only [bin1, binOpA]
  cases eqA T t (.d (.agg a)) (.d (.agg b)) <;> rfl
theorem b_beql {a b : Bool} : bin1 T .eql t (some (.d (.bool a))) (some (.d (.bool b))) = eqb (eqA T t (.d (.bool a)) (.d (.bool b))) := by
  simp only [bin1, binOpA]
  cases eqA T t (.d (.bool a)) (.d (.bool b)) <;> rfl
theorem b_bneq {a b : Bool} : bin1 T .neq t (some (.d (.bool a))) (some (.d (.bool b))) = neb (eqA T t (.d (.bool a)) (.d (.bool b))) := by
  simp only [bin1, binOpA]
  cases eqA T t (.d (.bool a)) (.d (.bool b)) <;> rfl
theorem eqb_some {c : Bool} : eqb (some c) = some (.d (.bool c)) := rfl
theorem neb_some {c : Bool} : neb (some c) = some (.d (.bool (!c))) := rfl
theorem eq1_t {v w : AV} {ls : List TypeDesc} : eq1 v w (some ls) (some true) = eq3 ls (aggCells v) (aggCells w) := rfl
theorem eq1_f {v w : AV} {ls : List TypeDesc} : eq1 v w (some ls) (some false) = eqCells ls [v] [w] := rfl
theorem eq3_some {ls : List TypeDesc} {cs ds : List AV} : eq3 ls (some cs) (some ds) = eqCells ls cs ds := rfl
def and1 : Option Bool → Option Bool → Option Bool
  | some a, some b => some (a && b)
  | _, _ => none
theorem ec_nil : eqCells [] [] [] = some true := rfl
theorem ec_cons {e : TypeDesc} {ts : List TypeDesc} {v w : AV} {r s : List AV} : eqCells (e :: ts) (v :: r) (w :: s) = and1 (eqCell e v w) (eqCells ts r s) := by
  simp only [eqCells, and1]
  cases eqCell e v w <;> cases eqCells ts r s <;> rfl
theorem and_some {a b : Bool} : and1 (some a) (some b) = some (a && b) := rfl
theorem ec_int {j k : IntKind} {a b : Int} : eqCell (.int j) (.d (.int k a)) (.d (.int k b)) = some (a == b) := by simp [eqCell]
theorem ec_bool {a b : Bool} : eqCell .bool (.d (.bool a)) (.d (.bool b)) = some (a == b) := rfl
theorem ec_str {a b : List UInt8} : eqCell .string (.d (.str a)) (.d (.str b)) = some (a == b) := rfl
/-! shifts -/
theorem b_shl {j m : IntKind} {a b : Int} : bin1 T .shl t (some (.d (.int j a))) (some (.d (.int m b))) = if b < 0 then none else some (.d (.int j (j.wrap (a * 2 ^ (min b.toNat j.bits))))) := by
  simp only [bin1, binOpA]
  split <;> rfl
theorem b_shr {j m : IntKind} {a b : Int} : bin1 T .shr t (some (.d (.int j a))) (some (.d (.int m b))) = if b < 0 then none else some (.d (.int j (a.fdiv (2 ^ (min b.toNat j.bits))))) := by
  simp only [bin1, binOpA]
  split <;> rfl
/-! building -/
def pt1 (i : Nat) : Option AV → Option (List (Nat × AV)) → Option (List (Nat × AV))
  | some v, some s => some ((i, v) :: s)
  | _, _ => none
theorem pt_nil {p : Nat → Nat} : partsA T S p [] = some [] := rfl
theorem pt_cons {p : Nat → Nat} {i : Nat} {r : List (Nat × Operand)} : partsA T S p ((i, x) :: r) = pt1 i (ev T S (p i) x) (partsA T S p r) := by
  simp only [partsA, pt1]
  cases ev T S (p i) x <;> cases partsA T S p r <;> rfl
theorem pt_some {i : Nat} {v : AV} {s : List (Nat × AV)} : pt1 i (some v) (some s) = some ((i, v) :: s) := rfl
def bd1 (T : Tab) (S : St) (t : Nat) : Option (Nat × Nat × List AV) → Option (List (Nat × AV)) → Option (Option AV × St)
  | some (_, _, zero), some ps => if ps.all (fun p => noTup p.2) = true then v1 S ((buildA T t zero ps).map mkAgg) else none
  | _, _ => none
theorem o_build {ps : Array (Nat × Operand)} : opA T call d ⟨dst, .build t ps, ty, pos, af, gd⟩ S = bd1 T S t (T.inf t) (partsA T S (partType T t) ps.toList) := by
  cases h : T.inf t with
  | none => simp only [opA, h]; rfl
  | some q =>
    obtain ⟨a, b, zero⟩ := q
    cases h2 : partsA T S (partType T t) ps.toList with
    | none => simp only [opA, h, h2]; rfl
    | some s =>
      simp only [opA, h, h2, bd1]
      split <;> rfl
theorem bd_some {a b : Nat} {zero : List AV} {ps : List (Nat × AV)} : bd1 T S t (some (a, b, zero)) (some ps) = if ps.all (fun p => noTup p.2) = true then v1 S ((buildA T t zero ps).map mkAgg) else none := rfl
def bs2 (S : St) (n : Nat) : Option (List DV) → Option (Option AV × St)
  | some ds => some (some (.own n ds none), S)
  | none => none
def bs3 (T : Tab) (S : St) (e n len : Nat) : Option (List AV) → Option (Option AV × St)
  | some cs => bs2 S n (elemsL T e n len cs)
  | none => none
def bs1 (T : Tab) (S : St) (e len m : Nat) : Option (Nat × Nat × List AV) → Option (List (Nat × AV)) → Option (Option AV × St)
  | some (n, _, zero), some ps => if len = 0 ∧ m = 0 then some (some (.own n [] none), S) else if 0 < n ∧ 0 < len ∧ len * n ≤ 16777216 ∧ ps.all (fun p => noTup p.2) = true then bs3 T S e n len (fillA (fun i => some (i * n, n)) (List.replicate len zero).flatten ps) else none
  | _, _ => none
def bs0 (T : Tab) (S : St) (t len : Nat) (ps : List (Nat × Operand)) : Option TypeDesc → Option (Option AV × St)
  | some (.slice e) => bs1 T S e len ps.length (T.inf e) (partsA T S (partType T t) ps)
  | _ => none
theorem o_bs {ps : Array (Nat × Operand)} {len : Nat} : opA T call d ⟨dst, .buildSlice t len ps, ty, pos, af, gd⟩ S = bs0 T S t len ps.toList (T.und t) := by
  cases hu : T.und t with
  | none => simp only [opA, hu]; rfl
  | some u =>
    cases u with
    | slice e =>
      simp only [bs0]
      cases h : T.inf e with
      | none => simp only [opA, hu, h]; rfl
      | some q =>
        obtain ⟨n, b, zero⟩ := q
        cases h2 : partsA T S (partType T t) ps.toList with
        | none => simp only [opA, hu, h, h2]; rfl
        | some s =>
          simp only [opA, hu, h, h2, bs1, Array.length_toList]
          split
          · rfl
          split
          · simp only [bs3]
            cases fillA (fun i => some (i * n, n)) (List.replicate len zero).flatten s with
            | none => rfl
            | some cs => simp only [bs2]; cases elemsL T e n len cs <;> rfl
          · rfl
    | _ => simp only [opA, hu]; rfl
theorem bs_0 {len e : Nat} {ps : List (Nat × Operand)} : bs0 T S t len ps (some (.slice e)) = bs1 T S e len ps.length (T.inf e) (partsA T S (partType T t) ps) := rfl
theorem bs_1 {e len m : Nat} {zero : List AV} {ps : List (Nat × AV)} : bs1 T S e len m (some (n, b, zero)) (some ps) = if len = 0 ∧ m = 0 then some (some (.own n [] none), S) else if 0 < n ∧ 0 < len ∧ len * n ≤ 16777216 ∧ ps.all (fun p => noTup p.2) = true then bs3 T S e n len (fillA (fun i => some (i * n, n)) (List.replicate len zero).flatten ps) else none := rfl
theorem bs_3 {e len : Nat} {cs : List AV} : bs3 T S e n len (some cs) = bs2 S n (elemsL T e n len cs) := rfl
theorem bs_2 {ds : List DV} : bs2 S n (some ds) = some (some (.own n ds none), S) := rfl
def el1 : Option AV → Option (List DV) → Option (List DV)
  | some y, some s => (toD y).map fun z => z :: s
  | _, _ => none
theorem el_0 {e : Nat} {cs : List AV} : elemsL T e n 0 cs = some [] := rfl
theorem el_s {e : Nat} {cs : List AV} {m : Nat} : elemsL T e n (m + 1) cs = el1 (mkVar T e (cs.take n)) (elemsL T e n m (cs.drop n)) := by
  simp only [elemsL, el1]
  cases mkVar T e (cs.take n) with
  | none => rfl
  | some v => cases elemsL T e n m (cs.drop n) with
    | none => rfl
    | some s => simp only; cases toD v <;> rfl
theorem el_some {v : DV} {s : List DV} : el1 (some (.d v)) (some s) = some (v :: s) := rfl
theorem fl_nil {p : Nat → Option (Nat × Nat)} {cs : List AV} : fillA p cs [] = some cs := rfl
def fl1 (p : Nat → Option (Nat × Nat)) (cs : List AV) (v : AV) (r : List (Nat × AV)) : Option (Nat × Nat) → Option (List AV)
  | some (o, n) => if v.cells.length ≠ n ∨ o + n > cs.length then none else fillA p (setCells cs o v.cells) r
  | none => none
theorem fl_cons {p : Nat → Option (Nat × Nat)} {cs : List AV} {i : Nat} {v : AV} {r : List (Nat × AV)} : fillA p cs ((i, v) :: r) = fl1 p cs v r (p i) := by
  simp only [fillA, fl1]
  cases p i <;> rfl
theorem fl_some {p : Nat → Option (Nat × Nat)} {cs : List AV} {v : AV} {r : List (Nat × AV)} {o : Nat} : fl1 p cs v r (some (o, n)) = if v.cells.length ≠ n ∨ o + n > cs.length then none else fillA p (setCells cs o v.cells) r := rfl
theorem bA_struct {fs : Array Field} {zero : List AV} {ps : List (Nat × AV)} {pl : List (Nat × Nat)} (h : T.und t = some (.struct fs)) (h2 : placesL T fs.toList = some pl) : buildA T t zero ps = fillA (fun i => pl[i]?) zero ps := by
  simp only [buildA, h, h2]
/-! append -/
def ap2 (d k : Nat) (Q : Tm) (H : Heap) (g : List Nat) (sz : Nat) (xs ys : List DV) (id : Id) : Option Place → Option (AV × St)
  | some (.grow fr) => if fr = xs.length * sz then some (.own sz (xs ++ ys) (some id), ⟨Q, H.put id (.grow ((xs ++ ys).length * sz)), g⟩) else none
  | _ => none
def ap1 (d k : Nat) (Q : Tm) (H : Heap) (g : List Nat) (sz : Nat) (xs ys : List DV) : Option Id → Option (AV × St)
  | none => some (.own sz (xs ++ ys) (some ⟨d, k, 0 :: g⟩), ⟨Q, (⟨d, k, 0 :: g⟩, .grow ((xs ++ ys).length * sz)) :: H, 1 :: g⟩)
  | some id => ap2 d k Q H g sz xs ys id (H.get id)
def ap4 (d k : Nat) (Q : Tm) (H : Heap) (g : List Nat) (sz : Nat) (xs : List DV) (tok : Option Id) : Option (Nat × Nat × List AV) → Option (Nat × List DV) → Option (AV × St)
  | some (n, bytes, _), some (sz', ys) => if sz = n ∧ sz' = n ∧ 0 < n ∧ 0 < bytes ∧ (xs.length + ys.length) * bytes ≤ 140737488355328 then ap1 d k Q H g sz xs ys tok else none
  | _, _ => none
def ap3 (T : Tab) (d k : Nat) (Q : Tm) (H : Heap) (g : List Nat) (sz : Nat) (xs : List DV) (tok : Option Id) (v : AV) : Option TypeDesc → Option (AV × St)
  | some (.slice e) => ap4 d k Q H g sz xs tok (T.inf e) (elemsA v)
  | _ => none
def eo2 : Option (Nat × Nat × List AV) → Option (Nat × Nat)
  | some (n, bytes, _) => if 0 < n ∧ 0 < bytes then some (n, bytes) else none
  | none => none
def eo1 (T : Tab) : Option TypeDesc → Option (Nat × Nat)
  | some (.slice e) => eo2 (T.inf e)
  | _ => none
theorem eo_eq : elemOf T [t, t] = eo1 T (T.und t) := by
  cases hu : T.und t with
  | none => simp only [elemOf, hu]; rfl
  | some u => cases u with
    | slice e =>
      cases hi : T.inf e with
      | none => simp only [elemOf, hu, eo1, hi]; rfl
      | some q => simp [elemOf, hu, eo1, hi, eo2]
    | _ => simp only [elemOf, hu]; rfl
theorem eo_1 {e : Nat} : eo1 T (some (.slice e)) = eo2 (T.inf e) := rfl
theorem eo_2 {bytes : Nat} {zero : List AV} : eo2 (some (n, bytes, zero)) = if 0 < n ∧ 0 < bytes then some (n, bytes) else none := rfl
def lc1 (off m sz : Nat) : Option Place → Option (Nat × Nat × List AV)
  | some (.box cs) => if off + m * sz ≤ cs.length then some (sz, m, (cs.drop off).take (m * sz)) else none
  | _ => none
theorem lc_arr {id : Id} {off m sz : Nat} : listC ⟨Q, H, g⟩ (.arr id off m sz) = lc1 off m sz (H.get id) := by
  unfold listC lc1
  simp only
  cases H.get id with
  | none => rfl
  | some p => cases p <;> rfl
theorem lc_1 {off m sz : Nat} {cs : List AV} : lc1 off m sz (some (.box cs)) = if off + m * sz ≤ cs.length then some (sz, m, (cs.drop off).take (m * sz)) else none := rfl
theorem lc_sl {sz : Nat} {xs : List DV} : listC S (.d (.sl sz xs)) = some (sz, xs.length, flatD xs) := rfl
theorem lc_own {sz : Nat} {xs : List DV} {tok : Option Id} : listC S (.own sz xs tok) = some (sz, xs.length, flatD xs) := rfl
def am1 (d k : Nat) (Q : Tm) (H : Heap) (g : List Nat) (sz : Nat) : Option (Nat × Nat) → Option (Nat × Nat × List AV) → Option (AV × St)
  | some (n, bytes), some (sz', m, ys) => if sz = n ∧ sz' = n ∧ m * bytes ≤ 140737488355328 then
      if m = 0 then some (.own sz [] none, ⟨Q, H, g⟩) else some (.arr ⟨d, k, 0 :: g⟩ 0 m sz, ⟨Q, (⟨d, k, 0 :: g⟩, .box ys) :: H, 1 :: g⟩) else none
  | _, _ => none
def apm (T : Tab) (d k t : Nat) (Q : Tm) (H : Heap) (g : List Nat) (sz : Nat) (xs : List DV) (tok : Option Id) (v : AV) : Bool → Option (AV × St)
  | true => match xs, tok with
    | [], none => am1 d k Q H g sz (elemOf T [t, t]) (listC ⟨Q, H, g⟩ v)
    | _, _ => none
  | false => ap3 T d k Q H g sz xs tok v (T.und t)
theorem bl_app {sz : Nat} {xs : List DV} {tok : Option Id} {v : AV} : builtinA T d k ⟨Q, H, g⟩ .append [t, t] [.own sz xs tok, v] = apm T d k t Q H g sz xs tok v (T.mutA t k) := by
  cases hm : T.mutA t k with
  | true =>
    simp only [builtinA, appendA, apm, List.headD_cons, hm, if_true]
    cases xs with
    | cons _ _ => rfl
    | nil =>
      cases tok with
      | some _ => rfl
      | none =>
        cases hz : zerosT T [t, t] with
        | false =>
          simp only [Bool.false_eq_true, if_false, appendM, am1]
          cases elemOf T [t, t] with
          | none => rfl
          | some q => cases listC ⟨Q, H, g⟩ v <;> rfl
        | true =>
          have hq : ∃ q, T.und t = some (.int q) := by
            simp only [zerosT] at hz
            cases hq : T.und t with
            | none => rw [hq] at hz; cases hz
            | some q => rw [hq] at hz; cases q <;> first | exact ⟨_, rfl⟩ | cases hz
          obtain ⟨q, hq⟩ := hq
          have he : elemOf T [t, t] = none := by simp [elemOf, hq]
          rw [he, if_pos rfl]
          have hn : appendZ T d k ⟨Q, H, g⟩ [t, t] sz v = none := by
            unfold appendZ
            split
            · rename_i heq
              simp only [List.cons.injEq] at heq
              obtain ⟨rfl, _⟩ := heq
              simp only [hq]
            · rfl
          rw [hn]
          rfl
  | false =>
    simp only [builtinA, appendA, apm, List.headD_cons, hm, Bool.false_eq_true, if_false]
    cases hu : T.und t with
    | none => simp only [appendO, hu]; rfl
    | some u => cases u with
      | slice e =>
        simp only [appendO, hu, ap3]
        cases hi : T.inf e with
        | none => rfl
        | some q =>
          obtain ⟨n, bytes, zero⟩ := q
          cases hv : elemsA v with
          | none => rfl
          | some q =>
            obtain ⟨sz', ys⟩ := q
            simp only [ap4, true_and]
            split
            · cases tok with
              | none => rfl
              | some id =>
                simp only [ap1]
                cases H.get id with
                | none => rfl
                | some p => cases p <;> rfl
            · rfl
      | _ => simp only [appendO, hu]; rfl
theorem apm_f {sz : Nat} {xs : List DV} {tok : Option Id} {v : AV} : apm T d k t Q H g sz xs tok v false = ap3 T d k Q H g sz xs tok v (T.und t) := rfl
theorem apm_t {sz : Nat} {v : AV} : apm T d k t Q H g sz [] none v true = am1 d k Q H g sz (elemOf T [t, t]) (listC ⟨Q, H, g⟩ v) := rfl
theorem am_1 {sz sz' bytes m : Nat} {ys : List AV} : am1 d k Q H g sz (some (n, bytes)) (some (sz', m, ys)) = if sz = n ∧ sz' = n ∧ m * bytes ≤ 140737488355328 then
      if m = 0 then some (.own sz [] none, ⟨Q, H, g⟩) else some (.arr ⟨d, k, 0 :: g⟩ 0 m sz, ⟨Q, (⟨d, k, 0 :: g⟩, .box ys) :: H, 1 :: g⟩) else none := rfl
def apz2 (d k : Nat) (Q : Tm) (H : Heap) (g : List Nat) (sz : Nat) (n : Int) : Option (Nat × Nat × List AV) → Option (AV × St)
  | some (c, bytes, zero) => if sz = c ∧ 0 < c ∧ 0 < bytes ∧ 0 ≤ n ∧ n.toNat * bytes ≤ 140737488355328 then
      if n.toNat = 0 then some (.own sz [] none, ⟨Q, H, g⟩) else some (.arr ⟨d, k, 0 :: g⟩ 0 n.toNat sz, ⟨Q, (⟨d, k, 0 :: g⟩, .box (List.replicate n.toNat zero).flatten) :: H, 1 :: g⟩) else none
  | none => none
def apz (T : Tab) (d k : Nat) (Q : Tm) (H : Heap) (g : List Nat) (t u sz : Nat) (j : IntKind) (n : Int) : Bool → Option TypeDesc → Option TypeDesc → Option (AV × St)
  | true, some (.int _), some (.slice e) => apz2 d k Q H g sz n (T.inf e)
  | _, _, _ => appendA T d k ⟨Q, H, g⟩ [t, u] (.own sz [] none) (.d (.int j n))
theorem bl_appZ {sz u : Nat} {j : IntKind} {n : Int} : builtinA T d k ⟨Q, H, g⟩ .append [t, u] [.own sz [] none, .d (.int j n)] = apz T d k Q H g t u sz j n (T.mutA t k) (T.und u) (T.und t) := by
  unfold apz
  split
  · rename_i h1 h2 h3
    rename_i e
    have hz : zerosT T [t, u] = true := by simp only [zerosT, h2]
    simp only [builtinA, appendA, List.headD_cons, h1, if_true, hz, appendZ, h3]
    cases T.inf e with
    | none => rfl
    | some q => obtain ⟨c, b, z⟩ := q; rfl
  · rfl
theorem apz_1 {sz u e : Nat} {j q : IntKind} {n : Int} : apz T d k Q H g t u sz j n true (some (.int q)) (some (.slice e)) = apz2 d k Q H g sz n (T.inf e) := rfl
theorem apz_2 {sz c bytes : Nat} {n : Int} {zero : List AV} : apz2 d k Q H g sz n (some (c, bytes, zero)) = if sz = c ∧ 0 < c ∧ 0 < bytes ∧ 0 ≤ n ∧ n.toNat * bytes ≤ 140737488355328 then
      if n.toNat = 0 then some (.own sz [] none, ⟨Q, H, g⟩) else some (.arr ⟨d, k, 0 :: g⟩ 0 n.toNat sz, ⟨Q, (⟨d, k, 0 :: g⟩, .box (List.replicate n.toNat zero).flatten) :: H, 1 :: g⟩) else none := rfl
def ab1 (d k : Nat) (Q : Tm) (H : Heap) (g : List Nat) (id : Id) (off c sz : Nat) : Option (Nat × Nat) → Option Place → Option (Nat × Nat × List AV) → Option (AV × St)
  | some (n, bytes), some (.box cs), some (sz', m, ys) =>
    if sz = n ∧ sz' = n ∧ (c + m) * bytes ≤ 140737488355328 then
      if off + (c + m) * sz ≤ cs.length then some (.arr id off (c + m) sz, ⟨Q, H.put id (.box (setCells cs (off + c * sz) ys)), g⟩)
      else if off = 0 ∧ c * sz = cs.length then some (.arr ⟨d, k, 0 :: g⟩ 0 (c + m) sz, ⟨Q, (⟨d, k, 0 :: g⟩, .box (cs ++ ys)) :: H.erase id, 1 :: g⟩)
      else none
    else none
  | _, _, _ => none
theorem bl_appB {id : Id} {off c sz : Nat} {v : AV} : builtinA T d k ⟨Q, H, g⟩ .append [t, t] [.arr id off c sz, v] = ab1 d k Q H g id off c sz (elemOf T [t, t]) (H.get id) (listC ⟨Q, H, g⟩ v) := by
  simp only [builtinA, appendA, appendB, ab1]
  cases elemOf T [t, t] with
  | none => rfl
  | some q =>
    cases H.get id with
    | none => rfl
    | some p => cases p <;> first | rfl | (cases listC ⟨Q, H, g⟩ v <;> rfl)
theorem ab_1 {id : Id} {off c sz sz' bytes m : Nat} {cs ys : List AV} : ab1 d k Q H g id off c sz (some (n, bytes)) (some (.box cs)) (some (sz', m, ys)) = if sz = n ∧ sz' = n ∧ (c + m) * bytes ≤ 140737488355328 then
      if off + (c + m) * sz ≤ cs.length then some (.arr id off (c + m) sz, ⟨Q, H.put id (.box (setCells cs (off + c * sz) ys)), g⟩)
      else if off = 0 ∧ c * sz = cs.length then some (.arr ⟨d, k, 0 :: g⟩ 0 (c + m) sz, ⟨Q, (⟨d, k, 0 :: g⟩, .box (cs ++ ys)) :: H.erase id, 1 :: g⟩)
      else none
    else none := rfl
theorem he_nil {i : Id} : Heap.erase [] i = [] := rfl
theorem he_cons {i j : Id} {p : Place} {r : Heap} : Heap.erase ((i, p) :: r) j = if i = j then Heap.erase r j else (i, p) :: Heap.erase r j := rfl
def cy1 (Q : Tm) (H : Heap) (g : List Nat) (id : Id) (off c sz : Nat) : Option (Nat × Nat) → Option Place → Option (Nat × Nat × List AV) → Option (AV × St)
  | some (n, _), some (.box cs), some (sz', m, ys) => if sz = n ∧ sz' = n ∧ off + c * sz ≤ cs.length ∧ c ≤ 9223372036854775807 then
      some (.d (.int .i64 (min m c : Nat)), ⟨Q, H.put id (.box (setCells cs off (ys.take (min m c * sz)))), g⟩) else none
  | _, _, _ => none
theorem bl_copy {id : Id} {off c sz : Nat} {v : AV} {ts : List Nat} : builtinA T d k ⟨Q, H, g⟩ .copy ts [.arr id off c sz, v] = cy1 Q H g id off c sz (elemOf T ts) (H.get id) (listC ⟨Q, H, g⟩ v) := by
  cases hu : elemOf T ts with
  | none => simp only [builtinA, copyA, cy1, hu]
  | some q =>
    cases hh : H.get id with
    | none => simp only [builtinA, copyA, cy1, hu, hh]
    | some p => cases p <;> first | (simp only [builtinA, copyA, cy1, hu, hh]; done) | (cases hl : listC ⟨Q, H, g⟩ v <;> simp only [builtinA, copyA, cy1, hu, hh, hl])
theorem cy_1 {id : Id} {off c sz sz' m bytes : Nat} {cs ys : List AV} : cy1 Q H g id off c sz (some (n, bytes)) (some (.box cs)) (some (sz', m, ys)) = if sz = n ∧ sz' = n ∧ off + c * sz ≤ cs.length ∧ c ≤ 9223372036854775807 then
      some (.d (.int .i64 (min m c : Nat)), ⟨Q, H.put id (.box (setCells cs off (ys.take (min m c * sz)))), g⟩) else none := rfl
def cz2 (Q : Tm) (H : Heap) (g : List Nat) (id : Id) (off c sz : Nat) : Option (Nat × Nat × List AV) → Option Place → Option (AV × St)
  | some (n, _, zero), some (.box cs) => if sz = n ∧ off + c * sz ≤ cs.length ∧ 0 < c then some (.tup [], ⟨Q, H.put id (.box (setCells cs off (List.replicate c zero).flatten)), g⟩) else none
  | _, _ => none
def cz1 (T : Tab) (Q : Tm) (H : Heap) (g : List Nat) (id : Id) (off c sz : Nat) : Option TypeDesc → Option (AV × St)
  | some (.slice e) => cz2 Q H g id off c sz (T.inf e) (H.get id)
  | _ => none
theorem bl_clear {id : Id} {off c sz : Nat} : builtinA T d k ⟨Q, H, g⟩ .clear [t] [.arr id off c sz] = cz1 T Q H g id off c sz (T.und t) := by
  cases hu : T.und t with
  | none => simp only [builtinA, clearA, cz1, hu]
  | some u => cases u with
    | slice e =>
      cases hi : T.inf e with
      | none => simp only [builtinA, clearA, cz1, hu, cz2, hi]
      | some q =>
        cases hh : H.get id with
        | none => simp only [builtinA, clearA, cz1, hu, cz2, hi, hh]
        | some p => cases p <;> simp only [builtinA, clearA, cz1, hu, cz2, hi, hh]
    | _ => simp only [builtinA, clearA, cz1, hu]
theorem cz_1 {e : Nat} {id : Id} {off c sz : Nat} : cz1 T Q H g id off c sz (some (.slice e)) = cz2 Q H g id off c sz (T.inf e) (H.get id) := rfl
theorem cz_2 {id : Id} {off c sz bytes : Nat} {zero cs : List AV} : cz2 Q H g id off c sz (some (n, bytes, zero)) (some (.box cs)) = if sz = n ∧ off + c * sz ≤ cs.length ∧ 0 < c then some (.tup [], ⟨Q, H.put id (.box (setCells cs off (List.replicate c zero).flatten)), g⟩) else none := rfl
def cc1 (S : St) (xs : List DV) : Option TypeDesc → Option (AV × St)
  | some (.slice _) => some (.d (.int .i64 xs.length), S)
  | _ => none
theorem bl_cap {sz : Nat} {xs : List DV} : builtinA T d k S .cap [t] [.own sz xs none] = cc1 S xs (T.und t) := by
  simp only [builtinA, capA, cc1]
  cases T.und t with
  | none => rfl
  | some u => cases u <;> rfl
theorem cc_1 {e : Nat} {xs : List DV} : cc1 S xs (some (.slice e)) = some (.d (.int .i64 xs.length), S) := rfl
theorem ap_3 {e sz : Nat} {xs : List DV} {tok : Option Id} {v : AV} : ap3 T d k Q H g sz xs tok v (some (.slice e)) = ap4 d k Q H g sz xs tok (T.inf e) (elemsA v) := rfl
theorem ap_4 {bytes sz sz' : Nat} {zero : List AV} {xs ys : List DV} {tok : Option Id} : ap4 d k Q H g sz xs tok (some (n, bytes, zero)) (some (sz', ys)) = if sz = n ∧ sz' = n ∧ 0 < n ∧ 0 < bytes ∧ (xs.length + ys.length) * bytes ≤ 140737488355328 then ap1 d k Q H g sz xs ys tok else none := rfl
theorem ap_none {sz : Nat} {xs ys : List DV} : ap1 d k Q H g sz xs ys none = some (.own sz (xs ++ ys) (some ⟨d, k, 0 :: g⟩), ⟨Q, (⟨d, k, 0 :: g⟩, .grow ((xs ++ ys).length * sz)) :: H, 1 :: g⟩) := rfl
theorem ap_some {sz : Nat} {xs ys : List DV} {id : Id} : ap1 d k Q H g sz xs ys (some id) = ap2 d k Q H g sz xs ys id (H.get id) := rfl
theorem ap_2 {sz fr : Nat} {xs ys : List DV} {id : Id} : ap2 d k Q H g sz xs ys id (some (.grow fr)) = if fr = xs.length * sz then some (.own sz (xs ++ ys) (some id), ⟨Q, H.put id (.grow ((xs ++ ys).length * sz)), g⟩) else none := rfl
/-! cuts -/
def sl2 (S : St) (mk : Nat → Nat → DV) : Option (Nat × Nat) → Option (Option AV × St)
  | some (i, j) => some (some (.d (mk i j)), S)
  | none => none
def sl3 (S : St) (sz : Nat) (xs : List DV) (l h : Option AV) (z : Option Nat) : Option (Option AV × St) := if z = some sz then sl2 S (fun i j => .sl sz ((xs.take j).drop i)) (sliceA xs.length l h) else none
def ov (S : St) : Option AV → Option (Option AV × St)
  | some y => some (some y, S)
  | none => none
theorem ov_1 {v : AV} : ov S (some v) = some (some v, S) := rfl
def sb1 (S : St) (id : Id) (off m sz : Nat) (l h : Option AV) (z : Option Nat) : Option Place → Option (Option AV × St)
  | some (.box cs) => if z = some sz then ov S (cutB cs id off m sz l h) else none
  | _ => none
theorem sb_1 {id : Id} {off m sz : Nat} {l h : Option AV} {z : Nat} {cs : List AV} : sb1 S id off m sz l h (some z) (some (.box cs)) = if z = sz then ov S (cutB cs id off m sz l h) else none := by simp only [sb1, Option.some.injEq]
def cu1 (id : Id) (off sz : Nat) : Option (Nat × Nat) → Option AV
  | some (l, h) => if h ≤ 9223372036854775807 then some (if l = 0 then .arr id off h sz else if l = h then .d (.sl sz []) else .arr id (off + l * sz) (h - l) sz) else none
  | none => none
theorem cu_1 {id : Id} {off sz l h : Nat} : cu1 id off sz (some (l, h)) = if h ≤ 9223372036854775807 then some (if l = 0 then .arr id off h sz else if l = h then .d (.sl sz []) else .arr id (off + l * sz) (h - l) sz) else none := rfl
def sl6 (S : St) (mk : Nat → Nat → AV) : Option (Nat × Nat) → Option (Option AV × St)
  | some (i, j) => some (some (mk i j), S)
  | none => none
def sl5 (S : St) (b : Bool) (sz : Nat) (xs : List DV) (tok : Option Id) (l h : Option AV) (z : Option Nat) : Option (Option AV × St) := if z = some sz then sl6 S (fun i j => cutO b (.own sz xs tok) (.sl sz ((xs.take j).drop i))) (sliceA xs.length l h) else none
theorem cutO_f {y : AV} {r : DV} : cutO false y r = .d r := by
  cases y with
  | own sz xs tok => cases xs <;> cases tok <;> rfl
  | _ => rfl
theorem cutO_d {b : Bool} {x r : DV} : cutO b (.d x) r = .d r := by cases b <;> rfl
theorem sl_of {sz : Nat} {xs : List DV} {tok : Option Id} {l h : Option AV} {z : Option Nat} : sl5 S false sz xs tok l h z = sl3 S sz xs l h z := by
  unfold sl5 sl3
  split
  · cases sliceA xs.length l h with
    | none => rfl
    | some q => obtain ⟨i, j⟩ := q; simp only [sl6, sl2, cutO_f]
  · rfl
def sl7 (S : St) (sz : Nat) : Option (Nat × Nat) → Option (Option AV × St)
  | some _ => some (some (.own sz [] none), S)
  | none => none
theorem sl_7 {sz : Nat} {q : Nat × Nat} : sl7 S sz (some q) = some (some (.own sz [] none), S) := rfl
theorem sl_ot {sz z : Nat} {l h : Option AV} : sl5 S true sz [] none l h (some z) = if z = sz then sl7 S sz (sliceA 0 l h) else none := by
  unfold sl5
  simp only [Option.some.injEq, List.length_nil]
  split
  · cases sliceA 0 l h <;> rfl
  · rfl
def sl1 (T : Tab) (b : Bool) (S : St) : Option (Option AV) → Option (Option AV) → Option AV → Option TypeDesc → Option (Option AV × St)
  | some l, some h, some (.d (.str s)), some .string => sl2 S (fun i j => .str ((s.take j).drop i)) (sliceA s.length l h)
  | some l, some h, some (.arr id off m sz), some (.slice e) => sb1 S id off m sz l h (size T e) (S.H.get id)
  | some l, some h, some (.own sz xs tok), some (.slice e) => sl5 S b sz xs tok l h (size T e)
  | some l, some h, some y, some (.slice e) => match elemsA y with
    | some (sz, xs) => sl3 S sz xs l h (size T e)
    | none => none
  | _, _, _, _ => none
theorem o_sl {lo hi : Option Operand} : opA T call d ⟨dst, .slice t x lo hi none, ty, pos, af, gd⟩ S = sl1 T (T.mutA t (dst.getD 0)) S (evO T S lo) (evO T S hi) (ev T S 0 x) (T.und t) := by
  cases h1 : evO T S lo with
  | none => simp only [opA, h1]; rfl
  | some l =>
    cases h2 : evO T S hi with
    | none => simp only [opA, h1, h2]; rfl
    | some h =>
      cases h3 : ev T S 0 x with
      | none => simp only [opA, h1, h2, h3]; rfl
      | some v =>
        cases hu : T.und t with
        | none => cases v <;> first | (simp only [opA, h1, h2, h3, hu]; rfl) | (rename_i w; cases w <;> (simp only [opA, h1, h2, h3, hu]; rfl))
        | some u =>
          cases u with
          | slice e =>
            cases v with
            | d w =>
              cases w with
              | sl sz xs =>
                simp only [opA, h1, h2, h3, hu, sl1, elemsA, sl3]
                split
                · cases sliceA xs.length l h with
                  | none => rfl
                  | some q => obtain ⟨i, j⟩ := q; simp only [cutO_d, sl2]
                · rfl
              | nils sz =>
                simp only [opA, h1, h2, h3, hu, sl1, elemsA, sl3]
                split
                · cases sliceA ([] : List DV).length l h with
                  | none => rfl
                  | some q => obtain ⟨i, j⟩ := q; simp only [cutO_d, sl2]
                · rfl
              | emps sz =>
                simp only [opA, h1, h2, h3, hu, sl1, elemsA, sl3]
                split
                · cases sliceA ([] : List DV).length l h with
                  | none => rfl
                  | some q => obtain ⟨i, j⟩ := q; simp only [cutO_d, sl2]
                · rfl
              | _ => simp only [opA, h1, h2, h3, hu] <;> rfl
            | own sz xs tok =>
              simp only [opA, h1, h2, h3, hu, sl1, elemsA, sl5]
              split
              · cases sliceA xs.length l h with
                | none => rfl
                | some q => obtain ⟨i, j⟩ := q; rfl
              · rfl
            | arr id off m sz =>
              simp only [opA, h1, h2, h3, hu, sl1]
              cases S.H.get id with
              | none => rfl
              | some p => cases p with
                | box cs =>
                  simp only [sb1]
                  split
                  · cases cutB cs id off m sz l h <;> rfl
                  · rfl
                | _ => rfl
            | _ => simp only [opA, h1, h2, h3, hu] <;> rfl
          | string =>
            cases v with
            | d w =>
              cases w with
              | str s =>
                simp only [opA, h1, h2, h3, hu, sl1]
                cases sliceA s.length l h <;> rfl
              | _ => simp only [opA, h1, h2, h3, hu] <;> rfl
            | _ => simp only [opA, h1, h2, h3, hu] <;> rfl
          | _ => cases v <;> first | (simp only [opA, h1, h2, h3, hu]; rfl) | (rename_i w; cases w <;> (simp only [opA, h1, h2, h3, hu]; rfl))
theorem sl_s {b : Bool} {l h : Option AV} {s : List UInt8} : sl1 T b S (some l) (some h) (some (.d (.str s))) (some .string) = sl2 S (fun i j => .str ((s.take j).drop i)) (sliceA s.length l h) := rfl
theorem sl_l {b : Bool} {l h : Option AV} {sz e : Nat} {xs : List DV} : sl1 T b S (some l) (some h) (some (.d (.sl sz xs))) (some (.slice e)) = sl3 S sz xs l h (size T e) := rfl
theorem sl_o {b : Bool} {l h : Option AV} {sz e : Nat} {xs : List DV} {tok : Option Id} : sl1 T b S (some l) (some h) (some (.own sz xs tok)) (some (.slice e)) = sl5 S b sz xs tok l h (size T e) := rfl
theorem sl_a {b : Bool} {l h : Option AV} {e off m sz : Nat} {id : Id} : sl1 T b ⟨Q, H, g⟩ (some l) (some h) (some (.arr id off m sz)) (some (.slice e)) = sb1 ⟨Q, H, g⟩ id off m sz l h (size T e) (H.get id) := rfl
theorem sl_3 {l h : Option AV} {sz z : Nat} {xs : List DV} : sl3 S sz xs l h (some z) = if z = sz then sl2 S (fun i j => .sl sz ((xs.take j).drop i)) (sliceA xs.length l h) else none := by
  simp only [sl3, Option.some.injEq]
def sa2 (h : Nat) : Option Nat → Option (Nat × Nat)
  | some l => some (l, h)
  | none => none
def sa1 (lo : Option AV) : Option Nat → Option (Nat × Nat)
  | some h => sa2 h (boundA h 0 lo)
  | none => none
theorem sa_eq {lo hi : Option AV} : sliceA n lo hi = sa1 lo (boundA n n hi) := by
  unfold sliceA
  cases boundA n n hi with
  | none => rfl
  | some h =>
    simp only [sa1]
    cases boundA h 0 lo <;> rfl
theorem cu_eq {cs : List AV} {id : Id} {off m sz : Nat} {lo hi : Option AV} : cutB cs id off m sz lo hi = if 0 < sz ∧ off ≤ cs.length then cu1 id off sz (sa1 lo (boundA ((cs.length - off) / sz) m hi)) else none := by
  unfold cutB sliceB
  split
  · cases boundA ((cs.length - off) / sz) m hi with
    | none => rfl
    | some h =>
      simp only [sa1]
      cases boundA h 0 lo <;> rfl
  · rfl
theorem sa_1 {h : Nat} {lo : Option AV} : sa1 lo (some h) = sa2 h (boundA h 0 lo) := rfl
theorem sa_2 {h l : Nat} : sa2 h (some l) = some (l, h) := rfl
theorem bo_n {a b : Nat} : boundA a b none = some b := rfl
theorem bo_i {a b : Nat} {j : IntKind} {h : Int} : boundA a b (some (.d (.int j h))) = if 0 ≤ h ∧ h ≤ a then some h.toNat else none := rfl
def sm2 (S : St) (sz : Nat) (xs : List DV) : Option (Nat × Nat) → Option (Option AV × St)
  | some (i, j) => some (some (.own sz ((xs.take j).drop i) none), S)
  | none => none
def sm1 (T : Tab) (S : St) (e : Nat) (l : Option AV) (k : IntKind) (a : Int) : Option AV → Option (Nat × List DV) → Option (Option AV × St)
  | some (.d (.int _ b)), some (sz, xs) => if a = b ∧ size T e = some sz then sm2 S sz xs (sliceA xs.length l (some (.d (.int k a)))) else none
  | _, _ => none
def sm3 (S : St) (off sz : Nat) (l : Option AV) (h : AV) (z : Option Nat) : Option Place → Option AV → Option (Option AV × St)
  | some (.box cs), some b => if z = some sz then ov S (cutM cs off sz l (some h) (some b)) else none
  | _, _ => none
theorem sm_3 {off sz z : Nat} {l : Option AV} {h b : AV} {cs : List AV} : sm3 S off sz l h (some z) (some (.box cs)) (some b) = if z = sz then ov S (cutM cs off sz l (some h) (some b)) else none := by simp only [sm3, Option.some.injEq]
def sm0 (T : Tab) (S : St) (m : Option AV) : Option (Option AV) → Option (Option AV) → Option AV → Option TypeDesc → Option (Option AV × St)
  | some l, some (some h), some (.arr id off _ sz), some (.slice e) => sm3 S off sz l h (size T e) (S.H.get id) m
  | some l, some (some (.d (.int k a))), some y, some (.slice e) => sm1 T S e l k a m (elemsA y)
  | _, _, _, _ => none
theorem o_sm {lo hi : Option Operand} : opA T call d ⟨dst, .slice t x lo hi (some y), ty, pos, af, gd⟩ S = sm0 T S (ev T S 0 y) (evO T S lo) (evO T S hi) (ev T S 0 x) (T.und t) := by
  have key : ∀ e l k a v, (match ev T S 0 y, elemsA v with
      | some (.d (.int _ b)), some (sz, xs) => if a = b ∧ size T e = some sz then match sliceA xs.length l (some (.d (.int k a))) with
        | some (i, j) => some (some (.own sz ((xs.take j).drop i) none), S)
        | none => none else none
      | _, _ => none) = sm1 T S e l k a (ev T S 0 y) (elemsA v) := fun e l k a v => by
    cases ev T S 0 y with
    | none => rfl
    | some p => cases p with
      | d q => cases q with
        | int j b => cases elemsA v with
          | none => rfl
          | some z =>
            obtain ⟨sz, xs⟩ := z
            simp only [sm1, sm2]
        | _ => rfl
      | _ => rfl
  cases h1 : evO T S lo with
  | none => simp only [opA, h1]; rfl
  | some l =>
    cases h2 : evO T S hi with
    | none => simp only [opA, h1, h2]; rfl
    | some h =>
      cases h with
      | none => simp only [opA, h1, h2]; rfl
      | some h =>
        cases h3 : ev T S 0 x with
        | none => simp only [opA, h1, h2, h3]; cases h <;> first | rfl | (rename_i w; cases w <;> rfl)
        | some v =>
          cases hu : T.und t with
          | none => cases v <;> cases h <;> first | (simp only [opA, h1, h2, h3, hu]; rfl) | (rename_i w; cases w <;> (simp only [opA, h1, h2, h3, hu]; rfl))
          | some u =>
            cases u with
            | slice e =>
              cases v with
              | arr id off m sz =>
                simp only [opA, h1, h2, h3, hu, sm0, sm3]
                cases S.H.get id with
                | none => rfl
                | some p => cases p with
                  | box cs =>
                    cases ev T S 0 y with
                    | none => rfl
                    | some b =>
                      simp only
                      split
                      · cases cutM cs off sz l (some h) (some b) <;> rfl
                      · rfl
                  | _ => rfl
              | _ =>
                cases h with
                | d w => cases w with
                  | int j a => simp only [opA, h1, h2, h3, hu, sm0]; exact key _ _ _ _ _
                  | _ => simp only [opA, h1, h2, h3, hu]; rfl
                | _ => simp only [opA, h1, h2, h3, hu]; rfl
            | _ => cases v <;> cases h <;> first | (simp only [opA, h1, h2, h3, hu]; rfl) | (rename_i w; cases w <;> (simp only [opA, h1, h2, h3, hu]; rfl))
theorem sm_0 {m l : Option AV} {k : IntKind} {a : Int} {v : DV} {e : Nat} : sm0 T S m (some l) (some (some (.d (.int k a)))) (some (.d v)) (some (.slice e)) = sm1 T S e l k a m (elemsA (.d v)) := rfl
theorem sm_0o {m l : Option AV} {k : IntKind} {a : Int} {sz : Nat} {xs : List DV} {tok : Option Id} {e : Nat} : sm0 T S m (some l) (some (some (.d (.int k a)))) (some (.own sz xs tok)) (some (.slice e)) = sm1 T S e l k a m (some (sz, xs)) := rfl
theorem sm_a {m l : Option AV} {h : AV} {id : Id} {off c sz e : Nat} : sm0 T ⟨Q, H, g⟩ m (some l) (some (some h)) (some (.arr id off c sz)) (some (.slice e)) = sm3 ⟨Q, H, g⟩ off sz l h (size T e) (H.get id) m := rfl
def cm3 : Option Nat → Nat → Nat → Option AV
  | some _, m, sz => some (if m = 0 then .own sz [] none else .d .any)
  | none, _, _ => none
def cm2 (lo : Option AV) (m sz : Nat) : Option Nat → Option AV
  | some h => cm3 (boundA h 0 lo) m sz
  | none => none
def cm1 (lo hi : Option AV) (sz : Nat) : Option Nat → Option AV
  | some m => cm2 lo m sz (boundA m 0 hi)
  | none => none
theorem cm_eq {cs : List AV} {off sz : Nat} {lo hi mx : Option AV} : cutM cs off sz lo hi mx = if 0 < sz ∧ off ≤ cs.length then cm1 lo hi sz (boundA ((cs.length - off) / sz) 0 mx) else none := by
  unfold cutM
  split
  · cases boundA ((cs.length - off) / sz) 0 mx with
    | none => rfl
    | some m =>
      simp only [cm1]
      cases boundA m 0 hi with
      | none => rfl
      | some h =>
        simp only [cm2]
        cases boundA h 0 lo <;> rfl
  · rfl
theorem cm_1 {lo hi : Option AV} {sz m : Nat} : cm1 lo hi sz (some m) = cm2 lo m sz (boundA m 0 hi) := rfl
theorem cm_2 {lo : Option AV} {sz m h : Nat} : cm2 lo m sz (some h) = cm3 (boundA h 0 lo) m sz := rfl
theorem cm_3 {sz m l : Nat} : cm3 (some l) m sz = some (if m = 0 then .own sz [] none else .d .any) := rfl
/-! maps -/
theorem o_mm : opA T call d ⟨dst, .makeMap t none, ty, pos, af, gd⟩ ⟨Q, H, g⟩ = some (some (.mp ⟨d, dst.getD 0, 0 :: g⟩), ⟨Q, (⟨d, dst.getD 0, 0 :: g⟩, .mpl []) :: H, 1 :: g⟩) := rfl
def mo1 : Option Place → Option (List (DV × DV))
  | some (.mpl es) => some es
  | _ => none
theorem mo_mp {id : Id} : mapOf ⟨Q, H, g⟩ (.mp id) = mo1 (H.get id) := by
  unfold mapOf mo1
  simp only
  cases H.get id with
  | none => rfl
  | some p => cases p <;> rfl
theorem mo_1 {es : List (DV × DV)} : mo1 (some (.mpl es)) = some es := rfl
theorem mo_d {es : List (DV × DV)} : mapOf S (.d (.mp es)) = some es := rfl
theorem mo_u {es : List (DV × DV)} : mapOf S (.d (.ump es)) = some es := rfl
def lk5 (c : Bool) : Option AV → Option AV
  | some z => some (if c then .tup [z, .d (.bool false)] else z)
  | none => none
def lk4 (T : Tab) (et : Nat) (c : Bool) : Option (Nat × Nat × List AV) → Option AV
  | some (_, _, zero) => lk5 c (mkVar T et zero)
  | none => none
def lk3 (T : Tab) (et : Nat) (c : Bool) : Option (Option DV) → Option AV
  | some (some x) => some (if c then .tup [.d x, .d (.bool true)] else .d x)
  | some none => lk4 T et c (T.inf et)
  | none => none
def lk2 (T : Tab) (et : Nat) (c : Bool) (q : DV) : Option TypeDesc → Option (List (DV × DV)) → Option AV
  | some kd, some es => if sameK kd q q = some true then lk3 T et c (findK kd q es) else none
  | _, _ => none
def lk1 (T : Tab) (S : St) (kt et : Nat) (c : Bool) (m : AV) : Option AV → Option (Option AV × St)
  | some (.d q) => ov S (lk2 T et c q (T.und kt) (mapOf S m))
  | _ => none
def lk0 (T : Tab) (S : St) (x : Operand) (c : Bool) : Option TypeDesc → Option AV → Option (Option AV × St)
  | some (.map kt et), some m => lk1 T S kt et c m (ev T S kt x)
  | _, _ => none
theorem o_lk {c : Bool} : opA T call d ⟨dst, .lookup t x y c, ty, pos, af, gd⟩ S = lk0 T S y c (T.und t) (ev T S 0 x) := by
  have key : ∀ kt et m q, lookA T S kt et m (.d q) c = lk2 T et c q (T.und kt) (mapOf S m) := fun kt et m q => by
    unfold lookA lk2
    cases T.und kt with
    | none => rfl
    | some kd =>
      cases mapOf S m with
      | none => rfl
      | some es =>
        simp only
        cases hs : sameK kd q q with
        | none => rfl
        | some b =>
          cases b with
          | false => rfl
          | true =>
            simp only [if_true]
            cases findK kd q es with
            | none => rfl
            | some r =>
              cases r with
              | some x => rfl
              | none =>
                simp only [lk3, lk4]
                cases T.inf et with
                | none => rfl
                | some z => simp only [lk5]; cases mkVar T et z.2.2 <;> rfl
  simp only [opA, lk0]
  cases T.und t with
  | none => rfl
  | some u =>
    cases u with
    | map kt et =>
      cases ev T S 0 x with
      | none => rfl
      | some m =>
        simp only [lk1]
        cases ev T S kt y with
        | none => rfl
        | some q => cases q with
          | d q => simp only [key, ov]; cases lk2 T et c q (T.und kt) (mapOf S m) <;> rfl
          | _ =>
            simp only [lookA]
            cases T.und kt <;> first | rfl | (cases mapOf S m <;> rfl)
    | _ => rfl
theorem lk_0 {kt et : Nat} {c : Bool} {m : AV} : lk0 T S x c (some (.map kt et)) (some m) = lk1 T S kt et c m (ev T S kt x) := rfl
theorem lk_1 {kt et : Nat} {c : Bool} {m : AV} {q : DV} : lk1 T S kt et c m (some (.d q)) = ov S (lk2 T et c q (T.und kt) (mapOf S m)) := rfl
theorem lk_2 {et : Nat} {c : Bool} {q : DV} {kd : TypeDesc} {es : List (DV × DV)} : lk2 T et c q (some kd) (some es) = if sameK kd q q = some true then lk3 T et c (findK kd q es) else none := rfl
theorem lk_3 {et : Nat} {c : Bool} {z : DV} : lk3 T et c (some (some z)) = some (if c then .tup [.d z, .d (.bool true)] else .d z) := rfl
theorem lk_3n {et : Nat} {c : Bool} : lk3 T et c (some none) = lk4 T et c (T.inf et) := rfl
theorem lk_4 {et sz bytes : Nat} {c : Bool} {zero : List AV} : lk4 T et c (some (sz, bytes, zero)) = lk5 c (mkVar T et zero) := rfl
theorem lk_5 {c : Bool} {z : AV} : lk5 c (some z) = some (if c then .tup [z, .d (.bool false)] else z) := rfl
theorem sk_int {j k m : IntKind} {a b : Int} : sameK (.int j) (.int k a) (.int m b) = if k = m then some (a == b) else none := rfl
theorem sk_str {a b : List UInt8} : sameK .string (.str a) (.str b) = some (a == b) := rfl
def ud3 (S : St) (kd : TypeDesc) (id : Id) (q x : DV) (es : List (DV × DV)) : Option (Option DV) → Option (Option AV × St)
  | some _ => some (none, { S with H := S.H.put id (.mpl (setK kd q x es)) })
  | none => none
def ud2 (S : St) (id : Id) (q x : DV) : Option TypeDesc → Option Place → Option (Option AV × St)
  | some kd, some (.mpl es) => if sameK kd q q = some true then ud3 S kd id q x es (findK kd q es) else none
  | _, _ => none
def ud1 (T : Tab) (S : St) (kt : Nat) (id : Id) : Option AV → Option DV → Option (Option AV × St)
  | some (.d q), some x => ud2 S id q x (T.und kt) (S.H.get id)
  | _, _ => none
def ud5 : Option AV → Option DV
  | some y => toD y
  | none => none
theorem ud_5 {v : AV} : ud5 (some v) = toD v := rfl
def ud0 (T : Tab) (S : St) (x y : Operand) : Option TypeDesc → Option AV → Option (Option AV × St)
  | some (.map kt et), some (.mp id) => ud1 T S kt id (ev T S kt x) (ud5 (ev T S et y))
  | _, _ => none
theorem upd_key {w : Option TypeDesc} {m : Option AV} : (match w, m with
    | some (.map kt et), some y' => match ev T S kt x, ev T S et y with
      | some q, some z => match updA T S kt y' q z with
        | some S' => some (none, S')
        | none => none
      | _, _ => none
    | _, _ => none) = ud0 T S x y w m := by
  cases w with
  | none => rfl
  | some u =>
    cases u with
    | map kt et =>
      cases m with
      | none => rfl
      | some m =>
        simp only
        cases m with
        | mp id =>
          simp only [ud0]
          cases ev T S kt x with
          | none => cases ev T S et y <;> rfl
          | some q =>
            cases ev T S et y with
            | none => cases q <;> rfl
            | some z =>
              simp only [ud5]
              cases q with
              | d q =>
                simp only [updA, ud1]
                cases hd : toD z with
                | none => cases T.und kt <;> rfl
                | some w =>
                  simp only [ud2]
                  cases T.und kt with
                  | none => rfl
                  | some kd =>
                    simp only
                    cases S.H.get id with
                    | none => rfl
                    | some p =>
                      cases p with
                      | mpl es =>
                        simp only
                        cases hs : sameK kd q q with
                        | none => rfl
                        | some b => cases b with
                          | false => rfl
                          | true =>
                            simp only [if_true]
                            cases findK kd q es <;> rfl
                      | _ => rfl
              | _ =>
                simp only [updA, ud1]
                cases T.und kt <;> first | rfl | (cases toD z <;> rfl)
        | _ =>
          simp only [ud0]
          cases ev T S kt x with
          | none => rfl
          | some q =>
            cases ev T S et y with
            | none => rfl
            | some z =>
              simp only [updA]
              cases T.und kt <;> rfl
    | _ => rfl
theorem o_upd : opA T call d ⟨dst, .mapUpdate t x y z, ty, pos, af, gd⟩ S = ud0 T S y z (T.und t) (ev T S 0 x) := by
  simp only [opA]
  exact upd_key
theorem o_ins : opA T call d ⟨dst, .insert t x y z, ty, pos, af, gd⟩ S = ud0 T S y z (T.und t) (ev T S 0 x) := by
  simp only [opA]
  exact upd_key
theorem ud_0 {kt et : Nat} {id : Id} : ud0 T S x y (some (.map kt et)) (some (.mp id)) = ud1 T S kt id (ev T S kt x) (ud5 (ev T S et y)) := rfl
theorem ud_1 {kt : Nat} {id : Id} {q v : DV} : ud1 T ⟨Q, H, g⟩ kt id (some (.d q)) (some v) = ud2 ⟨Q, H, g⟩ id q v (T.und kt) (H.get id) := rfl
theorem ud_2 {id : Id} {q v : DV} {kd : TypeDesc} {es : List (DV × DV)} : ud2 S id q v (some kd) (some (.mpl es)) = if sameK kd q q = some true then ud3 S kd id q v es (findK kd q es) else none := rfl
theorem ud_3 {id : Id} {q v : DV} {kd : TypeDesc} {es : List (DV × DV)} {w : Option DV} : ud3 ⟨Q, H, g⟩ kd id q v es (some w) = some (none, ⟨Q, H.put id (.mpl (setK kd q v es)), g⟩) := rfl
theorem sm_1 {l : Option AV} {k j : IntKind} {a b : Int} {e sz : Nat} {xs : List DV} : sm1 T S e l k a (some (.d (.int j b))) (some (sz, xs)) = if a = b ∧ size T e = some sz then sm2 S sz xs (sliceA xs.length l (some (.d (.int k a)))) else none := rfl
theorem sm_2 {sz i j : Nat} {xs : List DV} : sm2 S sz xs (some (i, j)) = some (some (.own sz ((xs.take j).drop i) none), S) := rfl
theorem sl_2 {mk : Nat → Nat → DV} {i j : Nat} : sl2 S mk (some (i, j)) = some (some (.d (mk i j)), S) := rfl
theorem evO_n : evO T S none = some none := rfl
def evo1 : Option AV → Option (Option AV)
  | some v => some (some v)
  | none => none
theorem evO_s : evO T S (some x) = evo1 (ev T S 0 x) := by
  simp only [evO, evo1]
  cases ev T S 0 x <;> rfl
theorem evo_some {v : AV} : evo1 (some v) = some (some v) := rfl
theorem el_sl {sz : Nat} {xs : List DV} : elemsA (.d (.sl sz xs)) = some (sz, xs) := rfl
theorem el_own {sz : Nat} {xs : List DV} {tok : Option Id} : elemsA (.own sz xs tok) = some (sz, xs) := rfl
def cn2 : Option Nat → Option AV
  | some n => some (.own n [] none)
  | none => none
def cn1 (T : Tab) : Option TypeDesc → Option AV
  | some (.slice e) => cn2 (size T e)
  | _ => none
theorem c_nil : constAV T t (.slice none 0 0) = cn1 T (T.und t) := by
  simp only [constAV, cn1]
  cases T.und t with
  | none => rfl
  | some u => cases u with
    | slice e => simp only [cn2]; cases size T e <;> rfl
    | _ => rfl
theorem cn_1 {e : Nat} : cn1 T (some (.slice e)) = cn2 (size T e) := rfl
theorem cn_2 : cn2 (some n) = some (.own n [] none) := rfl
end
theorem ai {a b : Prop} (x : a) (y : b) : a ∧ b := ⟨x, y⟩
/-! ### the seat's own lists -/
theorem opn_eq {f : Nat} : tab.opn f = opnsL.contains f := by simp only [tab]
theorem lend_eq {f : Nat} : tab.lend f = lendsL.contains f := by simp only [tab]
end Go.Proofs.Ytfcfifohflgboaa.Am
