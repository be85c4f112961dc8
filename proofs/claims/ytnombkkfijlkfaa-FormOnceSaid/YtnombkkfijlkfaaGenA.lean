/- Raw things one by one: gen.next, walked; formulas as data. -/
import Derived.Test.YtnombkkfijlkfaaAmLoop
import Derived.Test.YtnombkkfijlkfaaAmOpc
import Derived.Test.YtnombkkfijlkfaaValFacts
set_option linter.unusedVariables false
set_option linter.unusedSimpArgs false
namespace Go.Proofs.Ytnombkkfijlkfaa.Am
open Go Go.RowKit
theorem ty_GenA_41 : type_of% (ai (ai (ai (ai (ai @rs41 (ai @lv41_0 @lv41_1)) (ai (ai @lv41_2 @dr41_3) (ai @lv41_3 @dr41_4))) (ai (ai @lv41_4 (ai @lv41_5 @lv41_6)) (ai (ai @und1 @sz1) (ai @ag1 @inf1)))) (ai (ai (ai @und3 (ai @sz3 @ag3)) (ai (ai @lv3 @inf3) (ai @und4 @sz4))) (ai (ai @ag4 (ai @lv4 @inf4)) (ai (ai @und9 @sz9) (ai @ag9 @lv9))))) (ai (ai (ai (ai @inf9 (ai @und22 @sz22)) (ai (ai @ag22 @pT22) (ai @inf22 @und41))) (ai (ai @sz41 (ai @ag41 @fo41)) (ai (ai @bA41 @pT41_0) (ai @pT41_1 @pT41_2)))) (ai (ai (ai @pT41_3 (ai @inf41 @und78)) (ai (ai @sz78 @ag78) (ai @inf78 @und80))) (ai (ai @sz80 (ai @ag80 @fo80)) (ai (ai @bA80 @pT80_0) (ai @pT80_1 @inf80)))))) := (ai (ai (ai (ai (ai @rs41 (ai @lv41_0 @lv41_1)) (ai (ai @lv41_2 @dr41_3) (ai @lv41_3 @dr41_4))) (ai (ai @lv41_4 (ai @lv41_5 @lv41_6)) (ai (ai @und1 @sz1) (ai @ag1 @inf1)))) (ai (ai (ai @und3 (ai @sz3 @ag3)) (ai (ai @lv3 @inf3) (ai @und4 @sz4))) (ai (ai @ag4 (ai @lv4 @inf4)) (ai (ai @und9 @sz9) (ai @ag9 @lv9))))) (ai (ai (ai (ai @inf9 (ai @und22 @sz22)) (ai (ai @ag22 @pT22) (ai @inf22 @und41))) (ai (ai @sz41 (ai @ag41 @fo41)) (ai (ai @bA41 @pT41_0) (ai @pT41_1 @pT41_2)))) (ai (ai (ai @pT41_3 (ai @inf41 @und78)) (ai (ai @sz78 @ag78) (ai @inf78 @und80))) (ai (ai @sz80 (ai @ag80 @fo80)) (ai (ai @bA80 @pT80_0) (ai @pT80_1 @inf80))))))
set_option maxRecDepth 100000
set_option maxHeartbeats 40000000


/-- A formula. -/
inductive Exp where
  | mk (op : Int) (v : Val) (name : List UInt8) (args : List Exp)
def Exp.op : Exp → Int | .mk o _ _ _ => o
def Exp.v : Exp → Val | .mk _ v _ _ => v
def Exp.name : Exp → List UInt8 | .mk _ _ n _ => n
def Exp.args : Exp → List Exp | .mk _ _ _ a => a
mutual
def Exp.dv : Exp → DV
  | .mk op v name args => .agg [.int .i64 op, .int .i64 v.kind, .int .i64 v.n, .str v.s, .str name, .sl 6 (Exp.dvs args)]
def Exp.dvs : List Exp → List DV
  | [] => []
  | x :: r => x.dv :: Exp.dvs r
end
theorem Exp.dvs_map : ∀ (l : List Exp), Exp.dvs l = l.map Exp.dv
  | [] => by simp [Exp.dvs]
  | x :: r => by simp [Exp.dvs, Exp.dvs_map r]
theorem Exp.dv_mk {op : Int} {v : Val} {name : List UInt8} {args : List Exp} : (Exp.mk op v name args).dv = .agg [.int .i64 op, .int .i64 v.kind, .int .i64 v.n, .str v.s, .str name, .sl 6 (args.map Exp.dv)] := by rw [Exp.dv, Exp.dvs_map]
theorem Exp.dv_eq (x : Exp) : x.dv = .agg [.int .i64 x.op, .int .i64 x.v.kind, .int .i64 x.v.n, .str x.v.s, .str x.name, .sl 6 (x.args.map Exp.dv)] := by cases x; exact Exp.dv_mk
theorem sfx_f1 {n x a b : Nat} {g : List Nat} : (List.drop n [x] = a :: b :: g) = False := by
  refine eq_false fun h => ?_
  have := congrArg List.length h
  simp only [List.length_drop, List.length_cons, List.length_nil] at this
  omega
theorem sfx_f2 {n x a b : Nat} {g : List Nat} : (List.drop n (x :: g) = a :: b :: g) = False := by
  refine eq_false fun h => ?_
  have := congrArg List.length h
  simp only [List.length_drop, List.length_cons] at this
  omega
theorem drop_suf {g q : List Nat} {n : Nat} (h : List.drop n g = q) : q <:+ g := h ▸ List.drop_suffix n g
theorem apart_cons {a : Nat} {p g : List Nat} (h : ¬ p <:+ g) : ¬ (a :: p) <:+ g := fun k => h ((List.suffix_cons a p).trans k)
theorem sfx_f4 {p g : List Nat} (h : ¬ p <:+ g) {n a b : Nat} : (List.drop n g = a :: b :: p) = False := eq_false fun k => apart_cons (apart_cons h) (drop_suf k)
theorem sfx_f5 {p g : List Nat} (h : ¬ p <:+ g) {n a b c : Nat} : (List.drop n g = a :: b :: c :: p) = False := eq_false fun k => apart_cons (apart_cons (apart_cons h)) (drop_suf k)
theorem sfx_f6 {p g : List Nat} (h : ¬ p <:+ g) {n a b c e : Nat} : (List.drop n g = a :: b :: c :: e :: p) = False := eq_false fun k => apart_cons (apart_cons (apart_cons (apart_cons h))) (drop_suf k)
/-- The raw thing that comes next, and the place behind it. -/
def gnext (l : List Raw) (k : Nat) : Raw := match l[k % l.length]? with
  | some r => { r with a := IntKind.i64.wrap (r.a + (k / l.length : Nat)) }
  | none => ⟨0, 0, 0, []⟩
def gat (l : List Raw) (k : Nat) : Nat := if l.length = 0 then k else k + 1
def gbox (l : List Raw) (k : Nat) : Place := .box [.d (.sl 4 (l.map Raw.dv)), .d (.int .i64 k)]
theorem ret_next {d : Nat} {p : List Nat} (d0 t0 : Nat) (g0 : List Nat) (h : d0 < d) (hg0 : ¬ p <:+ g0) (l : List Raw) (k : Nat) (hk : k ≤ 4611686018427387904) (hl : l.length ≤ 9223372036854775807) :
    ∃ H', callR tab d 41 [.ptr ⟨d0, t0, g0⟩ 0] [(⟨d0, t0, g0⟩, gbox l k)] p = some (.d (gnext l k).dv, H') ∧ H'.get ⟨d0, t0, g0⟩ = some (gbox l (gat l k)) := by
  have e1 : (d0 = d) = False := eq_false (by omega)
  have e2 : (d = d0) = False := eq_false (by omega)
  refine ret_good rfl 1 fn41 rfl rfl ?_
  by_cases h0 : l.length = 0
  · have b0 : ((l.length : Int) == 0) = true := by rw [h0]; rfl
    have hn : gnext l k = ⟨0, 0, 0, []⟩ := by
      have : l = [] := List.eq_nil_of_length_eq_zero h0
      subst this
      rfl
    have hg : gat l k = k := by unfold gat; rw [if_pos h0]
    rw [hn, hg]
    simp only [amr, amc, amp, if_true, if_false, ne_eq, gt_iff_lt, Option.getD, argsT, Option.bind, Option.map, List.headD, List.tail, opnsL, List.replicate, lendsL, seval, ty_GenA_41, gbox, Raw.dv, b0, e1, e2]
  · have b0 : ((l.length : Int) == 0) = false := beq_eq_false_iff_ne.2 (by omega)
    have hlt : k % l.length < l.length := Nat.mod_lt _ (by omega)
    have hget : (l.map Raw.dv)[k % l.length]? = some (Raw.dv l[k % l.length]) := by rw [List.getElem?_map, List.getElem?_eq_getElem hlt]; rfl
    have hn : gnext l k = { l[k % l.length] with a := IntKind.i64.wrap (l[k % l.length].a + (k / l.length : Nat)) } := by
      unfold gnext
      rw [List.getElem?_eq_getElem hlt]
    have hg : gat l k = k + 1 := by unfold gat; rw [if_neg h0]
    rw [hn, hg]
    generalize l[k % l.length] = r at *
    have hl0 : ((l.length : Int) = 0) = False := eq_false (by omega)
    have ht : (k : Int).tmod (l.length : Int) = ((k % l.length : Nat) : Int) := rfl
    have hd : (k : Int).tdiv (l.length : Int) = ((k / l.length : Nat) : Int) := rfl
    have hdk : k / l.length ≤ k := Nat.div_le_self _ _
    have w1 : IntKind.i64.wrap ((k / l.length : Nat) : Int) = ((k / l.length : Nat) : Int) := by generalize k / l.length = q at *; exact wrap_in (by omega) (by omega)
    have w2 : IntKind.i64.wrap ((k : Int) + 1) = ((k + 1 : Nat) : Int) := by rw [wrap_in (by omega) (by omega)]; rfl
    simp only [amr, amc, amp, if_true, if_false, ne_eq, gt_iff_lt, Option.getD, argsT, Option.bind, Option.map, List.headD, List.tail, opnsL, List.replicate, lendsL, seval, ty_GenA_41, gbox, Raw.dv, b0, e1, e2, sfx_f1, sfx_f2, hl0, ht, hd, w1, w2, hget, sfx_f4 hg0]
theorem suf_cons {a : Nat} {q g : List Nat} (h : (q <:+ g) = False) : ((a :: q) <:+ g) = False := eq_false (apart_cons (of_eq_false h))
theorem suf1 {p g : List Nat} (h : ¬ p <:+ g) (a : Nat) : ((a :: p) <:+ g) = False := eq_false (apart_cons h)
theorem suf2 {p g : List Nat} (h : ¬ p <:+ g) (a b : Nat) : ((a :: b :: p) <:+ g) = False := eq_false (apart_cons (apart_cons h))
theorem suf3 {p g : List Nat} (h : ¬ p <:+ g) (a b c : Nat) : ((a :: b :: c :: p) <:+ g) = False := eq_false (apart_cons (apart_cons (apart_cons h)))
theorem suf4 {p g : List Nat} (h : ¬ p <:+ g) (a b c e : Nat) : ((a :: b :: c :: e :: p) <:+ g) = False := eq_false (apart_cons (apart_cons (apart_cons (apart_cons h))))
theorem suf5 {p g : List Nat} (h : ¬ p <:+ g) (a b c e f : Nat) : ((a :: b :: c :: e :: f :: p) <:+ g) = False := eq_false (apart_cons (apart_cons (apart_cons (apart_cons (apart_cons h)))))
theorem suf6 {p g : List Nat} (h : ¬ p <:+ g) (a b c e f i : Nat) : ((a :: b :: c :: e :: f :: i :: p) <:+ g) = False := eq_false (apart_cons (apart_cons (apart_cons (apart_cons (apart_cons (apart_cons h))))))
theorem soft_d {T : Tab} {f : Nat} {y : DV} : soft T f (.d y) = .d y := by
  unfold soft
  split <;> rfl
theorem soft_agg {f : Nat} {cs : List AV} {y : DV} (h : tab.res f = none) (h2 : toD (.agg cs) = some y) : soft tab f (.agg cs) = .d y := by
  unfold soft
  rw [h]
  show softV (.agg cs) = _
  unfold softV
  rw [h2]
theorem ftC_1 {S : St} {args : List AV} {id : Id} {cs : List AV} (ha : addIds [] (idsL args) = [id]) (hS : S.H.get id = some (.box cs)) (hi : idsL cs = []) : ftC S args none = ⟨[], [id], true⟩ := by
  unfold ftC
  rw [ha]
  have hw : within [id] S.H = [(id, .box cs)] := by
    unfold within
    rw [hS]
    rfl
  have : reach S.H 8 [id] = [id] := by
    show (if (idsH (within [id] S.H)).all (fun i => [id].contains i) = true then [id] else _) = _
    rw [hw]
    simp only [idsH, idsP, hi, List.nil_append, List.all_nil, if_true]
  rw [this]
theorem ca_next {d dst : Nat} {S : St} (d0 t0 : Nat) (g0 : List Nat) (l : List Raw) (k : Nat) (hk : k ≤ 4611686018427387904) (hl : l.length ≤ 9223372036854775807) (h : d0 ≤ d) (hg0 : ((0 :: S.g) <:+ g0) = False) (hS : S.H.get ⟨d0, t0, g0⟩ = some (gbox l k)) :
    callA tab (callR tab) d dst 41 [.ptr ⟨d0, t0, g0⟩ 0] S = some (.d (gnext l k).dv, ⟨S.T, upd [(⟨d0, t0, g0⟩, gbox l (gat l k))] S.H, 1 :: S.g⟩) := by
  obtain ⟨H', h1, h2⟩ := ret_next (p := 0 :: S.g) d0 t0 g0 (Nat.lt_succ_of_le h) (of_eq_false hg0) l k hk hl
  refine ca_open1 (cs := [.d (.sl 4 (l.map Raw.dv)), .d (.int .i64 k)]) (cs' := [.d (.sl 4 (l.map Raw.dv)), .d (.int .i64 (gat l k))]) (by split <;> rfl) (lent_off (tab_lend (by kernel_rfl))) rfl rfl rfl ⟨_, H', h1, soft_d, h2⟩ rfl hS
structure Field where
  name : List UInt8
  kind : Int
  ty : Int
  source : Exp
def Field.dv (p : Field) : DV := .agg [.str p.name, .int .i64 p.kind, .int .i64 p.ty, .int .i64 p.source.op, .int .i64 p.source.v.kind, .int .i64 p.source.v.n, .str p.source.v.s, .str p.source.name, .sl 6 (p.source.args.map Exp.dv)]
theorem Field.eta {p : Field} : Field.mk p.name p.kind p.ty p.source = p := rfl

theorem gnext_ok {l : List Raw} (h : ∀ r ∈ l, r.ok) (k : Nat) : (gnext l k).ok := by
  unfold gnext
  cases hx : l[k % l.length]? with
  | none =>
    show (⟨0, 0, 0, []⟩ : Raw).ok
    exact ⟨by decide, by decide, by decide, by decide⟩
  | some r =>
    have hr := h r (List.mem_of_getElem? hx)
    refine ⟨hr.kind, ?_, hr.b, hr.text⟩
    simp only
    rw [IntKind.wrap_i64]
    omega
theorem gat_le (l : List Raw) (k : Nat) : k ≤ gat l k ∧ gat l k ≤ k + 1 := by unfold gat; split <;> omega
end Go.Proofs.Ytnombkkfijlkfaa.Am
