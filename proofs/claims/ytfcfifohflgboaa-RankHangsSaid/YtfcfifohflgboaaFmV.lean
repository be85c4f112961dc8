/- Fields, found; a small form. -/
import Derived.Test.YtfcfifohflgboaaGenL
set_option linter.unusedVariables false
set_option linter.unusedSimpArgs false
namespace Go.Proofs.Ytfcfifohflgboaa.Am
open Go Go.RowKit
theorem ty_FmG_32 : type_of% (ai (ai @rs32 @lw32) (ai @tt9 (ai @tt10 @tt31))) := (ai (ai @rs32 @lw32) (ai @tt9 (ai @tt10 @tt31)))
theorem ty_FmG_55 : type_of% (ai (ai (ai @rs55 @lw55) (ai @ro48_2_field_go_17 (ai @tt3 @tt4))) (ai (ai @tt9 @tt33) (ai @tt34 (ai @tt36 @tt48)))) := (ai (ai (ai @rs55 @lw55) (ai @ro48_2_field_go_17 (ai @tt3 @tt4))) (ai (ai @tt9 @tt33) (ai @tt34 (ai @tt36 @tt48))))
theorem ty_FmG_54 : type_of% (ai (ai (ai @rs54 (ai @lw54 @kp54_2)) (ai @tt3 (ai @tt4 @tt9))) (ai (ai @tt23 (ai @tt33 @tt34)) (ai @tt36 (ai @tt48 @tt96)))) := (ai (ai (ai @rs54 (ai @lw54 @kp54_2)) (ai @tt3 (ai @tt4 @tt9))) (ai (ai @tt23 (ai @tt33 @tt34)) (ai @tt36 (ai @tt48 @tt96))))
theorem ty_FmG_25 : type_of% (ai (ai (ai @rs25 (ai @lw25 @ro9_3_field_go_16)) (ai @tt3 (ai @tt4 @tt9))) (ai (ai @tt23 (ai @tt28 @tt33)) (ai (ai @tt34 @tt36) (ai @tt48 @tt96)))) := (ai (ai (ai @rs25 (ai @lw25 @ro9_3_field_go_16)) (ai @tt3 (ai @tt4 @tt9))) (ai (ai @tt23 (ai @tt28 @tt33)) (ai (ai @tt34 @tt36) (ai @tt48 @tt96))))
theorem ty_FmG_12 : type_of% (ai (ai (ai @rs12 (ai @lw12 @tt1)) (ai (ai @tt2 @tt3) (ai @tt9 @tt23))) (ai (ai (ai @tt24 @tt26) (ai @tt31 @tt33)) (ai (ai @tt34 @tt36) (ai @tt38 @tt48)))) := (ai (ai (ai @rs12 (ai @lw12 @tt1)) (ai (ai @tt2 @tt3) (ai @tt9 @tt23))) (ai (ai (ai @tt24 @tt26) (ai @tt31 @tt33)) (ai (ai @tt34 @tt36) (ai @tt38 @tt48))))
set_option maxRecDepth 100000
set_option maxHeartbeats 40000000





def fidx {α : Type} (p : α → Bool) : List α → Nat → Int
  | [], _ => -1
  | x :: r, k => if p x = true then k else fidx p r (k + 1)
theorem fidx_any {α : Type} (p : α → Bool) : ∀ (l : List α) (k : Nat), decide (fidx p l k ≥ 0) = l.any p
  | [], k => rfl
  | x :: r, k => by
    unfold fidx
    by_cases h : p x = true
    · rw [if_pos h, List.any_cons, h, Bool.true_or]; exact decide_eq_true (by omega)
    · rw [if_neg h, fidx_any p r, List.any_cons, Bool.eq_false_iff.2 h, Bool.false_or]
theorem fidx_at {α : Type} (p : α → Bool) : ∀ (l : List α) (k j : Nat) (x : α), l[j]? = some x → p x = true → (∀ i y, i < j → l[i]? = some y → p y = false) → fidx p l k = (k + j : Nat)
  | [], k, j, x, h, _, _ => by simp at h
  | z :: r, k, 0, x, h, hx, _ => by
    obtain rfl : z = x := by simpa using h
    unfold fidx
    rw [if_pos hx]
    rfl
  | z :: r, k, j + 1, x, h, hx, hn => by
    unfold fidx
    rw [if_neg (by rw [hn 0 z (by omega) rfl]; decide), fidx_at p r (k + 1) j x (by simpa using h) hx (fun i y hi hy => hn (i + 1) y (by omega) (by simpa using hy))]
    omega
theorem fidx_none {α : Type} (p : α → Bool) : ∀ (l : List α) (k : Nat), (∀ x ∈ l, p x = false) → fidx p l k = -1
  | [], k, _ => rfl
  | z :: r, k, h => by
    unfold fidx
    rw [if_neg (by rw [h z (by simp)]; decide), fidx_none p r (k + 1) (fun x hx => h x (by simp [hx]))]
theorem el_agg {cs : List AV} {s : List DV} : el1 (some (.agg cs)) (some s) = (toD (.agg cs)).map fun z => z :: s := rfl
theorem ret_fnames  : RetD tab 32 [] (.sl 1 (fnm.map DV.str)) := by
  refine retq_good (1) fn32 rfl rfl ?_
  simp only [amx, seval, ty_FmG_32, el_agg]
  repeat' ((first | refine good_ci (fun h => ?_) (fun h => ?_) | refine good_cgt (fun h => ?_) (fun h => ?_) | refine good_cgf (fun h => ?_) (fun h => ?_) | refine good_cqgt (fun h => ?_) (fun h => ?_) | refine good_cqgf (fun h => ?_) (fun h => ?_)) <;> simp only [amx, seval, ty_FmG_32, el_agg, h])
  all_goals (rfl)
theorem ca_fnames {d dst : Nat} {S : St}  : callA tab (callR tab) d dst 32 [] S = some (.d (.sl 1 (fnm.map DV.str)), S) :=
  ca_retD (ds := []) (ret_fnames ) rfl (tab_opn (by kernel_rfl)) (tab_res (by kernel_rfl))
theorem ret_find1 (f : Field) (s : Str) : Ret tab 55 [.d (f.dv), .d (.rp [.str s])] (.d (.bool (f.name == s))) := by
  refine ret_of (1) fn55 rfl rfl ?_
  simp only [amx, seval, ty_FmG_55, Field.dv]
  repeat' ((first | refine good_ci (fun h => ?_) (fun h => ?_) | refine good_cgt (fun h => ?_) (fun h => ?_) | refine good_cgf (fun h => ?_) (fun h => ?_) | refine good_cqgt (fun h => ?_) (fun h => ?_) | refine good_cqgf (fun h => ?_) (fun h => ?_)) <;> simp only [amx, seval, ty_FmG_55, Field.dv, h])
  all_goals (simp [*])
theorem cf_find1 {d dst : Nat} {S : St} (f : Field) (s : Str) : callA tab (callR tab) d dst 55 [.d (f.dv), .d (.rp [.str s])] S = some (.d (.bool (f.name == s)), S) :=
  ca_ret (ds := [f.dv, .rp [.str s]]) (ret_find1 f s) rfl (tab_opn (by kernel_rfl)) (tab_res (by kernel_rfl))
theorem ca_idxF {d dst : Nat} {S : St} (f : Nat) (caps : List DV) (p : Field → Bool) (hp : ∀ (S : St) (d dst : Nat) (t : Field), callA tab (callR tab) d dst f (.d (Field.dv t) :: caps.map .d) S = some (.d (.bool (p t)), S)) (l : List Field) (hl : l.length ≤ 1048576) :
    callA tab (callR tab) d dst 54 [.d (.sl 9 (l.map Field.dv)), .d (.fn f caps)] S = some (.d (.int .i64 (fidx p l 0)), S) := by
  refine ca_ret (ds := [.sl 9 (l.map Field.dv), .fn f caps]) ?_ rfl (tab_opn (by kernel_rfl)) (tab_res (by kernel_rfl))
  refine ret_of (l.length + 1) fn54 rfl rfl ?_
  try simp only [Field.dv] at hp
  simp only [amx, seval, ty_FmG_54]
  refine good_range l (fun k (_ : Unit) g => ⟨[(0, .d (.sl 9 (l.map Field.dv))), (1, .d (.fn f caps)), (7, .d (.int .i64 l.length)), (8, .d (.int .i64 (k : Nat)))], [], g⟩) (fun _ _ => True) (fun k _ r => (if fidx p r k = -1 then .inr () else .inl (fidx p r k) : Sum Int Unit))
    (QO .ret (fun e g => ⟨[(4, .d (.int .i64 e))], [], g⟩) (.exit 0) (fun _ g => ⟨[], [], g⟩)) () kp54_2 up_qo trivial (by omega) (by omega) ?_ ?_ ?_ ?_
  · rintro k a g x rest hk hget hdr _ hb w1
    have hget' : (l.map Field.dv)[k]? = some (Field.dv x) := by rw [List.getElem?_map, hget]; rfl
    cases hq : p x with
    | true =>
      simp only [amx, seval, ty_FmG_54, Field.dv, hb, hget', hp, hq, w1]
      refine step_end (r := .inl (k : Int)) (by simp) ?_ ⟨rfl, ?_⟩
      · simp only [fidx, hq, if_true]; rw [if_neg (by omega)]
      · (apply Exists.intro; (try simp only [amx, seval]); exact sub_mk (by repeat first | exact subT_nil | refine subT_cons (by first | rfl | simp [Tm.get, *]) ?_))
    | false =>
      simp only [amx, seval, ty_FmG_54, Field.dv, hb, hget', hp, hq, w1]
      refine step_nrm () trivial ?_ ?_
      · simp only [fidx, hq, Bool.false_eq_true, if_false]
      · (apply Exists.intro; (try simp only [amx, seval]); exact sub_mk (by repeat first | exact subT_nil | refine subT_cons (by first | rfl | simp [Tm.get, *]) ?_))
  · intro a g _ hb
    simp only [amx, seval, ty_FmG_54, hb]
    refine last_end (by simp) ?_
    simp only [fidx, if_true]
    refine ⟨rfl, ?_⟩
    (apply Exists.intro; (try simp only [amx, seval]); exact sub_mk (by repeat first | exact subT_nil | refine subT_cons (by first | rfl | simp [Tm.get, *]) ?_))
  · (apply Exists.intro; (try simp only [amx, seval]); exact sub_mk (by repeat first | exact subT_nil | refine subT_cons (by first | rfl | simp [Tm.get, *]) ?_))
  · intro o S' hq
    by_cases hz : fidx p l 0 = -1
    · rw [if_pos hz] at hq
      obtain ⟨rfl, g, hs⟩ := hq
      refine good_sub_cr up_fin hs ?_
      rw [hz]
      simp only [amx, seval, ty_FmG_54]
    · rw [if_neg hz] at hq
      obtain ⟨rfl, g, hs⟩ := hq
      refine good_sub_cr up_fin hs ?_
      simp only [amx, seval, ty_FmG_54]
def ffind (l : List Field) (s : Str) : Int × Int := if fidx (fun f => f.name == s) l 0 < 0 then (0, 5) else (fidx (fun f => f.name == s) l 0, 0)
theorem ret_Find (l : List Field) (s : Str) (hl : l.length ≤ 1048576) : Ret tab 25 [.d (.sl 9 (l.map Field.dv)), .d (.str (s))] (.tup [.d (.int .i64 ((ffind l s).1)), .d (.int .i64 ((ffind l s).2))]) := by
  refine ret_of (1) fn25 rfl rfl ?_
  have f1 := fun (S : St) (d dst : Nat) => ca_idxF (d := d) (dst := dst) (S := S) 55 [.rp [.str s]] (fun f => f.name == s) (fun S d dst t => cf_find1 t s) l hl
  unfold ffind
  generalize fidx (fun f => f.name == s) l 0 = k at *
  by_cases c : k < 0
  · have b : decide (k < 0) = true := decide_eq_true c
    rw [if_pos c]
    simp only [amx, seval, ty_FmG_25, f1, b]
  · have b : decide (k < 0) = false := decide_eq_false c
    rw [if_neg c]
    simp only [amx, seval, ty_FmG_25, f1, b]
theorem ca_Find {d dst : Nat} {S : St} (l : List Field) (s : Str) (hl : l.length ≤ 1048576) : callA tab (callR tab) d dst 25 [.d (.sl 9 (l.map Field.dv)), .d (.str (s))] S = some (.tup [.d (.int .i64 ((ffind l s).1)), .d (.int .i64 ((ffind l s).2))], S) :=
  ca_ret_tup (ds := [.sl 9 (l.map Field.dv), .str (s)]) (ys := [.int .i64 ((ffind l s).1), .int .i64 ((ffind l s).2)]) (ret_Find l s hl) rfl (tab_opn (by kernel_rfl)) (tab_res (by kernel_rfl)) rfl
def smallF : Frm := ⟨[⟨[98], 2, 1, .mk 8 Val.zero [] [.mk 2 Val.zero [97] [], .mk 1 ⟨1, 1, []⟩ [] []]⟩, ⟨[97], 1, 1, Exp.zero⟩, ⟨[99], 3, 3, .mk 2 Val.zero [98] []⟩], [⟨[112, 49], [[97]], Exp.zero⟩, ⟨[112, 50], [[99]], Exp.zero⟩]⟩
theorem smallF_dv : smallF.dv = .agg [.sl 9 [.agg [.str [98], .int .i64 2, .int .i64 1, .int .i64 8, .int .i64 0, .int .i64 0, .str [], .str [], .sl 6 [.agg [.int .i64 2, .int .i64 0, .int .i64 0, .str [], .str [97], .sl 6 []], .agg [.int .i64 1, .int .i64 1, .int .i64 1, .str [], .str [], .sl 6 []]]],
    .agg [.str [97], .int .i64 1, .int .i64 1, .int .i64 0, .int .i64 0, .int .i64 0, .str [], .str [], .sl 6 []], .agg [.str [99], .int .i64 3, .int .i64 3, .int .i64 2, .int .i64 0, .int .i64 0, .str [], .str [98], .sl 6 []]],
    .sl 8 [.agg [.str [112, 49], .sl 1 [.str [97]], .int .i64 0, .int .i64 0, .int .i64 0, .str [], .str [], .sl 6 []], .agg [.str [112, 50], .sl 1 [.str [99]], .int .i64 0, .int .i64 0, .int .i64 0, .str [], .str [], .sl 6 []]]] := by
  simp [smallF, Frm.dv, Field.dv, Page.dv, Exp.dv_mk, Exp.zero, Val.zero, Exp.op, Exp.v, Exp.name, Exp.args]
theorem ret_small  : RetD tab 12 [] (smallF.dv) := by
  rw [smallF_dv]
  refine retq_good (1) fn12 rfl rfl ?_
  simp only [amx, seval, ty_FmG_12, el_agg]
  repeat' ((first | refine good_ci (fun h => ?_) (fun h => ?_) | refine good_cgt (fun h => ?_) (fun h => ?_) | refine good_cgf (fun h => ?_) (fun h => ?_) | refine good_cqgt (fun h => ?_) (fun h => ?_) | refine good_cqgf (fun h => ?_) (fun h => ?_)) <;> simp only [amx, seval, ty_FmG_12, el_agg, h])
  all_goals (rfl)
theorem ca_small {d dst : Nat} {S : St}  : callA tab (callR tab) d dst 12 [] S = some (.d (smallF.dv), S) :=
  ca_retD (ds := []) (ret_small ) rfl (tab_opn (by kernel_rfl)) (tab_res (by kernel_rfl))
/- Fields turned round by the library. -/
theorem ty_FmR_34 : type_of% (ai (ai (ai @rs34 (ai @lw34 @dr34_3)) (ai @kp34_1 (ai @tt3 @tt4))) (ai (ai @tt9 (ai @tt23 @tt33)) (ai @tt34 (ai @tt36 @tt48)))) := (ai (ai (ai @rs34 (ai @lw34 @dr34_3)) (ai @kp34_1 (ai @tt3 @tt4))) (ai (ai @tt9 (ai @tt23 @tt33)) (ai @tt34 (ai @tt36 @tt48))))



def fcells (x : Field) : List AV := [.d (.str x.name), .d (.int .i64 x.kind), .d (.int .i64 x.ty), .d (.int .i64 x.source.op), .d (.int .i64 x.source.v.kind), .d (.int .i64 x.source.v.n), .d (.str x.source.v.s), .d (.str x.source.name), .d (.sl 6 (x.source.args.map Exp.dv))]
theorem fd_cons (x : Field) (r : List Field) : flatD ((x :: r).map Field.dv) = fcells x ++ flatD (r.map Field.dv) := by simp [flatD, Field.dv, DV.cells, fcells]
theorem fcells_len (x : Field) : (fcells x).length = 9 := rfl
theorem fset : ∀ (l : List Field) (k : Nat) (y : Field), k < l.length → (flatD (l.map Field.dv)).take (k * 9) ++ fcells y ++ (flatD (l.map Field.dv)).drop (k * 9 + 9) = flatD ((l.set k y).map Field.dv)
  | [], k, y, h => by simp at h
  | z :: r, 0, y, h => by
    rw [List.append_assoc, List.set_cons_zero, fd_cons, fd_cons, Nat.zero_mul, Nat.zero_add, List.take_zero, List.nil_append, List.drop_append, List.drop_eq_nil_of_le (by rw [fcells_len]; omega), fcells_len]
    simp
  | z :: r, k + 1, y, h => by
    have ih := fset r k y (by simpa using h)
    rw [List.append_assoc] at ih ⊢
    rw [List.set_cons_succ, fd_cons, fd_cons, ← ih, show (k + 1) * 9 = (fcells z).length + k * 9 by rw [fcells_len]; omega, List.take_append, List.take_of_length_le (by omega), Nat.add_sub_cancel_left, Nat.add_assoc, List.drop_append, List.drop_eq_nil_of_le (by omega), List.nil_append, Nat.add_sub_cancel_left, List.append_assoc]
theorem run_rev {d : Nat} {p : List Nat} (d0 t1 : Nat) (g1 : List Nat) (h : d0 < d) (xs : List Field) (hp : 0 < xs.length) (hl : xs.length ≤ 1048576) :
    ∃ x H', callR tab d 34 [.arr ⟨d0, t1, g1⟩ 0 xs.length 9] [(⟨d0, t1, g1⟩, fbox xs)] p = some (x, H') ∧ (soft tab 34 x = .tup [] ∧ H'.get ⟨d0, t1, g1⟩ = some (fbox xs.reverse)) := by
  have e1 : (d0 = d) = False := eq_false (by omega)
  have e2 : (d = d0) = False := eq_false (by omega)
  have hd1 : decide (d0 < d) = true := decide_eq_true h
  have hfb : ∀ xs, fbox xs = .box (flatD (xs.map Field.dv)) := fun xs => rfl
  have w0 : IntKind.i64.wrap ((xs.length : Int) - 1) = ((xs.length - 1 : Nat) : Int) := by rw [wrap_in (by omega) (by omega)]; omega
  rw [← turn_rev xs (List.length_pos_iff.1 hp)]
  refine retq_good (xs.length + 1) fn34 rfl rfl ?_
  simp only [amx, seval, ty_FmR_34, e1, e2, hd1, hfb, w0]
  refine good_loopR (α := Nat × Nat × List Field × List Nat) (fun x => x.1 + x.2.1 + 1 = xs.length ∧ x.2.2.1.length = xs.length ∧ ∃ m, m + x.1 = xs.length ∧ turn m x.1 x.2.1 x.2.2.1 = turn xs.length 0 (xs.length - 1) xs)
    (fun x => ⟨[(0, .arr ⟨d0, t1, g1⟩ 0 xs.length 9), (2, .d (.int .i64 (x.1 : Nat))), (3, .d (.int .i64 (x.2.1 : Nat)))], [(⟨d0, t1, g1⟩, .box (flatD (x.2.2.1.map Field.dv)))], x.2.2.2⟩) (fun x => xs.length - x.1)
    (fun _ => QX (.exit 0) (fun (_ : Unit) g => ⟨[], [(⟨d0, t1, g1⟩, .box (flatD ((turn xs.length 0 (xs.length - 1) xs).map Field.dv)))], g⟩) ()) (0, xs.length - 1, xs, p) kp34_1 (fun _ => up_qx ()) ⟨by simp only; omega, rfl, xs.length, by simp, rfl⟩ (by simp only; omega) ?_ ?_ ?_
  · rintro ⟨i, j, ys, g⟩ ⟨h1, h2, m, h3, h4⟩
    simp only at h1 h2 h3 h4
    by_cases hij : i < j
    · have b1 : decide ((i : Int) < (j : Int)) = true := decide_eq_true (by omega)
      have hi : i < ys.length := by omega
      have hj : j < ys.length := by omega
      have gi := List.getElem?_eq_getElem hi
      have gj := List.getElem?_eq_getElem hj
      have w1 : IntKind.i64.wrap ((i : Int) + 1) = ((i + 1 : Nat) : Int) := by rw [wrap_in (by omega) (by omega)]; rfl
      have w2 : IntKind.i64.wrap ((j : Int) - 1) = ((j - 1 : Nat) : Int) := by rw [wrap_in (by omega) (by omega)]; omega
      have k1 : ((i : Int) < (xs.length : Int)) = True := eq_true (by omega)
      have k2 : ((j : Int) < (xs.length : Int)) = True := eq_true (by omega)
      obtain ⟨R1, q1⟩ := fdrop' gi
      obtain ⟨R2, q2⟩ := fdrop' gj
      have s1 := fset ys i ys[j] hi
      have s2 := fset (ys.set i ys[j]) j ys[i] (by rw [List.length_set]; exact hj)
      have l1 : (flatD (ys.map Field.dv)).length = xs.length * 9 := by rw [flatD_len _ (elt_fd ys), List.length_map, h2]
      have l2 : (flatD ((ys.set i ys[j]).map Field.dv)).length = xs.length * 9 := by rw [flatD_len _ (elt_fd _), List.length_map, List.length_set, h2]
      have hm : ∃ m', m = m' + 1 := ⟨m - 1, by omega⟩
      obtain ⟨m', rfl⟩ := hm
      rw [turn, gi, gj] at h4
      simp only [if_pos hij] at h4
      have r1 : (9 ≤ R1.length + 1 + 1 + 1 + 1 + 1 + 1 + 1 + 1 + 1) = True := eq_true (by omega)
      have r2 : (9 ≤ R2.length + 1 + 1 + 1 + 1 + 1 + 1 + 1 + 1 + 1) = True := eq_true (by omega)
      have c1 : (i * 9 + 9 ≤ xs.length * 9) = True := eq_true (by omega)
      have c2 : (j * 9 + 9 ≤ xs.length * 9) = True := eq_true (by omega)
      simp only [fcells] at s1 s2
      generalize hzs : (ys.set i ys[j]).set j ys[i] = zs at *
      have hzl : zs.length = xs.length := by rw [← hzs]; simp [h2]
      clear hzs
      generalize ys[i] = x at *
      generalize ys[j] = y at *
      generalize flatD (ys.map Field.dv) = C at *
      generalize flatD ((ys.set i y).map Field.dv) = C1 at *
      simp only [amx, seval, ty_FmR_34, b1, e1, e2, hd1, k1, k2, q1, q2, r1, r2, w1, w2, l1, l2, c1, c2, s1, s2]
      refine loop_nrm (i + 1, j - 1, zs, 1 :: g) ⟨by simp only; omega, hzl, m', by omega, h4⟩ (by simp only; omega) (fun _ _ h => h) ?_
      simp only [amx, seval, e1, e2, hd1]
      (first | exact sub_mk subT_nil | skip) <;> (try simp only [amx, seval]) <;> exact sub_mk (by repeat first | exact subT_nil | refine subT_cons (by first | rfl | simp [Tm.get, *]) ?_)
    · have b1 : decide ((i : Int) < (j : Int)) = false := decide_eq_false (by omega)
      have hm : turn m i j ys = ys := by
        cases m with
        | zero => rfl
        | succ m =>
          unfold turn
          rw [List.getElem?_eq_getElem (show i < ys.length by omega), List.getElem?_eq_getElem (show j < ys.length by omega)]
          simp only [if_neg hij]
      rw [hm] at h4
      rw [← h4]
      simp only [amx, seval, ty_FmR_34, b1, e1, e2, hd1]
      refine loop_end (by simp) ⟨rfl, ?_⟩
      (apply Exists.intro; (try simp only [amx, seval, e1, e2, hd1]); exact sub_mk (by repeat first | exact subT_nil | refine subT_cons (by first | rfl | simp [Tm.get, *]) ?_))
  · simp only [amx, seval, e1, e2, hd1]
    (first | exact sub_mk subT_nil | skip) <;> (try simp only [amx, seval]) <;> exact sub_mk (by repeat first | exact subT_nil | refine subT_cons (by first | rfl | simp [Tm.get, *]) ?_)
  · rintro o S' ⟨rfl, g, hs⟩
    refine good_sub_cr up_finq hs ?_
    simp only [amx, seval, ty_FmR_34]
    have hs : soft tab 34 (.tup []) = .tup [] := by unfold soft; split <;> rfl
    exact ⟨rfl, hs, by simp [Heap.get]⟩
theorem ca_rev {d dst : Nat} {S : St} (d0 t1 : Nat) (g1 : List Nat) (h : d0 ≤ d) (xs : List Field) (hp : 0 < xs.length) (hl : xs.length ≤ 1048576) (hS : S.H.get ⟨d0, t1, g1⟩ = some (fbox xs)) :
    callA tab (callR tab) d dst 34 [.arr ⟨d0, t1, g1⟩ 0 xs.length 9] S = some (.tup [], ⟨S.T, upd [(⟨d0, t1, g1⟩, fbox xs.reverse)] S.H, 1 :: S.g⟩) := by
  obtain ⟨x, H', h1, h2, h3⟩ := run_rev (p := 0 :: S.g) d0 t1 g1 (Nat.lt_succ_of_le h) xs hp hl
  exact ca_open1 (by split <;> rfl) (lent_off (tab_lend (by kernel_rfl))) rfl (ids_flat _) (ids_flat _) ⟨x, H', h1, h2, h3⟩ rfl hS
/- Forms of raw things, walked. -/
theorem ty_FmF_10 : type_of% (ai (ai (ai (ai (ai @rs10 @lw10) (ai @ro67_17_raw_go_148 @dr10_4)) (ai (ai @dr10_8 @dr10_13) (ai @mu23_70 @mu31_109))) (ai (ai (ai @mu24_125 @kp10_5) (ai @kp10_18 @kp10_23)) (ai (ai @tt1 @tt2) (ai @tt3 @tt4)))) (ai (ai (ai (ai @tt5 @tt9) (ai @tt22 @tt23)) (ai (ai @tt24 @tt26) (ai @tt31 @tt33))) (ai (ai (ai @tt34 @tt36) (ai @tt38 @tt48)) (ai (ai @tt65 @tt67) (ai @tt69 @tt73))))) := (ai (ai (ai (ai (ai @rs10 @lw10) (ai @ro67_17_raw_go_148 @dr10_4)) (ai (ai @dr10_8 @dr10_13) (ai @mu23_70 @mu31_109))) (ai (ai (ai @mu24_125 @kp10_5) (ai @kp10_18 @kp10_23)) (ai (ai @tt1 @tt2) (ai @tt3 @tt4)))) (ai (ai (ai (ai @tt5 @tt9) (ai @tt22 @tt23)) (ai (ai @tt24 @tt26) (ai @tt31 @tt33))) (ai (ai (ai @tt34 @tt36) (ai @tt38 @tt48)) (ai (ai @tt65 @tt67) (ai @tt69 @tt73)))))





theorem pick_nat {l : List Raw} (hr : ∀ r ∈ l, r.ok) (k n : Nat) (hn : 0 < n) (hn2 : n < 1000) (f : Raw → Int) (hf : ∀ r : Raw, r.ok → -9223372036854775808 ≤ f r ∧ f r ≤ 9223372036854775807) : ∃ j : Nat, pick (f (gnext l k)) n = j ∧ j < n := by
  have h := hf _ (gnext_ok hr k)
  have hp := pick_range (f (gnext l k)) n h.1 h.2 (by omega)
  exact ⟨(pick (f (gnext l k)) n).toNat, by omega, by omega⟩
structure FS where
  fs : List Field
  t : Option (List Nat)
  n : Nat
  g : List Nat
def faD (t : Option (List Nat)) (fs : List Field) : AV := match t with
  | none => .own 9 [] none
  | some q => .arr ⟨0, 70, 0 :: q⟩ 0 fs.length 9
def faP (t : Option (List Nat)) (fs : List Field) : Heap := match t with
  | none => []
  | some q => [(⟨0, 70, 0 :: q⟩, fbox fs)]
def faI (t : Option (List Nat)) (fs : List Field) (g : List Nat) : Prop := match t with
  | none => fs = []
  | some q => ¬ g <:+ (0 :: q)
theorem fapp (fs : List Field) (x : Field) : flatD ((fs ++ [x]).map Field.dv) = flatD (fs.map Field.dv) ++ fcells x := by rw [List.map_append, flatD_append]; simp [flatD, Field.dv, DV.cells, fcells]
theorem fresh_0 {q : List Nat} {a : Nat} (h : a ≠ 0) : ¬ (a :: q) <:+ (0 :: q) := fun k => h (by
  have := List.IsSuffix.eq_of_length k (by simp)
  injection this)
theorem up_fm {k : Out} {α : Type} {P : α → List Nat → Prop} {mk : α → List Nat → St} : Up (fun q S => q = k ∧ ∃ t g, P t g ∧ Sub (mk t g) S) := fun o S S' h ⟨h1, t, g, h3, h2⟩ => ⟨h1, t, g, h3, h2.trans h⟩
structure PS where
  ps : List Page
  u : Option (List Nat)
  n : Nat
  g : List Nat
structure NS where
  acc : List Str
  w : Option (List Nat)
  g : List Nat
theorem up_pg {k : Out} {α : Type} {P : List Nat → Prop} {mk : α → List Nat → Nat → St} : Up (fun q S => q = k ∧ ∃ t g n, P g ∧ Sub (mk t g n) S) := fun o S S' h ⟨h1, t, g, n, h3, h2⟩ => ⟨h1, t, g, n, h3, h2.trans h⟩
theorem up_pgs {α β ρ : Type} {mk : Nat → β → List Nat → St} {I : Nat → β → Prop} {sp : Nat → β → List α → ρ} {Q : ρ → Out → St → Prop} {d : Nat} {ts hs : List Nat} {k : Nat} {a : β} {x : α} {rest : List α} (hQ : ∀ r, Up (Q r)) : Up (StepR mk I sp Q d ts hs k a x rest) := by
  rintro o S S' h (⟨h1, h2⟩ | ⟨h1, a', g', h2, h3, h4⟩)
  · exact .inl ⟨h1, hQ _ _ _ _ h h2⟩
  · exact .inr ⟨h1, a', g', h2, h3, h4.trans (sub_keep h d _)⟩
theorem papp (ps : List Page) (x : Page) : (ps ++ [x]).map Page.dv = ps.map Page.dv ++ [x.dv] := by simp
theorem ret_Form (l : List Raw) (hl : l.length ≤ 9223372036854775807) (hr : ∀ r ∈ l, r.ok) : RetD tab 10 [.d (.sl 4 (l.map Raw.dv))] (mkForm l).dv := by
  have hgb : gbox l 0 = .box [.d (.sl 4 (l.map Raw.dv)), .d (.int .i64 0)] := rfl
  have fn := fun (T : Tm) (g : List Nat) (H : Heap) (dst : Nat) (k : Nat) (hk : k ≤ 4611686018427387904) (q : List Nat) (hx : ((0 :: g) <:+ q) = False) (hS : Heap.get H ⟨0, 17, q⟩ = some (gbox l k)) => ca_next (d := 0) (dst := dst) (S := ⟨T, H, g⟩) 0 17 q l k hk hl (Nat.le_refl _) hx hS
  have fn0 := fun (T : Tm) (g : List Nat) (H : Heap) (dst : Nat) (q : List Nat) => fn T g H dst 0 (by decide) q
  simp only [hgb] at fn0
  obtain ⟨a, ha, ha2⟩ := pick_nat hr 0 10 (by decide) (by decide) (fun r => r.a) (fun r h => h.a)
  have pA := fun (S : St) (d dst : Nat) => ca_picked (d := d) (dst := dst) (S := S) (gnext l 0).a 10 (by decide)
  have ha' : pick (gnext l 0).a 10 = a := ha
  rw [ha'] at pA
  have wA : IntKind.i64.wrap (1 + (a : Int)) = ((a + 1 : Nat) : Int) := by rw [wrap_in (by omega) (by omega)]; omega
  have hfl : ((fnm.length : Nat) : Int) = 10 := rfl
  have hsx : ([0, 1, 1, 1] <:+ [0, 1]) = False := eq_false (by decide)
  generalize hr0 : gnext l 0 = r0 at *
  refine retq_good 64 fn10 rfl rfl ?_
  simp only [amx, seval, ty_FmF_10, fn0, hsx, Raw.dv, ca_fnames, pA, wA, hfl, upd, Option.getD_some, Option.getD_none]
  clear fn0 pA
  refine good_range (List.replicate (a + 1) ()) (fun k (x : FS) _ => ⟨[(2, .ptr ⟨0, 2, [0]⟩ 0), (3, .ptr ⟨0, 17, [0, 1]⟩ 0), (4, .ptr ⟨0, 4, [0, 1, 1]⟩ 0), (5, .ptr ⟨0, 5, [0, 1, 1, 1, 1]⟩ 0), (25, .d (.int .i64 ((a + 1 : Nat) : Int))), (26, .d (.int .i64 (k : Nat)))],
      faP x.t x.fs ++ [(⟨0, 5, [0, 1, 1, 1, 1]⟩, .box [.d (.int .i64 r0.kind), .d (.int .i64 r0.a), .d (.int .i64 r0.b), .d (.str r0.text)]), (⟨0, 4, [0, 1, 1]⟩, .box [faD x.t x.fs, .own 8 [] none]), (⟨0, 17, [0, 1]⟩, gbox l x.n), (⟨0, 2, [0]⟩, .box [.own 9 [] none, .own 8 [] none])], x.g⟩)
    (fun k x => x.fs.length = k ∧ x.n ≤ 1 + k * 257 ∧ 6 ≤ x.g.length ∧ faI x.t x.fs x.g) (fun k x r => gfields l r.length x.fs x.n)
    (fun (o : List Field × Nat) (q : Out) (S : St) => q = .exit 0 ∧ ∃ t g, (6 ≤ g.length ∧ faI t o.1 g) ∧ Sub ⟨[(2, .ptr ⟨0, 2, [0]⟩ 0), (3, .ptr ⟨0, 17, [0, 1]⟩ 0), (4, .ptr ⟨0, 4, [0, 1, 1]⟩ 0), (5, .ptr ⟨0, 5, [0, 1, 1, 1, 1]⟩ 0)],
      faP t o.1 ++ [(⟨0, 5, [0, 1, 1, 1, 1]⟩, .box [.d (.int .i64 r0.kind), .d (.int .i64 r0.a), .d (.int .i64 r0.b), .d (.str r0.text)]), (⟨0, 4, [0, 1, 1]⟩, .box [faD t o.1, .own 8 [] none]), (⟨0, 17, [0, 1]⟩, gbox l o.2), (⟨0, 2, [0]⟩, .box [.own 9 [] none, .own 8 [] none])], g⟩ S)
    ⟨[], none, gat l 0, [1, 1, 1, 1, 1, 1]⟩ kp10_5 (fun r => up_fm) ⟨rfl, by have := gat_le l 0; simp only; omega, by simp, rfl⟩ (by simp only [List.length_replicate]; omega) (by simp only [List.length_replicate]; omega) ?_ ?_ ?_ ?_
  · rintro k ⟨fs, t, n, g⟩ _ x rest hk hget hd hI hb w1
    simp only [List.length_replicate] at hk hb
    obtain ⟨h1, h2, h3, h4⟩ := hI
    simp only at h1 h2 h3 h4
    subst h1
    have hn0 : ¬ g <:+ [0, 1] := fun k => by have := k.length_le; simp at this; omega
    have hrest : rest.length = a - fs.length := by rw [← hd]; simp
    have hrk := gnext_ok hr n
    obtain ⟨b, hb1, hb2⟩ := pick_nat hr n 3 (by decide) (by decide) (fun r => r.kind) (fun r h => h.kind)
    obtain ⟨c, hc1, hc2⟩ := pick_nat hr n 3 (by decide) (by decide) (fun r => r.b) (fun r h => h.b)
    obtain ⟨e, he1, he2⟩ := pick_nat hr n 3 (by decide) (by decide) (fun r => r.a) (fun r h => h.a)
    have pB := fun (S : St) (d dst : Nat) => ca_picked (d := d) (dst := dst) (S := S) (gnext l n).kind 3 (by decide)
    have pC := fun (S : St) (d dst : Nat) => ca_picked (d := d) (dst := dst) (S := S) (gnext l n).b 3 (by decide)
    have pE := fun (S : St) (d dst : Nat) => ca_picked (d := d) (dst := dst) (S := S) (gnext l n).a 3 (by decide)
    have hb1' : pick (gnext l n).kind 3 = b := hb1
    have hc1' : pick (gnext l n).b 3 = c := hc1
    have he1' : pick (gnext l n).a 3 = e := he1
    rw [hb1'] at pB
    rw [hc1'] at pC
    rw [he1'] at pE
    have fN := fun (T : Tm) (g : List Nat) (H : Heap) (dst : Nat) (q : List Nat) => fn T g H dst n (by omega) q
    have hnm : (fnm.map DV.str)[fs.length]? = some (.str (fnm.getD fs.length [])) := by
      have : fs.length < fnm.length := by have : fnm.length = 10 := rfl; omega
      rw [List.getElem?_map, List.getElem?_eq_getElem this, List.getD_eq_getElem?_getD, List.getElem?_eq_getElem this]
      rfl
    have wB : IntKind.i64.wrap (1 + (b : Int)) = 1 + (b : Int) := wrap_in (by omega) (by omega)
    have wC : IntKind.i64.wrap (1 + (c : Int)) = 1 + (c : Int) := wrap_in (by omega) (by omega)
    have wE : IntKind.i64.wrap (1 + (e : Int)) = 1 + (e : Int) := wrap_in (by omega) (by omega)
    have hG : gfields l (() :: rest).length fs n = gfields l rest.length (fs ++ [(gfield l fs fs.length n).1]) (gfield l fs fs.length n).2 := by
      rw [List.length_cons]; rfl
    have hf : gfield l fs fs.length n = (⟨fnm.getD fs.length [], 1 + b, 1 + c, (gsrc l fs (1 + b) (1 + c) (gnext l n) (gat l n)).1⟩, (gsrc l fs (1 + b) (1 + c) (gnext l n) (gat l n)).2) := by
      unfold gfield; rw [hb1', hc1']
    have hga := gat_le l n
    have sx4 : ∀ (m u : Nat), (List.drop m [0, 1, 1] = u :: 1 :: 1 :: 1 :: g) = False := fun m u => eq_false (fun h => by have := congrArg List.length h; simp only [List.length_drop, List.length_cons, List.length_nil] at this; omega)
    have sx3 : ∀ (m u : Nat), (List.drop m (0 :: 1 :: g) = u :: 1 :: 1 :: g) = False := fun m u => eq_false (fun h => by have := congrArg List.length h; simp only [List.length_drop, List.length_cons] at this; omega)
    have hsz : (fs.length + 1) * 112 ≤ 140737488355328 := by omega
    rcases (show b = 0 ∨ b = 1 ∨ b = 2 by omega) with rfl | rfl | rfl
    · have hs : gsrc l fs (1 + (0 : Nat)) (1 + c) (gnext l n) (gat l n) = (Exp.zero, gat l n) := by unfold gsrc; rw [if_neg (by decide), if_neg (by decide)]
      rw [hs] at hf
      rcases t with _ | t
      · have h4 : fs = [] := h4
        subst h4
        have hb0 : decide ((0 : Int) < ((a + 1 : Nat) : Int)) = true := decide_eq_true (by omega)
        have hnm0 : (fnm.map DV.str)[0]? = some (.str [97]) := rfl
        simp only [amx, seval, ty_FmF_10, fN, faP, faD, hb0, hnm0, (show IntKind.i64.wrap 0 = 0 from rfl), (show IntKind.i64.wrap 1 = 1 from rfl), (show IntKind.i64.wrap 2 = 2 from rfl), (show IntKind.i64.wrap 3 = 3 from rfl), (show IntKind.i64.wrap 4 = 4 from rfl), (show IntKind.i64.wrap 5 = 5 from rfl), (show IntKind.i64.wrap 6 = 6 from rfl), (show IntKind.i64.wrap 7 = 7 from rfl), (show IntKind.i64.wrap 8 = 8 from rfl), (show IntKind.i64.wrap 9 = 9 from rfl), (show IntKind.i64.wrap 10 = 10 from rfl), (show IntKind.i64.wrap 11 = 11 from rfl), (show IntKind.i64.wrap 12 = 12 from rfl), (show IntKind.i64.wrap 13 = 13 from rfl), (show IntKind.i64.wrap 14 = 14 from rfl), el_agg, nt_arr, ac_arr, sx3, sx4, sfx_f4 hn0, sfx_f5 hn0, sfx_f6 hn0, suf1 hn0, suf2 hn0, suf3 hn0, suf4 hn0, suf5 hn0, suf6 hn0, Raw.dv, ca_fnames, pB, pC, wB, wC, upd, Option.getD_some, Option.getD_none]
        refine step_nrm (FS.mk ([] ++ [⟨[97], 1, 1 + c, Exp.zero⟩]) (some (1 :: 1 :: 1 :: g)) (gat l n) (1 :: 1 :: 1 :: 1 :: g)) ⟨by simp, by simp only [List.length_nil] at *; omega, by simp only [List.length_cons]; omega, fresh_0 (by decide)⟩ ?_ ?_
        · rw [hG, hf]; rfl
        · (refine ⟨[], ?_⟩; (try simp only [amx, seval]); exact sub_mk (by repeat first | exact subT_nil | refine subT_cons (by first | rfl | simp [Tm.get, *]) ?_))
      · have h4 : ¬ g <:+ (0 :: t) := h4
        have lC : (flatD (fs.map Field.dv)).length = fs.length * 9 := by rw [flatD_len _ (elt_fd fs), List.length_map]
        have hA : ((fs.length + 1) * 112 ≤ 140737488355328) = True := eq_true hsz
        have c1 : ((fs.length + 1) * 9 ≤ fs.length * 9) = False := eq_false (by omega)
        have hfb : fbox fs = .box (flatD (fs.map Field.dv)) := rfl
        have hC : flatD (fs.map Field.dv ++ [Field.dv ⟨(fnm.getD fs.length []), 1, 1 + c, Exp.zero⟩]) = flatD (fs.map Field.dv) ++ fcells ⟨(fnm.getD fs.length []), 1, 1 + c, Exp.zero⟩ := by rw [← fapp, List.map_append]; rfl
        simp only [fcells, Exp.zero, Exp.op, Exp.v, Exp.name, Exp.args, Val.zero, List.map_nil] at hC
        generalize flatD (fs.map Field.dv) = C at *
        simp only [amx, seval, ty_FmF_10, fN, faP, faD, (show IntKind.i64.wrap 0 = 0 from rfl), (show IntKind.i64.wrap 1 = 1 from rfl), (show IntKind.i64.wrap 2 = 2 from rfl), (show IntKind.i64.wrap 3 = 3 from rfl), (show IntKind.i64.wrap 4 = 4 from rfl), (show IntKind.i64.wrap 5 = 5 from rfl), (show IntKind.i64.wrap 6 = 6 from rfl), (show IntKind.i64.wrap 7 = 7 from rfl), (show IntKind.i64.wrap 8 = 8 from rfl), (show IntKind.i64.wrap 9 = 9 from rfl), (show IntKind.i64.wrap 10 = 10 from rfl), (show IntKind.i64.wrap 11 = 11 from rfl), (show IntKind.i64.wrap 12 = 12 from rfl), (show IntKind.i64.wrap 13 = 13 from rfl), (show IntKind.i64.wrap 14 = 14 from rfl), hb, hnm, w1, hA, c1, lC, hfb, suf1 h4, suf2 h4, suf3 h4, suf4 h4, suf5 h4, suf6 h4, sfx_f4 h4, sfx_f5 h4, sfx_f6 h4, el_agg, nt_arr, ac_arr, sx3, sx4, sfx_f4 hn0, sfx_f5 hn0, sfx_f6 hn0, suf1 hn0, suf2 hn0, suf3 hn0, suf4 hn0, suf5 hn0, suf6 hn0, Raw.dv, ca_fnames, pB, pC, wB, wC, upd, Option.getD_some, Option.getD_none]
        refine step_nrm (FS.mk (fs ++ [⟨(fnm.getD fs.length []), 1, 1 + c, Exp.zero⟩]) (some (1 :: 1 :: 1 :: g)) (gat l n) (1 :: 1 :: 1 :: 1 :: g)) ⟨by simp, by simp only [List.length_nil] at *; omega, by simp only [List.length_cons]; omega, fresh_0 (by decide)⟩ ?_ ?_
        · rw [hG, hf]; rfl
        · (refine ⟨[], ?_⟩; (try simp only [amx, seval, hC, fbox, Exp.zero, Exp.op, Exp.v, Exp.name, Exp.args, Val.zero, List.map_nil]); exact sub_mk (by repeat first | exact subT_nil | refine subT_cons (by first | rfl | simp [Tm.get, *]) ?_))
    · have hs : gsrc l fs (1 + (1 : Nat)) (1 + c) (gnext l n) (gat l n) = gexpr fs l 2 (1 + c) (gat l n) := by unfold gsrc; rw [if_pos (by decide)]
      have hat := gexpr_at fs l 2 (1 + c) (gat l n)
      rw [hs] at hf
      rcases t with _ | t
      · have h4 : fs = [] := h4
        subst h4
        have hb0 : decide ((0 : Int) < ((a + 1 : Nat) : Int)) = true := decide_eq_true (by omega)
        have hnm0 : (fnm.map DV.str)[0]? = some (.str [97]) := rfl
        have fE := fun (T : Tm) (g : List Nat) (H : Heap) (dst : Nat) (hx : ((0 :: g) <:+ [0, 1]) = False) (hS : Heap.get H ⟨0, 17, [0, 1]⟩ = some (gbox l (gat l n))) => ca_exprHN (expr_okN 2 (by decide)) (d := 0) (dst := dst) (S := ⟨T, H, g⟩) 0 17 [0, 1] (Nat.le_refl _) (1 + c) [] (by decide) l (gat l n) (by omega) hl hr hx hS
        simp only [List.map_nil] at fE
        have hcd : ((2 : Nat) : Int) = 2 := rfl
        rw [hcd] at fE
        simp only [Exp.dv_eq (gexpr [] l 2 (1 + c) (gat l n)).1] at fE
        generalize gexpr [] l 2 (1 + c) (gat l n) = y at *
        simp only [amx, seval, ty_FmF_10, fN, faP, faD, hb0, hnm0, (show IntKind.i64.wrap 0 = 0 from rfl), (show IntKind.i64.wrap 1 = 1 from rfl), (show IntKind.i64.wrap 2 = 2 from rfl), (show IntKind.i64.wrap 3 = 3 from rfl), (show IntKind.i64.wrap 4 = 4 from rfl), (show IntKind.i64.wrap 5 = 5 from rfl), (show IntKind.i64.wrap 6 = 6 from rfl), (show IntKind.i64.wrap 7 = 7 from rfl), (show IntKind.i64.wrap 8 = 8 from rfl), (show IntKind.i64.wrap 9 = 9 from rfl), (show IntKind.i64.wrap 10 = 10 from rfl), (show IntKind.i64.wrap 11 = 11 from rfl), (show IntKind.i64.wrap 12 = 12 from rfl), (show IntKind.i64.wrap 13 = 13 from rfl), (show IntKind.i64.wrap 14 = 14 from rfl), fE, el_agg, nt_arr, ac_arr, sx3, sx4, sfx_f4 hn0, sfx_f5 hn0, sfx_f6 hn0, suf1 hn0, suf2 hn0, suf3 hn0, suf4 hn0, suf5 hn0, suf6 hn0, Raw.dv, ca_fnames, pB, pC, wB, wC, upd, Option.getD_some, Option.getD_none]
        refine step_nrm (FS.mk ([] ++ [⟨[97], 2, 1 + c, y.1⟩]) (some (1 :: 1 :: 1 :: 1 :: g)) (y.2) (1 :: 1 :: 1 :: 1 :: 1 :: g)) ⟨by simp, by simp only [List.length_nil] at *; omega, by simp only [List.length_cons]; omega, fresh_0 (by decide)⟩ ?_ ?_
        · rw [hG, hf]; rfl
        · (refine ⟨[], ?_⟩; (try simp only [amx, seval, Exp.dv_eq y.1]); exact sub_mk (by repeat first | exact subT_nil | refine subT_cons (by first | rfl | simp [Tm.get, *]) ?_))
      · have h4 : ¬ g <:+ (0 :: t) := h4
        have lC : (flatD (fs.map Field.dv)).length = fs.length * 9 := by rw [flatD_len _ (elt_fd fs), List.length_map]
        have hA : ((fs.length + 1) * 112 ≤ 140737488355328) = True := eq_true hsz
        have c1 : ((fs.length + 1) * 9 ≤ fs.length * 9) = False := eq_false (by omega)
        have hfb : fbox fs = .box (flatD (fs.map Field.dv)) := rfl
        have fE := fun (T : Tm) (g : List Nat) (H : Heap) (dst : Nat) (hx : ((0 :: g) <:+ [0, 1]) = False) (hx1 : ((0 :: g) <:+ (0 :: t)) = False) (hS : Heap.get H ⟨0, 17, [0, 1]⟩ = some (gbox l (gat l n))) (hF : Heap.get H ⟨0, 70, 0 :: t⟩ = some (fbox fs)) => ca_exprHA (expr_okA 2 (by decide)) (d := 0) (dst := dst) (S := ⟨T, H, g⟩) 0 17 [0, 1] 70 (0 :: t) (by decide) (Nat.le_refl _) (1 + c) fs (by omega) l (gat l n) (by omega) hl hr hx hx1 hS hF
        simp only [hfb] at fE
        have hcd : ((2 : Nat) : Int) = 2 := rfl
        rw [hcd] at fE
        simp only [Exp.dv_eq (gexpr fs l 2 (1 + c) (gat l n)).1] at fE
        generalize gexpr fs l 2 (1 + c) (gat l n) = y at *
        have hC : flatD (fs.map Field.dv ++ [Field.dv ⟨(fnm.getD fs.length []), 2, 1 + c, y.1⟩]) = flatD (fs.map Field.dv) ++ fcells ⟨(fnm.getD fs.length []), 2, 1 + c, y.1⟩ := by rw [← fapp, List.map_append]; rfl
        simp only [fcells] at hC
        generalize flatD (fs.map Field.dv) = C at *
        simp only [amx, seval, ty_FmF_10, fN, faP, faD, (show IntKind.i64.wrap 0 = 0 from rfl), (show IntKind.i64.wrap 1 = 1 from rfl), (show IntKind.i64.wrap 2 = 2 from rfl), (show IntKind.i64.wrap 3 = 3 from rfl), (show IntKind.i64.wrap 4 = 4 from rfl), (show IntKind.i64.wrap 5 = 5 from rfl), (show IntKind.i64.wrap 6 = 6 from rfl), (show IntKind.i64.wrap 7 = 7 from rfl), (show IntKind.i64.wrap 8 = 8 from rfl), (show IntKind.i64.wrap 9 = 9 from rfl), (show IntKind.i64.wrap 10 = 10 from rfl), (show IntKind.i64.wrap 11 = 11 from rfl), (show IntKind.i64.wrap 12 = 12 from rfl), (show IntKind.i64.wrap 13 = 13 from rfl), (show IntKind.i64.wrap 14 = 14 from rfl), hb, hnm, w1, hA, c1, lC, hfb, suf1 h4, suf2 h4, suf3 h4, suf4 h4, suf5 h4, suf6 h4, sfx_f4 h4, sfx_f5 h4, sfx_f6 h4, fE, el_agg, nt_arr, ac_arr, sx3, sx4, sfx_f4 hn0, sfx_f5 hn0, sfx_f6 hn0, suf1 hn0, suf2 hn0, suf3 hn0, suf4 hn0, suf5 hn0, suf6 hn0, Raw.dv, ca_fnames, pB, pC, wB, wC, upd, Option.getD_some, Option.getD_none]
        refine step_nrm (FS.mk (fs ++ [⟨(fnm.getD fs.length []), 2, 1 + c, y.1⟩]) (some (1 :: 1 :: 1 :: 1 :: g)) (y.2) (1 :: 1 :: 1 :: 1 :: 1 :: g)) ⟨by simp, by simp only [List.length_nil] at *; omega, by simp only [List.length_cons]; omega, fresh_0 (by decide)⟩ ?_ ?_
        · rw [hG, hf]; rfl
        · (refine ⟨[], ?_⟩; (try simp only [amx, seval, hC, fbox, Exp.dv_eq y.1]); exact sub_mk (by repeat first | exact subT_nil | refine subT_cons (by first | rfl | simp [Tm.get, *]) ?_))
    · have hs : gsrc l fs (1 + (2 : Nat)) (1 + c) (gnext l n) (gat l n) = gexpr fs l 1 (1 + e) (gat l n) := by unfold gsrc; rw [if_neg (by decide), if_pos (by decide), he1']
      have hat := gexpr_at fs l 1 (1 + e) (gat l n)
      rw [hs] at hf
      rcases t with _ | t
      · have h4 : fs = [] := h4
        subst h4
        have hb0 : decide ((0 : Int) < ((a + 1 : Nat) : Int)) = true := decide_eq_true (by omega)
        have hnm0 : (fnm.map DV.str)[0]? = some (.str [97]) := rfl
        have fE := fun (T : Tm) (g : List Nat) (H : Heap) (dst : Nat) (hx : ((0 :: g) <:+ [0, 1]) = False) (hS : Heap.get H ⟨0, 17, [0, 1]⟩ = some (gbox l (gat l n))) => ca_exprHN (expr_okN 1 (by decide)) (d := 0) (dst := dst) (S := ⟨T, H, g⟩) 0 17 [0, 1] (Nat.le_refl _) (1 + e) [] (by decide) l (gat l n) (by omega) hl hr hx hS
        have fR : ∀ (Q : Tm) (H : Heap) (q : List Nat) (a c : DV), Heap.get H ⟨0, 17, [0, 1]⟩ = some (gbox l (gat l n)) → ftC ⟨Q, H, q⟩ [.ptr ⟨0, 17, [0, 1]⟩ 0, .d a, .own 9 [] none, .d c] none = ⟨[], [⟨0, 17, [0, 1]⟩], true⟩ := fun Q H q a c hS => ftC_1 rfl hS rfl
        simp only [List.map_nil] at fE
        have hcd : ((1 : Nat) : Int) = 1 := rfl
        rw [hcd] at fE
        simp only [Exp.dv_eq (gexpr [] l 1 (1 + e) (gat l n)).1] at fE
        generalize gexpr [] l 1 (1 + e) (gat l n) = y at *
        simp only [amx, seval, ty_FmF_10, fN, faP, faD, hb0, hnm0, (show IntKind.i64.wrap 0 = 0 from rfl), (show IntKind.i64.wrap 1 = 1 from rfl), (show IntKind.i64.wrap 2 = 2 from rfl), (show IntKind.i64.wrap 3 = 3 from rfl), (show IntKind.i64.wrap 4 = 4 from rfl), (show IntKind.i64.wrap 5 = 5 from rfl), (show IntKind.i64.wrap 6 = 6 from rfl), (show IntKind.i64.wrap 7 = 7 from rfl), (show IntKind.i64.wrap 8 = 8 from rfl), (show IntKind.i64.wrap 9 = 9 from rfl), (show IntKind.i64.wrap 10 = 10 from rfl), (show IntKind.i64.wrap 11 = 11 from rfl), (show IntKind.i64.wrap 12 = 12 from rfl), (show IntKind.i64.wrap 13 = 13 from rfl), (show IntKind.i64.wrap 14 = 14 from rfl), fE, fR, pE, wE, el_agg, nt_arr, ac_arr, sx3, sx4, sfx_f4 hn0, sfx_f5 hn0, sfx_f6 hn0, suf1 hn0, suf2 hn0, suf3 hn0, suf4 hn0, suf5 hn0, suf6 hn0, Raw.dv, ca_fnames, pB, pC, wB, wC, upd, Option.getD_some, Option.getD_none]
        refine step_nrm (FS.mk ([] ++ [⟨[97], 3, 1 + c, y.1⟩]) (some (1 :: 1 :: 1 :: 1 :: g)) (y.2) (1 :: 1 :: 1 :: 1 :: 1 :: g)) ⟨by simp, by simp only [List.length_nil] at *; omega, by simp only [List.length_cons]; omega, fresh_0 (by decide)⟩ ?_ ?_
        · rw [hG, hf]; rfl
        · (refine ⟨[], ?_⟩; (try simp only [amx, seval, Exp.dv_eq y.1]); exact sub_mk (by repeat first | exact subT_nil | refine subT_cons (by first | rfl | simp [Tm.get, *]) ?_))
      · have h4 : ¬ g <:+ (0 :: t) := h4
        have lC : (flatD (fs.map Field.dv)).length = fs.length * 9 := by rw [flatD_len _ (elt_fd fs), List.length_map]
        have hA : ((fs.length + 1) * 112 ≤ 140737488355328) = True := eq_true hsz
        have c1 : ((fs.length + 1) * 9 ≤ fs.length * 9) = False := eq_false (by omega)
        have hfb : fbox fs = .box (flatD (fs.map Field.dv)) := rfl
        have fE := fun (T : Tm) (g : List Nat) (H : Heap) (dst : Nat) (hx : ((0 :: g) <:+ [0, 1]) = False) (hx1 : ((0 :: g) <:+ (0 :: t)) = False) (hS : Heap.get H ⟨0, 17, [0, 1]⟩ = some (gbox l (gat l n))) (hF : Heap.get H ⟨0, 70, 0 :: t⟩ = some (fbox fs)) => ca_exprHA (expr_okA 1 (by decide)) (d := 0) (dst := dst) (S := ⟨T, H, g⟩) 0 17 [0, 1] 70 (0 :: t) (by decide) (Nat.le_refl _) (1 + e) fs (by omega) l (gat l n) (by omega) hl hr hx hx1 hS hF
        have fR : ∀ (Q : Tm) (H : Heap) (q : List Nat) (a c : DV), Heap.get H ⟨0, 17, [0, 1]⟩ = some (gbox l (gat l n)) → Heap.get H ⟨0, 70, 0 :: t⟩ = some (fbox fs) → ftC ⟨Q, H, q⟩ [.ptr ⟨0, 17, [0, 1]⟩ 0, .d a, .arr ⟨0, 70, 0 :: t⟩ 0 fs.length 9, .d c] none = ⟨[], [⟨0, 17, [0, 1]⟩, ⟨0, 70, 0 :: t⟩], true⟩ := fun Q H q a c hS hT => ftC_2 (id_ne (by decide)) rfl hS hT rfl (ids_flat _)
        simp only [hfb] at fE fR
        have hcd : ((1 : Nat) : Int) = 1 := rfl
        rw [hcd] at fE
        simp only [Exp.dv_eq (gexpr fs l 1 (1 + e) (gat l n)).1] at fE
        generalize gexpr fs l 1 (1 + e) (gat l n) = y at *
        have hC : flatD (fs.map Field.dv ++ [Field.dv ⟨(fnm.getD fs.length []), 3, 1 + c, y.1⟩]) = flatD (fs.map Field.dv) ++ fcells ⟨(fnm.getD fs.length []), 3, 1 + c, y.1⟩ := by rw [← fapp, List.map_append]; rfl
        simp only [fcells] at hC
        generalize flatD (fs.map Field.dv) = C at *
        simp only [amx, seval, ty_FmF_10, fN, faP, faD, (show IntKind.i64.wrap 0 = 0 from rfl), (show IntKind.i64.wrap 1 = 1 from rfl), (show IntKind.i64.wrap 2 = 2 from rfl), (show IntKind.i64.wrap 3 = 3 from rfl), (show IntKind.i64.wrap 4 = 4 from rfl), (show IntKind.i64.wrap 5 = 5 from rfl), (show IntKind.i64.wrap 6 = 6 from rfl), (show IntKind.i64.wrap 7 = 7 from rfl), (show IntKind.i64.wrap 8 = 8 from rfl), (show IntKind.i64.wrap 9 = 9 from rfl), (show IntKind.i64.wrap 10 = 10 from rfl), (show IntKind.i64.wrap 11 = 11 from rfl), (show IntKind.i64.wrap 12 = 12 from rfl), (show IntKind.i64.wrap 13 = 13 from rfl), (show IntKind.i64.wrap 14 = 14 from rfl), hb, hnm, w1, hA, c1, lC, hfb, suf1 h4, suf2 h4, suf3 h4, suf4 h4, suf5 h4, suf6 h4, sfx_f4 h4, sfx_f5 h4, sfx_f6 h4, fE, fR, pE, wE, el_agg, nt_arr, ac_arr, sx3, sx4, sfx_f4 hn0, sfx_f5 hn0, sfx_f6 hn0, suf1 hn0, suf2 hn0, suf3 hn0, suf4 hn0, suf5 hn0, suf6 hn0, Raw.dv, ca_fnames, pB, pC, wB, wC, upd, Option.getD_some, Option.getD_none]
        refine step_nrm (FS.mk (fs ++ [⟨(fnm.getD fs.length []), 3, 1 + c, y.1⟩]) (some (1 :: 1 :: 1 :: 1 :: g)) (y.2) (1 :: 1 :: 1 :: 1 :: 1 :: g)) ⟨by simp, by simp only [List.length_nil] at *; omega, by simp only [List.length_cons]; omega, fresh_0 (by decide)⟩ ?_ ?_
        · rw [hG, hf]; rfl
        · (refine ⟨[], ?_⟩; (try simp only [amx, seval, hC, fbox, Exp.dv_eq y.1]); exact sub_mk (by repeat first | exact subT_nil | refine subT_cons (by first | rfl | simp [Tm.get, *]) ?_))
  · rintro ⟨fs, t, n, g⟩ _ ⟨h1, h2, h3, h4⟩ hb
    simp only [List.length_replicate] at hb h1 h3 h4 ⊢
    simp only [amx, seval, ty_FmF_10, hb]
    refine last_end (by simp) ⟨rfl, t, g, ⟨h3, h4⟩, ?_⟩
    simp only [List.length_nil, gfields]
    exact sub_mk (by repeat first | exact subT_nil | refine subT_cons (by first | rfl | simp [Tm.get, *]) ?_)
  · (refine ⟨[], ?_⟩; (try simp only [amx, seval, faP, faD]); exact sub_mk (by repeat first | exact subT_nil | refine subT_cons (by first | rfl | simp [Tm.get, *]) ?_))
  · rintro o S' ⟨rfl, t, g, ⟨h3, h4⟩, hs⟩
    refine good_sub_cr up_finq hs ?_
    have hnf : nfields l = a + 1 := by unfold nfields; rw [hr0, ha']; omega
    rw [List.length_replicate] at h4 ⊢
    have hlen := gfields_len l (a + 1) [] (gat l 0)
    have hat := gfields_at l (a + 1) [] (gat l 0)
    have hga := gat_le l 0
    have hff : ffields l = (gfields l (a + 1) [] (gat l 0)).1 := by unfold ffields; rw [hnf]
    have hfp : fpages l = (gpages l (ffields l) (npages l) (npages l) [] (gfields l (a + 1) [] (gat l 0)).2).1 := by unfold fpages; rw [hnf]
    unfold mkForm
    rw [hfp, hff, hr0]
    generalize gfields l (a + 1) [] (gat l 0) = o at *
    obtain ⟨fs, n0⟩ := o
    simp only [List.length_nil, Nat.zero_add] at hlen hat h4 ⊢
    rcases t with _ | t
    · have h4 : fs = [] := h4
      rw [h4] at hlen
      simp at hlen
    have h4 : ¬ g <:+ (0 :: t) := h4
    obtain ⟨c, hc, hc2⟩ := pick_nat hr 0 4 (by decide) (by decide) (fun r => r.b) (fun r h => h.b)
    have pD := fun (S : St) (d dst : Nat) => ca_picked (d := d) (dst := dst) (S := S) (gnext l 0).b 4 (by decide)
    have hc' : pick (gnext l 0).b 4 = c := hc
    rw [hc'] at pD
    have hnp : npages l = c + 1 := by unfold npages; rw [hc']; omega
    rw [hr0] at pD
    rw [hnp]
    have wD : IntKind.i64.wrap (1 + (c : Int)) = ((c + 1 : Nat) : Int) := by rw [wrap_in (by omega) (by omega)]; omega
    simp only [amx, seval, ty_FmF_10, faP, faD, pD, wD]
    clear pD
    refine good_range (List.replicate (c + 1) ()) (fun k (x : PS) _ => ⟨[(2, .ptr ⟨0, 2, [0]⟩ 0), (3, .ptr ⟨0, 17, [0, 1]⟩ 0), (4, .ptr ⟨0, 4, [0, 1, 1]⟩ 0), (5, .ptr ⟨0, 5, [0, 1, 1, 1, 1]⟩ 0), (9, .d (.int .i64 ((c + 1 : Nat) : Int))), (77, .d (.int .i64 ((c + 1 : Nat) : Int))), (78, .d (.int .i64 (k : Nat)))],
        tokP 0 125 (x.ps.length * 8) x.u ++ [(⟨0, 70, 0 :: t⟩, fbox fs), (⟨0, 5, [0, 1, 1, 1, 1]⟩, .box [.d (.int .i64 r0.kind), .d (.int .i64 r0.a), .d (.int .i64 r0.b), .d (.str r0.text)]), (⟨0, 4, [0, 1, 1]⟩, .box [.arr ⟨0, 70, 0 :: t⟩ 0 fs.length 9, .own 8 (x.ps.map Page.dv) (tokD 0 125 x.u)]), (⟨0, 17, [0, 1]⟩, gbox l x.n), (⟨0, 2, [0]⟩, .box [.own 9 [] none, .own 8 [] none])], x.g⟩)
      (fun k x => x.ps.length = k ∧ x.n ≤ n0 + k * 257 ∧ 6 ≤ x.g.length ∧ ¬ x.g <:+ (0 :: t)) (fun k x r => (gpages l fs (c + 1) r.length x.ps x.n).1)
      (fun (o : List Page) (q : Out) (S : St) => q = .exit 3 ∧ ∃ u g n, (6 ≤ g.length ∧ ¬ g <:+ (0 :: t)) ∧ Sub ⟨[(2, .ptr ⟨0, 2, [0]⟩ 0), (4, .ptr ⟨0, 4, [0, 1, 1]⟩ 0), (5, .ptr ⟨0, 5, [0, 1, 1, 1, 1]⟩ 0)],
        tokP 0 125 (o.length * 8) u ++ [(⟨0, 70, 0 :: t⟩, fbox fs), (⟨0, 5, [0, 1, 1, 1, 1]⟩, .box [.d (.int .i64 r0.kind), .d (.int .i64 r0.a), .d (.int .i64 r0.b), .d (.str r0.text)]), (⟨0, 4, [0, 1, 1]⟩, .box [.arr ⟨0, 70, 0 :: t⟩ 0 fs.length 9, .own 8 (o.map Page.dv) (tokD 0 125 u)]), (⟨0, 17, [0, 1]⟩, gbox l n), (⟨0, 2, [0]⟩, .box [.own 9 [] none, .own 8 [] none])], g⟩ S)
      ⟨[], none, n0, g⟩ kp10_18 (fun r => up_pg) ⟨rfl, by simp only; omega, h3, h4⟩ (by simp only [List.length_replicate]; omega) (by simp only [List.length_replicate]; omega) ?_ ?_ ?_ ?_
    · rintro i ⟨ps, u, n, g⟩ _ x rest hi hget hd ⟨h1, h2, h3, h5⟩ hb w1
      simp only [List.length_replicate] at hi hb
      simp only at h1 h2 h3 h5
      subst h1
      have hn0 : ¬ g <:+ [0, 1] := fun k => by have := k.length_le; simp at this; omega
      have hrest : rest.length = c - ps.length := by rw [← hd]; simp
      have hG : gpages l fs (c + 1) (() :: rest).length ps n = gpages l fs (c + 1) rest.length (ps ++ [(gpage l fs (c + 1) ps.length n).1]) (gpage l fs (c + 1) ps.length n).2 := by
        rw [List.length_cons]; rfl
      have hga := gat_le l n
      obtain ⟨b, hb1, hb2⟩ := pick_nat hr n 2 (by decide) (by decide) (fun r => r.kind) (fun r h => h.kind)
      have pB := fun (S : St) (d dst : Nat) => ca_picked (d := d) (dst := dst) (S := S) (gnext l n).kind 2 (by decide)
      have hb1' : pick (gnext l n).kind 2 = b := hb1
      rw [hb1'] at pB
      have fN := fun (T : Tm) (g : List Nat) (H : Heap) (dst : Nat) (q : List Nat) => fn T g H dst n (by omega) q
      have hfb : fbox fs = .box (flatD (fs.map Field.dv)) := rfl
      have wI : IntKind.i64.wrap (49 + (ps.length : Int)) = 49 + (ps.length : Int) := wrap_in (by omega) (by omega)
      have wU : IntKind.u8.wrap (49 + (ps.length : Int)) = 49 + (ps.length : Int) := by rw [IntKind.wrap_u8]; omega
      have hstr : strD [DV.int .u8 (49 + (ps.length : Int))] = some [UInt8.ofNat (49 + ps.length)] := by
        unfold strD
        rw [if_pos (by omega), show (49 + (ps.length : Int)).toNat = 49 + ps.length by omega]
        rfl
      have hf : gpage l fs (c + 1) ps.length n = (⟨[112, UInt8.ofNat (49 + ps.length)], pnames (c + 1) ps.length 0 fs, (gskip l fs (gnext l n) (gat l n)).1⟩, (gskip l fs (gnext l n) (gat l n)).2) := rfl
      have hA : ((ps.length + 1) * 120 ≤ 140737488355328) = True := eq_true (by omega)
      have hB : ((fs.length + 1) * 16 ≤ 140737488355328) = True := eq_true (by omega)
      have wN : IntKind.i64.wrap (((c + 1 : Nat) : Int) + 1) = ((c + 2 : Nat) : Int) := by rw [wrap_in (by omega) (by omega)]; omega
      have zN : (((c + 2 : Nat) : Int) = 0) = False := eq_false (by omega)
      have fE := fun (T : Tm) (g : List Nat) (H : Heap) (dst : Nat) (hx : ((0 :: g) <:+ [0, 1]) = False) (hx1 : ((0 :: g) <:+ (0 :: t)) = False) (hS : Heap.get H ⟨0, 17, [0, 1]⟩ = some (gbox l (gat l n))) (hF : Heap.get H ⟨0, 70, 0 :: t⟩ = some (fbox fs)) => ca_exprHA (expr_okA 1 (by decide)) (d := 0) (dst := dst) (S := ⟨T, H, g⟩) 0 17 [0, 1] 70 (0 :: t) (by decide) (Nat.le_refl _) 2 fs (by omega) l (gat l n) (by omega) hl hr hx hx1 hS hF
      have hcd : ((1 : Nat) : Int) = 1 := rfl
      rw [hcd] at fE
      simp only [hfb] at fE
      have hat := gexpr_at fs l 1 2 (gat l n)
      have hgs : gskip l fs (gnext l n) (gat l n) = if (b : Int) = 0 then gexpr fs l 1 2 (gat l n) else (Exp.zero, gat l n) := by unfold gskip; rw [hb1']
      rw [hgs] at hf
      simp only [Exp.dv_eq (gexpr fs l 1 2 (gat l n)).1] at fE
      generalize gexpr fs l 1 2 (gat l n) = y at *
      rcases u with _ | u
      · simp only [amx, seval, ty_FmF_10, fN, hb, w1, wI, wU, hstr, hfb, tokD, tokP, nt_arr, ac_arr, suf1 hn0, suf2 hn0, suf3 hn0, suf4 hn0, Raw.dv, pB, upd, Option.getD_some, Option.getD_none]
        refine good_range fs (fun k (x : NS) _ => ⟨[(2, .ptr ⟨0, 2, [0]⟩ 0), (3, .ptr ⟨0, 17, [0, 1]⟩ 0), (4, .ptr ⟨0, 4, [0, 1, 1]⟩ 0), (5, .ptr ⟨0, 5, [0, 1, 1, 1, 1]⟩ 0), (9, .d (.int .i64 ((c + 1 : Nat) : Int))), (10, .d (.int .i64 (ps.length : Nat))), (11, .ptr ⟨0, 11, 0 :: 1 :: g⟩ 0), (12, .ptr ⟨0, 12, 0 :: 1 :: 1 :: g⟩ 0), (77, .d (.int .i64 ((c + 1 : Nat) : Int))), (78, .d (.int .i64 (ps.length : Nat))), (91, .arr ⟨0, 70, 0 :: t⟩ 0 fs.length 9), (92, .d (.int .i64 fs.length)), (93, .d (.int .i64 (k : Nat)))],
            tokP 0 109 (x.acc.length * 1) x.w ++ [(⟨0, 12, 0 :: 1 :: 1 :: g⟩, .box [.d (.str [112, UInt8.ofNat (49 + ps.length)]), .own 1 (x.acc.map DV.str) (tokD 0 109 x.w), .d (.int .i64 0), .d (.int .i64 0), .d (.int .i64 0), .d (.str []), .d (.str []), .own 6 [] none]), (⟨0, 11, 0 :: 1 :: g⟩, .box [.d (.int .i64 (gnext l n).kind), .d (.int .i64 (gnext l n).a), .d (.int .i64 (gnext l n).b), .d (.str (gnext l n).text)]), (⟨0, 70, 0 :: t⟩, .box (flatD (fs.map Field.dv))), (⟨0, 5, [0, 1, 1, 1, 1]⟩, .box [.d (.int .i64 r0.kind), .d (.int .i64 r0.a), .d (.int .i64 r0.b), .d (.str r0.text)]), (⟨0, 4, [0, 1, 1]⟩, .box [.arr ⟨0, 70, 0 :: t⟩ 0 fs.length 9, .own 8 (ps.map Page.dv) none]), (⟨0, 17, [0, 1]⟩, gbox l (gat l n)), (⟨0, 2, [0]⟩, .box [.own 9 [] none, .own 8 [] none])], x.g⟩)
          (fun k x => x.acc.length ≤ k ∧ 6 ≤ x.g.length ∧ ¬ x.g <:+ (0 :: t)) (fun k x r => x.acc ++ pnames (c + 1) ps.length k r)
          (fun (o : List Str) (q : Out) (S : St) => q = .exit 5 ∧ ∃ w g', (6 ≤ g'.length ∧ ¬ g' <:+ (0 :: t)) ∧ Sub ⟨[(2, .ptr ⟨0, 2, [0]⟩ 0), (3, .ptr ⟨0, 17, [0, 1]⟩ 0), (4, .ptr ⟨0, 4, [0, 1, 1]⟩ 0), (5, .ptr ⟨0, 5, [0, 1, 1, 1, 1]⟩ 0), (9, .d (.int .i64 ((c + 1 : Nat) : Int))), (11, .ptr ⟨0, 11, 0 :: 1 :: g⟩ 0), (12, .ptr ⟨0, 12, 0 :: 1 :: 1 :: g⟩ 0), (77, .d (.int .i64 ((c + 1 : Nat) : Int))), (78, .d (.int .i64 (ps.length : Nat)))], tokP 0 109 (o.length * 1) w ++ [(⟨0, 12, 0 :: 1 :: 1 :: g⟩, .box [.d (.str [112, UInt8.ofNat (49 + ps.length)]), .own 1 (o.map DV.str) (tokD 0 109 w), .d (.int .i64 0), .d (.int .i64 0), .d (.int .i64 0), .d (.str []), .d (.str []), .own 6 [] none]), (⟨0, 11, 0 :: 1 :: g⟩, .box [.d (.int .i64 (gnext l n).kind), .d (.int .i64 (gnext l n).a), .d (.int .i64 (gnext l n).b), .d (.str (gnext l n).text)]), (⟨0, 70, 0 :: t⟩, .box (flatD (fs.map Field.dv))), (⟨0, 5, [0, 1, 1, 1, 1]⟩, .box [.d (.int .i64 r0.kind), .d (.int .i64 r0.a), .d (.int .i64 r0.b), .d (.str r0.text)]), (⟨0, 4, [0, 1, 1]⟩, .box [.arr ⟨0, 70, 0 :: t⟩ 0 fs.length 9, .own 8 (ps.map Page.dv) none]), (⟨0, 17, [0, 1]⟩, gbox l (gat l n)), (⟨0, 2, [0]⟩, .box [.own 9 [] none, .own 8 [] none])], g'⟩ S)
          ⟨[], none, 1 :: 1 :: 1 :: g⟩ kp10_23 (fun r => up_fm) ⟨Nat.le_refl _, by simp only [List.length_cons]; omega, apart_cons (apart_cons (apart_cons h5))⟩ (by omega) (by omega) ?_ ?_ ?_ ?_
        · rintro k ⟨acc, w, g'⟩ _ x rest' hk hget' hd' ⟨j1, j2, j3⟩ hb' w1'
          simp only at j1 j2 j3
          obtain ⟨R, hR⟩ := fdrop' hget'
          have hkl : ((k : Int) < (fs.length : Int)) = True := eq_true (by omega)
          have hR9 : (9 ≤ R.length + 1 + 1 + 1 + 1 + 1 + 1 + 1 + 1 + 1) = True := eq_true (by omega)
          have hC : ((acc.length + 1) * 16 ≤ 140737488355328) = True := eq_true (by omega)
          have hm : (k : Int).tmod ((c + 2 : Nat) : Int) = ((k % (c + 2) : Nat) : Int) := rfl
          generalize flatD (fs.map Field.dv) = CC at *
          by_cases hq : k % (c + 2) = ps.length
          · have bq : (((k % (c + 2) : Nat) : Int) == (ps.length : Int)) = true := by rw [hq]; exact beq_self_eq_true _
            have hsp : pnames (c + 1) ps.length k (x :: rest') = x.name :: pnames (c + 1) ps.length (k + 1) rest' := by rw [pnames, if_pos hq]
            rcases w with _ | w
            · simp only [amx, seval, ty_FmF_10, hb', w1', hR, hkl, hR9, hC, hm, wN, zN, bq, tokD, tokP]
              refine step_nrm (NS.mk (acc ++ [x.name]) (some (1 :: g')) (1 :: 1 :: g')) ⟨by simp only [List.length_append, List.length_cons, List.length_nil]; omega, by simp only [List.length_cons]; omega, apart_cons (apart_cons j3)⟩ (by rw [hsp]; simp) ?_
              (refine ⟨[], ?_⟩; (try simp only [amx, seval, tokD, tokP]); exact sub_mk (by repeat first | exact subT_nil | refine subT_cons (by first | rfl | simp [Tm.get, *]) ?_))
            · simp only [amx, seval, ty_FmF_10, hb', w1', hR, hkl, hR9, hC, hm, wN, zN, bq, tokD, tokP]
              refine step_nrm (NS.mk (acc ++ [x.name]) (some w) (1 :: g')) ⟨by simp only [List.length_append, List.length_cons, List.length_nil]; omega, by simp only [List.length_cons]; omega, apart_cons j3⟩ (by rw [hsp]; simp) ?_
              (refine ⟨[], ?_⟩; (try simp only [amx, seval, tokD, tokP]); exact sub_mk (by repeat first | exact subT_nil | refine subT_cons (by first | rfl | simp [Tm.get, *]) ?_))
          · have bq : (((k % (c + 2) : Nat) : Int) == (ps.length : Int)) = false := beq_eq_false_iff_ne.2 (by omega)
            have hsp : pnames (c + 1) ps.length k (x :: rest') = pnames (c + 1) ps.length (k + 1) rest' := by rw [pnames, if_neg hq]
            rcases w with _ | w
            · simp only [amx, seval, ty_FmF_10, hb', w1', hR, hkl, hR9, hC, hm, wN, zN, bq, tokD, tokP]
              refine step_nrm (NS.mk acc none (1 :: g')) ⟨by simp only; omega, by simp only [List.length_cons]; omega, apart_cons j3⟩ (by rw [hsp]) ?_
              (refine ⟨[], ?_⟩; (try simp only [amx, seval, tokD, tokP]); exact sub_mk (by repeat first | exact subT_nil | refine subT_cons (by first | rfl | simp [Tm.get, *]) ?_))
            · simp only [amx, seval, ty_FmF_10, hb', w1', hR, hkl, hR9, hC, hm, wN, zN, bq, tokD, tokP]
              refine step_nrm (NS.mk acc (some w) (1 :: g')) ⟨by simp only; omega, by simp only [List.length_cons]; omega, apart_cons j3⟩ (by rw [hsp]) ?_
              (refine ⟨[], ?_⟩; (try simp only [amx, seval, tokD, tokP]); exact sub_mk (by repeat first | exact subT_nil | refine subT_cons (by first | rfl | simp [Tm.get, *]) ?_))
        · rintro ⟨acc, w, g'⟩ _ ⟨j1, j2, j3⟩ hb'
          simp only [amx, seval, ty_FmF_10, hb']
          refine last_end (by simp) ⟨rfl, w, g', ⟨j2, j3⟩, ?_⟩
          simp only [pnames, List.append_nil]
          exact sub_mk (by repeat first | exact subT_nil | refine subT_cons (by first | rfl | simp [Tm.get, *]) ?_)
        · (refine ⟨[], ?_⟩; (try simp only [amx, seval, tokD, tokP]); exact sub_mk (by repeat first | exact subT_nil | refine subT_cons (by first | rfl | simp [Tm.get, *]) ?_))
        · rintro o S' ⟨rfl, w, g', ⟨j2, j3⟩, hs'⟩
          refine good_sub_cr (up_pgs (fun r => up_pg)) hs' ?_
          simp only [List.nil_append]
          have hn1 : ¬ g' <:+ [0, 1] := fun k => by have := k.length_le; simp at this; omega
          have hnl := pnames_len (c + 1) ps.length 0 fs
          rw [hf] at hG
          generalize pnames (c + 1) ps.length 0 fs = nms at *
          rcases (show b = 0 ∨ b = 1 by omega) with rfl | rfl
          · rw [if_pos (show ((0 : Nat) : Int) = 0 from rfl)] at hG
            rcases w with _ | w
            · simp only [amx, seval, ty_FmF_10, pB, hA, fE, w1, el_agg, nt_arr, ac_arr, tokD, tokP, suf1 hn1, suf2 hn1, suf3 hn1, suf4 hn1, suf1 j3, suf2 j3, suf3 j3, suf4 j3, upd, Option.getD_some, Option.getD_none, beq_self_eq_true]
              refine step_nrm (PS.mk (ps ++ [⟨[112, UInt8.ofNat (49 + ps.length)], nms, y.1⟩]) (some (1 :: g')) (y.2) (1 :: 1 :: g')) ⟨by simp, by simp only at *; omega, by simp only [List.length_cons]; omega, apart_cons (apart_cons j3)⟩ (by rw [hG]) ?_
              (refine ⟨[], ?_⟩; (try simp only [amx, seval, fbox, tokD, tokP, papp, Page.dv, Exp.dv_eq y.1]); exact sub_mk (by repeat first | exact subT_nil | refine subT_cons (by first | rfl | simp [Tm.get, *]) ?_))
            · simp only [amx, seval, ty_FmF_10, pB, hA, fE, w1, el_agg, nt_arr, ac_arr, tokD, tokP, suf1 hn1, suf2 hn1, suf3 hn1, suf4 hn1, suf1 j3, suf2 j3, suf3 j3, suf4 j3, upd, Option.getD_some, Option.getD_none, beq_self_eq_true]
              refine step_nrm (PS.mk (ps ++ [⟨[112, UInt8.ofNat (49 + ps.length)], nms, y.1⟩]) (some (1 :: g')) (y.2) (1 :: 1 :: g')) ⟨by simp, by simp only at *; omega, by simp only [List.length_cons]; omega, apart_cons (apart_cons j3)⟩ (by rw [hG]) ?_
              (refine ⟨[], ?_⟩; (try simp only [amx, seval, fbox, tokD, tokP, papp, Page.dv, Exp.dv_eq y.1]); exact sub_mk (by repeat first | exact subT_nil | refine subT_cons (by first | rfl | simp [Tm.get, *]) ?_))
          · rw [if_neg (show ¬ ((1 : Nat) : Int) = 0 by decide)] at hG
            rcases w with _ | w
            · simp only [amx, seval, ty_FmF_10, pB, hA, fE, w1, el_agg, nt_arr, ac_arr, tokD, tokP, suf1 hn1, suf2 hn1, suf3 hn1, suf4 hn1, suf1 j3, suf2 j3, suf3 j3, suf4 j3, upd, Option.getD_some, Option.getD_none, beq_self_eq_true]
              refine step_nrm (PS.mk (ps ++ [⟨[112, UInt8.ofNat (49 + ps.length)], nms, Exp.zero⟩]) (some (g')) (gat l n) (1 :: g')) ⟨by simp, by simp only at *; omega, by simp only [List.length_cons]; omega, apart_cons j3⟩ (by rw [hG]) ?_
              (refine ⟨[], ?_⟩; (try simp only [amx, seval, fbox, tokD, tokP, papp, Page.dv, Exp.zero, Exp.op, Exp.v, Exp.name, Exp.args, Val.zero, List.map_nil]); exact sub_mk (by repeat first | exact subT_nil | refine subT_cons (by first | rfl | simp [Tm.get, *]) ?_))
            · simp only [amx, seval, ty_FmF_10, pB, hA, fE, w1, el_agg, nt_arr, ac_arr, tokD, tokP, suf1 hn1, suf2 hn1, suf3 hn1, suf4 hn1, suf1 j3, suf2 j3, suf3 j3, suf4 j3, upd, Option.getD_some, Option.getD_none, beq_self_eq_true]
              refine step_nrm (PS.mk (ps ++ [⟨[112, UInt8.ofNat (49 + ps.length)], nms, Exp.zero⟩]) (some (g')) (gat l n) (1 :: g')) ⟨by simp, by simp only at *; omega, by simp only [List.length_cons]; omega, apart_cons j3⟩ (by rw [hG]) ?_
              (refine ⟨[], ?_⟩; (try simp only [amx, seval, fbox, tokD, tokP, papp, Page.dv, Exp.zero, Exp.op, Exp.v, Exp.name, Exp.args, Val.zero, List.map_nil]); exact sub_mk (by repeat first | exact subT_nil | refine subT_cons (by first | rfl | simp [Tm.get, *]) ?_))
      · simp only [amx, seval, ty_FmF_10, fN, hb, w1, wI, wU, hstr, hfb, tokD, tokP, nt_arr, ac_arr, suf1 hn0, suf2 hn0, suf3 hn0, suf4 hn0, Raw.dv, pB, upd, Option.getD_some, Option.getD_none]
        refine good_range fs (fun k (x : NS) _ => ⟨[(2, .ptr ⟨0, 2, [0]⟩ 0), (3, .ptr ⟨0, 17, [0, 1]⟩ 0), (4, .ptr ⟨0, 4, [0, 1, 1]⟩ 0), (5, .ptr ⟨0, 5, [0, 1, 1, 1, 1]⟩ 0), (9, .d (.int .i64 ((c + 1 : Nat) : Int))), (10, .d (.int .i64 (ps.length : Nat))), (11, .ptr ⟨0, 11, 0 :: 1 :: g⟩ 0), (12, .ptr ⟨0, 12, 0 :: 1 :: 1 :: g⟩ 0), (77, .d (.int .i64 ((c + 1 : Nat) : Int))), (78, .d (.int .i64 (ps.length : Nat))), (91, .arr ⟨0, 70, 0 :: t⟩ 0 fs.length 9), (92, .d (.int .i64 fs.length)), (93, .d (.int .i64 (k : Nat)))],
            tokP 0 109 (x.acc.length * 1) x.w ++ [(⟨0, 12, 0 :: 1 :: 1 :: g⟩, .box [.d (.str [112, UInt8.ofNat (49 + ps.length)]), .own 1 (x.acc.map DV.str) (tokD 0 109 x.w), .d (.int .i64 0), .d (.int .i64 0), .d (.int .i64 0), .d (.str []), .d (.str []), .own 6 [] none]), (⟨0, 11, 0 :: 1 :: g⟩, .box [.d (.int .i64 (gnext l n).kind), .d (.int .i64 (gnext l n).a), .d (.int .i64 (gnext l n).b), .d (.str (gnext l n).text)]), (⟨0, 125, 0 :: u⟩, .grow (ps.length * 8)), (⟨0, 70, 0 :: t⟩, .box (flatD (fs.map Field.dv))), (⟨0, 5, [0, 1, 1, 1, 1]⟩, .box [.d (.int .i64 r0.kind), .d (.int .i64 r0.a), .d (.int .i64 r0.b), .d (.str r0.text)]), (⟨0, 4, [0, 1, 1]⟩, .box [.arr ⟨0, 70, 0 :: t⟩ 0 fs.length 9, .own 8 (ps.map Page.dv) (some ⟨0, 125, 0 :: u⟩)]), (⟨0, 17, [0, 1]⟩, gbox l (gat l n)), (⟨0, 2, [0]⟩, .box [.own 9 [] none, .own 8 [] none])], x.g⟩)
          (fun k x => x.acc.length ≤ k ∧ 6 ≤ x.g.length ∧ ¬ x.g <:+ (0 :: t)) (fun k x r => x.acc ++ pnames (c + 1) ps.length k r)
          (fun (o : List Str) (q : Out) (S : St) => q = .exit 5 ∧ ∃ w g', (6 ≤ g'.length ∧ ¬ g' <:+ (0 :: t)) ∧ Sub ⟨[(2, .ptr ⟨0, 2, [0]⟩ 0), (3, .ptr ⟨0, 17, [0, 1]⟩ 0), (4, .ptr ⟨0, 4, [0, 1, 1]⟩ 0), (5, .ptr ⟨0, 5, [0, 1, 1, 1, 1]⟩ 0), (9, .d (.int .i64 ((c + 1 : Nat) : Int))), (11, .ptr ⟨0, 11, 0 :: 1 :: g⟩ 0), (12, .ptr ⟨0, 12, 0 :: 1 :: 1 :: g⟩ 0), (77, .d (.int .i64 ((c + 1 : Nat) : Int))), (78, .d (.int .i64 (ps.length : Nat)))], tokP 0 109 (o.length * 1) w ++ [(⟨0, 12, 0 :: 1 :: 1 :: g⟩, .box [.d (.str [112, UInt8.ofNat (49 + ps.length)]), .own 1 (o.map DV.str) (tokD 0 109 w), .d (.int .i64 0), .d (.int .i64 0), .d (.int .i64 0), .d (.str []), .d (.str []), .own 6 [] none]), (⟨0, 11, 0 :: 1 :: g⟩, .box [.d (.int .i64 (gnext l n).kind), .d (.int .i64 (gnext l n).a), .d (.int .i64 (gnext l n).b), .d (.str (gnext l n).text)]), (⟨0, 125, 0 :: u⟩, .grow (ps.length * 8)), (⟨0, 70, 0 :: t⟩, .box (flatD (fs.map Field.dv))), (⟨0, 5, [0, 1, 1, 1, 1]⟩, .box [.d (.int .i64 r0.kind), .d (.int .i64 r0.a), .d (.int .i64 r0.b), .d (.str r0.text)]), (⟨0, 4, [0, 1, 1]⟩, .box [.arr ⟨0, 70, 0 :: t⟩ 0 fs.length 9, .own 8 (ps.map Page.dv) (some ⟨0, 125, 0 :: u⟩)]), (⟨0, 17, [0, 1]⟩, gbox l (gat l n)), (⟨0, 2, [0]⟩, .box [.own 9 [] none, .own 8 [] none])], g'⟩ S)
          ⟨[], none, 1 :: 1 :: 1 :: g⟩ kp10_23 (fun r => up_fm) ⟨Nat.le_refl _, by simp only [List.length_cons]; omega, apart_cons (apart_cons (apart_cons h5))⟩ (by omega) (by omega) ?_ ?_ ?_ ?_
        · rintro k ⟨acc, w, g'⟩ _ x rest' hk hget' hd' ⟨j1, j2, j3⟩ hb' w1'
          simp only at j1 j2 j3
          obtain ⟨R, hR⟩ := fdrop' hget'
          have hkl : ((k : Int) < (fs.length : Int)) = True := eq_true (by omega)
          have hR9 : (9 ≤ R.length + 1 + 1 + 1 + 1 + 1 + 1 + 1 + 1 + 1) = True := eq_true (by omega)
          have hC : ((acc.length + 1) * 16 ≤ 140737488355328) = True := eq_true (by omega)
          have hm : (k : Int).tmod ((c + 2 : Nat) : Int) = ((k % (c + 2) : Nat) : Int) := rfl
          generalize flatD (fs.map Field.dv) = CC at *
          by_cases hq : k % (c + 2) = ps.length
          · have bq : (((k % (c + 2) : Nat) : Int) == (ps.length : Int)) = true := by rw [hq]; exact beq_self_eq_true _
            have hsp : pnames (c + 1) ps.length k (x :: rest') = x.name :: pnames (c + 1) ps.length (k + 1) rest' := by rw [pnames, if_pos hq]
            rcases w with _ | w
            · simp only [amx, seval, ty_FmF_10, hb', w1', hR, hkl, hR9, hC, hm, wN, zN, bq, tokD, tokP]
              refine step_nrm (NS.mk (acc ++ [x.name]) (some (1 :: g')) (1 :: 1 :: g')) ⟨by simp only [List.length_append, List.length_cons, List.length_nil]; omega, by simp only [List.length_cons]; omega, apart_cons (apart_cons j3)⟩ (by rw [hsp]; simp) ?_
              (refine ⟨[], ?_⟩; (try simp only [amx, seval, tokD, tokP]); exact sub_mk (by repeat first | exact subT_nil | refine subT_cons (by first | rfl | simp [Tm.get, *]) ?_))
            · simp only [amx, seval, ty_FmF_10, hb', w1', hR, hkl, hR9, hC, hm, wN, zN, bq, tokD, tokP]
              refine step_nrm (NS.mk (acc ++ [x.name]) (some w) (1 :: g')) ⟨by simp only [List.length_append, List.length_cons, List.length_nil]; omega, by simp only [List.length_cons]; omega, apart_cons j3⟩ (by rw [hsp]; simp) ?_
              (refine ⟨[], ?_⟩; (try simp only [amx, seval, tokD, tokP]); exact sub_mk (by repeat first | exact subT_nil | refine subT_cons (by first | rfl | simp [Tm.get, *]) ?_))
          · have bq : (((k % (c + 2) : Nat) : Int) == (ps.length : Int)) = false := beq_eq_false_iff_ne.2 (by omega)
            have hsp : pnames (c + 1) ps.length k (x :: rest') = pnames (c + 1) ps.length (k + 1) rest' := by rw [pnames, if_neg hq]
            rcases w with _ | w
            · simp only [amx, seval, ty_FmF_10, hb', w1', hR, hkl, hR9, hC, hm, wN, zN, bq, tokD, tokP]
              refine step_nrm (NS.mk acc none (1 :: g')) ⟨by simp only; omega, by simp only [List.length_cons]; omega, apart_cons j3⟩ (by rw [hsp]) ?_
              (refine ⟨[], ?_⟩; (try simp only [amx, seval, tokD, tokP]); exact sub_mk (by repeat first | exact subT_nil | refine subT_cons (by first | rfl | simp [Tm.get, *]) ?_))
            · simp only [amx, seval, ty_FmF_10, hb', w1', hR, hkl, hR9, hC, hm, wN, zN, bq, tokD, tokP]
              refine step_nrm (NS.mk acc (some w) (1 :: g')) ⟨by simp only; omega, by simp only [List.length_cons]; omega, apart_cons j3⟩ (by rw [hsp]) ?_
              (refine ⟨[], ?_⟩; (try simp only [amx, seval, tokD, tokP]); exact sub_mk (by repeat first | exact subT_nil | refine subT_cons (by first | rfl | simp [Tm.get, *]) ?_))
        · rintro ⟨acc, w, g'⟩ _ ⟨j1, j2, j3⟩ hb'
          simp only [amx, seval, ty_FmF_10, hb']
          refine last_end (by simp) ⟨rfl, w, g', ⟨j2, j3⟩, ?_⟩
          simp only [pnames, List.append_nil]
          exact sub_mk (by repeat first | exact subT_nil | refine subT_cons (by first | rfl | simp [Tm.get, *]) ?_)
        · (refine ⟨[], ?_⟩; (try simp only [amx, seval, tokD, tokP]); exact sub_mk (by repeat first | exact subT_nil | refine subT_cons (by first | rfl | simp [Tm.get, *]) ?_))
        · rintro o S' ⟨rfl, w, g', ⟨j2, j3⟩, hs'⟩
          refine good_sub_cr (up_pgs (fun r => up_pg)) hs' ?_
          simp only [List.nil_append]
          have hn1 : ¬ g' <:+ [0, 1] := fun k => by have := k.length_le; simp at this; omega
          have hnl := pnames_len (c + 1) ps.length 0 fs
          rw [hf] at hG
          generalize pnames (c + 1) ps.length 0 fs = nms at *
          rcases (show b = 0 ∨ b = 1 by omega) with rfl | rfl
          · rw [if_pos (show ((0 : Nat) : Int) = 0 from rfl)] at hG
            rcases w with _ | w
            · simp only [amx, seval, ty_FmF_10, pB, hA, fE, w1, el_agg, nt_arr, ac_arr, tokD, tokP, suf1 hn1, suf2 hn1, suf3 hn1, suf4 hn1, suf1 j3, suf2 j3, suf3 j3, suf4 j3, upd, Option.getD_some, Option.getD_none, beq_self_eq_true]
              refine step_nrm (PS.mk (ps ++ [⟨[112, UInt8.ofNat (49 + ps.length)], nms, y.1⟩]) (some u) (y.2) (1 :: g')) ⟨by simp, by simp only at *; omega, by simp only [List.length_cons]; omega, apart_cons j3⟩ (by rw [hG]) ?_
              (refine ⟨[], ?_⟩; (try simp only [amx, seval, fbox, tokD, tokP, papp, Page.dv, Exp.dv_eq y.1]); exact sub_mk (by repeat first | exact subT_nil | refine subT_cons (by first | rfl | simp [Tm.get, *]) ?_))
            · simp only [amx, seval, ty_FmF_10, pB, hA, fE, w1, el_agg, nt_arr, ac_arr, tokD, tokP, suf1 hn1, suf2 hn1, suf3 hn1, suf4 hn1, suf1 j3, suf2 j3, suf3 j3, suf4 j3, upd, Option.getD_some, Option.getD_none, beq_self_eq_true]
              refine step_nrm (PS.mk (ps ++ [⟨[112, UInt8.ofNat (49 + ps.length)], nms, y.1⟩]) (some u) (y.2) (1 :: g')) ⟨by simp, by simp only at *; omega, by simp only [List.length_cons]; omega, apart_cons j3⟩ (by rw [hG]) ?_
              (refine ⟨[], ?_⟩; (try simp only [amx, seval, fbox, tokD, tokP, papp, Page.dv, Exp.dv_eq y.1]); exact sub_mk (by repeat first | exact subT_nil | refine subT_cons (by first | rfl | simp [Tm.get, *]) ?_))
          · rw [if_neg (show ¬ ((1 : Nat) : Int) = 0 by decide)] at hG
            rcases w with _ | w
            · simp only [amx, seval, ty_FmF_10, pB, hA, fE, w1, el_agg, nt_arr, ac_arr, tokD, tokP, suf1 hn1, suf2 hn1, suf3 hn1, suf4 hn1, suf1 j3, suf2 j3, suf3 j3, suf4 j3, upd, Option.getD_some, Option.getD_none, beq_self_eq_true]
              refine step_nrm (PS.mk (ps ++ [⟨[112, UInt8.ofNat (49 + ps.length)], nms, Exp.zero⟩]) (some u) (gat l n) (g')) ⟨by simp, by simp only at *; omega, by simp only [List.length_cons]; omega, j3⟩ (by rw [hG]) ?_
              (refine ⟨[], ?_⟩; (try simp only [amx, seval, fbox, tokD, tokP, papp, Page.dv, Exp.zero, Exp.op, Exp.v, Exp.name, Exp.args, Val.zero, List.map_nil]); exact sub_mk (by repeat first | exact subT_nil | refine subT_cons (by first | rfl | simp [Tm.get, *]) ?_))
            · simp only [amx, seval, ty_FmF_10, pB, hA, fE, w1, el_agg, nt_arr, ac_arr, tokD, tokP, suf1 hn1, suf2 hn1, suf3 hn1, suf4 hn1, suf1 j3, suf2 j3, suf3 j3, suf4 j3, upd, Option.getD_some, Option.getD_none, beq_self_eq_true]
              refine step_nrm (PS.mk (ps ++ [⟨[112, UInt8.ofNat (49 + ps.length)], nms, Exp.zero⟩]) (some u) (gat l n) (g')) ⟨by simp, by simp only at *; omega, by simp only [List.length_cons]; omega, j3⟩ (by rw [hG]) ?_
              (refine ⟨[], ?_⟩; (try simp only [amx, seval, fbox, tokD, tokP, papp, Page.dv, Exp.zero, Exp.op, Exp.v, Exp.name, Exp.args, Val.zero, List.map_nil]); exact sub_mk (by repeat first | exact subT_nil | refine subT_cons (by first | rfl | simp [Tm.get, *]) ?_))
    · rintro ⟨ps, u, n, g'⟩ _ ⟨h1, h2, h3, h5⟩ hb
      simp only [List.length_replicate] at hb h1 h3 h5 ⊢
      simp only [amx, seval, ty_FmF_10, hb]
      refine last_end (by simp) ⟨rfl, u, g', n, ⟨h3, h5⟩, ?_⟩
      simp only [List.length_nil, gpages]
      exact sub_mk (by repeat first | exact subT_nil | refine subT_cons (by first | rfl | simp [Tm.get, *]) ?_)
    · refine ⟨[], ?_⟩
      simp only [amx, seval, fbox, tokD, tokP]
      exact sub_mk (by repeat first | exact subT_nil | refine subT_cons (by first | rfl | simp [Tm.get, *]) ?_)
    · rintro o S' ⟨rfl, u, g', n, ⟨h3, h5⟩, hs'⟩
      refine good_sub_cr up_finq hs' ?_
      rw [List.length_replicate]
      simp only
      generalize (gpages l fs (c + 1) (c + 1) [] n0).1 = ps at *
      obtain ⟨b, hb1, hb2⟩ := pick_nat hr 0 2 (by decide) (by decide) (fun r => r.kind) (fun r h => h.kind)
      have pB := fun (S : St) (d dst : Nat) => ca_picked (d := d) (dst := dst) (S := S) (gnext l 0).kind 2 (by decide)
      have hb1' : pick (gnext l 0).kind 2 = b := hb1
      rw [hb1', hr0] at pB
      rw [hr0] at hb1'
      rw [hb1']
      have fz : ∀ (H : Heap) (xs : List Field), H.get ⟨0, 70, 0 :: t⟩ = some (fbox xs) → xs.length = fs.length → frzV H (.arr ⟨0, 70, 0 :: t⟩ 0 fs.length 9) = .d (.sl 9 (xs.map Field.dv)) := fun H xs h hx =>
        frz_list0 (sz := 9) (n := fs.length) (xs := xs.map Field.dv) h (by rw [List.length_map, hx]) (by decide) (elt_fd xs)
      have fr := fun (T : Tm) (g : List Nat) (H : Heap) (dst : Nat) (hS : Heap.get H ⟨0, 70, 0 :: t⟩ = some (fbox fs)) => ca_rev (d := 0) (dst := dst) (S := ⟨T, H, g⟩) 0 70 (0 :: t) (Nat.le_refl _) fs (by omega) (by omega) hS
      unfold Frm.dv
      rcases (show b = 0 ∨ b = 1 by omega) with rfl | rfl
      · rw [if_pos (show ((0 : Nat) : Int) = 0 from rfl)]
        rcases u with _ | u
        · simp only [amx, seval, ty_FmF_10, pB, fr, tokD, tokP, nt_arr, ac_arr, plainD_arr, upd, Option.getD_some, Option.getD_none, beq_self_eq_true]
          rw [fz _ fs.reverse (by simp [Heap.get]) (by simp)]
          rfl
        · simp only [amx, seval, ty_FmF_10, pB, fr, tokD, tokP, nt_arr, ac_arr, plainD_arr, upd, Option.getD_some, Option.getD_none, beq_self_eq_true]
          rw [fz _ fs.reverse (by simp [Heap.get]) (by simp)]
          rfl
      · rw [if_neg (show ¬ ((1 : Nat) : Int) = 0 by decide)]
        rcases u with _ | u
        · simp only [amx, seval, ty_FmF_10, pB, fr, tokD, tokP, nt_arr, ac_arr, plainD_arr, upd, Option.getD_some, Option.getD_none, beq_self_eq_true]
          rw [fz _ fs (by simp [Heap.get]) (by simp)]
          rfl
        · simp only [amx, seval, ty_FmF_10, pB, fr, tokD, tokP, nt_arr, ac_arr, plainD_arr, upd, Option.getD_some, Option.getD_none, beq_self_eq_true]
          rw [fz _ fs (by simp [Heap.get]) (by simp)]
          rfl
theorem ca_Form {d dst : Nat} {S : St} (l : List Raw) (hl : l.length ≤ 9223372036854775807) (hr : ∀ r ∈ l, r.ok) : callA tab (callR tab) d dst 10 [.d (.sl 4 (l.map Raw.dv))] S = some (.d (mkForm l).dv, S) :=
  ca_retD (ds := [.sl 4 (l.map Raw.dv)]) (ret_Form l hl hr) rfl (tab_opn (by kernel_rfl)) (tab_res (by kernel_rfl))
/- Forms of raw things: what they are. -/
theorem gfields_names (l : List Raw) : ∀ (m : Nat) (fs : List Field) (k : Nat), (gfields l m fs k).1.map Field.name = fs.map Field.name ++ (List.range' fs.length m).map (fun i => fnm.getD i [])
  | 0, fs, k => by simp [gfields]
  | m + 1, fs, k => by
    unfold gfields
    rw [gfields_names l m, List.length_append, List.map_append, List.append_assoc, List.length_singleton, List.range'_succ]
    rfl
theorem nfields_le {l : List Raw} (hr : ∀ r ∈ l, r.ok) : 1 ≤ nfields l ∧ nfields l ≤ 10 := by
  obtain ⟨a, ha, ha2⟩ := pick_nat hr 0 10 (by decide) (by decide) (fun r => r.a) (fun r h => h.a)
  have ha' : pick (gnext l 0).a 10 = a := ha
  unfold nfields
  rw [ha']
  omega
theorem ffields_len (l : List Raw) : (ffields l).length = nfields l := by
  unfold ffields
  rw [gfields_len]
  simp
theorem ffields_names (l : List Raw) : (ffields l).map Field.name = (List.range (nfields l)).map (fun i => fnm.getD i []) := by
  unfold ffields
  rw [gfields_names, List.range_eq_range']
  rfl
theorem fields_len {l : List Raw} (hr : ∀ r ∈ l, r.ok) : 1 ≤ (mkForm l).fields.length ∧ (mkForm l).fields.length ≤ 10 := by
  have h := nfields_le hr
  have h2 := ffields_len l
  unfold mkForm
  simp only
  split
  · rw [List.length_reverse]; omega
  · omega
theorem fnm_injF : ∀ i j : _root_.Fin 10, fnm.getD i.1 [] = fnm.getD j.1 [] → i = j := by decide +kernel
theorem fnm_inj (i j : Nat) (hi : i < 10) (hj : j < 10) (h : fnm.getD i [] = fnm.getD j []) : i = j := by
  have := fnm_injF ⟨i, hi⟩ ⟨j, hj⟩ h
  injection this
theorem fnm_memF : ∀ i : _root_.Fin 10, fnm.getD i.1 [] ∈ fnm := by decide +kernel
theorem fnm_mem (i : Nat) (hi : i < 10) : fnm.getD i [] ∈ fnm := fnm_memF ⟨i, hi⟩
theorem map_nodup {α β : Type} {f : α → β} : ∀ {l : List α}, (∀ a ∈ l, ∀ b ∈ l, f a = f b → a = b) → l.Nodup → (l.map f).Nodup
  | [], _, _ => List.nodup_nil
  | x :: r, h, hn => by
    rw [List.nodup_cons] at hn
    rw [List.map_cons, List.nodup_cons]
    refine ⟨fun hm => ?_, map_nodup (fun a ha b hb => h a (by simp [ha]) b (by simp [hb])) hn.2⟩
    obtain ⟨y, hy, he⟩ := List.mem_map.1 hm
    have := h y (by simp [hy]) x (by simp) he
    exact hn.1 (this ▸ hy)
theorem ffields_nodup {l : List Raw} (hr : ∀ r ∈ l, r.ok) : ((ffields l).map Field.name).Nodup := by
  have hn := nfields_le hr
  rw [ffields_names]
  refine map_nodup (fun a ha b hb he => ?_) List.nodup_range
  rw [List.mem_range] at ha hb
  exact fnm_inj a b (by omega) (by omega) he
theorem fields_perm (l : List Raw) : ∀ f, f ∈ (mkForm l).fields ↔ f ∈ ffields l := by
  intro f
  unfold mkForm
  simp only
  split
  · exact List.mem_reverse
  · rfl
theorem fields_nodup {l : List Raw} (hr : ∀ r ∈ l, r.ok) : ((mkForm l).fields.map Field.name).Nodup := by
  have h := ffields_nodup hr
  unfold mkForm
  simp only
  split
  · rw [List.map_reverse, (List.reverse_perm _).nodup_iff]; exact h
  · exact h
theorem ffields_name {l : List Raw} (hr : ∀ r ∈ l, r.ok) : ∀ f ∈ ffields l, f.name ∈ fnm := by
  intro f hf
  have hn := nfields_le hr
  have h : f.name ∈ (ffields l).map Field.name := List.mem_map_of_mem hf
  rw [ffields_names] at h
  obtain ⟨i, hi, he⟩ := List.mem_map.1 h
  rw [List.mem_range] at hi
  exact he ▸ fnm_mem i (by omega)
theorem ffind_at {fs : List Field} (hn : (fs.map Field.name).Nodup) {k : Nat} {x : Field} (hx : fs[k]? = some x) : ffind fs x.name = ((k : Int), 0) := by
  have h : fidx (fun f => f.name == x.name) fs 0 = ((0 + k : Nat) : Int) := fidx_at _ fs 0 k x hx (by simp) (fun i y hi hy => by
    refine beq_eq_false_iff_ne.2 (fun he => ?_)
    obtain ⟨h1, h1'⟩ := List.getElem?_eq_some_iff.1 hx
    obtain ⟨h2, h2'⟩ := List.getElem?_eq_some_iff.1 hy
    have h3 : (fs.map Field.name)[i]'(by simpa using h2) = (fs.map Field.name)[k]'(by simpa using h1) := by simp [h1', h2', he]
    exact (List.pairwise_iff_getElem.1 hn) i k (by simpa using h2) (by simpa using h1) hi h3)
  unfold ffind
  rw [h, if_neg (by omega), Nat.zero_add]
theorem ffind_no {fs : List Field} {s : Str} (h : ∀ f ∈ fs, f.name ≠ s) : ffind fs s = (0, 5) := by
  unfold ffind
  rw [fidx_none _ fs 0 (fun f hf => beq_eq_false_iff_ne.2 (h f hf)), if_pos (by decide)]
/- Letters, digits, and how many signs are such. -/
theorem ty_LexA_65 : type_of% (ai (ai @rs65 @lw65) (ai @tt4 @tt5)) := (ai (ai @rs65 @lw65) (ai @tt4 @tt5))
theorem ty_LexA_68 : type_of% (ai (ai @rs68 @lw68) (ai @tt4 @tt5)) := (ai (ai @rs68 @lw68) (ai @tt4 @tt5))
theorem ty_LexA_67 : type_of% (ai (ai @rs67 @lw67) (ai @tt4 @tt5)) := (ai (ai @rs67 @lw67) (ai @tt4 @tt5))
theorem ty_LexA_66 : type_of% (ai (ai (ai @rs66 @lw66) (ai @kp66_2 @tt3)) (ai (ai @tt4 @tt5) (ai @tt9 @tt105))) := (ai (ai (ai @rs66 @lw66) (ai @kp66_2 @tt3)) (ai (ai @tt4 @tt5) (ai @tt9 @tt105)))

def isLetter (c : UInt8) : Bool := decide ((c.toNat : Int) ≥ 97) && decide ((c.toNat : Int) ≤ 122)
def isDigit (c : UInt8) : Bool := decide ((c.toNat : Int) ≥ 48) && decide ((c.toNat : Int) ≤ 57)
theorem ret_letter (c : UInt8) : Ret tab 65 [.d (.int .u8 (c.toNat))] (.d (.bool (isLetter c))) := by
  refine ret_of (1) fn65 rfl rfl ?_
  simp only [amx, seval, ty_LexA_65]
  repeat' ((first | refine good_ci (fun h => ?_) (fun h => ?_) | refine good_cgt (fun h => ?_) (fun h => ?_) | refine good_cgf (fun h => ?_) (fun h => ?_) | refine good_cqgt (fun h => ?_) (fun h => ?_) | refine good_cqgf (fun h => ?_) (fun h => ?_)) <;> simp only [amx, seval, ty_LexA_65, h])
  all_goals (first | (simp_all [isLetter]; done) | (simp_all [isLetter]; omega))
theorem ca_letter {d dst : Nat} {S : St} (c : UInt8) : callA tab (callR tab) d dst 65 [.d (.int .u8 (c.toNat))] S = some (.d (.bool (isLetter c)), S) :=
  ca_ret (ds := [.int .u8 (c.toNat)]) (ret_letter c) rfl (tab_opn (by kernel_rfl)) (tab_res (by kernel_rfl))
theorem ret_digit (c : UInt8) : Ret tab 68 [.d (.int .u8 (c.toNat))] (.d (.bool (isDigit c))) := by
  refine ret_of (1) fn68 rfl rfl ?_
  simp only [amx, seval, ty_LexA_68]
  repeat' ((first | refine good_ci (fun h => ?_) (fun h => ?_) | refine good_cgt (fun h => ?_) (fun h => ?_) | refine good_cgf (fun h => ?_) (fun h => ?_) | refine good_cqgt (fun h => ?_) (fun h => ?_) | refine good_cqgf (fun h => ?_) (fun h => ?_)) <;> simp only [amx, seval, ty_LexA_68, h])
  all_goals (first | (simp_all [isDigit]; done) | (simp_all [isDigit]; omega))
theorem ca_digit {d dst : Nat} {S : St} (c : UInt8) : callA tab (callR tab) d dst 68 [.d (.int .u8 (c.toNat))] S = some (.d (.bool (isDigit c)), S) :=
  ca_ret (ds := [.int .u8 (c.toNat)]) (ret_digit c) rfl (tab_opn (by kernel_rfl)) (tab_res (by kernel_rfl))
theorem ret_Name1 (c : UInt8) : Ret tab 67 [.d (.int .u8 (c.toNat))] (.d (.bool (isLetter c || isDigit c))) := by
  refine ret_of (1) fn67 rfl rfl ?_
  simp only [amx, seval, ty_LexA_67, ca_letter, ca_digit]
  repeat' ((first | refine good_ci (fun h => ?_) (fun h => ?_) | refine good_cgt (fun h => ?_) (fun h => ?_) | refine good_cgf (fun h => ?_) (fun h => ?_) | refine good_cqgt (fun h => ?_) (fun h => ?_) | refine good_cqgf (fun h => ?_) (fun h => ?_)) <;> simp only [amx, seval, ty_LexA_67, ca_letter, ca_digit, h])
  all_goals (simp_all)
def spanL (p : UInt8 → Bool) : Str → Nat
  | [] => 0
  | c :: r => if p c = true then spanL p r + 1 else 0
theorem ret_span (s : Str) (k : Nat) (p : UInt8 → Bool) (hk : ∀ c : UInt8, Ret tab k [.d (.int .u8 (c.toNat : Int))] (.d (.bool (p c)))) (ho : tab.opn k = false) (hr : Plain k) (hs : s.length < 9223372036854775807) : Ret tab 66 [.d (.str (s)), .d (.fn k [])] (.d (.int .i64 (spanL p s))) := by
  refine ret_of (s.length + 1) fn66 rfl rfl ?_
  have ck : ∀ {S : St} {d dst : Nat} (c : UInt8), callA tab (callR tab) d dst k [.d (.int .u8 (c.toNat : Int))] S = some (.d (.bool (p c)), S) := fun c => ca_ret (ds := [.int .u8 (c.toNat : Int)]) (hk c) rfl ho hr
  simp only [amx, seval, ty_LexA_66]
  refine good_loopR (α := Nat) (fun n => n ≤ s.length) (fun n => ⟨[(0, .d (.str s)), (1, .d (.fn k [])), (5, .d (.int .i64 n))], [], []⟩) (fun n => s.length - n) (fun n => EX (.exit 0) ⟨[(5, .d (.int .i64 ((n + spanL p (s.drop n) : Nat) : Int)))], [], []⟩) 0 kp66_2 (fun _ => up_ex) (Nat.zero_le _) (by omega) ?_ ?_ ?_
  · intro n hn
    have hn' : n ≤ s.length := hn
    by_cases h1 : n < s.length
    · have hget : s[n]? = some s[n] := List.getElem?_eq_getElem h1
      have hb : decide ((n : Int) < (s.length : Int)) = true := decide_eq_true (by omega)
      have hd : s.drop n = s[n] :: s.drop (n + 1) := List.drop_eq_getElem_cons h1
      have w1 : IntKind.i64.wrap ((n : Int) + 1) = (n : Int) + 1 := wrap_in (by omega) (by omega)
      cases hp : p s[n] with
      | false =>
        simp only [amx, seval, ty_LexA_66, hb, hget, ck, hp]
        refine loop_end (by simp) ⟨rfl, ?_⟩
        rw [hd]
        simp only [spanL, hp]
        (first | exact sub_mk subT_nil | skip) <;> (try simp only [amx, seval]) <;> exact sub_mk (by repeat first | exact subT_nil | refine subT_cons (by first | rfl | simp [Tm.get, *]) ?_)
      | true =>
        simp only [amx, seval, ty_LexA_66, hb, hget, ck, hp, w1]
        refine loop_nrm (n + 1) (show n + 1 ≤ s.length by omega) (show s.length - (n + 1) < s.length - n by omega) (fun o S h => ?_) ?_
        · rw [hd]
          simp only [spanL, hp, if_true]
          rw [show n + (spanL p (s.drop (n + 1)) + 1) = n + 1 + spanL p (s.drop (n + 1)) by omega]
          exact h
        · (first | exact sub_mk subT_nil | skip) <;> (try simp only [amx, seval]) <;> exact sub_mk (by repeat first | exact subT_nil | refine subT_cons (by first | rfl | simp [Tm.get, *]) ?_)
    · have hb : decide ((n : Int) < (s.length : Int)) = false := decide_eq_false (by omega)
      simp only [amx, seval, ty_LexA_66, hb]
      refine loop_end (by simp) ⟨rfl, ?_⟩
      rw [List.drop_eq_nil_of_le (by omega)]
      simp only [spanL]
      (first | exact sub_mk subT_nil | skip) <;> (try simp only [amx, seval]) <;> exact sub_mk (by repeat first | exact subT_nil | refine subT_cons (by first | rfl | simp [Tm.get, *]) ?_)
  · (first | exact sub_mk subT_nil | skip) <;> (try simp only [amx, seval]) <;> exact sub_mk (by repeat first | exact subT_nil | refine subT_cons (by first | rfl | simp [Tm.get, *]) ?_)
  · rintro o S' ⟨rfl, hs⟩
    refine good_sub_cr up_fin hs ?_
    simp only [amx, seval, ty_LexA_66]
    repeat' ((first | refine good_ci (fun h => ?_) (fun h => ?_) | refine good_cgt (fun h => ?_) (fun h => ?_) | refine good_cgf (fun h => ?_) (fun h => ?_) | refine good_cqgt (fun h => ?_) (fun h => ?_) | refine good_cqgf (fun h => ?_) (fun h => ?_)) <;> simp only [amx, seval, ty_LexA_66, h])
theorem ca_span {d dst : Nat} {S : St} (s : Str) (k : Nat) (p : UInt8 → Bool) (hk : ∀ c : UInt8, Ret tab k [.d (.int .u8 (c.toNat : Int))] (.d (.bool (p c)))) (ho : tab.opn k = false) (hr : Plain k) (hs : s.length < 9223372036854775807) : callA tab (callR tab) d dst 66 [.d (.str (s)), .d (.fn k [])] S = some (.d (.int .i64 (spanL p s)), S) :=
  ca_ret (ds := [.str (s), .fn k []]) (ret_span s k p hk ho hr hs) rfl (tab_opn (by kernel_rfl)) (tab_res (by kernel_rfl))
/- Names, and words that formulas have for themselves. -/
theorem ty_LexN_69 : type_of% (ai (ai @rs69 @lw69) (ai @tt4 @tt9)) := (ai (ai @rs69 @lw69) (ai @tt4 @tt9))
theorem ty_LexN_35 : type_of% (ai (ai (ai @rs35 @lw35) (ai @tt3 @tt4)) (ai (ai @tt5 @tt9) (ai @tt28 @tt105))) := (ai (ai (ai @rs35 @lw35) (ai @tt3 @tt4)) (ai (ai @tt5 @tt9) (ai @tt28 @tt105)))

theorem ca_span_nm {d dst : Nat} {S : St} (s : Str) (hs : s.length < 9223372036854775807) : callA tab (callR tab) d dst 66 [.d (.str s), .d (.fn 67 [])] S = some (.d (.int .i64 (spanL (fun c => isLetter c || isDigit c) s)), S) :=
  ca_span s 67 _ ret_Name1 (tab_opn (by kernel_rfl)) (tab_res (by kernel_rfl)) hs
def kwords : List Str := [[97, 110, 100], [111, 114], [110, 111, 116], [116, 114, 117, 101], [102, 97, 108, 115, 101], [105, 102], [108, 101, 110]]
theorem ret_Key (s : Str) : Ret tab 69 [.d (.str (s))] (.d (.bool (kwords.any (fun k => s == k)))) := by
  refine ret_of (1) fn69 rfl rfl ?_
  simp only [amx, seval, ty_LexN_69]
  repeat' ((first | refine good_ci (fun h => ?_) (fun h => ?_) | refine good_cgt (fun h => ?_) (fun h => ?_) | refine good_cgf (fun h => ?_) (fun h => ?_) | refine good_cqgt (fun h => ?_) (fun h => ?_) | refine good_cqgf (fun h => ?_) (fun h => ?_)) <;> simp only [amx, seval, ty_LexN_69, h])
  all_goals (simp_all [kwords])
theorem ca_Key {d dst : Nat} {S : St} (s : Str) : callA tab (callR tab) d dst 69 [.d (.str (s))] S = some (.d (.bool (kwords.any (fun k => s == k))), S) :=
  ca_ret (ds := [.str (s)]) (ret_Key s) rfl (tab_opn (by kernel_rfl)) (tab_res (by kernel_rfl))
def nameErr (s : Str) : Int := if (s.length : Int) < 1 ∨ (s.length : Int) > 10 then 1 else match s with
  | [] => 1
  | c :: _ => if isLetter c = false ∨ ((spanL (fun c => isLetter c || isDigit c) s : Nat) : Int) < (s.length : Int) ∨ kwords.any (fun k => s == k) = true then 3 else 0
theorem ret_Name (s : Str) : Ret tab 35 [.d (.str (s))] (.d (.int .i64 (nameErr s))) := by
  refine ret_of (1) fn35 rfl rfl ?_
  by_cases h10 : (s.length : Int) > 10
  · have b1 : decide ((10 : Int) < (s.length : Int)) = true := decide_eq_true h10
    have b2 : decide ((s.length : Int) < 1) = false := decide_eq_false (by omega)
    have hn : nameErr s = 1 := by unfold nameErr; rw [if_pos (.inr h10)]
    rw [hn]
    simp only [amx, seval, ty_LexN_35, b1, b2]
    repeat' ((first | refine good_ci (fun h => ?_) (fun h => ?_) | refine good_cgt (fun h => ?_) (fun h => ?_) | refine good_cgf (fun h => ?_) (fun h => ?_) | refine good_cqgt (fun h => ?_) (fun h => ?_) | refine good_cqgf (fun h => ?_) (fun h => ?_)) <;> simp only [amx, seval, ty_LexN_35, b1, b2, h])
  have hs : s.length < 9223372036854775807 := by omega
  cases s with
  | nil =>
    simp only [amx, seval, ty_LexN_35]
    repeat' ((first | refine good_ci (fun h => ?_) (fun h => ?_) | refine good_cgt (fun h => ?_) (fun h => ?_) | refine good_cgf (fun h => ?_) (fun h => ?_) | refine good_cqgt (fun h => ?_) (fun h => ?_) | refine good_cqgf (fun h => ?_) (fun h => ?_)) <;> simp only [amx, seval, ty_LexN_35, h])
    all_goals simp_all [nameErr]
  | cons c r =>
    have hget : (c :: r)[0]? = some c := rfl
    have hn : nameErr (c :: r) = if ((c :: r).length : Int) < 1 ∨ ((c :: r).length : Int) > 10 then 1 else if isLetter c = false ∨ ((spanL (fun c => isLetter c || isDigit c) (c :: r) : Nat) : Int) < ((c :: r).length : Int) ∨ kwords.any (fun k => (c :: r) == k) = true then 3 else 0 := rfl
    rw [hn]
    generalize c :: r = s at *
    simp only [amx, seval, ty_LexN_35, hget, ca_letter, ca_span_nm s hs, ca_Key]
    repeat' ((first | refine good_ci (fun h => ?_) (fun h => ?_) | refine good_cgt (fun h => ?_) (fun h => ?_) | refine good_cgf (fun h => ?_) (fun h => ?_) | refine good_cqgt (fun h => ?_) (fun h => ?_) | refine good_cqgf (fun h => ?_) (fun h => ?_)) <;> simp only [amx, seval, ty_LexN_35, hget, ca_letter, ca_span_nm s hs, ca_Key, h])
    all_goals first | (simp_all; done) | (simp_all; rw [if_neg (by omega), if_neg (by omega)])
theorem ca_Name {d dst : Nat} {S : St} (s : Str) : callA tab (callR tab) d dst 35 [.d (.str (s))] S = some (.d (.int .i64 (nameErr s)), S) :=
  ca_ret (ds := [.str (s)]) (ret_Name s) rfl (tab_opn (by kernel_rfl)) (tab_res (by kernel_rfl))
/- Formulas: how great they are. -/
theorem ty_ExA_79 : type_of% (ai (ai (ai @rs79 @lw79) (ai @ro36_1_expr_go_40 (ai @kp79_3 @tt1))) (ai (ai @tt3 @tt9) (ai @tt33 (ai @tt34 @tt36)))) := (ai (ai (ai @rs79 @lw79) (ai @ro36_1_expr_go_40 (ai @kp79_3 @tt1))) (ai (ai @tt3 @tt9) (ai @tt33 (ai @tt34 @tt36))))



mutual
def Exp.nodes : Exp → Nat
  | .mk _ _ _ a => Exp.nodesL a + 1
def Exp.nodesL : List Exp → Nat
  | [] => 0
  | x :: r => x.nodes + Exp.nodesL r
end
mutual
def Exp.deep : Exp → Nat
  | .mk _ _ _ a => Exp.deepL a + 1
def Exp.deepL : List Exp → Nat
  | [] => 0
  | x :: r => max x.deep (Exp.deepL r)
end
theorem Exp.nodes_mem : ∀ {l : List Exp} {x : Exp}, x ∈ l → x.nodes ≤ Exp.nodesL l
  | y :: r, x, h => by
    rcases List.mem_cons.1 h with rfl | h
    · simp only [Exp.nodesL]; omega
    · have := Exp.nodes_mem h
      simp only [Exp.nodesL]; omega
theorem Exp.nodes_len : ∀ (l : List Exp), l.length ≤ Exp.nodesL l
  | [] => Nat.le_refl _
  | x :: r => by
    have := Exp.nodes_len r
    have h : 1 ≤ x.nodes := by cases x; simp [Exp.nodes]
    simp only [Exp.nodesL, List.length_cons]
    omega
mutual
theorem Exp.deep_le : ∀ (x : Exp), x.deep ≤ x.nodes
  | .mk _ _ _ a => by
    have := Exp.deepL_le a
    simp only [Exp.deep, Exp.nodes]; omega
theorem Exp.deepL_le : ∀ (l : List Exp), Exp.deepL l ≤ Exp.nodesL l
  | [] => Nat.le_refl _
  | x :: r => by
    have h1 := Exp.deep_le x
    have h2 := Exp.deepL_le r
    simp only [Exp.deepL, Exp.nodesL]
    omega
end
theorem ret_SizeN : ∀ (m : Nat) (x : Exp), x.nodes ≤ m → x.nodes ≤ 4611686018427387904 → Ret tab 79 [.d x.dv] (.tup [.d (.int .i64 x.nodes), .d (.int .i64 x.deep)])
  | 0, x, h, _ => by cases x; simp [Exp.nodes] at h
  | m + 1, .mk op v name args, h, hB => by
    have hlen := Exp.nodes_len args
    simp only [Exp.nodes] at h hB
    have ih : ∀ a ∈ args, Ret tab 79 [.d a.dv] (.tup [.d (.int .i64 a.nodes), .d (.int .i64 a.deep)]) := fun a ha => ret_SizeN m a (by have := Exp.nodes_mem ha; omega) (by have := Exp.nodes_mem ha; omega)
    rw [Exp.dv_mk]
    refine ret_of (args.length + 1) fn79 rfl rfl ?_
    simp only [amx, seval, ty_ExA_79]
    refine good_range args (fun k (a : Nat × Nat) g => ⟨[(4, .d (.int .i64 a.1)), (5, .d (.int .i64 a.2)), (11, .d (.sl 6 (args.map Exp.dv))), (12, .d (.int .i64 args.length)), (13, .d (.int .i64 (k : Nat)))], [], g⟩)
      (fun k a => a.1 + Exp.nodesL (args.drop k) ≤ 4611686018427387904 ∧ a.2 ≤ a.1) (fun k a r => (a.1 + Exp.nodesL r, max a.2 (Exp.deepL r)))
      (QX (.exit 0) (fun o g => ⟨[(4, .d (.int .i64 o.1)), (5, .d (.int .i64 o.2))], [], g⟩)) (1, 0) kp79_3 up_qx ⟨by simp only [List.drop_zero]; omega, by decide⟩ (by omega) (by omega) ?_ ?_ ?_ ?_
    · rintro k ⟨n, dp⟩ g x rest hk hget hd ⟨hI1, hI2⟩ hb w1
      have hget' : (args.map Exp.dv)[k]? = some x.dv := by rw [List.getElem?_map, hget]; rfl
      have hdk : args.drop k = x :: rest := by rw [← hd]; obtain ⟨h1, h2⟩ := List.getElem?_eq_some_iff.1 hget; rw [← h2]; exact List.drop_eq_getElem_cons h1
      simp only [hdk, Exp.nodesL] at hI1 hI2
      have hx := Exp.deep_le x
      have f1 := fun (S : St) (d dst : Nat) => ca_ret_tup (d := d) (dst := dst) (S := S) (args := [.d x.dv]) (ds := [x.dv]) (ys := [.int .i64 x.nodes, .int .i64 x.deep]) (ih x (List.mem_of_getElem? hget)) rfl (tab_opn (by kernel_rfl)) (tab_res (by kernel_rfl)) rfl
      rw [Exp.dv_eq x] at hget' f1
      have w2 : IntKind.i64.wrap ((n : Int) + (x.nodes : Int)) = ((n + x.nodes : Nat) : Int) := by rw [wrap_in (by omega) (by omega)]; omega
      have w3 : (if (dp : Int) < (x.deep : Int) then (x.deep : Int) else (dp : Int)) = ((max dp x.deep : Nat) : Int) := by split <;> omega
      simp only [amx, seval, ty_ExA_79, hb, hget', w1, w2, w3, f1]
      refine step_nrm (n + x.nodes, max dp x.deep) ⟨?_, ?_⟩ ?_ ?_
      · simp only [hd]; omega
      · simp only; omega
      · simp only [Exp.nodesL, Exp.deepL, Prod.mk.injEq]; omega
      · (apply Exists.intro; (try simp only [amx, seval]); exact sub_mk (by repeat first | exact subT_nil | refine subT_cons (by first | rfl | simp [Tm.get, *]) ?_))
    · rintro ⟨n, dp⟩ g _ hb
      simp only [amx, seval, ty_ExA_79, hb]
      refine last_end (by simp) ⟨rfl, ?_⟩
      simp only [Exp.nodesL, Exp.deepL, Nat.max_zero]
      (apply Exists.intro; (try simp only [amx, seval]); exact sub_mk (by repeat first | exact subT_nil | refine subT_cons (by first | rfl | simp [Tm.get, *]) ?_))
    · (apply Exists.intro; (try simp only [amx, seval]); exact sub_mk (by repeat first | exact subT_nil | refine subT_cons (by first | rfl | simp [Tm.get, *]) ?_))
    · rintro o S' ⟨rfl, g, hs⟩
      refine good_sub_cr up_fin hs ?_
      have hdl := Exp.deepL_le args
      have w4 : IntKind.i64.wrap ((Exp.deepL args : Int) + 1) = ((Exp.deepL args + 1 : Nat) : Int) := by rw [wrap_in (by omega) (by omega)]; omega
      simp only [Nat.zero_max, Exp.nodes, Exp.deep]
      rw [show 1 + Exp.nodesL args = Exp.nodesL args + 1 by omega]
      simp only [amx, seval, ty_ExA_79, w4]
theorem ca_Size {d dst : Nat} {S : St} (x : Exp) (hx : x.nodes ≤ 4611686018427387904) : callA tab (callR tab) d dst 79 [.d x.dv] S = some (.tup [.d (.int .i64 x.nodes), .d (.int .i64 x.deep)], S) :=
  ca_ret_tup (ds := [x.dv]) (ys := [.int .i64 x.nodes, .int .i64 x.deep]) (ret_SizeN x.nodes x (Nat.le_refl _) hx) rfl (tab_opn (by kernel_rfl)) (tab_res (by kernel_rfl)) rfl
/- Formulas that may be. -/
theorem ty_ExB_98 : type_of% (ai (ai @rs98 (ai @lw98 @tt3)) (ai @tt9 (ai @tt138 @tt139))) := (ai (ai @rs98 (ai @lw98 @tt3)) (ai @tt9 (ai @tt138 @tt139)))
theorem ty_ExB_91 : type_of% (ai (ai (ai @rs91 (ai @lw91 @ro36_1_expr_go_50)) (ai (ai @dr91_3 @tt1) (ai @tt2 @tt3))) (ai (ai (ai @tt4 @tt9) (ai @tt28 @tt33)) (ai (ai @tt34 @tt36) (ai @tt138 @tt139)))) := (ai (ai (ai @rs91 (ai @lw91 @ro36_1_expr_go_50)) (ai (ai @dr91_3 @tt1) (ai @tt2 @tt3))) (ai (ai (ai @tt4 @tt9) (ai @tt28 @tt33)) (ai (ai @tt34 @tt36) (ai @tt138 @tt139))))
theorem ty_ExB_80 : type_of% (ai (ai (ai @rs80 @lw80) (ai @ro36_1_expr_go_75 (ai @kp80_5 @tt3))) (ai (ai @tt4 (ai @tt9 @tt28)) (ai @tt33 (ai @tt34 @tt36)))) := (ai (ai (ai @rs80 @lw80) (ai @ro36_1_expr_go_75 (ai @kp80_5 @tt3))) (ai (ai @tt4 (ai @tt9 @tt28)) (ai @tt33 (ai @tt34 @tt36))))
theorem ty_ExB_59 : type_of% (ai (ai (ai @rs59 @lw59) (ai @ro36_1_expr_go_88 (ai @tt1 @tt3))) (ai (ai @tt4 (ai @tt9 @tt28)) (ai @tt33 (ai @tt34 @tt36)))) := (ai (ai (ai @rs59 @lw59) (ai @ro36_1_expr_go_88 (ai @tt1 @tt3))) (ai (ai @tt4 (ai @tt9 @tt28)) (ai @tt33 (ai @tt34 @tt36))))



def shp : List DV := [.str [], .int .i64 0, .int .i64 0, .str [], .int .i64 7, .int .i64 0, .str [], .int .i64 7, .int .i64 0, .str [45], .int .i64 6, .int .i64 1, .str [110, 111, 116], .int .i64 6, .int .i64 1, .str [42], .int .i64 5, .int .i64 2, .str [47], .int .i64 5, .int .i64 2, .str [37], .int .i64 5, .int .i64 2, .str [43], .int .i64 4, .int .i64 2, .str [45], .int .i64 4, .int .i64 2, .str [38], .int .i64 4, .int .i64 2, .str [60], .int .i64 3, .int .i64 2, .str [60, 61], .int .i64 3, .int .i64 2, .str [61], .int .i64 3, .int .i64 2, .str [33, 61], .int .i64 3, .int .i64 2, .str [97, 110, 100], .int .i64 2, .int .i64 2, .str [111, 114], .int .i64 1, .int .i64 2, .str [105, 102], .int .i64 7, .int .i64 3, .str [108, 101, 110], .int .i64 7, .int .i64 1]
theorem ca_shapes {d dst : Nat} {S : St} : callA tab (callR tab) d dst 98 [] S = some (.d (.agg shp), S) := by
  refine ca_ret (ds := []) (?_ : Ret tab 98 [] (.d (.agg shp))) rfl (tab_opn (by kernel_rfl)) (tab_res (by kernel_rfl))
  refine ret_of 1 fn98 rfl rfl ?_
  simp only [amx, seval, ty_ExB_98]
  rfl
def arity (op : Int) : Int := if op = 1 then 0 else if op = 2 then 0 else if op = 3 then 1 else if op = 4 then 1 else if op = 17 then 3 else if op = 18 then 1 else 2
theorem shp_at {op : Int} (h0 : 1 ≤ op) (h1 : op ≤ 18) : ∃ sg lv rest, List.drop (op.toNat * 3) (shp.map AV.d) = .d (.str sg) :: .d (.int .i64 lv) :: .d (.int .i64 (arity op)) :: rest := by
  have h : op = 1 ∨ op = 2 ∨ op = 3 ∨ op = 4 ∨ op = 5 ∨ op = 6 ∨ op = 7 ∨ op = 8 ∨ op = 9 ∨ op = 10 ∨ op = 11 ∨ op = 12 ∨ op = 13 ∨ op = 14 ∨ op = 15 ∨ op = 16 ∨ op = 17 ∨ op = 18 := by omega
  rcases h with rfl | rfl | rfl | rfl | rfl | rfl | rfl | rfl | rfl | rfl | rfl | rfl | rfl | rfl | rfl | rfl | rfl | rfl <;> exact ⟨_, _, _, rfl⟩
def vz (v : Val) : Bool := v.kind == 0 && (v.n == 0 && v.s == [])
def PartOK (op : Int) (v : Val) (name : Str) (n : Nat) : Prop := 1 ≤ op ∧ op ≤ 18 ∧ (n : Int) = arity op ∧ (if op = 1 then name = [] ∧ valKnown v = true ∧ ¬ (v.kind = 1 ∧ v.n < 0) else if op = 2 then nameErr name = 0 ∧ vz v = true else name = [] ∧ vz v = true)
mutual
def Exp.wf : Exp → Prop
  | .mk op v name args => PartOK op v name args.length ∧ Exp.wfL args
def Exp.wfL : List Exp → Prop
  | [] => True
  | x :: r => x.wf ∧ Exp.wfL r
end
theorem ret_part (x : Exp) (h : PartOK x.op x.v x.name x.args.length) : Ret tab 91 [.d x.dv] (.d (.int .i64 0)) := by
  obtain ⟨h1, h2, h3, h4⟩ := h
  obtain ⟨sg, lv, rest, hs⟩ := shp_at h1 h2
  rw [Exp.dv_eq x]
  generalize x.op = op at *
  generalize x.name = name at *
  generalize x.args = args at *
  generalize x.v = v at *
  refine ret_of 1 fn91 rfl rfl ?_
  have b1 : decide (op < 1) = false := decide_eq_false (by omega)
  have b2 : decide (18 < op) = false := decide_eq_false (by omega)
  have b3 : (((args.length : Nat) : Int) != arity op) = false := by rw [h3]; simp
  have k1 : (0 ≤ op) = True := eq_true (by omega)
  have k2 : (op < 19) = True := eq_true (by omega)
  have k3 : ∀ m : Nat, (3 ≤ m + 1 + 1 + 1) = True := fun m => eq_true (by omega)
  have fk : ∀ (S : St) (d dst : Nat), callA tab (callR tab) d dst 99 [.d (.agg [.int .i64 v.kind, .int .i64 v.n, .str v.s])] S = some (.d (.bool (valKnown v)), S) := fun S d dst => ca_Known v.kind v.n v.s
  have fz : (v.kind == 0 && (v.n == 0 && v.s == [])) = vz v := rfl
  by_cases c1 : op = 1
  · rw [if_pos c1] at h4
    obtain ⟨rfl, hv, hn⟩ := h4
    have b4 : (op == 1) = true := beq_iff_eq.2 c1
    rw [hv] at fk
    cases c2 : (v.kind == 1) with
    | true =>
      have b5 : decide (v.n < 0) = false := decide_eq_false (fun h => hn ⟨beq_iff_eq.1 c2, h⟩)
      simp only [amx, seval, ty_ExB_91, b1, b2, b3, b4, b5, c2, k1, k2, k3, hs, ca_shapes, fk, bne_self_eq_false, beq_self_eq_true]
    | false =>
      simp only [amx, seval, ty_ExB_91, b1, b2, b3, b4, c2, k1, k2, k3, hs, ca_shapes, fk, bne_self_eq_false, beq_self_eq_true]
  · rw [if_neg c1] at h4
    have b4 : (op == 1) = false := beq_eq_false_iff_ne.2 c1
    by_cases c2 : op = 2
    · rw [if_pos c2] at h4
      have b5 : (op == 2) = true := beq_iff_eq.2 c2
      have fn := fun (S : St) (d dst : Nat) => ca_Name (d := d) (dst := dst) (S := S) name
      rw [h4.1] at fn
      have hz := h4.2
      rw [hz] at fz
      simp only [amx, seval, ty_ExB_91, b1, b2, b3, b4, b5, k1, k2, k3, hs, ca_shapes, fn, fz, bne_self_eq_false, beq_self_eq_true]
    · rw [if_neg c2] at h4
      obtain ⟨rfl, hz⟩ := h4
      rw [hz] at fz
      have b5 : (op == 2) = false := beq_eq_false_iff_ne.2 c2
      simp only [amx, seval, ty_ExB_91, b1, b2, b3, b4, b5, k1, k2, k3, hs, ca_shapes, fz, bne_self_eq_false, beq_self_eq_true]
theorem ca_partO {d dst : Nat} {S : St} (x : Exp) (h : PartOK x.op x.v x.name x.args.length) : callA tab (callR tab) d dst 91 [.d (.agg [.int .i64 x.op, .int .i64 x.v.kind, .int .i64 x.v.n, .str x.v.s, .str x.name, .sl 6 (x.args.map Exp.dv)])] S = some (.d (.int .i64 0), S) := by
  rw [← Exp.dv_eq]
  exact ca_ret (ds := [x.dv]) (ret_part x h) rfl (tab_opn (by kernel_rfl)) (tab_res (by kernel_rfl))
theorem Exp.wf_mem : ∀ {l : List Exp} {x : Exp}, Exp.wfL l → x ∈ l → x.wf
  | y :: r, x, h, hx => by
    simp only [Exp.wfL] at h
    rcases List.mem_cons.1 hx with rfl | hx
    · exact h.1
    · exact Exp.wf_mem h.2 hx
theorem ret_partsN : ∀ (m : Nat) (x : Exp), x.nodes ≤ m → x.nodes ≤ 4611686018427387904 → x.wf → Ret tab 80 [.d x.dv] (.d (.int .i64 0))
  | 0, x, h, _, _ => by cases x; simp [Exp.nodes] at h
  | m + 1, .mk op v name args, h, hB, hw => by
    have hlen := Exp.nodes_len args
    simp only [Exp.nodes] at h hB
    simp only [Exp.wf] at hw
    obtain ⟨hp, hw⟩ := hw
    have ih : ∀ a ∈ args, Ret tab 80 [.d a.dv] (.d (.int .i64 0)) := fun a ha => ret_partsN m a (by have := Exp.nodes_mem ha; omega) (by have := Exp.nodes_mem ha; omega) (Exp.wf_mem hw ha)
    have f0 : ∀ (S : St) (d dst : Nat), callA tab (callR tab) d dst 91 [.d (.agg [.int .i64 op, .int .i64 v.kind, .int .i64 v.n, .str v.s, .str name, .sl 6 (args.map Exp.dv)])] S = some (.d (.int .i64 0), S) := fun S d dst => ca_partO (.mk op v name args) hp
    rw [Exp.dv_mk]
    refine ret_of (args.length + 1) fn80 rfl rfl ?_
    simp only [amx, seval, ty_ExB_80, f0, bne_self_eq_false]
    refine good_range args (fun k (_ : Unit) g => ⟨[(13, .d (.sl 6 (args.map Exp.dv))), (14, .d (.int .i64 args.length)), (15, .d (.int .i64 (k : Nat)))], [], g⟩) (fun _ _ => True) (fun _ _ _ => ()) (QX (.exit 0) (fun _ g => ⟨[], [], g⟩)) () kp80_5 up_qx trivial (by omega) (by omega) ?_ ?_ ?_ ?_
    · rintro k a g x rest hk hget hd _ hb w1
      have hget' : (args.map Exp.dv)[k]? = some x.dv := by rw [List.getElem?_map, hget]; rfl
      have f1 := fun (S : St) (d dst : Nat) => ca_ret (d := d) (dst := dst) (S := S) (args := [.d x.dv]) (ds := [x.dv]) (ih x (List.mem_of_getElem? hget)) rfl (tab_opn (by kernel_rfl)) (tab_res (by kernel_rfl))
      rw [Exp.dv_eq x] at hget' f1
      simp only [amx, seval, ty_ExB_80, hb, hget', w1, f1, bne_self_eq_false]
      refine step_nrm () trivial rfl ?_
      (apply Exists.intro; (try simp only [amx, seval]); exact sub_mk (by repeat first | exact subT_nil | refine subT_cons (by first | rfl | simp [Tm.get, *]) ?_))
    · rintro a g _ hb
      simp only [amx, seval, ty_ExB_80, hb]
      refine last_end (by simp) ⟨rfl, ?_⟩
      (apply Exists.intro; (try simp only [amx, seval]); exact sub_mk (by repeat first | exact subT_nil | refine subT_cons (by first | rfl | simp [Tm.get, *]) ?_))
    · (apply Exists.intro; (try simp only [amx, seval]); exact sub_mk (by repeat first | exact subT_nil | refine subT_cons (by first | rfl | simp [Tm.get, *]) ?_))
    · rintro o S' ⟨rfl, g, hs⟩
      refine good_sub_cr up_fin hs ?_
      simp only [amx, seval, ty_ExB_80]
def chkE (x : Exp) : Int := if 60 < x.nodes then 1 else if 12 < x.deep then 4 else 0
theorem ret_CheckE (x : Exp) (hB : x.nodes ≤ 4611686018427387904) (hw : x.wf) : Ret tab 59 [.d x.dv] (.d (.int .i64 (chkE x))) := by
  have f0 := fun (S : St) (d dst : Nat) => ca_Size (d := d) (dst := dst) (S := S) x hB
  have f1 := fun (S : St) (d dst : Nat) => ca_ret (d := d) (dst := dst) (S := S) (args := [.d x.dv]) (ds := [x.dv]) (ret_partsN x.nodes x (Nat.le_refl _) hB hw) rfl (tab_opn (by kernel_rfl)) (tab_res (by kernel_rfl))
  unfold chkE
  rw [Exp.dv_eq x] at f0 f1 ⊢
  refine ret_of 1 fn59 rfl rfl ?_
  by_cases c1 : 60 < x.nodes
  · have b1 : decide (60 < (x.nodes : Int)) = true := decide_eq_true (by omega)
    rw [if_pos c1]
    simp only [amx, seval, ty_ExB_59, f0, b1]
  · have b1 : decide (60 < (x.nodes : Int)) = false := decide_eq_false (by omega)
    rw [if_neg c1]
    by_cases c2 : 12 < x.deep
    · have b2 : decide (12 < (x.deep : Int)) = true := decide_eq_true (by omega)
      rw [if_pos c2]
      simp only [amx, seval, ty_ExB_59, f0, b1, b2]
    · have b2 : decide (12 < (x.deep : Int)) = false := decide_eq_false (by omega)
      rw [if_neg c2]
      simp only [amx, seval, ty_ExB_59, f0, f1, b1, b2]
theorem ca_CheckE {d dst : Nat} {S : St} (x : Exp) (hB : x.nodes ≤ 4611686018427387904) (hw : x.wf) : callA tab (callR tab) d dst 59 [.d x.dv] S = some (.d (.int .i64 (chkE x)), S) :=
  ca_ret (ds := [x.dv]) (ret_CheckE x hB hw) rfl (tab_opn (by kernel_rfl)) (tab_res (by kernel_rfl))
/- Formulas of raw things: they may be. -/



def nb : Nat → Nat
  | 0 => 1
  | d + 1 => 3 * nb d + 1
theorem nb_pos : ∀ d, 1 ≤ nb d
  | 0 => Nat.le_refl _
  | d + 1 => by unfold nb; omega
theorem gargs_len (ge : Int → Nat → Exp × Nat) : ∀ (ks : List Int) (n : Nat), (gargs ge ks n).1.length = ks.length
  | [], n => rfl
  | k :: ks, n => by simp [gargs, gargs_len ge ks]
theorem gargs_nodes {ge : Int → Nat → Exp × Nat} {c : Nat} (h : ∀ k n, (ge k n).1.nodes ≤ c) : ∀ (ks : List Int) (n : Nat), Exp.nodesL (gargs ge ks n).1 ≤ ks.length * c
  | [], n => by simp [gargs, Exp.nodesL]
  | k :: ks, n => by
    have h1 := h k n
    have h2 := gargs_nodes h ks (ge k n).2
    simp only [gargs, Exp.nodesL, List.length_cons, Nat.add_mul]
    omega
theorem gargs_deep {ge : Int → Nat → Exp × Nat} {c : Nat} (h : ∀ k n, (ge k n).1.deep ≤ c) : ∀ (ks : List Int) (n : Nat), Exp.deepL (gargs ge ks n).1 ≤ c
  | [], n => by simp [gargs, Exp.deepL]
  | k :: ks, n => by
    have h1 := h k n
    have h2 := gargs_deep h ks (ge k n).2
    simp only [gargs, Exp.deepL]
    omega
theorem gleaf_nodes (kind : Int) (fs : List Field) (r : Raw) : (gleafE kind fs r).nodes = 1 ∧ (gleafE kind fs r).deep = 1 := by
  unfold gleafE constE
  split
  · exact ⟨rfl, rfl⟩
  · split <;> exact ⟨rfl, rfl⟩
theorem gexpr_nodes (fs : List Field) (l : List Raw) : ∀ (d : Nat) (kind : Int) (k : Nat), (gexpr fs l d kind k).1.nodes ≤ nb d ∧ (gexpr fs l d kind k).1.deep ≤ d + 1
  | 0, kind, k => by
    have h := gleaf_nodes kind fs (gnext l (gat l k))
    simp only [gexpr, nb]
    omega
  | d + 1, kind, k => by
    have h := gleaf_nodes kind fs (gnext l (gat l k))
    have h1 := gargs_nodes (ge := gexpr fs l d) (fun k n => (gexpr_nodes fs l d k n).1) (gshape kind (gnext l k)).2 (gat l k)
    have h2 := gargs_deep (ge := gexpr fs l d) (fun k n => (gexpr_nodes fs l d k n).2) (gshape kind (gnext l k)).2 (gat l k)
    have h3 := Nat.mul_le_mul_right (nb d) (gshape_len kind (gnext l k))
    have h4 := nb_pos d
    unfold gexpr
    split
    · simp only [nb]; omega
    · simp only [nb, Exp.nodes, Exp.deep]; omega
def Ty (k : Int) : Prop := k = 1 ∨ k = 2 ∨ k = 3
def FsOK (fs : List Field) : Prop := ∀ f ∈ fs, nameErr f.name = 0 ∧ Ty f.ty
theorem fnames_mem {kind : Int} : ∀ {fs : List Field} {s : List UInt8}, s ∈ fnames kind fs → ∃ f ∈ fs, f.name = s ∧ f.ty = kind
  | [], s, h => by simp [fnames] at h
  | f :: r, s, h => by
    unfold fnames at h
    split at h
    · rcases List.mem_cons.1 h with rfl | h
      · exact ⟨f, by simp, rfl, by assumption⟩
      · obtain ⟨g, h1, h2⟩ := fnames_mem h; exact ⟨g, by simp [h1], h2⟩
    · obtain ⟨g, h1, h2⟩ := fnames_mem h; exact ⟨g, by simp [h1], h2⟩
theorem constV_ok {kind : Int} {r : Raw} (hr : r.ok) (hk : Ty kind) : valKnown (constV kind r) = true ∧ (constV kind r).kind = kind ∧ ¬ ((constV kind r).kind = 1 ∧ (constV kind r).n < 0) := by
  have h1 := mkVal_known kind r hr hk
  have h2 := mkVal_kind kind r hk
  unfold constV
  by_cases c : kind = 1
  · rw [if_pos c]
    have h3 := known_num h1 (by rw [h2, c])
    have hs : (mkVal kind r).s = [] := by subst c; unfold mkVal; simp only [if_true]; split <;> rfl
    generalize mkVal kind r = v at *
    obtain ⟨vk, vn, vs⟩ := v
    simp only at h1 h2 h3 hs
    subst h2 hs c
    have w : IntKind.i64.wrap (0 - vn) = 0 - vn := wrap_in (by omega) (by omega)
    simp only
    generalize IntKind.i64.wrap (0 - vn) = m at *
    have hn : ∀ n : Int, -1099511627776 ≤ n → n ≤ 1099511627776 → valKnown ⟨1, n, []⟩ = true := fun n h4 h5 => by
      simp [valKnown, valChk, chk_in h4 h5, valTail]
    have hz : ∀ n : Int, -1099511627776 ≤ n → n ≤ 1099511627776 → 0 ≤ n → valKnown ⟨1, n, []⟩ = true ∧ True ∧ ¬ (True ∧ n < 0) := fun n h4 h5 h6 => ⟨hn n h4 h5, trivial, fun h => by have := h.2; omega⟩
    by_cases hgt : m > vn
    · rw [if_pos hgt]; exact hz m (by omega) (by omega) (by omega)
    · rw [if_neg hgt]; exact hz vn (by omega) (by omega) (by omega)
  · rw [if_neg c]
    exact ⟨h1, h2, fun h => c (by rw [← h2]; exact h.1)⟩
theorem gleaf_wf {fs : List Field} (hf : FsOK fs) {kind : Int} (hk : Ty kind) {r : Raw} (hr : r.ok) : (gleafE kind fs r).wf := by
  have hc := constV_ok hr hk
  have h1 : (constE kind r).wf := by
    refine ⟨⟨by decide, by decide, by decide, ?_⟩, trivial⟩
    rw [if_pos rfl]
    exact ⟨rfl, hc.1, hc.2.2⟩
  unfold gleafE
  split
  · exact h1
  · split
    · exact h1
    · rename_i h2 h3
      refine ⟨⟨by decide, by decide, by decide, ?_⟩, trivial⟩
      rw [if_neg (by decide), if_pos rfl]
      refine ⟨?_, rfl⟩
      have hp := pick_range r.b ((fnames kind fs).length : Int) hr.b.1 hr.b.2 (by omega)
      have hm : (fnames kind fs).getD (pick r.b (fnames kind fs).length).toNat [] ∈ fnames kind fs := by
        rw [List.getD_eq_getElem?_getD, List.getElem?_eq_getElem (by omega)]
        exact List.getElem_mem _
      obtain ⟨f, hf1, hf2, _⟩ := fnames_mem hm
      rw [← hf2]
      exact (hf f hf1).1
theorem gshape_ok {kind : Int} {r : Raw} (hk : Ty kind) (hr : r.ok) : 1 ≤ (gshape kind r).1 ∧ (gshape kind r).1 ≤ 18 ∧ (((gshape kind r).2.length : Nat) : Int) = arity (gshape kind r).1 ∧ (gshape kind r).1 ≠ 1 ∧ (gshape kind r).1 ≠ 2 ∧ ∀ k ∈ (gshape kind r).2, Ty k := by
  have q3 := pick_range r.b 7 hr.b.1 hr.b.2 (by decide)
  have q4 := pick_range r.a 3 hr.a.1 hr.a.2 (by decide)
  unfold gshape
  generalize pick r.b 7 = q at *
  generalize pick r.a 3 = a at *
  split
  · refine ⟨by simp, by simp, rfl, by simp, by simp, fun k hm => ?_⟩
    simp only [List.mem_cons, List.not_mem_nil, or_false] at hm
    rcases hm with rfl | rfl | rfl
    · exact .inr (.inl rfl)
    · exact hk
    · exact hk
  · split
    · split
      · exact ⟨by decide, by decide, by decide, by decide, by decide, fun k hm => by simp at hm; exact .inl hm⟩
      · split
        · exact ⟨by decide, by decide, by decide, by decide, by decide, fun k hm => by simp at hm; exact .inr (.inr hm)⟩
        · refine ⟨by simp only; omega, by simp only; omega, ?_, by simp only; omega, by simp only; omega, fun k hm => by simp at hm; exact .inl hm⟩
          have : arity (5 + (q - 2)) = 2 := by unfold arity; rw [if_neg (by omega), if_neg (by omega), if_neg (by omega), if_neg (by omega), if_neg (by omega), if_neg (by omega)]
          simp [this]
    · split
      · split
        · exact ⟨by decide, by decide, by decide, by decide, by decide, fun k hm => by simp at hm; exact .inr (.inl hm)⟩
        · split
          · refine ⟨by simp only; omega, by simp only; omega, ?_, by simp only; omega, by simp only; omega, fun k hm => by simp at hm; exact .inr (.inl hm)⟩
            have : arity (15 + q - 1) = 2 := by unfold arity; rw [if_neg (by omega), if_neg (by omega), if_neg (by omega), if_neg (by omega), if_neg (by omega), if_neg (by omega)]
            simp [this]
          · refine ⟨by simp only; omega, by simp only; omega, ?_, by simp only; omega, by simp only; omega, fun k hm => by simp at hm; subst hm; unfold Ty; omega⟩
            have : arity (11 + q - 3) = 2 := by unfold arity; rw [if_neg (by omega), if_neg (by omega), if_neg (by omega), if_neg (by omega), if_neg (by omega), if_neg (by omega)]
            simp [this]
      · exact ⟨by decide, by decide, by decide, by decide, by decide, fun k hm => by simp at hm; exact .inr (.inr hm)⟩
theorem gargs_wf {ge : Int → Nat → Exp × Nat} (h : ∀ k n, Ty k → (ge k n).1.wf) : ∀ (ks : List Int) (n : Nat), (∀ k ∈ ks, Ty k) → Exp.wfL (gargs ge ks n).1
  | [], n, _ => trivial
  | k :: ks, n, hk => ⟨h k n (hk k (by simp)), gargs_wf h ks _ fun j hj => hk j (by simp [hj])⟩
theorem gexpr_wf {fs : List Field} (hf : FsOK fs) {l : List Raw} (hr : ∀ r ∈ l, r.ok) : ∀ (d : Nat) (kind : Int) (k : Nat), Ty kind → (gexpr fs l d kind k).1.wf
  | 0, kind, k, hk => gleaf_wf hf hk (gnext_ok hr _)
  | d + 1, kind, k, hk => by
    unfold gexpr
    split
    · exact gleaf_wf hf hk (gnext_ok hr _)
    · obtain ⟨h1, h2, h3, h4, h5, h6⟩ := gshape_ok hk (gnext_ok hr k)
      refine ⟨⟨h1, h2, ?_, ?_⟩, gargs_wf (fun k n => gexpr_wf hf hr d k n) _ _ h6⟩
      · rw [gargs_len]; exact h3
      · rw [if_neg h4, if_neg h5]; exact ⟨rfl, rfl⟩
/- Which names a formula asks for. -/



mutual
def Exp.ex : Exp → Ex
  | .mk op v name args => .mk op v.kind v.n v.s name (Exp.exL args)
def Exp.exL : List Exp → List Ex
  | [] => []
  | x :: r => x.ex :: Exp.exL r
end
mutual
theorem ex_dv : ∀ x : Exp, x.ex.dv = x.dv
  | .mk op v name args => by rw [Exp.ex, Ex.dv, ex_dvs args, Exp.dv]
theorem ex_dvs : ∀ l : List Exp, Ex.dvs (Exp.exL l) = Exp.dvs l
  | [] => by rw [Exp.exL, Ex.dvs, Exp.dvs]
  | x :: r => by rw [Exp.exL, Ex.dvs, ex_dv x, ex_dvs r, Exp.dvs]
end
mutual
/-- The names that a formula asks for. -/
def Exp.refs : Exp → List (List UInt8)
  | .mk op v name args => (if op = 2 then [name] else []) ++ Exp.refsL args
def Exp.refsL : List Exp → List (List UInt8)
  | [] => []
  | x :: r => x.refs ++ Exp.refsL r
end
mutual
theorem ex_refs : ∀ x : Exp, x.ex.refs = x.refs
  | .mk op v name args => by rw [Exp.ex, Ex.refs, ex_refsL args, Exp.refs]
theorem ex_refsL : ∀ l : List Exp, Ex.refsL (Exp.exL l) = Exp.refsL l
  | [] => by rw [Exp.exL, Ex.refsL, Exp.refsL]
  | x :: r => by rw [Exp.exL, Ex.refsL, ex_refs x, ex_refsL r, Exp.refsL]
end
theorem call_prim {f d dst : Nat} {S : St} {args : List AV} {ds : List DV} {p : List DV → Option (AV × Heap)} {y : DV} (hp : tab.prim f = some p) (ha : toDs args = some ds) (ho : tab.opn f = false) (hl : tab.lend f = false) (ht : tab.thaw f dst = none) (hr : tab.res f = none) (h : p ds = some (.d y, [])) :
    callA tab (callR tab) d dst f args S = some (.d y, S) := by
  unfold callA
  rw [lent_off hl]
  simp only
  unfold callO
  rw [ho]
  simp only [Bool.false_eq_true, if_false, ha, hp, h, adopt, ht, hr]
  exact adoptO_plain hr rfl rfl
theorem ca_Has {d dst : Nat} {S : St} (x : Exp) (s : List UInt8) : callA tab (callR tab) d dst 24 [.d x.dv, .d (.str s)] S = some (.d (.bool (decide (s ∈ x.refs))), S) := by
  refine call_prim prim24 (ds := [x.dv, .str s]) rfl (tab_opn (by kernel_rfl)) (tab_lend (by kernel_rfl)) (by simp only [tab]; exact look2_none _ _ _ (by kernel_rfl)) (by kernel_rfl) ?_
  rw [← ex_dv x, hasP_eq, ex_refs]
/- Of which type a formula is: the walk. -/
theorem ty_TyC_52 : type_of% (ai (ai @rs52 (ai @lw52 @dr52_6)) (ai (ai @kp52_4 @tt3) (ai @tt4 @tt50))) := (ai (ai @rs52 (ai @lw52 @dr52_6)) (ai (ai @kp52_4 @tt3) (ai @tt4 @tt50)))
theorem ty_TyC_85 : type_of% (ai (ai (ai (ai @rs85 @lw85) (ai @ro36_3_typing_go_28 (ai @mu50_56 @dr85_23))) (ai (ai @dr85_25 @kp85_11) (ai @tt1 (ai @tt2 @tt3)))) (ai (ai (ai @tt4 @tt9) (ai @tt28 (ai @tt33 @tt34))) (ai (ai @tt36 @tt50) (ai @tt119 (ai @tt121 @tt132))))) := (ai (ai (ai (ai @rs85 @lw85) (ai @ro36_3_typing_go_28 (ai @mu50_56 @dr85_23))) (ai (ai @dr85_25 @kp85_11) (ai @tt1 (ai @tt2 @tt3)))) (ai (ai (ai @tt4 @tt9) (ai @tt28 (ai @tt33 @tt34))) (ai (ai @tt36 @tt50) (ai @tt119 (ai @tt121 @tt132)))))



def Field.fl (f : Field) : Fl := ⟨f.name, f.kind, f.ty, f.source.ex⟩
theorem fl_dv (f : Field) : f.fl.dv = f.dv := by
  obtain ⟨name, kind, ty, ⟨op, v, nm, args⟩⟩ := f
  simp only [Field.fl, Fl.dv, Exp.ex, Ex.cells, ex_dvs, Exp.dvs_map, Field.dv]
  rfl
def tmap (fs : List Field) : List (List UInt8 × Int) := typesL (fs.map Field.fl)
theorem ca_types {d dst : Nat} {S : St} (fs : List Field) : callA tab (callR tab) d dst 86 [.d (.sl 9 (fs.map Field.dv))] S = some (.d (.mp (mdvI (tmap fs))), S) := by
  refine call_prim prim86 (ds := [.sl 9 (fs.map Field.dv)]) rfl (tab_opn (by kernel_rfl)) (tab_lend (by kernel_rfl)) (by simp only [tab]; exact look2_none _ _ _ (by kernel_rfl)) (by kernel_rfl) ?_
  have h : fs.map Field.dv = (fs.map Field.fl).map Fl.dv := by rw [List.map_map]; exact List.map_congr_left (fun f _ => (fl_dv f).symm)
  rw [h, typP_eq]
  rfl
theorem ca_rules {d dst : Nat} {S : St} : callA tab (callR tab) d dst 87 [] S = some (.d (.ump knownL), S) :=
  call_prim prim87 (ds := []) rfl (tab_opn (by kernel_rfl)) (tab_lend (by kernel_rfl)) (by simp only [tab]; exact look2_none _ _ _ (by kernel_rfl)) (by kernel_rfl) rfl
theorem ret_EqI (l : List Int) (hl : l.length ≤ 1048576) : Ret tab 52 [.d (.sl 1 (l.map (fun x => DV.int .i64 x))), .d (.sl 1 (l.map (fun x => DV.int .i64 x)))] (.d (.bool true)) := by
  refine ret_of (l.length + 1) fn52 rfl rfl ?_
  simp only [amx, seval, ty_TyC_52, bne_self_eq_false]
  refine good_range l (fun k (_ : Unit) g => ⟨[(0, .d (.sl 1 (l.map (fun x => DV.int .i64 x)))), (1, .d (.sl 1 (l.map (fun x => DV.int .i64 x)))), (12, .d (.int .i64 l.length)), (13, .d (.int .i64 (k : Nat)))], [], g⟩)
    (fun _ _ => True) (fun _ _ _ => ()) (QX (.exit 0) (fun _ g => ⟨[], [], g⟩)) () kp52_4 up_qx trivial (by omega) (by omega) ?_ ?_ ?_ ?_
  · rintro k _ g x rest hk hget hd _ hb w1
    have hget' : (l.map (fun x => DV.int .i64 x))[k]? = some (.int .i64 x) := by rw [List.getElem?_map, hget]; rfl
    have hkl : ((k : Int) < (l.length : Int)) = True := eq_true (by omega)
    simp only [amx, seval, ty_TyC_52, hb, hget', w1, hkl, bne_self_eq_false]
    refine step_nrm () trivial rfl ?_
    (apply Exists.intro; (try simp only [amx, seval]); exact sub_mk (by repeat first | exact subT_nil | refine subT_cons (by first | rfl | simp [Tm.get, *]) ?_))
  · rintro _ g _ hb
    simp only [amx, seval, ty_TyC_52, hb]
    refine last_end (by simp) ⟨rfl, ?_⟩
    (apply Exists.intro; (try simp only [amx, seval]); exact sub_mk (by repeat first | exact subT_nil | refine subT_cons (by first | rfl | simp [Tm.get, *]) ?_))
  · (apply Exists.intro; (try simp only [amx, seval]); exact sub_mk (by repeat first | exact subT_nil | refine subT_cons (by first | rfl | simp [Tm.get, *]) ?_))
  · rintro o S' ⟨rfl, g, hs⟩
    refine good_sub_cr up_fin hs ?_
    simp only [amx, seval, ty_TyC_52]
theorem ca_EqI {d dst : Nat} {S : St} (l : List Int) (tok : Option Id) (hl : l.length ≤ 1048576) : callA tab (callR tab) d dst 52 [.own 1 (l.map (fun x => DV.int .i64 x)) tok, .d (.sl 1 (l.map (fun x => DV.int .i64 x)))] S = some (.d (.bool true), S) :=
  ca_ret (ds := [.sl 1 (l.map (fun x => DV.int .i64 x)), .sl 1 (l.map (fun x => DV.int .i64 x))]) (ret_EqI l hl) rfl (tab_opn (by kernel_rfl)) (tab_res (by kernel_rfl))
def lookI : List (List UInt8 × Int) → List UInt8 → Int
  | [], _ => 0
  | (k, v) :: r, s => if s = k then v else lookI r s
theorem fk_I {m : List (List UInt8 × Int)} (s : List UInt8) (h : lookI m s ≠ 0) : findK .string (.str s) (mdvI m) = some (some (.int .i64 (lookI m s))) := by
  induction m with
  | nil => exact absurd rfl h
  | cons p r ih =>
    obtain ⟨k, v⟩ := p
    simp only [mdvI, List.map_cons] at ih ⊢
    unfold findK
    simp only [sameK]
    unfold lookI at h ⊢
    by_cases e : s = k
    · subst e
      simp
    · rw [if_neg e] at h ⊢
      rw [beq_eq_false_iff_ne.2 e]
      exact ih h
def ruleE (op : Int) (ts : List Int) : Int := if op = 17 then (match ts with
    | [c, a, b] => if c = 2 ∧ a = b ∧ 1 ≤ a ∧ a ≤ 3 then a else 0
    | _ => 0)
  else if 11 ≤ op ∧ op ≤ 14 then (match ts with
    | [a, b] => if a = b ∧ 1 ≤ a ∧ a ≤ 3 then 2 else 0
    | _ => 0)
  else 0
def ruleT (op : Int) (ts : List Int) : Int :=
  if op = 3 then (if ts = [1] then 1 else 0) else if op = 4 then (if ts = [2] then 2 else 0) else if op = 18 then (if ts = [3] then 1 else 0)
  else if 5 ≤ op ∧ op ≤ 9 then (if ts = [1, 1] then 1 else 0) else if op = 10 then (if ts = [3, 3] then 3 else 0) else if op = 15 ∨ op = 16 then (if ts = [2, 2] then 2 else 0)
  else ruleE op ts
mutual
/-- A formula's type; 0 where it has none. -/
def Exp.ty (m : List (List UInt8 × Int)) : Exp → Int
  | .mk op v name args => if op = 1 then v.kind else if op = 2 then lookI m name else ruleT op (Exp.tyL m args)
def Exp.tyL (m : List (List UInt8 × Int)) : List Exp → List Int
  | [] => []
  | x :: r => x.ty m :: Exp.tyL m r
end
theorem tyL_map (m : List (List UInt8 × Int)) : ∀ l : List Exp, Exp.tyL m l = l.map (Exp.ty m)
  | [] => rfl
  | x :: r => by rw [Exp.tyL, tyL_map m r]; rfl
theorem rule_cases {op : Int} {ts : List Int} (h : ruleT op ts ≠ 0) :
    (op = 3 ∧ ts = [1] ∧ ruleT op ts = 1) ∨ (op = 4 ∧ ts = [2] ∧ ruleT op ts = 2) ∨ (op = 18 ∧ ts = [3] ∧ ruleT op ts = 1) ∨ ((op = 5 ∨ op = 6 ∨ op = 7 ∨ op = 8 ∨ op = 9) ∧ ts = [1, 1] ∧ ruleT op ts = 1) ∨
    (op = 10 ∧ ts = [3, 3] ∧ ruleT op ts = 3) ∨ ((op = 15 ∨ op = 16) ∧ ts = [2, 2] ∧ ruleT op ts = 2) ∨ (op = 17 ∧ ∃ a, ts = [2, a, a] ∧ (1 ≤ a ∧ a ≤ 3) ∧ ruleT op ts = a) ∨ ((op = 11 ∨ op = 12 ∨ op = 13 ∨ op = 14) ∧ ∃ a, ts = [a, a] ∧ (1 ≤ a ∧ a ≤ 3) ∧ ruleT op ts = 2) := by
  by_cases c1 : op = 3
  · subst c1
    by_cases e : ts = [1]
    · subst e; exact .inl ⟨rfl, rfl, rfl⟩
    · exact absurd (by unfold ruleT; rw [if_pos rfl, if_neg e]) h
  by_cases c2 : op = 4
  · subst c2
    by_cases e : ts = [2]
    · subst e; exact .inr (.inl ⟨rfl, rfl, rfl⟩)
    · exact absurd (by unfold ruleT; rw [if_neg (by decide), if_pos rfl, if_neg e]) h
  by_cases c3 : op = 18
  · subst c3
    by_cases e : ts = [3]
    · subst e; exact .inr (.inr (.inl ⟨rfl, rfl, rfl⟩))
    · exact absurd (by unfold ruleT; rw [if_neg (by decide), if_neg (by decide), if_pos rfl, if_neg e]) h
  by_cases c4 : 5 ≤ op ∧ op ≤ 9
  · by_cases e : ts = [1, 1]
    · subst e
      exact .inr (.inr (.inr (.inl ⟨by omega, rfl, by unfold ruleT; rw [if_neg c1, if_neg c2, if_neg c3, if_pos c4, if_pos rfl]⟩)))
    · exact absurd (by unfold ruleT; rw [if_neg c1, if_neg c2, if_neg c3, if_pos c4, if_neg e]) h
  by_cases c5 : op = 10
  · subst c5
    by_cases e : ts = [3, 3]
    · subst e; exact .inr (.inr (.inr (.inr (.inl ⟨rfl, rfl, rfl⟩))))
    · exact absurd (by unfold ruleT; rw [if_neg c1, if_neg c2, if_neg c3, if_neg c4, if_pos rfl, if_neg e]) h
  by_cases c6 : op = 15 ∨ op = 16
  · by_cases e : ts = [2, 2]
    · subst e
      exact .inr (.inr (.inr (.inr (.inr (.inl ⟨c6, rfl, by unfold ruleT; rw [if_neg c1, if_neg c2, if_neg c3, if_neg c4, if_neg c5, if_pos c6, if_pos rfl]⟩)))))
    · exact absurd (by unfold ruleT; rw [if_neg c1, if_neg c2, if_neg c3, if_neg c4, if_neg c5, if_pos c6, if_neg e]) h
  have hr : ruleT op ts = ruleE op ts := by unfold ruleT; rw [if_neg c1, if_neg c2, if_neg c3, if_neg c4, if_neg c5, if_neg c6]
  rw [hr] at h ⊢
  unfold ruleE at h ⊢
  by_cases c7 : op = 17
  · subst c7
    rw [if_pos rfl] at h ⊢
    rcases ts with _ | ⟨c, _ | ⟨a, _ | ⟨b, _ | ⟨e, r⟩⟩⟩⟩
    · exact absurd rfl h
    · exact absurd rfl h
    · exact absurd rfl h
    · by_cases k : c = 2 ∧ a = b ∧ 1 ≤ a ∧ a ≤ 3
      · obtain ⟨rfl, rfl, k1, k2⟩ := k
        exact .inr (.inr (.inr (.inr (.inr (.inr (.inl ⟨rfl, a, rfl, ⟨k1, k2⟩, by simp [k1, k2]⟩))))))
      · exact absurd (if_neg k) h
    · exact absurd rfl h
  · rw [if_neg c7] at h ⊢
    by_cases c8 : 11 ≤ op ∧ op ≤ 14
    · rw [if_pos c8] at h ⊢
      rcases ts with _ | ⟨a, _ | ⟨b, _ | ⟨e, r⟩⟩⟩
      · exact absurd rfl h
      · exact absurd rfl h
      · by_cases k : a = b ∧ 1 ≤ a ∧ a ≤ 3
        · obtain ⟨rfl, k1, k2⟩ := k
          exact .inr (.inr (.inr (.inr (.inr (.inr (.inr ⟨by omega, a, rfl, ⟨k1, k2⟩, by simp [k1, k2]⟩))))))
        · exact absurd (if_neg k) h
      · exact absurd rfl h
    · rw [if_neg c8] at h; exact absurd rfl h
theorem ruleT_args {op : Int} {ts : List Int} (h : ruleT op ts ≠ 0) : ∀ t ∈ ts, t ≠ 0 := by
  rcases rule_cases h with ⟨_, rfl, _⟩ | ⟨_, rfl, _⟩ | ⟨_, rfl, _⟩ | ⟨_, rfl, _⟩ | ⟨_, rfl, _⟩ | ⟨_, rfl, _⟩ | ⟨_, a, rfl, ⟨h1, h2⟩, _⟩ | ⟨_, a, rfl, ⟨h1, h2⟩, _⟩ <;>
    (intro t ht; simp only [List.mem_cons, List.not_mem_nil, or_false] at ht; omega)
theorem kn_3 : findK (.int .i64) (.int .i64 3) knownL = some (some (.agg [.sl 1 [.int .i64 1], .int .i64 1])) := by kernel_rfl
theorem kn_4 : findK (.int .i64) (.int .i64 4) knownL = some (some (.agg [.sl 1 [.int .i64 2], .int .i64 2])) := by kernel_rfl
theorem kn_5 : findK (.int .i64) (.int .i64 5) knownL = some (some (.agg [.sl 1 [.int .i64 1, .int .i64 1], .int .i64 1])) := by kernel_rfl
theorem kn_6 : findK (.int .i64) (.int .i64 6) knownL = some (some (.agg [.sl 1 [.int .i64 1, .int .i64 1], .int .i64 1])) := by kernel_rfl
theorem kn_7 : findK (.int .i64) (.int .i64 7) knownL = some (some (.agg [.sl 1 [.int .i64 1, .int .i64 1], .int .i64 1])) := by kernel_rfl
theorem kn_8 : findK (.int .i64) (.int .i64 8) knownL = some (some (.agg [.sl 1 [.int .i64 1, .int .i64 1], .int .i64 1])) := by kernel_rfl
theorem kn_9 : findK (.int .i64) (.int .i64 9) knownL = some (some (.agg [.sl 1 [.int .i64 1, .int .i64 1], .int .i64 1])) := by kernel_rfl
theorem kn_10 : findK (.int .i64) (.int .i64 10) knownL = some (some (.agg [.sl 1 [.int .i64 3, .int .i64 3], .int .i64 3])) := by kernel_rfl
theorem kn_11 : findK (.int .i64) (.int .i64 11) knownL = some none := by kernel_rfl
theorem kn_12 : findK (.int .i64) (.int .i64 12) knownL = some none := by kernel_rfl
theorem kn_13 : findK (.int .i64) (.int .i64 13) knownL = some none := by kernel_rfl
theorem kn_14 : findK (.int .i64) (.int .i64 14) knownL = some none := by kernel_rfl
theorem kn_15 : findK (.int .i64) (.int .i64 15) knownL = some (some (.agg [.sl 1 [.int .i64 2, .int .i64 2], .int .i64 2])) := by kernel_rfl
theorem kn_16 : findK (.int .i64) (.int .i64 16) knownL = some (some (.agg [.sl 1 [.int .i64 2, .int .i64 2], .int .i64 2])) := by kernel_rfl
theorem kn_17 : findK (.int .i64) (.int .i64 17) knownL = some none := by kernel_rfl
theorem kn_18 : findK (.int .i64) (.int .i64 18) knownL = some (some (.agg [.sl 1 [.int .i64 3], .int .i64 1])) := by kernel_rfl
theorem eq_1 {d dst : Nat} {S : St} {tok : Option Id} : callA tab (callR tab) d dst 52 [.own 1 [.int .i64 1] tok, .d (.sl 1 [.int .i64 1])] S = some (.d (.bool true), S) := ca_EqI [1] tok (by decide)
theorem eq_2 {d dst : Nat} {S : St} {tok : Option Id} : callA tab (callR tab) d dst 52 [.own 1 [.int .i64 2] tok, .d (.sl 1 [.int .i64 2])] S = some (.d (.bool true), S) := ca_EqI [2] tok (by decide)
theorem eq_3 {d dst : Nat} {S : St} {tok : Option Id} : callA tab (callR tab) d dst 52 [.own 1 [.int .i64 3] tok, .d (.sl 1 [.int .i64 3])] S = some (.d (.bool true), S) := ca_EqI [3] tok (by decide)
theorem eq_11 {d dst : Nat} {S : St} {tok : Option Id} : callA tab (callR tab) d dst 52 [.own 1 [.int .i64 1, .int .i64 1] tok, .d (.sl 1 [.int .i64 1, .int .i64 1])] S = some (.d (.bool true), S) := ca_EqI [1, 1] tok (by decide)
theorem eq_22 {d dst : Nat} {S : St} {tok : Option Id} : callA tab (callR tab) d dst 52 [.own 1 [.int .i64 2, .int .i64 2] tok, .d (.sl 1 [.int .i64 2, .int .i64 2])] S = some (.d (.bool true), S) := ca_EqI [2, 2] tok (by decide)
theorem eq_33 {d dst : Nat} {S : St} {tok : Option Id} : callA tab (callR tab) d dst 52 [.own 1 [.int .i64 3, .int .i64 3] tok, .d (.sl 1 [.int .i64 3, .int .i64 3])] S = some (.d (.bool true), S) := ca_EqI [3, 3] tok (by decide)
structure TW where
  acc : List Int
  t : Option (List Nat)
theorem ret_ofN (tm : List (List UInt8 × Int)) : ∀ (m : Nat) (x : Exp), x.nodes ≤ m → x.nodes ≤ 1048576 → x.ty tm ≠ 0 → RetT tab 85 [.d x.dv, .d (.mp (mdvI tm)), .d (.ump knownL)] [.int .i64 (x.ty tm), .int .i64 0]
  | 0, x, h, _, _ => by cases x; simp [Exp.nodes] at h
  | m + 1, .mk op v name args, h, hB, hty => by
    have hlen := Exp.nodes_len args
    simp only [Exp.nodes] at h hB
    have ihn : ∀ a ∈ args, a.nodes ≤ m ∧ a.nodes ≤ 1048576 := fun a ha => ⟨by have := Exp.nodes_mem ha; omega, by have := Exp.nodes_mem ha; omega⟩
    rw [Exp.dv_mk]
    rw [Exp.ty] at hty ⊢
    by_cases c1 : op = 1
    · subst c1
      rw [if_pos rfl]
      refine retq_good (args.length + 1) fn85 rfl rfl ?_
      simp only [amx, seval, ty_TyC_85]
    have b1 : (op == 1) = false := beq_eq_false_iff_ne.2 c1
    rw [if_neg c1] at hty ⊢
    by_cases c2 : op = 2
    · subst c2
      rw [if_pos rfl] at hty ⊢
      have hf := fk_I name hty
      refine retq_good (args.length + 1) fn85 rfl rfl ?_
      simp only [amx, seval, ty_TyC_85, b1, hf, beq_self_eq_true]
    have b2 : (op == 2) = false := beq_eq_false_iff_ne.2 c2
    rw [if_neg c2] at hty ⊢
    have hne : ∀ a ∈ args, a.ty tm ≠ 0 := fun a ha => ruleT_args hty _ (by rw [tyL_map]; exact List.mem_map.2 ⟨a, ha, rfl⟩)
    have ih : ∀ a ∈ args, RetT tab 85 [.d a.dv, .d (.mp (mdvI tm)), .d (.ump knownL)] [.int .i64 (a.ty tm), .int .i64 0] := fun a ha => ret_ofN tm m a (ihn a ha).1 (ihn a ha).2 (hne a ha)
    have hrc := rule_cases hty
    rw [tyL_map] at hrc ⊢
    clear hty hne ihn
    generalize ruleT op (args.map (Exp.ty tm)) = T at *
    refine retq_good (args.length + 1) fn85 rfl rfl ?_
    simp only [amx, seval, ty_TyC_85, b1, b2]
    refine good_range args (fun k (a : TW) g => ⟨[(1, .d (.mp (mdvI tm))), (2, .d (.ump knownL)), (3, .d (.rp [.int .i64 op, .int .i64 v.kind, .int .i64 v.n, .str v.s, .str name, .sl 6 (args.map Exp.dv)])), (10, .own 1 (a.acc.map (fun x => DV.int .i64 x)) (tokD 0 56 a.t)), (37, .d (.sl 6 (args.map Exp.dv))), (38, .d (.int .i64 args.length)), (39, .d (.int .i64 (k : Nat)))],
        tokP 0 56 (a.acc.length * 1) a.t, g⟩)
      (fun k a => a.acc.length ≤ k) (fun k a r => a.acc ++ r.map (Exp.ty tm))
      (fun (o : List Int) (q : Out) (S : St) => q = .exit 1 ∧ ∃ t g, Sub ⟨[(2, .d (.ump knownL)), (3, .d (.rp [.int .i64 op, .int .i64 v.kind, .int .i64 v.n, .str v.s, .str name, .sl 6 (args.map Exp.dv)])), (10, .own 1 (o.map (fun x => DV.int .i64 x)) (tokD 0 56 t))],
        tokP 0 56 (o.length * 1) t, g⟩ S)
      ⟨[], none⟩ kp85_11 (fun _ => up_tok) (Nat.le_refl _) (by omega) (by omega) ?_ ?_ ?_ ?_
    · rintro k ⟨acc, t⟩ g x rest hk hget hd hI hb w1
      have hget' : (args.map Exp.dv)[k]? = some x.dv := by rw [List.getElem?_map, hget]; rfl
      simp only at hI
      have hA : ((acc.length + 1) * 8 ≤ 140737488355328) = True := eq_true (by omega)
      have f1 := fun (S : St) (d dst : Nat) => ca_retT (d := d) (dst := dst) (S := S) (args := [.d x.dv, .d (.mp (mdvI tm)), .d (.ump knownL)]) (ds := [x.dv, .mp (mdvI tm), .ump knownL]) (ih x (List.mem_of_getElem? hget)) rfl (tab_opn (by kernel_rfl)) (tab_res (by kernel_rfl))
      rw [Exp.dv_eq x] at hget' f1
      have hS : acc ++ (x :: rest).map (Exp.ty tm) = (acc ++ [x.ty tm]) ++ rest.map (Exp.ty tm) := by simp
      generalize x.ty tm = y at *
      rcases t with _ | t
      · simp only [amx, seval, ty_TyC_85, hb, hget', w1, sx1, sx2, f1, hA, tokD, tokP, bne_self_eq_false]
        refine step_nrm (TW.mk (acc ++ [y]) (some (1 :: g))) ?_ hS ?_
        · simp only [List.length_append, List.length_cons, List.length_nil]; omega
        · (apply Exists.intro; (try simp only [amx, seval, tokD, tokP]); exact sub_mk (by repeat first | exact subT_nil | refine subT_cons (by first | rfl | simp [Tm.get, *]) ?_))
      · simp only [amx, seval, ty_TyC_85, hb, hget', w1, sx1, sx2, f1, hA, tokD, tokP, bne_self_eq_false]
        refine step_nrm (TW.mk (acc ++ [y]) (some t)) ?_ hS ?_
        · simp only [List.length_append, List.length_cons, List.length_nil]; omega
        · (apply Exists.intro; (try simp only [amx, seval, tokD, tokP]); exact sub_mk (by repeat first | exact subT_nil | refine subT_cons (by first | rfl | simp [Tm.get, *]) ?_))
    · rintro ⟨acc, t⟩ g hI hb
      simp only [amx, seval, ty_TyC_85, hb]
      refine last_end (by simp) ⟨rfl, t, g, ?_⟩
      try simp only [List.map_nil, List.append_nil]
      rcases t with _ | t
      · simp only [amx, seval, tokD, tokP]
        exact sub_mk (by repeat first | exact subT_nil | refine subT_cons (by first | rfl | simp [Tm.get, *]) ?_)
      · simp only [amx, seval, tokD, tokP]
        exact sub_mk (by repeat first | exact subT_nil | refine subT_cons (by first | rfl | simp [Tm.get, *]) ?_)
    · (refine ⟨[], ?_⟩; (try simp only [amx, seval, tokD, tokP]); exact sub_mk (by repeat first | exact subT_nil | refine subT_cons (by first | rfl | simp [Tm.get, *]) ?_))
    · rintro o S' ⟨rfl, t, g, hs⟩
      refine good_sub_cr up_finq hs ?_
      simp only [List.nil_append]
      generalize args.map (Exp.ty tm) = ts at *
      rcases hrc with ⟨ho, rfl, rfl⟩ | ⟨ho, rfl, rfl⟩ | ⟨ho, rfl, rfl⟩ | ⟨ho, rfl, rfl⟩ | ⟨ho, rfl, rfl⟩ | ⟨ho, rfl, rfl⟩ | ⟨ho, a, rfl, _, rfl⟩ | ⟨ho, a, rfl, _, rfl⟩
      · subst ho
        rcases t with _ | t <;> simp only [amx, seval, ty_TyC_85, kn_3, kn_4, kn_5, kn_6, kn_7, kn_8, kn_9, kn_10, kn_11, kn_12, kn_13, kn_14, kn_15, kn_16, kn_17, kn_18, eq_1, eq_2, eq_3, eq_11, eq_22, eq_33, tokD, tokP, beq_self_eq_true]
      · subst ho
        rcases t with _ | t <;> simp only [amx, seval, ty_TyC_85, kn_3, kn_4, kn_5, kn_6, kn_7, kn_8, kn_9, kn_10, kn_11, kn_12, kn_13, kn_14, kn_15, kn_16, kn_17, kn_18, eq_1, eq_2, eq_3, eq_11, eq_22, eq_33, tokD, tokP, beq_self_eq_true]
      · subst ho
        rcases t with _ | t <;> simp only [amx, seval, ty_TyC_85, kn_3, kn_4, kn_5, kn_6, kn_7, kn_8, kn_9, kn_10, kn_11, kn_12, kn_13, kn_14, kn_15, kn_16, kn_17, kn_18, eq_1, eq_2, eq_3, eq_11, eq_22, eq_33, tokD, tokP, beq_self_eq_true]
      · rcases ho with rfl | rfl | rfl | rfl | rfl <;> rcases t with _ | t <;> simp only [amx, seval, ty_TyC_85, kn_3, kn_4, kn_5, kn_6, kn_7, kn_8, kn_9, kn_10, kn_11, kn_12, kn_13, kn_14, kn_15, kn_16, kn_17, kn_18, eq_1, eq_2, eq_3, eq_11, eq_22, eq_33, tokD, tokP, beq_self_eq_true]
      · subst ho
        rcases t with _ | t <;> simp only [amx, seval, ty_TyC_85, kn_3, kn_4, kn_5, kn_6, kn_7, kn_8, kn_9, kn_10, kn_11, kn_12, kn_13, kn_14, kn_15, kn_16, kn_17, kn_18, eq_1, eq_2, eq_3, eq_11, eq_22, eq_33, tokD, tokP, beq_self_eq_true]
      · rcases ho with rfl | rfl <;> rcases t with _ | t <;> simp only [amx, seval, ty_TyC_85, kn_3, kn_4, kn_5, kn_6, kn_7, kn_8, kn_9, kn_10, kn_11, kn_12, kn_13, kn_14, kn_15, kn_16, kn_17, kn_18, eq_1, eq_2, eq_3, eq_11, eq_22, eq_33, tokD, tokP, beq_self_eq_true]
      · subst ho
        rcases t with _ | t <;> simp only [amx, seval, ty_TyC_85, kn_3, kn_4, kn_5, kn_6, kn_7, kn_8, kn_9, kn_10, kn_11, kn_12, kn_13, kn_14, kn_15, kn_16, kn_17, kn_18, eq_1, eq_2, eq_3, eq_11, eq_22, eq_33, tokD, tokP, beq_self_eq_true]
      · rcases ho with rfl | rfl | rfl | rfl <;> rcases t with _ | t <;> simp only [amx, seval, ty_TyC_85, kn_3, kn_4, kn_5, kn_6, kn_7, kn_8, kn_9, kn_10, kn_11, kn_12, kn_13, kn_14, kn_15, kn_16, kn_17, kn_18, eq_1, eq_2, eq_3, eq_11, eq_22, eq_33, tokD, tokP, beq_self_eq_true]
/- Of which type a formula is: typing.Of, typing.Fits; formulas of raw things; TypingOne. -/
theorem ty_TyF_70 : type_of% (ai (ai (ai (ai @rs70 @lw70) (ai @ro36_2_typing_go_71 @dr70_4)) (ai (ai @tt1 @tt3) (ai @tt4 (ai @tt9 @tt23)))) (ai (ai (ai @tt28 @tt33) (ai @tt34 @tt36)) (ai (ai @tt48 @tt50) (ai @tt119 (ai @tt121 @tt132))))) := (ai (ai (ai (ai @rs70 @lw70) (ai @ro36_2_typing_go_71 @dr70_4)) (ai (ai @tt1 @tt3) (ai @tt4 (ai @tt9 @tt23)))) (ai (ai (ai @tt28 @tt33) (ai @tt34 @tt36)) (ai (ai @tt48 @tt50) (ai @tt119 (ai @tt121 @tt132)))))
theorem ty_TyF_37 : type_of% (ai (ai (ai @rs37 (ai @lw37 @ro36_3_typing_go_79)) (ai @tt1 (ai @tt3 @tt4))) (ai (ai @tt9 (ai @tt23 @tt28)) (ai (ai @tt33 @tt34) (ai @tt36 @tt48)))) := (ai (ai (ai @rs37 (ai @lw37 @ro36_3_typing_go_79)) (ai @tt1 (ai @tt3 @tt4))) (ai (ai @tt9 (ai @tt23 @tt28)) (ai (ai @tt33 @tt34) (ai @tt36 @tt48))))



theorem ca_ofT {d dst : Nat} {S : St} (tm : List (List UInt8 × Int)) (x : Exp) (hx : x.nodes ≤ 1048576) (ht : x.ty tm ≠ 0) : callA tab (callR tab) d dst 85 [.d x.dv, .d (.mp (mdvI tm)), .d (.ump knownL)] S = some (.tup [.d (.int .i64 (x.ty tm)), .d (.int .i64 0)], S) :=
  ca_retT (ds := [x.dv, .mp (mdvI tm), .ump knownL]) (ret_ofN tm x.nodes x (Nat.le_refl _) hx ht) rfl (tab_opn (by kernel_rfl)) (tab_res (by kernel_rfl))
theorem ret_OfT (x : Exp) (fs : List Field) (hx : x.nodes ≤ 60 ∧ x.deep ≤ 12) (wx : x.wf) (ht : x.ty (tmap fs) ≠ 0) : RetT tab 70 [.d x.dv, .d (.sl 9 (fs.map Field.dv))] [.int .i64 (x.ty (tmap fs)), .int .i64 0] := by
  have f0 := fun (S : St) (d dst : Nat) => ca_CheckE (d := d) (dst := dst) (S := S) x (by omega) wx
  have hcx : chkE x = 0 := by unfold chkE; rw [if_neg (by omega), if_neg (by omega)]
  have f1 := fun (S : St) (d dst : Nat) => ca_types (d := d) (dst := dst) (S := S) fs
  have f2 := fun (S : St) (d dst : Nat) => ca_rules (d := d) (dst := dst) (S := S)
  have f3 := fun (S : St) (d dst : Nat) => ca_ofT (d := d) (dst := dst) (S := S) (tmap fs) x (by omega) ht
  rw [hcx] at f0
  generalize x.ty (tmap fs) = t at *
  rw [Exp.dv_eq x] at f0 f3 ⊢
  refine retq_good 1 fn70 rfl rfl ?_
  simp only [amx, seval, ty_TyF_70, f0, f1, f2, f3, bne_self_eq_false]
theorem ca_OfT {d dst : Nat} {S : St} (x : Exp) (fs : List Field) (hx : x.nodes ≤ 60 ∧ x.deep ≤ 12) (wx : x.wf) (ht : x.ty (tmap fs) ≠ 0) : callA tab (callR tab) d dst 70 [.d x.dv, .d (.sl 9 (fs.map Field.dv))] S = some (.tup [.d (.int .i64 (x.ty (tmap fs))), .d (.int .i64 0)], S) :=
  ca_retT (ds := [x.dv, .sl 9 (fs.map Field.dv)]) (ret_OfT x fs hx wx ht) rfl (tab_opn (by kernel_rfl)) (tab_res (by kernel_rfl))
theorem ret_FitsT (x : Exp) (fs : List Field) (want : Int) (hx : x.nodes ≤ 60 ∧ x.deep ≤ 12) (wx : x.wf) (ht : x.ty (tmap fs) ≠ 0) : Ret tab 37 [.d x.dv, .d (.sl 9 (fs.map Field.dv)), .d (.int .i64 want)] (.d (.int .i64 (if x.ty (tmap fs) = want then 0 else 9))) := by
  have f0 := fun (S : St) (d dst : Nat) => ca_OfT (d := d) (dst := dst) (S := S) x fs hx wx ht
  generalize x.ty (tmap fs) = t at *
  rw [Exp.dv_eq x] at f0 ⊢
  by_cases e : t = want
  · subst e
    rw [if_pos rfl]
    refine ret_of 1 fn37 rfl rfl ?_
    simp only [amx, seval, ty_TyF_37, f0, bne_self_eq_false]
  · have b1 : (t != want) = true := bne_iff_ne.2 e
    rw [if_neg e]
    refine ret_of 1 fn37 rfl rfl ?_
    simp only [amx, seval, ty_TyF_37, f0, b1, bne_self_eq_false]
theorem ca_FitsT {d dst : Nat} {S : St} (x : Exp) (fs : List Field) (want : Int) (hx : x.nodes ≤ 60 ∧ x.deep ≤ 12) (wx : x.wf) (ht : x.ty (tmap fs) ≠ 0) : callA tab (callR tab) d dst 37 [.d x.dv, .d (.sl 9 (fs.map Field.dv)), .d (.int .i64 want)] S = some (.d (.int .i64 (if x.ty (tmap fs) = want then 0 else 9)), S) :=
  ca_ret (ds := [x.dv, .sl 9 (fs.map Field.dv), .int .i64 want]) (ret_FitsT x fs want hx wx ht) rfl (tab_opn (by kernel_rfl)) (tab_res (by kernel_rfl))
/-! ### formulas of raw things have the type that they are made for -/
theorem gshape_rule {kind : Int} (hk : Ty kind) {r : Raw} (hr : r.ok) : ruleT (gshape kind r).1 (gshape kind r).2 = kind ∧ ∀ k ∈ (gshape kind r).2, Ty k := by
  have p1 := pick_range r.b 7 hr.b.1 hr.b.2 (by decide)
  have p2 := pick_range r.a 3 hr.a.1 hr.a.2 (by decide)
  unfold gshape
  generalize pick r.a 6 = u
  generalize pick r.b 7 = v at *
  generalize pick r.a 3 = z at *
  have hv : v = 0 ∨ v = 1 ∨ v = 2 ∨ v = 3 ∨ v = 4 ∨ v = 5 ∨ v = 6 := by omega
  have hz : z = 0 ∨ z = 1 ∨ z = 2 := by omega
  by_cases hu : u = 0
  · rw [if_pos hu]
    rcases hk with rfl | rfl | rfl
    · exact ⟨by decide, by intro k h; simp only [List.mem_cons, List.not_mem_nil, or_false] at h; unfold Ty; omega⟩
    · exact ⟨by decide, by intro k h; simp only [List.mem_cons, List.not_mem_nil, or_false] at h; unfold Ty; omega⟩
    · exact ⟨by decide, by intro k h; simp only [List.mem_cons, List.not_mem_nil, or_false] at h; unfold Ty; omega⟩
  · rw [if_neg hu]
    rcases hk with rfl | rfl | rfl <;> rcases hv with rfl | rfl | rfl | rfl | rfl | rfl | rfl <;> rcases hz with rfl | rfl | rfl
    all_goals exact ⟨by decide, by intro k h; simp at h; unfold Ty; omega⟩
theorem leaf_ty {kind : Int} (hk : Ty kind) {tm : List (List UInt8 × Int)} {fs : List Field} (hT : ∀ f ∈ fs, lookI tm f.name = f.ty) (hlf : fs.length ≤ 1048576) {r : Raw} (hr : r.ok) : (gleafE kind fs r).ty tm = kind := by
  have hc : (constE kind r).ty tm = kind := by
    unfold constE
    rw [Exp.ty, if_pos rfl]
    exact (constV_ok hr hk).2.1
  unfold gleafE
  split
  · exact hc
  · rename_i h0
    split
    · exact hc
    · have hl := fnames_le kind fs
      have hp := pick_range r.b (fnames kind fs).length hr.b.1 hr.b.2 (by omega)
      have hlt : (pick r.b (fnames kind fs).length).toNat < (fnames kind fs).length := by omega
      have hm : (fnames kind fs).getD (pick r.b (fnames kind fs).length).toNat [] ∈ fnames kind fs := by
        rw [List.getD_eq_getElem?_getD, List.getElem?_eq_getElem hlt]
        exact List.getElem_mem hlt
      obtain ⟨f, h1, h2, h3⟩ := fnames_mem hm
      rw [Exp.ty, if_neg (by decide), if_pos rfl, ← h2, hT f h1, h3]
theorem gargs_ty {ge : Int → Nat → Exp × Nat} {tm : List (List UInt8 × Int)} (h : ∀ k n, Ty k → (ge k n).1.ty tm = k) : ∀ (ks : List Int) (n : Nat), (∀ k ∈ ks, Ty k) → Exp.tyL tm (gargs ge ks n).1 = ks
  | [], n, _ => rfl
  | k :: ks, n, hk => by
    simp only [gargs, Exp.tyL]
    rw [h k n (hk k (by simp)), gargs_ty h ks _ (fun x hx => hk x (by simp [hx]))]
theorem rule_op {op : Int} {ts : List Int} (h : ruleT op ts ≠ 0) : op ≠ 1 ∧ op ≠ 2 := by
  rcases rule_cases h with ⟨h, _⟩ | ⟨h, _⟩ | ⟨h, _⟩ | ⟨h, _⟩ | ⟨h, _⟩ | ⟨h, _⟩ | ⟨h, _⟩ | ⟨h, _⟩ <;> omega
theorem gexpr_ty {tm : List (List UInt8 × Int)} {fs : List Field} (hT : ∀ f ∈ fs, lookI tm f.name = f.ty) (hlf : fs.length ≤ 1048576) {l : List Raw} (hr : ∀ r ∈ l, r.ok) : ∀ (d : Nat) (kind : Int) (k : Nat), Ty kind → (gexpr fs l d kind k).1.ty tm = kind
  | 0, kind, k, hk => leaf_ty hk hT hlf (gnext_ok hr _)
  | d + 1, kind, k, hk => by
    unfold gexpr
    split
    · exact leaf_ty hk hT hlf (gnext_ok hr _)
    · obtain ⟨h1, h2⟩ := gshape_rule hk (gnext_ok hr k)
      have hne : ruleT (gshape kind (gnext l k)).1 (gshape kind (gnext l k)).2 ≠ 0 := by rw [h1]; rcases hk with h | h | h <;> omega
      have hop := rule_op hne
      rw [Exp.ty, if_neg hop.1, if_neg hop.2, gargs_ty (fun k n hk => gexpr_ty hT hlf hr d k n hk) _ _ h2, h1]
/- Fields that may be; those of forms of raw things are. -/
theorem look_set (k s : List UInt8) (v : Int) : ∀ m, lookI (setI k v m) s = if s = k then v else lookI m s
  | [] => by simp [setI, lookI]
  | (q, y) :: r => by
    unfold setI
    by_cases e : k = q
    · subst e
      rw [if_pos (by simp), lookI, lookI]
      by_cases h : s = k
      · rw [if_pos h, if_pos h]
      · rw [if_neg h, if_neg h, if_neg h]
    · rw [if_neg (by simpa using e), lookI, lookI, look_set k s v r]
      by_cases h : s = q
      · rw [if_pos h, if_pos h, if_neg (fun h2 => e (h2.symm.trans h))]
      · rw [if_neg h, if_neg h]
theorem look_tmap : ∀ {fs : List Field}, (fs.map Field.name).Nodup → ∀ f ∈ fs, lookI (tmap fs) f.name = f.ty
  | g :: r, hn, f, hf => by
    rw [List.map_cons, List.nodup_cons] at hn
    have ht : tmap (g :: r) = setI g.name g.ty (tmap r) := rfl
    rw [ht, look_set]
    rcases List.mem_cons.1 hf with rfl | hf
    · rw [if_pos rfl]
    · rw [if_neg (fun (e : f.name = g.name) => hn.1 (by rw [← e]; exact List.mem_map_of_mem hf)), look_tmap hn.2 f hf]
structure FOne (tm : List (List UInt8 × Int)) (f : Field) : Prop where
  name : nameErr f.name = 0
  kind : f.kind = 1 ∨ f.kind = 2 ∨ f.kind = 3
  ty : Ty f.ty
  inp : f.kind = 1 → f.source = Exp.zero
  src : f.kind ≠ 1 → f.source.wf ∧ f.source.nodes ≤ 60 ∧ f.source.deep ≤ 12
  frm : f.kind = 2 → f.source.ty tm = f.ty
  lkp : f.kind = 3 → f.source.ty tm ≠ 0
structure FOKs (fs : List Field) : Prop where
  len : fs.length ≤ 14
  nd : (fs.map Field.name).Nodup
  one : ∀ f ∈ fs, FOne (tmap fs) f
theorem fnm_ok : ∀ s ∈ fnm, nameErr s = 0 := by
  intro s hs
  simp only [fnm, List.mem_cons, List.not_mem_nil, or_false] at hs
  rcases hs with rfl | rfl | rfl | rfl | rfl | rfl | rfl | rfl | rfl | rfl <;> kernel_rfl
theorem gfields_from (l : List Raw) : ∀ (m : Nat) (fs : List Field) (k : Nat), fs.length + m ≤ 10 → (∀ f ∈ fs, f ∈ (gfields l m fs k).1) ∧ ∀ f ∈ (gfields l m fs k).1, f ∈ fs ∨ ∃ pre n, pre.length < 10 ∧ (∀ g ∈ pre, g ∈ (gfields l m fs k).1) ∧ f = (gfield l pre pre.length n).1
  | 0, fs, k, _ => ⟨fun f hf => hf, fun f hf => .inl hf⟩
  | m + 1, fs, k, hl => by
    unfold gfields
    obtain ⟨h1, h2⟩ := gfields_from l m (fs ++ [(gfield l fs fs.length k).1]) (gfield l fs fs.length k).2 (by simp; omega)
    refine ⟨fun f hf => h1 f (by simp [hf]), fun f hf => ?_⟩
    rcases h2 f hf with h | h
    · rcases List.mem_append.1 h with h | h
      · exact .inl h
      · rw [List.mem_singleton] at h
        exact .inr ⟨fs, k, by omega, fun g hg => h1 g (by simp [hg]), h⟩
    · exact .inr h
theorem ty_nat {l : List Raw} (hr : ∀ r ∈ l, r.ok) (k : Nat) (f : Raw → Int) (hf : ∀ r : Raw, r.ok → -9223372036854775808 ≤ f r ∧ f r ≤ 9223372036854775807) : Ty (1 + pick (f (gnext l k)) 3) := by
  obtain ⟨j, h1, h2⟩ := pick_nat hr k 3 (by decide) (by decide) f hf
  have h1' : pick (f (gnext l k)) 3 = j := h1
  rw [h1']
  unfold Ty
  omega
theorem foks_form {l : List Raw} (hr : ∀ r ∈ l, r.ok) {fs : List Field} (hm : ∀ f, f ∈ fs ↔ f ∈ ffields l) (hn : (fs.map Field.name).Nodup) (hlen : fs.length ≤ 14) : FOKs fs := by
  refine ⟨hlen, hn, fun f hf => ?_⟩
  have hff := (hm f).1 hf
  have hnf := nfields_le hr
  obtain ⟨_, h2⟩ := gfields_from l (nfields l) [] (gat l 0) (by simp; omega)
  rcases h2 f hff with h | ⟨pre, n, hp, hpm, he⟩
  · cases h
  have hpre : ∀ g ∈ pre, lookI (tmap fs) g.name = g.ty := fun g hg => look_tmap hn g ((hm g).2 (hpm g hg))
  have hk := ty_nat hr n (fun r => r.kind) (fun r h => h.kind)
  have ht := ty_nat hr n (fun r => r.b) (fun r h => h.b)
  have ha := ty_nat hr n (fun r => r.a) (fun r h => h.a)
  have hprok : FsOK pre := fun g hg => by
    have hg2 := hpm g hg
    refine ⟨fnm_ok _ (ffields_name hr g hg2), ?_⟩
    obtain ⟨_, h3⟩ := gfields_from l (nfields l) [] (gat l 0) (by simp; omega)
    rcases h3 g hg2 with h | ⟨pre', n', _, _, he'⟩
    · cases h
    · rw [he']; exact ty_nat hr n' (fun r => r.b) (fun r h => h.b)
  have hname : nameErr f.name = 0 := fnm_ok _ (ffields_name hr f hff)
  have hkk : f.kind = 1 + pick (gnext l n).kind 3 := by rw [he]; rfl
  have htt : f.ty = 1 + pick (gnext l n).b 3 := by rw [he]; rfl
  have hss : f.source = (gsrc l pre (1 + pick (gnext l n).kind 3) (1 + pick (gnext l n).b 3) (gnext l n) (gat l n)).1 := by rw [he]; rfl
  rw [← hkk, ← htt] at hss
  have hk : Ty f.kind := by rw [hkk]; exact hk
  have ht : Ty f.ty := by rw [htt]; exact ht
  refine ⟨hname, hk, ht, fun h => ?_, fun h => ?_, fun h => ?_, fun h => ?_⟩
  · rw [hss]; unfold gsrc; rw [if_neg (by omega), if_neg (by omega)]
  · rcases hk with h1 | h1 | h1
    · exact absurd h1 h
    · have hs : f.source = (gexpr pre l 2 f.ty (gat l n)).1 := by rw [hss]; unfold gsrc; rw [if_pos h1]
      rw [hs]
      have h3 := gexpr_nodes pre l 2 f.ty (gat l n)
      have h4 : nb 2 = 13 := rfl
      exact ⟨gexpr_wf hprok hr 2 f.ty _ ht, by omega, by omega⟩
    · have hs : f.source = (gexpr pre l 1 (1 + pick (gnext l n).a 3) (gat l n)).1 := by rw [hss]; unfold gsrc; rw [if_neg (by omega), if_pos h1]
      rw [hs]
      have h3 := gexpr_nodes pre l 1 (1 + pick (gnext l n).a 3) (gat l n)
      have h4 : nb 1 = 4 := rfl
      exact ⟨gexpr_wf hprok hr 1 _ _ ha, by omega, by omega⟩
  · have hs : f.source = (gexpr pre l 2 f.ty (gat l n)).1 := by rw [hss]; unfold gsrc; rw [if_pos h]
    rw [hs]
    exact gexpr_ty hpre (by omega) hr 2 f.ty _ ht
  · have hs : f.source = (gexpr pre l 1 (1 + pick (gnext l n).a 3) (gat l n)).1 := by rw [hss]; unfold gsrc; rw [if_neg (by omega), if_pos h]
    rw [hs, gexpr_ty hpre (by omega) hr 1 _ _ ha]
    unfold Ty at ha
    omega
/- field.Check, walked where fields may be. -/
theorem ty_FmN_88 : type_of% (ai (ai (ai @rs88 @lw88) (ai @ro36_1_field_go_25 (ai @tt1 @tt2))) (ai (ai @tt3 (ai @tt4 @tt9)) (ai @tt33 (ai @tt34 @tt36)))) := (ai (ai (ai @rs88 @lw88) (ai @ro36_1_field_go_25 (ai @tt1 @tt2))) (ai (ai @tt3 (ai @tt4 @tt9)) (ai @tt33 (ai @tt34 @tt36))))
theorem ty_FmN_71 : type_of% (ai (ai (ai @rs71 (ai @lw71 @ro48_1_field_go_30)) (ai @tt1 (ai @tt2 @tt3))) (ai (ai @tt4 (ai @tt9 @tt28)) (ai (ai @tt33 @tt34) (ai @tt36 @tt48)))) := (ai (ai (ai @rs71 (ai @lw71 @ro48_1_field_go_30)) (ai @tt1 (ai @tt2 @tt3))) (ai (ai @tt4 (ai @tt9 @tt28)) (ai (ai @tt33 @tt34) (ai @tt36 @tt48))))
theorem ty_FmN_72 : type_of% (ai (ai (ai @rs72 (ai @lw72 @ro48_2_field_go_47)) (ai (ai @tt1 @tt2) (ai @tt3 @tt4))) (ai (ai @tt9 (ai @tt23 @tt28)) (ai (ai @tt33 @tt34) (ai @tt36 @tt48)))) := (ai (ai (ai @rs72 (ai @lw72 @ro48_2_field_go_47)) (ai (ai @tt1 @tt2) (ai @tt3 @tt4))) (ai (ai @tt9 (ai @tt23 @tt28)) (ai (ai @tt33 @tt34) (ai @tt36 @tt48))))
theorem ty_FmN_46 : type_of% (ai (ai (ai (ai @rs46 @lw46) (ai @dr46_9 @mu23_29)) (ai (ai @kp46_4 @kp46_14) (ai @tt1 @tt3))) (ai (ai (ai @tt4 @tt9) (ai @tt23 @tt28)) (ai (ai @tt33 @tt34) (ai @tt36 @tt48)))) := (ai (ai (ai (ai @rs46 @lw46) (ai @dr46_9 @mu23_29)) (ai (ai @kp46_4 @kp46_14) (ai @tt1 @tt3))) (ai (ai (ai @tt4 @tt9) (ai @tt23 @tt28)) (ai (ai @tt33 @tt34) (ai @tt36 @tt48))))





theorem Field.dv_eq (x : Field) : x.dv = .agg [.str x.name, .int .i64 x.kind, .int .i64 x.ty, .int .i64 x.source.op, .int .i64 x.source.v.kind, .int .i64 x.source.v.n, .str x.source.v.s, .str x.source.name, .sl 6 (x.source.args.map Exp.dv)] := rfl
theorem ca_noneZ {d dst : Nat} {S : St} : callA tab (callR tab) d dst 88 [.d (.agg [.int .i64 0, .int .i64 0, .int .i64 0, .str [], .str [], .sl 6 []])] S = some (.d (.bool true), S) := by
  refine ca_ret (ds := [.agg [.int .i64 0, .int .i64 0, .int .i64 0, .str [], .str [], .sl 6 []]]) ?_ rfl (tab_opn (by kernel_rfl)) (tab_res (by kernel_rfl))
  refine ret_of 1 fn88 rfl rfl ?_
  simp only [amx, seval, ty_FmN_88, beq_self_eq_true]
theorem ret_Right {tm : List (List UInt8 × Int)} (f : Field) (h : FOne tm f) : Ret tab 71 [.d f.dv] (.d (.int .i64 0)) := by
  have f1 := fun (S : St) (d dst : Nat) => ca_Name (d := d) (dst := dst) (S := S) f.name
  rw [h.name] at f1
  have ht := h.ty
  have b3 : decide (f.ty < 1) = false := decide_eq_false (by unfold Ty at ht; omega)
  have b4 : decide (f.ty > 3) = false := decide_eq_false (by unfold Ty at ht; omega)
  have b5 : decide (3 < f.ty) = false := b4
  by_cases c1 : f.kind = 1
  · have hs := h.inp c1
    obtain ⟨nm, k, t, src⟩ := f
    simp only at c1 hs f1 b3 b4 b5
    subst c1 hs
    rw [Field.dv_eq]
    simp only [Exp.zero, Exp.op, Exp.v, Exp.name, Exp.args, Val.zero, List.map_nil]
    refine ret_of 1 fn71 rfl rfl ?_
    simp only [amx, seval, ty_FmN_71, f1, b3, b4, b5, ca_noneZ, bne_self_eq_false, beq_self_eq_true]
  · obtain ⟨s1, s2, s3⟩ := h.src c1
    have f2 := fun (S : St) (d dst : Nat) => ca_CheckE (d := d) (dst := dst) (S := S) f.source (by omega) s1
    have hc : chkE f.source = 0 := by unfold chkE; rw [if_neg (by omega), if_neg (by omega)]
    rw [hc, Exp.dv_eq f.source] at f2
    have hk := h.kind
    have b1 : decide (f.kind < 1) = false := decide_eq_false (by omega)
    have b2 : decide (f.kind > 3) = false := decide_eq_false (by omega)
    have b2' : decide (3 < f.kind) = false := b2
    have b6 : (f.kind == 1) = false := beq_eq_false_iff_ne.2 c1
    rw [Field.dv_eq f]
    refine ret_of 1 fn71 rfl rfl ?_
    simp only [amx, seval, ty_FmN_71, f1, f2, b1, b2, b2', b3, b4, b5, b6, bne_self_eq_false]
theorem ca_Right {d dst : Nat} {S : St} {tm : List (List UInt8 × Int)} (f : Field) (h : FOne tm f) : callA tab (callR tab) d dst 71 [.d f.dv] S = some (.d (.int .i64 0), S) :=
  ca_ret (ds := [f.dv]) (ret_Right f h) rfl (tab_opn (by kernel_rfl)) (tab_res (by kernel_rfl))
theorem ret_typed (f : Field) (fs : List Field) (h : FOne (tmap fs) f) : Ret tab 72 [.d f.dv, .d (.sl 9 (fs.map Field.dv))] (.d (.int .i64 0)) := by
  rcases h.kind with c | c | c
  · have b1 : (f.kind == 2) = false := beq_eq_false_iff_ne.2 (by omega)
    have b2 : (f.kind == 3) = false := beq_eq_false_iff_ne.2 (by omega)
    rw [Field.dv_eq f]
    refine ret_of 1 fn72 rfl rfl ?_
    simp only [amx, seval, ty_FmN_72, b1, b2]
  · have b1 : (f.kind == 2) = true := beq_iff_eq.2 c
    obtain ⟨s1, s2, s3⟩ := h.src (by omega)
    have ht := h.ty
    have hf := h.frm c
    have f2 := fun (S : St) (d dst : Nat) => ca_FitsT (d := d) (dst := dst) (S := S) f.source fs f.ty ⟨s2, s3⟩ s1 (by rw [hf]; unfold Ty at ht; omega)
    rw [if_pos hf, Exp.dv_eq f.source] at f2
    rw [Field.dv_eq f]
    refine ret_of 1 fn72 rfl rfl ?_
    simp only [amx, seval, ty_FmN_72, f2, b1]
  · have b1 : (f.kind == 2) = false := beq_eq_false_iff_ne.2 (by omega)
    have b2 : (f.kind == 3) = true := beq_iff_eq.2 c
    obtain ⟨s1, s2, s3⟩ := h.src (by omega)
    have f2 := fun (S : St) (d dst : Nat) => ca_OfT (d := d) (dst := dst) (S := S) f.source fs ⟨s2, s3⟩ s1 (h.lkp c)
    rw [Exp.dv_eq f.source] at f2
    rw [Field.dv_eq f]
    refine ret_of 1 fn72 rfl rfl ?_
    simp only [amx, seval, ty_FmN_72, f2, b1, b2]
theorem ca_typed {d dst : Nat} {S : St} (f : Field) (fs : List Field) (h : FOne (tmap fs) f) : callA tab (callR tab) d dst 72 [.d f.dv, .d (.sl 9 (fs.map Field.dv))] S = some (.d (.int .i64 0), S) :=
  ca_ret (ds := [f.dv, .sl 9 (fs.map Field.dv)]) (ret_typed f fs h) rfl (tab_opn (by kernel_rfl)) (tab_res (by kernel_rfl))
theorem ffind_take {fs : List Field} (hn : (fs.map Field.name).Nodup) {k : Nat} {x : Field} (hx : fs[k]? = some x) : ffind (fs.take k) x.name = (0, 5) := by
  refine ffind_no (fun f hf he => ?_)
  obtain ⟨i, hi, he2⟩ := List.getElem_of_mem hf
  rw [List.length_take] at hi
  rw [List.getElem_take] at he2
  obtain ⟨h1, h1'⟩ := List.getElem?_eq_some_iff.1 hx
  exact (List.pairwise_iff_getElem.1 hn) i k (by simp; omega) (by simpa using h1) (by omega) (by simp [h1', he2, he])
theorem ret_CheckF (fs : List Field) (h : FOKs fs) : Ret tab 46 [.d (.sl 9 (fs.map Field.dv))] (.d (.int .i64 0)) := by
  have hl := h.len
  have b1 : decide ((fs.length : Int) > 14) = false := decide_eq_false (by omega)
  have b2 : decide ((14 : Int) < (fs.length : Int)) = false := b1
  refine ret_of 64 fn46 rfl rfl ?_
  simp only [amx, seval, ty_FmN_46, b1, b2]
  refine good_range fs (fun k (_ : Unit) g => ⟨[(0, .d (.sl 9 (fs.map Field.dv))), (14, .d (.sl 9 (fs.map Field.dv))), (15, .d (.int .i64 fs.length)), (16, .d (.int .i64 (k : Nat)))], [], g⟩) (fun _ _ => True) (fun _ _ _ => ())
    (QX (.exit 0) (fun _ g => ⟨[(0, .d (.sl 9 (fs.map Field.dv)))], [], g⟩)) () kp46_4 up_qx trivial (by omega) (by omega) ?_ ?_ ?_ ?_
  · rintro k a g x rest hk hget hdr _ hb w1
    have hget' : (fs.map Field.dv)[k]? = some x.dv := by rw [List.getElem?_map, hget]; rfl
    have hkl : ((k : Int) ≤ (fs.length : Int)) = True := eq_true (by omega)
    have htk : List.take k (fs.map Field.dv) = (fs.take k).map Field.dv := List.map_take.symm
    have f1 := fun (S : St) (d dst : Nat) => ca_Right (d := d) (dst := dst) (S := S) x (h.one x (List.mem_of_getElem? hget))
    have f2 := fun (S : St) (d dst : Nat) => ca_Find (d := d) (dst := dst) (S := S) (fs.take k) x.name (by rw [List.length_take]; omega)
    rw [ffind_take h.nd hget] at f2
    rw [Field.dv_eq x] at f1
    have f3 : ∀ (S : St) (d dst : Nat), callA tab (callR tab) d dst 25 [.d (.sl 9 ((fs.take k).map Field.dv)), .d (.str x.name)] S = some (.tup [.d (.int .i64 0), .d (.int .i64 5)], S) := f2
    simp only [amx, seval, ty_FmN_46, Field.dv, hb, hget', hkl, htk, w1, f1, f3, bne_self_eq_false]
    refine step_nrm () trivial rfl ?_
    (apply Exists.intro; (try simp only [amx, seval]); exact sub_mk (by repeat first | exact subT_nil | refine subT_cons (by first | rfl | simp [Tm.get, *]) ?_))
  · intro a g _ hb
    simp only [amx, seval, ty_FmN_46, hb]
    refine last_end (by simp) ⟨rfl, ?_⟩
    (apply Exists.intro; (try simp only [amx, seval]); exact sub_mk (by repeat first | exact subT_nil | refine subT_cons (by first | rfl | simp [Tm.get, *]) ?_))
  · (apply Exists.intro; (try simp only [amx, seval]); exact sub_mk (by repeat first | exact subT_nil | refine subT_cons (by first | rfl | simp [Tm.get, *]) ?_))
  · rintro o S' ⟨rfl, g, hs⟩
    refine good_sub_cr up_fin hs ?_
    simp only [amx, seval, ty_FmN_46]
    refine good_range fs (fun k (_ : Unit) g => ⟨[(0, .d (.sl 9 (fs.map Field.dv))), (38, .d (.sl 9 (fs.map Field.dv))), (39, .d (.int .i64 fs.length)), (40, .d (.int .i64 (k : Nat)))], [], g⟩) (fun _ _ => True) (fun _ _ _ => ())
      (QX (.exit 2) (fun _ g => ⟨[], [], g⟩)) () kp46_14 up_qx trivial (by omega) (by omega) ?_ ?_ ?_ ?_
    · rintro k a g x rest hk hget hdr _ hb w1
      have hget' : (fs.map Field.dv)[k]? = some x.dv := by rw [List.getElem?_map, hget]; rfl
      have f1 := fun (S : St) (d dst : Nat) => ca_typed (d := d) (dst := dst) (S := S) x fs (h.one x (List.mem_of_getElem? hget))
      rw [Field.dv_eq x] at f1
      simp only [amx, seval, ty_FmN_46, Field.dv, hb, hget', w1, f1, bne_self_eq_false]
      refine step_nrm () trivial rfl ?_
      (apply Exists.intro; (try simp only [amx, seval]); exact sub_mk (by repeat first | exact subT_nil | refine subT_cons (by first | rfl | simp [Tm.get, *]) ?_))
    · intro a g _ hb
      simp only [amx, seval, ty_FmN_46, hb]
      refine last_end (by simp) ⟨rfl, ?_⟩
      (apply Exists.intro; (try simp only [amx, seval]); exact sub_mk (by repeat first | exact subT_nil | refine subT_cons (by first | rfl | simp [Tm.get, *]) ?_))
    · (apply Exists.intro; (try simp only [amx, seval]); exact sub_mk (by repeat first | exact subT_nil | refine subT_cons (by first | rfl | simp [Tm.get, *]) ?_))
    · rintro o S' ⟨rfl, g, hs⟩
      refine good_sub_cr up_fin hs ?_
      simp only [amx, seval, ty_FmN_46]
theorem ca_CheckF {d dst : Nat} {S : St} (fs : List Field) (h : FOKs fs) : callA tab (callR tab) d dst 46 [.d (.sl 9 (fs.map Field.dv))] S = some (.d (.int .i64 0), S) :=
  ca_ret (ds := [.sl 9 (fs.map Field.dv)]) (ret_CheckF fs h) rfl (tab_opn (by kernel_rfl)) (tab_res (by kernel_rfl))
/- Ranks by sweeps: the plain law. -/
def mostR (out : List Int) : List Nat → Int → Int
  | [], m => m
  | k :: r, m => if out.getD k 0 < 0 then -1 else mostR out r (if out.getD k 0 + 1 > m then out.getD k 0 + 1 else m)
def upR (o v : Int) : Int := if v > o then v else o
def sweepR : List (List Nat) → Nat → List Int → List Int
  | [], _, out => out
  | l :: r, i, out => sweepR r (i + 1) (out.set i (upR (out.getD i 0) (mostR out l 0)))
def roundsR (need : List (List Nat)) : Nat → List Int → List Int
  | 0, out => out
  | t + 1, out => roundsR need t (sweepR need 0 out)
def ranksL (need : List (List Nat)) : List Int := roundsR need need.length (List.replicate need.length (-1))
theorem mostR_congr {out out' : List Int} : ∀ (l : List Nat) (m : Int), (∀ k ∈ l, out.getD k 0 = out'.getD k 0) → mostR out l m = mostR out' l m
  | [], m, _ => rfl
  | k :: r, m, h => by
    unfold mostR
    rw [h k (by simp), mostR_congr r _ (fun j hj => h j (by simp [hj]))]
theorem mostR_neg {out : List Int} : ∀ (l : List Nat) (m : Int), (∃ k ∈ l, out.getD k 0 < 0) → mostR out l m = -1
  | [], m, ⟨k, h, _⟩ => by cases h
  | k :: r, m, ⟨j, hj, hn⟩ => by
    unfold mostR
    by_cases c : out.getD k 0 < 0
    · rw [if_pos c]
    · rw [if_neg c]
      rcases List.mem_cons.1 hj with rfl | hj
      · exact absurd hn c
      · exact mostR_neg r _ ⟨j, hj, hn⟩
theorem mostR_ge {out : List Int} : ∀ (l : List Nat) (m : Int), (∀ k ∈ l, 0 ≤ out.getD k 0) → m ≤ mostR out l m ∧ (∀ k ∈ l, out.getD k 0 + 1 ≤ mostR out l m) ∧ (mostR out l m = m ∨ ∃ k ∈ l, mostR out l m = out.getD k 0 + 1)
  | [], m, _ => ⟨Int.le_refl _, by simp, .inl rfl⟩
  | k :: r, m, h => by
    have h0 := h k (by simp)
    have e : mostR out (k :: r) m = mostR out r (if out.getD k 0 + 1 > m then out.getD k 0 + 1 else m) := by
      conv => lhs; unfold mostR
      rw [if_neg (by omega)]
    rw [e]
    by_cases c : out.getD k 0 + 1 > m
    · rw [if_pos c]
      obtain ⟨h1, h2, h3⟩ := mostR_ge (out := out) r (out.getD k 0 + 1) (fun j hj => h j (by simp [hj]))
      refine ⟨by omega, fun j hj => ?_, ?_⟩
      · rcases List.mem_cons.1 hj with rfl | hj
        · exact h1
        · exact h2 j hj
      · rcases h3 with h3 | ⟨j, hj, h3⟩
        · exact .inr ⟨k, by simp, h3⟩
        · exact .inr ⟨j, by simp [hj], h3⟩
    · rw [if_neg c]
      obtain ⟨h1, h2, h3⟩ := mostR_ge (out := out) r m (fun j hj => h j (by simp [hj]))
      refine ⟨by omega, fun j hj => ?_, ?_⟩
      · rcases List.mem_cons.1 hj with rfl | hj
        · omega
        · exact h2 j hj
      · rcases h3 with h3 | ⟨j, hj, h3⟩
        · exact .inl h3
        · exact .inr ⟨j, by simp [hj], h3⟩
theorem mostR_cases (out : List Int) (l : List Nat) : (mostR out l 0 = -1 ∧ ∃ k ∈ l, out.getD k 0 < 0) ∨ (0 ≤ mostR out l 0 ∧ ∀ k ∈ l, 0 ≤ out.getD k 0) := by
  by_cases h : ∃ k ∈ l, out.getD k 0 < 0
  · exact .inl ⟨mostR_neg l 0 h, h⟩
  · have h' : ∀ k ∈ l, 0 ≤ out.getD k 0 := fun k hk => by
      rcases Int.lt_or_le (out.getD k 0) 0 with c | c
      · exact (h ⟨k, hk, c⟩).elim
      · exact c
    exact .inr ⟨(mostR_ge l 0 h').1, h'⟩
def RkJ (need : List (List Nat)) (out : List Int) : Prop := out.length = need.length ∧ ∀ i l, need[i]? = some l → out.getD i 0 = -1 ∨ (0 ≤ out.getD i 0 ∧ (∀ k ∈ l, 0 ≤ out.getD k 0) ∧ out.getD i 0 = mostR out l 0)
theorem getD_set (out : List Int) (i j : Nat) (v : Int) : (out.set i v).getD j 0 = if i = j ∧ i < out.length then v else out.getD j 0 := by
  simp only [List.getD_eq_getElem?_getD, List.getElem?_set]
  by_cases c : i = j
  · subst c
    by_cases d : i < out.length
    · rw [if_pos rfl, if_pos d, if_pos ⟨rfl, d⟩]; rfl
    · rw [if_pos rfl, if_neg d, if_neg (fun h => d h.2), List.getElem?_eq_none (by omega)]
  · rw [if_neg c, if_neg (fun h => c h.1)]
theorem step_J {need : List (List Nat)} {out : List Int} {i : Nat} {l : List Nat} (hJ : RkJ need out) (hi : need[i]? = some l) :
    let out' := out.set i (upR (out.getD i 0) (mostR out l 0))
    RkJ need out' ∧ (∀ j, 0 ≤ out.getD j 0 → out'.getD j 0 = out.getD j 0) ∧ ((∀ k ∈ l, 0 ≤ out.getD k 0) → 0 ≤ out'.getD i 0) := by
  obtain ⟨hl, hJ⟩ := hJ
  have hil : i < out.length := by rw [hl]; exact (List.getElem?_eq_some_iff.1 hi).1
  have same : ∀ v, v = out.getD i 0 → out.set i v = out := fun v hv => by
    apply List.ext_getElem?
    intro j
    rw [List.getElem?_set]
    split
    · rename_i h; subst h
      rw [hv, List.getD_eq_getElem?_getD, List.getElem?_eq_getElem hil]; rfl
    · rfl
  rcases hJ i l hi with h | ⟨h1, h2, h3⟩
  · rcases mostR_cases out l with ⟨h4, k, hk, hk2⟩ | ⟨h4, h5⟩
    · have e : upR (out.getD i 0) (mostR out l 0) = out.getD i 0 := by unfold upR; rw [h, h4, if_neg (by decide)]
      simp only [same _ e]
      exact ⟨⟨hl, hJ⟩, fun _ _ => trivial, fun hh => absurd (hh k hk) (by omega)⟩
    · have e : upR (out.getD i 0) (mostR out l 0) = mostR out l 0 := by unfold upR; rw [h, if_pos (by omega)]
      simp only [e]
      have hg : ∀ j, 0 ≤ out.getD j 0 → (out.set i (mostR out l 0)).getD j 0 = out.getD j 0 := fun j hj => by
        rw [getD_set, if_neg (fun hh => by rw [← hh.1] at hj; omega)]
      have hgi : (out.set i (mostR out l 0)).getD i 0 = mostR out l 0 := by rw [getD_set, if_pos ⟨rfl, hil⟩]
      refine ⟨⟨by simpa using hl, fun j l' hj => ?_⟩, hg, fun _ => by rw [hgi]; exact h4⟩
      by_cases c : i = j
      · subst c
        rw [hi] at hj
        cases hj
        refine .inr ⟨by rw [hgi]; exact h4, fun k hk => by rw [hg k (h5 k hk)]; exact h5 k hk, ?_⟩
        rw [hgi]
        exact mostR_congr l 0 (fun k hk => (hg k (h5 k hk)).symm)
      · rw [getD_set, if_neg (fun hh => c hh.1)]
        rcases hJ j l' hj with h6 | ⟨h6, h7, h8⟩
        · exact .inl h6
        · exact .inr ⟨h6, fun k hk => by rw [hg k (h7 k hk)]; exact h7 k hk, by rw [h8]; exact mostR_congr l' 0 (fun k hk => (hg k (h7 k hk)).symm)⟩
  · have e : upR (out.getD i 0) (mostR out l 0) = out.getD i 0 := by unfold upR; rw [← h3, if_neg (by omega)]
    simp only [same _ e]
    exact ⟨⟨hl, hJ⟩, fun _ _ => trivial, fun _ => h1⟩
theorem sweep_J {need : List (List Nat)} : ∀ (r : List (List Nat)) (i : Nat) (out : List Int), (∀ j l, r[j]? = some l → need[i + j]? = some l) → RkJ need out →
    RkJ need (sweepR r i out) ∧ (∀ j, 0 ≤ out.getD j 0 → (sweepR r i out).getD j 0 = out.getD j 0) ∧ ∀ j l, r[j]? = some l → (∀ k ∈ l, 0 ≤ out.getD k 0) → 0 ≤ (sweepR r i out).getD (i + j) 0
  | [], i, out, _, hJ => ⟨hJ, fun _ _ => rfl, fun j l h => by simp at h⟩
  | l :: r, i, out, hr, hJ => by
    obtain ⟨h1, h2, h3⟩ := step_J hJ (hr 0 l rfl)
    simp only [Nat.add_zero] at h1 h2 h3
    obtain ⟨h4, h5, h6⟩ := sweep_J r (i + 1) _ (fun j l' hj => by have := hr (j + 1) l' (by simpa using hj); rwa [show i + 1 + j = i + (j + 1) by omega]) h1
    unfold sweepR
    refine ⟨h4, fun j hj => by rw [h5 j (by rw [h2 j hj]; exact hj), h2 j hj], fun j l' hj hk => ?_⟩
    cases j with
    | zero =>
      obtain rfl : l = l' := by simpa using hj
      have := h3 hk
      rw [show i + 0 = i from rfl, h5 i this]
      exact this
    | succ j =>
      rw [show i + (j + 1) = i + 1 + j by omega]
      exact h6 j l' (by simpa using hj) (fun k hk' => by rw [h2 k (hk k hk')]; exact hk k hk')
theorem rounds_J {need : List (List Nat)} {h : Nat → Nat} (hh : ∀ i l, need[i]? = some l → ∀ k ∈ l, k < need.length ∧ h k < h i) : ∀ (t s : Nat) (out : List Int), RkJ need out → (∀ i, i < need.length → h i < s → 0 ≤ out.getD i 0) →
    RkJ need (roundsR need t out) ∧ ∀ i, i < need.length → h i < s + t → 0 ≤ (roundsR need t out).getD i 0
  | 0, s, out, hJ, hs => ⟨hJ, hs⟩
  | t + 1, s, out, hJ, hs => by
    obtain ⟨h1, h2, h3⟩ := sweep_J need 0 out (fun j l hj => by rwa [Nat.zero_add]) hJ
    unfold roundsR
    obtain ⟨h4, h5⟩ := rounds_J hh t (s + 1) (sweepR need 0 out) h1 (fun i hi hs' => by
      have hi' := List.getElem?_eq_getElem hi
      have := h3 i _ hi' (fun k hk => by
        obtain ⟨k1, k2⟩ := hh i _ hi' k hk
        exact hs k k1 (by omega))
      rwa [Nat.zero_add] at this)
    exact ⟨h4, fun i hi hs' => h5 i hi (by omega)⟩
structure RkOk (need : List (List Nat)) (out : List Int) : Prop where
  len : out.length = need.length
  pos : ∀ i, i < need.length → 0 ≤ out.getD i 0
  eq : ∀ i l, need[i]? = some l → out.getD i 0 = mostR out l 0
theorem ranks_ok {need : List (List Nat)} {h : Nat → Nat} (hh : ∀ i l, need[i]? = some l → ∀ k ∈ l, k < need.length ∧ h k < h i) (hb : ∀ i, i < need.length → h i < need.length) : RkOk need (ranksL need) := by
  have hg : ∀ i, i < need.length → (List.replicate need.length (-1 : Int)).getD i 0 = -1 := fun i hi => by
    rw [List.getD_eq_getElem?_getD, List.getElem?_replicate, if_pos hi]; rfl
  obtain ⟨⟨h1, h2⟩, h3⟩ := rounds_J hh need.length 0 (List.replicate need.length (-1)) ⟨by simp, fun i l hi => .inl (hg i (List.getElem?_eq_some_iff.1 hi).1)⟩ (fun i _ hi => absurd hi (by omega))
  have hp : ∀ i, i < need.length → 0 ≤ (ranksL need).getD i 0 := fun i hi => h3 i hi (by have := hb i hi; omega)
  refine ⟨h1, hp, fun i l hi => ?_⟩
  have := hp i (List.getElem?_eq_some_iff.1 hi).1
  rcases h2 i l hi with h4 | ⟨_, _, h4⟩
  · have h5 : (ranksL need).getD i 0 = -1 := h4
    omega
  · exact h4
theorem RkOk.ge {need : List (List Nat)} {out : List Int} (h : RkOk need out) {i : Nat} {l : List Nat} (hi : need[i]? = some l) (hk : ∀ k ∈ l, k < need.length) : (∀ k ∈ l, out.getD k 0 + 1 ≤ out.getD i 0) ∧ (out.getD i 0 = 0 ∨ ∃ k ∈ l, out.getD i 0 = out.getD k 0 + 1) := by
  obtain ⟨_, h2, h3⟩ := mostR_ge (out := out) l 0 (fun k hkl => h.pos k (hk k hkl))
  rw [← h.eq i l hi] at h2 h3
  exact ⟨h2, h3⟩
theorem RkOk.le {need : List (List Nat)} {out : List Int} (ho : RkOk need out) {h : Nat → Nat} (hh : ∀ i l, need[i]? = some l → ∀ k ∈ l, k < need.length ∧ h k < h i) : ∀ (m i : Nat), i < need.length → h i ≤ m → out.getD i 0 ≤ h i
  | m, i, hi, hm => by
    have hi' := List.getElem?_eq_getElem hi
    rcases (ho.ge hi' (fun k hk => (hh i _ hi' k hk).1)).2 with h1 | ⟨k, hk, h1⟩
    · omega
    · obtain ⟨k1, k2⟩ := hh i _ hi' k hk
      cases m with
      | zero => omega
      | succ m =>
        have := RkOk.le ho hh m k k1 (by omega)
        omega
end Go.Proofs.Ytfcfifohflgboaa.Am
