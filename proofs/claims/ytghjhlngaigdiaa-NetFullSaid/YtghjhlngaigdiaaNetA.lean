/- NetAnswers and NetFull, walked. -/
import Derived.Test.YtghjhlngaigdiaaNetL
set_option linter.unusedVariables false
set_option linter.unusedSimpArgs false
namespace Go.Proofs.Ytghjhlngaigdiaa.Am
open Go Go.RowKit
theorem ty_NetA_8 : type_of% (And.intro (And.intro (And.intro (And.intro (And.intro (And.intro @rs8 @lv8_0) (And.intro @lv8_1 (And.intro @lv8_2 @lv8_3))) (And.intro (And.intro @lv8_4 @lv8_5) (And.intro @lv8_6 (And.intro @lv8_7 @lv8_8)))) (And.intro (And.intro (And.intro @inf1 @und2) (And.intro @sz2 (And.intro @ag2 @lv2))) (And.intro (And.intro @inf2 @und3) (And.intro @sz3 (And.intro @ag3 @lv3))))) (And.intro (And.intro (And.intro (And.intro @inf3 @und4) (And.intro @sz4 (And.intro @ag4 @lv4))) (And.intro (And.intro @inf4 @und9) (And.intro @sz9 (And.intro @ag9 @lv9)))) (And.intro (And.intro (And.intro @inf9 @und22) (And.intro @sz22 (And.intro @ag22 @pT22))) (And.intro (And.intro @inf22 (And.intro @und28 @sz28)) (And.intro @ag28 (And.intro @lv28 @inf28)))))) (And.intro (And.intro (And.intro (And.intro (And.intro @und43 @sz43) (And.intro @ag43 (And.intro @pT43 @inf43))) (And.intro (And.intro @und47 @sz47) (And.intro @ag47 (And.intro @fo47 @bA47)))) (And.intro (And.intro (And.intro @pT47_0 @pT47_1) (And.intro @pT47_2 (And.intro @pT47_3 @inf47))) (And.intro (And.intro @und52 @sz52) (And.intro @ag52 (And.intro @fo52 @bA52))))) (And.intro (And.intro (And.intro (And.intro @pT52_0 @pT52_1) (And.intro @pT52_2 (And.intro @lv52 @inf52))) (And.intro (And.intro @und54 @sz54) (And.intro @ag54 (And.intro @fo54 @bA54)))) (And.intro (And.intro (And.intro @pT54_0 @pT54_1) (And.intro @pT54_2 (And.intro @pT54_3 @lv54))) (And.intro (And.intro @inf54 (And.intro @und88 @sz88)) (And.intro @ag88 (And.intro @pT88 @inf88))))))) := (And.intro (And.intro (And.intro (And.intro (And.intro (And.intro @rs8 @lv8_0) (And.intro @lv8_1 (And.intro @lv8_2 @lv8_3))) (And.intro (And.intro @lv8_4 @lv8_5) (And.intro @lv8_6 (And.intro @lv8_7 @lv8_8)))) (And.intro (And.intro (And.intro @inf1 @und2) (And.intro @sz2 (And.intro @ag2 @lv2))) (And.intro (And.intro @inf2 @und3) (And.intro @sz3 (And.intro @ag3 @lv3))))) (And.intro (And.intro (And.intro (And.intro @inf3 @und4) (And.intro @sz4 (And.intro @ag4 @lv4))) (And.intro (And.intro @inf4 @und9) (And.intro @sz9 (And.intro @ag9 @lv9)))) (And.intro (And.intro (And.intro @inf9 @und22) (And.intro @sz22 (And.intro @ag22 @pT22))) (And.intro (And.intro @inf22 (And.intro @und28 @sz28)) (And.intro @ag28 (And.intro @lv28 @inf28)))))) (And.intro (And.intro (And.intro (And.intro (And.intro @und43 @sz43) (And.intro @ag43 (And.intro @pT43 @inf43))) (And.intro (And.intro @und47 @sz47) (And.intro @ag47 (And.intro @fo47 @bA47)))) (And.intro (And.intro (And.intro @pT47_0 @pT47_1) (And.intro @pT47_2 (And.intro @pT47_3 @inf47))) (And.intro (And.intro @und52 @sz52) (And.intro @ag52 (And.intro @fo52 @bA52))))) (And.intro (And.intro (And.intro (And.intro @pT52_0 @pT52_1) (And.intro @pT52_2 (And.intro @lv52 @inf52))) (And.intro (And.intro @und54 @sz54) (And.intro @ag54 (And.intro @fo54 @bA54)))) (And.intro (And.intro (And.intro @pT54_0 @pT54_1) (And.intro @pT54_2 (And.intro @pT54_3 @lv54))) (And.intro (And.intro @inf54 (And.intro @und88 @sz88)) (And.intro @ag88 (And.intro @pT88 @inf88)))))))
theorem ty_NetA_9 : type_of% (And.intro (And.intro (And.intro (And.intro (And.intro (And.intro @rs9 @lv9_0) (And.intro @ro47_5_mid_go_493 (And.intro @lv9_1 @mu22_24))) (And.intro (And.intro @lv9_2 (And.intro @dr9_3 @lv9_3)) (And.intro @lv9_4 (And.intro @lv9_5 @lv9_6)))) (And.intro (And.intro (And.intro @lv9_7 @dr9_8) (And.intro @lv9_8 (And.intro @mu43_108 @mu43_112))) (And.intro (And.intro @inf1 (And.intro @und2 @sz2)) (And.intro @ag2 (And.intro @lv2 @inf2))))) (And.intro (And.intro (And.intro (And.intro @und3 @sz3) (And.intro @ag3 (And.intro @lv3 @inf3))) (And.intro (And.intro @und4 (And.intro @sz4 @ag4)) (And.intro @lv4 (And.intro @inf4 @und9)))) (And.intro (And.intro (And.intro @sz9 @ag9) (And.intro @lv9 (And.intro @inf9 @und22))) (And.intro (And.intro @sz22 (And.intro @ag22 @pT22)) (And.intro @inf22 (And.intro @und28 @sz28)))))) (And.intro (And.intro (And.intro (And.intro (And.intro @ag28 @lv28) (And.intro @inf28 (And.intro @und43 @sz43))) (And.intro (And.intro @ag43 (And.intro @pT43 @inf43)) (And.intro @und47 (And.intro @sz47 @ag47)))) (And.intro (And.intro (And.intro @fo47 @bA47) (And.intro @pT47_0 (And.intro @pT47_1 @pT47_2))) (And.intro (And.intro @pT47_3 (And.intro @inf47 @und52)) (And.intro @sz52 (And.intro @ag52 @fo52))))) (And.intro (And.intro (And.intro (And.intro @bA52 @pT52_0) (And.intro @pT52_1 (And.intro @pT52_2 @lv52))) (And.intro (And.intro @inf52 (And.intro @und54 @sz54)) (And.intro @ag54 (And.intro @fo54 @bA54)))) (And.intro (And.intro (And.intro @pT54_0 @pT54_1) (And.intro @pT54_2 (And.intro @pT54_3 @lv54))) (And.intro (And.intro @inf54 (And.intro @und88 @sz88)) (And.intro @ag88 (And.intro @pT88 @inf88))))))) := (And.intro (And.intro (And.intro (And.intro (And.intro (And.intro @rs9 @lv9_0) (And.intro @ro47_5_mid_go_493 (And.intro @lv9_1 @mu22_24))) (And.intro (And.intro @lv9_2 (And.intro @dr9_3 @lv9_3)) (And.intro @lv9_4 (And.intro @lv9_5 @lv9_6)))) (And.intro (And.intro (And.intro @lv9_7 @dr9_8) (And.intro @lv9_8 (And.intro @mu43_108 @mu43_112))) (And.intro (And.intro @inf1 (And.intro @und2 @sz2)) (And.intro @ag2 (And.intro @lv2 @inf2))))) (And.intro (And.intro (And.intro (And.intro @und3 @sz3) (And.intro @ag3 (And.intro @lv3 @inf3))) (And.intro (And.intro @und4 (And.intro @sz4 @ag4)) (And.intro @lv4 (And.intro @inf4 @und9)))) (And.intro (And.intro (And.intro @sz9 @ag9) (And.intro @lv9 (And.intro @inf9 @und22))) (And.intro (And.intro @sz22 (And.intro @ag22 @pT22)) (And.intro @inf22 (And.intro @und28 @sz28)))))) (And.intro (And.intro (And.intro (And.intro (And.intro @ag28 @lv28) (And.intro @inf28 (And.intro @und43 @sz43))) (And.intro (And.intro @ag43 (And.intro @pT43 @inf43)) (And.intro @und47 (And.intro @sz47 @ag47)))) (And.intro (And.intro (And.intro @fo47 @bA47) (And.intro @pT47_0 (And.intro @pT47_1 @pT47_2))) (And.intro (And.intro @pT47_3 (And.intro @inf47 @und52)) (And.intro @sz52 (And.intro @ag52 @fo52))))) (And.intro (And.intro (And.intro (And.intro @bA52 @pT52_0) (And.intro @pT52_1 (And.intro @pT52_2 @lv52))) (And.intro (And.intro @inf52 (And.intro @und54 @sz54)) (And.intro @ag54 (And.intro @fo54 @bA54)))) (And.intro (And.intro (And.intro @pT54_0 @pT54_1) (And.intro @pT54_2 (And.intro @pT54_3 @lv54))) (And.intro (And.intro @inf54 (And.intro @und88 @sz88)) (And.intro @ag88 (And.intro @pT88 @inf88)))))))
set_option maxRecDepth 100000
set_option maxHeartbeats 40000000

theorem ca_letters {d dst : Nat} {S : St} (l : List Raw) (hl : l.length ≤ 9223372036854775807) (hr : ∀ r ∈ l, r.ok) : callA tab (callR tab) d dst 23 [.d (.sl 4 (l.map Raw.dv))] S = some (.d (.sl 8 ((lts 0 l).map Letter.dv)), S) :=
  ca_retD (ds := [.sl 4 (l.map Raw.dv)]) (run_letters l hl hr) rfl (tab_opn (by kernel_rfl)) (tab_res (by kernel_rfl))
theorem ret_NetFull (l m : List Raw) (hl : l.length ≤ 9223372036854775807) (hrl : ∀ r ∈ l, r.ok) (hm : m.length ≤ 9223372036854775807) (hrm : ∀ r ∈ m, r.ok) : Ret tab 8 [.d (.sl 4 (l.map Raw.dv)), .d (.sl 4 (m.map Raw.dv))] (.d (.bool (true))) := by
  refine ret_of (1) fn8 rfl rfl ?_
  have f1 := fun (S : St) (d dst : Nat) => ca_letters (d := d) (dst := dst) (S := S) l hl hrl
  have f2 := fun (S : St) (d dst : Nat) => ca_letters (d := d) (dst := dst) (S := S) m hm hrm
  have hX := lts_len l 0 (by decide)
  have hY := lts_len m 0 (by decide)
  have okX := lts_ok hrl
  have okY := lts_ok hrm
  generalize lts 0 l = X at *
  generalize lts 0 m = Y at *
  have fL : ∀ (T : Tm) (g q : List Nat) (dst : Nat), callA tab (callR tab) 0 dst 23 [.arr ⟨0, 23, q⟩ 0 1 4] ⟨T, [(⟨0, 23, q⟩, .box [.d (.int .i64 0), .d (.int .i64 0), .d (.int .i64 0), .d (.str [])])], g⟩ = some (.d (.sl 8 ([ltr 0 rz].map Letter.dv)), ⟨T, [(⟨0, 23, q⟩, .box [.d (.int .i64 0), .d (.int .i64 0), .d (.int .i64 0), .d (.str [])])], 1 :: g⟩) := fun T g q dst =>
    ca_lettersV [rz] (by decide) (fun r hm => by simp only [List.mem_cons, List.not_mem_nil, or_false] at hm; rw [hm]; exact rz_ok) rfl rfl
  have n1 : nchk X = 0 := nchk_ok (by omega) okX
  have n2 : nchk Y = 0 := nchk_ok (by omega) okY
  have okZ : ∀ x ∈ X ++ Y, lchk x = 0 := fun x hx => (List.mem_append.1 hx).elim (okX x) (okY x)
  have n3 : nchk (X ++ Y) = 0 := nchk_ok (by rw [List.length_append]; omega) okZ
  have n4 : nchk [ltr 0 rz] = 0 := nchk_ok (by simp) (fun x hx => by simp only [List.mem_cons, List.not_mem_nil, or_false] at hx; rw [hx]; exact ltr_ok (by decide) rz_ok)
  have fs := fun (S : St) (d dst : Nat) => ca_sendO (d := d) (dst := dst) (S := S) X Y n1 n2 (by omega)
  have fc := fun (S : St) (d dst : Nat) => ca_catL (d := d) (dst := dst) (S := S) (X.map Letter.dv) (Y.map Letter.dv) (elt_l _) (elt_l _) (by rw [List.length_map, List.length_map]; omega)
  have fe := fun (S : St) (d dst : Nat) => ca_EqL (d := d) (dst := dst) (S := S) (X ++ Y) (X ++ Y) (by rw [List.length_append]; omega)
  rw [show decide (X ++ Y = X ++ Y) = true from decide_eq_true rfl] at fe
  rw [← List.map_append] at fc
  have hZ : (X ++ Y).length ≤ 24 := by rw [List.length_append]; omega
  generalize hq : [ltr 0 rz] = L at *
  have hL : L.length = 1 := by rw [← hq]; rfl
  clear hq n1 n2
  generalize X ++ Y = Z at *
  by_cases h24 : Z.length = 24
  · have fb := fun (S : St) (d dst : Nat) => ca_sendB (d := d) (dst := dst) (S := S) Z L n3 n4 (by omega) (by omega)
    have b1 : ((Z.length : Int) == 24) = true := beq_iff_eq.2 (by omega)
    simp only [amr, amc, List.getElem?_cons_zero, List.getElem?_cons_succ, if_true, if_false, List.nil_append, List.cons_append, List.append_eq, List.append_nil, List.map_nil, List.map_cons, List.contains_nil, List.contains_cons, List.flatMap_nil, List.flatMap_cons, List.cons.injEq, List.length_cons, List.length_nil, List.take_succ_cons, List.take_zero, List.take_nil, List.drop_succ_cons, List.drop_zero, List.drop_nil, List.head?_cons, List.all_cons, List.all_nil, ne_eq, Option.map_some, Option.map_none, Option.some.injEq, List.flatten_cons, List.flatten_nil, gt_iff_lt, List.any_nil, List.any_cons, List.map_append, List.length_map, List.length_append, Option.getD, argsT, Option.bind, Option.map, List.headD, List.tail, reduceIte, reduceDIte, Nat.reduceEqDiff, Nat.reduceAdd, Nat.reduceSub, Nat.reduceMul, Nat.reduceLT, reduceCtorEq, Int.reduceEq, Int.reduceLT, Int.reduceLE, Int.reduceNeg, Int.reduceToNat, Int.reduceBNe, Int.reduceBEq, Int.reduceAdd, Int.reduceSub, Int.reduceMul, opnsL, Nat.reduceLeDiff, Nat.reduceGT, List.replicate, Nat.reduceShiftRight, Nat.reduceMod, Nat.reduceBEq, lendsL, ty_NetA_8, f1, f2, fL, fs, fc, fe, fb, b1, bne_self_eq_false, beq_self_eq_true]
  · have fo := fun (S : St) (d dst : Nat) => ca_sendO (d := d) (dst := dst) (S := S) Z L n3 n4 (by omega)
    have b1 : ((Z.length : Int) == 24) = false := beq_eq_false_iff_ne.2 (by omega)
    have w1 : IntKind.i64.wrap ((Z.length : Int) + 1) = (Z.length : Int) + 1 := wrap_in (by omega) (by omega)
    have b2 : (((Z.length + 1 : Nat) : Int) == (Z.length : Int) + 1) = true := beq_iff_eq.2 (by omega)
    simp only [amr, amc, List.getElem?_cons_zero, List.getElem?_cons_succ, if_true, if_false, List.nil_append, List.cons_append, List.append_eq, List.append_nil, List.map_nil, List.map_cons, List.contains_nil, List.contains_cons, List.flatMap_nil, List.flatMap_cons, List.cons.injEq, List.length_cons, List.length_nil, List.take_succ_cons, List.take_zero, List.take_nil, List.drop_succ_cons, List.drop_zero, List.drop_nil, List.head?_cons, List.all_cons, List.all_nil, ne_eq, Option.map_some, Option.map_none, Option.some.injEq, List.flatten_cons, List.flatten_nil, gt_iff_lt, List.any_nil, List.any_cons, List.map_append, List.length_map, List.length_append, Option.getD, argsT, Option.bind, Option.map, List.headD, List.tail, reduceIte, reduceDIte, Nat.reduceEqDiff, Nat.reduceAdd, Nat.reduceSub, Nat.reduceMul, Nat.reduceLT, reduceCtorEq, Int.reduceEq, Int.reduceLT, Int.reduceLE, Int.reduceNeg, Int.reduceToNat, Int.reduceBNe, Int.reduceBEq, Int.reduceAdd, Int.reduceSub, Int.reduceMul, opnsL, Nat.reduceLeDiff, Nat.reduceGT, List.replicate, Nat.reduceShiftRight, Nat.reduceMod, Nat.reduceBEq, lendsL, ty_NetA_8, f1, f2, fL, fs, fc, fe, fo, b1, w1, hL, b2, bne_self_eq_false, beq_self_eq_true]
theorem ca_NetFull {d dst : Nat} {S : St} (l m : List Raw) (hl : l.length ≤ 9223372036854775807) (hrl : ∀ r ∈ l, r.ok) (hm : m.length ≤ 9223372036854775807) (hrm : ∀ r ∈ m, r.ok) : callA tab (callR tab) d dst 8 [.d (.sl 4 (l.map Raw.dv)), .d (.sl 4 (m.map Raw.dv))] S = some (.d (.bool (true)), S) :=
  ca_ret (ds := [.sl 4 (l.map Raw.dv), .sl 4 (m.map Raw.dv)]) (ret_NetFull l m hl hrl hm hrm) rfl (tab_opn (by kernel_rfl)) (tab_res (by kernel_rfl))
theorem ret_NetAnswers (l : List Raw) (i : Int) (r : Raw) (hl : l.length * 40 ≤ 140737488351232) (hr : ∀ u ∈ l, u.ok) (hi : -9223372036854775808 ≤ i ∧ i ≤ 9223372036854775807) (hrr : r.ok) : Ret tab 9 [.d (.sl 4 (l.map Raw.dv)), .d (.int .i64 (i)), .d (r.dv)] (.d (.bool (true))) := by
  refine ret_of (1) fn9 rfl rfl ?_
  have hr2 : ∀ r ∈ l ++ [rz], r.ok := fun r hm => by
    rcases List.mem_append.1 hm with h | h
    · exact hr r h
    · simp only [List.mem_cons, List.not_mem_nil, or_false, or_self] at h; rw [h]; exact rz_ok
  have fL : ∀ (T : Tm) (g q : List Nat) (dst : Nat), callA tab (callR tab) 0 dst 23 [.arr ⟨0, 24, q⟩ 0 (l.length + 1) 4] ⟨T, [(⟨0, 24, q⟩, .box (flatD (l.map Raw.dv) ++ flatD [rzd]))], g⟩ = some (.d (.sl 8 ((lts 0 (l ++ [rz])).map Letter.dv)), ⟨T, [(⟨0, 24, q⟩, .box (flatD (l.map Raw.dv) ++ flatD [rzd]))], 1 :: g⟩) := fun T g q dst =>
    ca_lettersV (l ++ [rz]) (by simp; omega) hr2 (by simp only [List.map_append, flatD_append]; rfl) (by simp)
  have hX := lts_len (l ++ [rz]) 0 (by decide)
  have hok := lts_ok hr2
  have hzq := lts_q hr2
  simp only [List.length_append, List.length_cons, List.length_nil] at hX
  generalize lts 0 (l ++ [rz]) = X at *
  have hn2 : 1 ≤ X.length := by omega
  have hn12 : X.length ≤ 12 := by omega
  have hpk := pick_range i (X.length : Int) hi.1 hi.2 (by omega)
  have p1 := fun (S : St) (d dst : Nat) => ca_picked (d := d) (dst := dst) (S := S) i (X.length : Int) (by omega)
  generalize pick i (X.length : Int) = p at *
  obtain ⟨k, rfl⟩ : ∃ a : Nat, p = a := ⟨p.toNat, by omega⟩
  have hk : k < X.length := by omega
  have hp := pick_range r.kind 3 hrr.kind.1 hrr.kind.2 (by decide)
  have p2 := fun (S : St) (d dst : Nat) => ca_picked (d := d) (dst := dst) (S := S) r.kind 3 (by decide)
  have w1 : IntKind.i64.wrap (1 + pick r.kind 3) = 1 + pick r.kind 3 := wrap_in (by omega) (by omega)
  have fV : ∀ (S : St) (d dst : Nat), callA tab (callR tab) d dst 29 [.d (.int .i64 (1 + pick r.kind 3)), .d (.agg [.int .i64 r.kind, .int .i64 r.a, .int .i64 r.b, .str r.text])] S = some (.d (mkVal (1 + pick r.kind 3) r).dv, S) := fun S d dst => cf_Value (1 + pick r.kind 3) r hrr.text
  have hkn := mkVal_known (1 + pick r.kind 3) r hrr (by omega)
  have hkd := mkVal_kind (1 + pick r.kind 3) r (by omega)
  have hv0 : (mkVal (1 + pick r.kind 3) r).kind ≠ 0 := by omega
  clear hkd
  generalize mkVal (1 + pick r.kind 3) r = v at *
  generalize hx : X[k] = x at *
  have hxg : X[k]? = some x := by rw [List.getElem?_eq_getElem hk, hx]
  have hxm : x ∈ X := List.mem_of_getElem? hxg
  have hq : x.answer.kind = 0 := by rw [hzq x hxm]; rfl
  have n1 : nchk X = 0 := nchk_ok (by omega) hok
  have hy : lchk { x with answer := v } = 0 := by
    have h := hok x hxm
    unfold lchk at h ⊢
    simp only at h ⊢
    rw [hkn]
    revert h
    cases decide (x.id < 1) <;> cases decide (1073741824 < x.id) <;> cases valKnown x.key <;> simp [lchkB]
  have hyg : (X.set k { x with answer := v })[k]? = some { x with answer := v } := by rw [List.getElem?_set_self hk]
  have hokY : ∀ z ∈ X.set k { x with answer := v }, lchk z = 0 := fun z hz => by
    rcases List.mem_or_eq_of_mem_set hz with h | h
    · exact hok z h
    · rw [h]; exact hy
  have hYl : (X.set k { x with answer := v }).length = X.length := List.length_set
  have n2 : nchk (X.set k { x with answer := v }) = 0 := nchk_ok (by omega) hokY
  have f1 := fun (S : St) (d dst : Nat) => cf_comeQ (d := d) (dst := dst) (S := S) X k x hxg hq n1 (by omega)
  have f2 := fun (S : St) (d dst : Nat) => cf_ansO (d := d) (dst := dst) (S := S) X k x v hxg hq hkn n1 (by omega)
  have f3 := fun (S : St) (d dst : Nat) => cf_ansT (d := d) (dst := dst) (S := S) (X.set k { x with answer := v }) k _ v hyg hv0 n2 (by omega)
  have f4 := fun (S : St) (d dst : Nat) => cf_comeA (d := d) (dst := dst) (S := S) (X.set k { x with answer := v }) k _ hyg hv0 n2 (by omega)
  have hW : (X.set k { x with answer := v }).eraseIdx k = X.take k ++ X.drop (k + 1) := by
    rw [List.eraseIdx_eq_take_drop_succ, List.take_set_of_le (Nat.le_refl k), List.drop_set_of_lt (by omega)]
  rw [hW] at f4
  have fc := fun (S : St) (d dst : Nat) => ca_catL (d := d) (dst := dst) (S := S) ((X.take k).map Letter.dv) ((X.drop (k + 1)).map Letter.dv) (elt_l _) (elt_l _) (by rw [List.length_map, List.length_map, List.length_take, List.length_drop]; omega)
  have hWl : (X.take k ++ X.drop (k + 1)).length ≤ 12 := by rw [List.length_append, List.length_take, List.length_drop]; omega
  have fe := fun (S : St) (d dst : Nat) => ca_EqL (d := d) (dst := dst) (S := S) (X.take k ++ X.drop (k + 1)) (X.take k ++ X.drop (k + 1)) (by omega)
  rw [show decide (X.take k ++ X.drop (k + 1) = X.take k ++ X.drop (k + 1)) = true from decide_eq_true rfl] at fe
  rw [← List.map_append] at fc
  simp only [List.map_take, List.map_drop] at fc
  generalize X.take k ++ X.drop (k + 1) = W at *
  generalize X.set k { x with answer := v } = Y at *
  have hget' : (X.map Letter.dv)[k]? = some x.dv := by rw [List.getElem?_map, hxg]; rfl
  have k1 : ((k : Int) ≤ (X.length : Int)) = True := eq_true (by omega)
  have w2 : IntKind.i64.wrap ((k : Int) + 1) = ((k + 1 : Nat) : Int) := by rw [wrap_in (by omega) (by omega)]; omega
  have k5 : (((k + 1 : Nat) : Int) ≤ (X.length : Int)) = True := eq_true (by omega)
  have k2 : (k + 1 ≤ X.length) = True := eq_true (by omega)
  have t1 : List.drop (k + 1) (List.take X.length (X.map Letter.dv)) = List.drop (k + 1) (X.map Letter.dv) := by rw [List.take_of_length_le (by rw [List.length_map]; omega)]
  simp only [Letter.dv, Val.dv] at f1 f2 f3 f4 fV
  clear hW hWl hokY hyg hy hX hok hzq n1 n2 hYl hkn
  cases hle : l with
  | nil =>
    subst hle
    have f0 := fun (S : St) (d : Nat) => ca_clone0R (d := d) (dst := 21) (S := S) (j := 0) (tab_thaw (by kernel_rfl))
    simp only [List.map_nil, List.length_nil, Nat.zero_add, rzd] at fL
    rw [show flatD [] = [] from rfl] at fL
    simp only [List.nil_append] at fL
    simp only [amr, amc, List.getElem?_cons_zero, List.getElem?_cons_succ, if_true, if_false, List.nil_append, List.cons_append, List.append_eq, List.append_nil, List.map_nil, List.map_cons, List.contains_nil, List.contains_cons, List.flatMap_nil, List.flatMap_cons, List.cons.injEq, List.length_cons, List.length_nil, List.take_succ_cons, List.take_zero, List.take_nil, List.drop_succ_cons, List.drop_zero, List.drop_nil, List.head?_cons, List.all_cons, List.all_nil, ne_eq, Option.map_some, Option.map_none, Option.some.injEq, List.flatten_cons, List.flatten_nil, gt_iff_lt, List.any_nil, List.any_cons, List.map_append, List.length_map, List.length_append, Option.getD, argsT, Option.bind, Option.map, List.headD, List.tail, reduceIte, reduceDIte, Nat.reduceEqDiff, Nat.reduceAdd, Nat.reduceSub, Nat.reduceMul, Nat.reduceLT, reduceCtorEq, Int.reduceEq, Int.reduceLT, Int.reduceLE, Int.reduceNeg, Int.reduceToNat, Int.reduceBNe, Int.reduceBEq, Int.reduceAdd, Int.reduceSub, Int.reduceMul, opnsL, Nat.reduceLeDiff, Nat.reduceGT, List.replicate, Nat.reduceShiftRight, Nat.reduceMod, Nat.reduceBEq, lendsL, ty_NetA_9, Raw.dv, Letter.dv, f0, fL, p1, p2, w1, w2, fV, f1, f2, f3, f4, fc, fe, hget', k1, k2, k5, t1, bne_self_eq_false, beq_self_eq_true]
  | cons r0 l0 =>
    rw [← hle]
    have f0 := fun (S : St) (d : Nat) => ca_cloneR (d := d) (dst := 21) (S := S) (j := 0) (l.map Raw.dv) (by rw [hle]; simp) (elt_r l) (by rw [List.length_map]; omega) (tab_thaw (by kernel_rfl))
    rw [List.length_map] at f0
    clear hle
    have hC : (flatD (l.map Raw.dv)).length = l.length * 4 := by rw [flatD_len _ (elt_r l), List.length_map]
    have k3 : ((l.length + 1) * 40 ≤ 140737488355328) = True := eq_true (by omega)
    have k4 : ((l.length + 1) * 4 ≤ l.length * 4) = False := eq_false (by omega)
    simp only [rzd] at fL
    generalize flatD (l.map Raw.dv) = C at *
    simp only [amr, amc, List.getElem?_cons_zero, List.getElem?_cons_succ, if_true, if_false, List.nil_append, List.cons_append, List.append_eq, List.append_nil, List.map_nil, List.map_cons, List.contains_nil, List.contains_cons, List.flatMap_nil, List.flatMap_cons, List.cons.injEq, List.length_cons, List.length_nil, List.take_succ_cons, List.take_zero, List.take_nil, List.drop_succ_cons, List.drop_zero, List.drop_nil, List.head?_cons, List.all_cons, List.all_nil, ne_eq, Option.map_some, Option.map_none, Option.some.injEq, List.flatten_cons, List.flatten_nil, gt_iff_lt, List.any_nil, List.any_cons, List.map_append, List.length_map, List.length_append, Option.getD, argsT, Option.bind, Option.map, List.headD, List.tail, reduceIte, reduceDIte, Nat.reduceEqDiff, Nat.reduceAdd, Nat.reduceSub, Nat.reduceMul, Nat.reduceLT, reduceCtorEq, Int.reduceEq, Int.reduceLT, Int.reduceLE, Int.reduceNeg, Int.reduceToNat, Int.reduceBNe, Int.reduceBEq, Int.reduceAdd, Int.reduceSub, Int.reduceMul, opnsL, Nat.reduceLeDiff, Nat.reduceGT, List.replicate, Nat.reduceShiftRight, Nat.reduceMod, Nat.reduceBEq, lendsL, ty_NetA_9, Raw.dv, Letter.dv, f0, fL, p1, p2, w1, w2, fV, f1, f2, f3, f4, fc, fe, hget', k1, k2, k5, k3, k4, hC, t1, bne_self_eq_false, beq_self_eq_true]
theorem cf_NetAnswers {d dst : Nat} {S : St} (l : List Raw) (i : Int) (r : Raw) (hl : l.length * 40 ≤ 140737488351232) (hr : ∀ u ∈ l, u.ok) (hi : -9223372036854775808 ≤ i ∧ i ≤ 9223372036854775807) (hrr : r.ok) : callA tab (callR tab) d dst 9 [.d (.sl 4 (l.map Raw.dv)), .d (.int .i64 (i)), .d (r.dv)] S = some (.d (.bool (true)), S) :=
  ca_ret (ds := [.sl 4 (l.map Raw.dv), .int .i64 (i), r.dv]) (ret_NetAnswers l i r hl hr hi hrr) rfl (tab_opn (by kernel_rfl)) (tab_res (by kernel_rfl))
theorem ca_NetAnswers {d dst : Nat} {S : St} (l : List Raw) (i : Int) (r_kind : Int) (r_a : Int) (r_b : Int) (r_text : List UInt8) (hl : l.length * 40 ≤ 140737488351232) (hr : ∀ u ∈ l, u.ok) (hi : -9223372036854775808 ≤ i ∧ i ≤ 9223372036854775807) (hrr : (Raw.mk r_kind r_a r_b r_text).ok) : callA tab (callR tab) d dst 9 [.d (.sl 4 (l.map Raw.dv)), .d (.int .i64 (i)), .d (.agg [.int .i64 r_kind, .int .i64 r_a, .int .i64 r_b, .str r_text])] S = some (.d (.bool (true)), S) :=
  ca_ret (ds := [.sl 4 (l.map Raw.dv), .int .i64 (i), .agg [.int .i64 r_kind, .int .i64 r_a, .int .i64 r_b, .str r_text]]) (ret_NetAnswers l i (Raw.mk r_kind r_a r_b r_text) hl hr hi hrr) rfl (tab_opn (by kernel_rfl)) (tab_res (by kernel_rfl))
end Go.Proofs.Ytghjhlngaigdiaa.Am
