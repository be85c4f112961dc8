/- NetApart, walked. -/
import Derived.Test.YtghjhlngaigdiaaNetLaw
set_option linter.unusedVariables false
set_option linter.unusedSimpArgs false
namespace Go.Proofs.Ytghjhlngaigdiaa.Am
open Go Go.RowKit
theorem ty_NetL_24 : type_of% (And.intro (And.intro (And.intro (And.intro (And.intro @rs24 @lv24_0) (And.intro @lv24_1 @lv24_2)) (And.intro (And.intro @lv24_3 @mu22_7) (And.intro @und3 (And.intro @sz3 @ag3)))) (And.intro (And.intro (And.intro @lv3 @inf3) (And.intro @und4 @sz4)) (And.intro (And.intro @ag4 @lv4) (And.intro @inf4 (And.intro @und9 @sz9))))) (And.intro (And.intro (And.intro (And.intro @ag9 @lv9) (And.intro @inf9 @und22)) (And.intro (And.intro @sz22 @ag22) (And.intro @pT22 (And.intro @inf22 @und47)))) (And.intro (And.intro (And.intro @sz47 @ag47) (And.intro @fo47 @bA47)) (And.intro (And.intro @pT47_0 @pT47_1) (And.intro @pT47_2 (And.intro @pT47_3 @inf47)))))) := (And.intro (And.intro (And.intro (And.intro (And.intro @rs24 @lv24_0) (And.intro @lv24_1 @lv24_2)) (And.intro (And.intro @lv24_3 @mu22_7) (And.intro @und3 (And.intro @sz3 @ag3)))) (And.intro (And.intro (And.intro @lv3 @inf3) (And.intro @und4 @sz4)) (And.intro (And.intro @ag4 @lv4) (And.intro @inf4 (And.intro @und9 @sz9))))) (And.intro (And.intro (And.intro (And.intro @ag9 @lv9) (And.intro @inf9 @und22)) (And.intro (And.intro @sz22 @ag22) (And.intro @pT22 (And.intro @inf22 @und47)))) (And.intro (And.intro (And.intro @sz47 @ag47) (And.intro @fo47 @bA47)) (And.intro (And.intro @pT47_0 @pT47_1) (And.intro @pT47_2 (And.intro @pT47_3 @inf47))))))
theorem ty_NetL_7 : type_of% (And.intro (And.intro (And.intro (And.intro (And.intro (And.intro @rs7 @lv7_0) (And.intro @lv7_1 (And.intro @mu22_23 @lv7_2))) (And.intro (And.intro @lv7_3 @lv7_4) (And.intro @lv7_5 (And.intro @lv7_6 @lv7_7)))) (And.intro (And.intro (And.intro @lv7_8 @lv7_9) (And.intro @lv7_10 (And.intro @inf1 @und2))) (And.intro (And.intro @sz2 @ag2) (And.intro @lv2 (And.intro @inf2 @und3))))) (And.intro (And.intro (And.intro (And.intro @sz3 @ag3) (And.intro @lv3 (And.intro @inf3 @und4))) (And.intro (And.intro @sz4 @ag4) (And.intro @lv4 (And.intro @inf4 @und9)))) (And.intro (And.intro (And.intro @sz9 @ag9) (And.intro @lv9 (And.intro @inf9 @und22))) (And.intro (And.intro @sz22 @ag22) (And.intro @pT22 (And.intro @inf22 @und28)))))) (And.intro (And.intro (And.intro (And.intro (And.intro @sz28 @ag28) (And.intro @lv28 (And.intro @inf28 @und43))) (And.intro (And.intro @sz43 @ag43) (And.intro @pT43 (And.intro @inf43 @und47)))) (And.intro (And.intro (And.intro @sz47 @ag47) (And.intro @fo47 (And.intro @bA47 @pT47_0))) (And.intro (And.intro @pT47_1 @pT47_2) (And.intro @pT47_3 (And.intro @inf47 @und52))))) (And.intro (And.intro (And.intro (And.intro @sz52 @ag52) (And.intro @fo52 (And.intro @bA52 @pT52_0))) (And.intro (And.intro @pT52_1 @pT52_2) (And.intro @lv52 (And.intro @inf52 @und54)))) (And.intro (And.intro (And.intro @sz54 @ag54) (And.intro @fo54 (And.intro @bA54 @pT54_0))) (And.intro (And.intro @pT54_1 @pT54_2) (And.intro @pT54_3 (And.intro @lv54 @inf54))))))) := (And.intro (And.intro (And.intro (And.intro (And.intro (And.intro @rs7 @lv7_0) (And.intro @lv7_1 (And.intro @mu22_23 @lv7_2))) (And.intro (And.intro @lv7_3 @lv7_4) (And.intro @lv7_5 (And.intro @lv7_6 @lv7_7)))) (And.intro (And.intro (And.intro @lv7_8 @lv7_9) (And.intro @lv7_10 (And.intro @inf1 @und2))) (And.intro (And.intro @sz2 @ag2) (And.intro @lv2 (And.intro @inf2 @und3))))) (And.intro (And.intro (And.intro (And.intro @sz3 @ag3) (And.intro @lv3 (And.intro @inf3 @und4))) (And.intro (And.intro @sz4 @ag4) (And.intro @lv4 (And.intro @inf4 @und9)))) (And.intro (And.intro (And.intro @sz9 @ag9) (And.intro @lv9 (And.intro @inf9 @und22))) (And.intro (And.intro @sz22 @ag22) (And.intro @pT22 (And.intro @inf22 @und28)))))) (And.intro (And.intro (And.intro (And.intro (And.intro @sz28 @ag28) (And.intro @lv28 (And.intro @inf28 @und43))) (And.intro (And.intro @sz43 @ag43) (And.intro @pT43 (And.intro @inf43 @und47)))) (And.intro (And.intro (And.intro @sz47 @ag47) (And.intro @fo47 (And.intro @bA47 @pT47_0))) (And.intro (And.intro @pT47_1 @pT47_2) (And.intro @pT47_3 (And.intro @inf47 @und52))))) (And.intro (And.intro (And.intro (And.intro @sz52 @ag52) (And.intro @fo52 (And.intro @bA52 @pT52_0))) (And.intro (And.intro @pT52_1 @pT52_2) (And.intro @lv52 (And.intro @inf52 @und54)))) (And.intro (And.intro (And.intro @sz54 @ag54) (And.intro @fo54 (And.intro @bA54 @pT54_0))) (And.intro (And.intro @pT54_1 @pT54_2) (And.intro @pT54_3 (And.intro @lv54 @inf54)))))))
set_option maxRecDepth 100000
set_option maxHeartbeats 40000000

theorem elt_r (l : List Raw) : ∀ x ∈ l.map Raw.dv, Elt 4 x := by
  intro x hx
  obtain ⟨t, _, rfl⟩ := List.mem_map.1 hx
  exact ⟨rfl, by rw [if_neg (by decide)]; exact ⟨_, rfl⟩⟩
/-- A list, cloned: its cells in a new block. -/
theorem run_cloneR {d : Nat} {g : List Nat} (x : DV) (xs : List DV) (hx : ∀ y ∈ x :: xs, y.cells.length = 4) (hl : (xs.length + 1) * 40 ≤ 140737488355328) :
    ∃ H', callR tab d 24 [.d (.sl 4 (x :: xs))] [] g = some (.arr ⟨d, 7, 0 :: g⟩ 0 (xs.length + 1) 4, H') ∧ H' = [(⟨d, 7, 0 :: g⟩, .box (flatD (x :: xs)))] := by
  refine ret_good rfl 1 fn24 rfl rfl ?_ (by simp [isAlt])
  simp only [amr, amc, List.getElem?_cons_zero, List.getElem?_cons_succ, if_true, if_false, List.nil_append, List.cons_append, List.append_eq, List.append_nil, List.map_nil, List.map_cons, List.contains_nil, List.contains_cons, List.flatMap_nil, List.flatMap_cons, List.cons.injEq, List.length_cons, List.length_nil, List.take_succ_cons, List.take_zero, List.take_nil, List.drop_succ_cons, List.drop_zero, List.drop_nil, List.head?_cons, List.all_cons, List.all_nil, ne_eq, Option.map_some, Option.map_none, Option.some.injEq, List.flatten_cons, List.flatten_nil, gt_iff_lt, List.any_nil, List.any_cons, List.map_append, List.length_map, List.length_append, Option.getD, argsT, Option.bind, Option.map, List.headD, List.tail, reduceIte, reduceDIte, Nat.reduceEqDiff, Nat.reduceAdd, Nat.reduceSub, Nat.reduceMul, Nat.reduceLT, reduceCtorEq, Int.reduceEq, Int.reduceLT, Int.reduceLE, Int.reduceNeg, Int.reduceToNat, Int.reduceBNe, Int.reduceBEq, Int.reduceAdd, Int.reduceSub, Int.reduceMul, opnsL, Nat.reduceLeDiff, Nat.reduceGT, List.replicate, Nat.reduceShiftRight, Nat.reduceMod, Nat.reduceBEq, lendsL, ty_NetL_24, nl_c, hl, Nat.succ_ne_zero]
theorem run_clone0R {d : Nat} {g : List Nat} : ∃ H', callR tab d 24 [.d (.nils 4)] [] g = some (.own 4 [] none, H') ∧ True := by
  refine ret_good rfl 1 fn24 rfl rfl ?_ (by simp [isAlt])
  simp only [amr, amc, List.getElem?_cons_zero, List.getElem?_cons_succ, if_true, if_false, List.nil_append, List.cons_append, List.append_eq, List.append_nil, List.map_nil, List.map_cons, List.contains_nil, List.contains_cons, List.flatMap_nil, List.flatMap_cons, List.cons.injEq, List.length_cons, List.length_nil, List.take_succ_cons, List.take_zero, List.take_nil, List.drop_succ_cons, List.drop_zero, List.drop_nil, List.head?_cons, List.all_cons, List.all_nil, ne_eq, Option.map_some, Option.map_none, Option.some.injEq, List.flatten_cons, List.flatten_nil, gt_iff_lt, List.any_nil, List.any_cons, List.map_append, List.length_map, List.length_append, Option.getD, argsT, Option.bind, Option.map, List.headD, List.tail, reduceIte, reduceDIte, Nat.reduceEqDiff, Nat.reduceAdd, Nat.reduceSub, Nat.reduceMul, Nat.reduceLT, reduceCtorEq, Int.reduceEq, Int.reduceLT, Int.reduceLE, Int.reduceNeg, Int.reduceToNat, Int.reduceBNe, Int.reduceBEq, Int.reduceAdd, Int.reduceSub, Int.reduceMul, opnsL, Nat.reduceLeDiff, Nat.reduceGT, List.replicate, Nat.reduceShiftRight, Nat.reduceMod, Nat.reduceBEq, lendsL, ty_NetL_24]
theorem run_clone1R {d : Nat} {g : List Nat} : ∃ H', callR tab d 24 [.d (.emps 4)] [] g = some (.own 4 [] none, H') ∧ True := by
  refine ret_good rfl 1 fn24 rfl rfl ?_ (by simp [isAlt])
  simp only [amr, amc, List.getElem?_cons_zero, List.getElem?_cons_succ, if_true, if_false, List.nil_append, List.cons_append, List.append_eq, List.append_nil, List.map_nil, List.map_cons, List.contains_nil, List.contains_cons, List.flatMap_nil, List.flatMap_cons, List.cons.injEq, List.length_cons, List.length_nil, List.take_succ_cons, List.take_zero, List.take_nil, List.drop_succ_cons, List.drop_zero, List.drop_nil, List.head?_cons, List.all_cons, List.all_nil, ne_eq, Option.map_some, Option.map_none, Option.some.injEq, List.flatten_cons, List.flatten_nil, gt_iff_lt, List.any_nil, List.any_cons, List.map_append, List.length_map, List.length_append, Option.getD, argsT, Option.bind, Option.map, List.headD, List.tail, reduceIte, reduceDIte, Nat.reduceEqDiff, Nat.reduceAdd, Nat.reduceSub, Nat.reduceMul, Nat.reduceLT, reduceCtorEq, Int.reduceEq, Int.reduceLT, Int.reduceLE, Int.reduceNeg, Int.reduceToNat, Int.reduceBNe, Int.reduceBEq, Int.reduceAdd, Int.reduceSub, Int.reduceMul, opnsL, Nat.reduceLeDiff, Nat.reduceGT, List.replicate, Nat.reduceShiftRight, Nat.reduceMod, Nat.reduceBEq, lendsL, ty_NetL_24, Nat.zero_mul, Nat.zero_le]
theorem run_cloneER {d : Nat} {g : List Nat} : callR tab d 24 [.d (.sl 4 [])] [] g = some (.own 4 [] none, []) := by
  obtain ⟨H1, h1, _⟩ := run_clone0R (d := d) (g := g)
  obtain ⟨H2, h2, _⟩ := run_clone1R (d := d) (g := g)
  exact callR_alt (tab_alt (by kernel_rfl)) h1 h2
theorem ret_cloneR (xs : List DV) (hx : ∀ y ∈ xs, Elt 4 y) (hl : xs.length * 40 ≤ 140737488355328) : RetD tab 24 [.d (.sl 4 xs)] (.sl 4 xs) := by
  cases xs with
  | nil => exact ⟨_, _, run_cloneER, rfl, rfl⟩
  | cons x r =>
    obtain ⟨H', h1, h2⟩ := run_cloneR (d := 0) (g := []) x r (fun y hy => (hx y hy).1) hl
    refine ⟨_, _, h1, rfl, ?_⟩
    show toD (frzB H' (.arr ⟨0, 7, [0]⟩ 0 (r.length + 1) 4)) = some (DV.sl 4 (x :: r))
    have hz : frzB H' (.arr ⟨0, 7, [0]⟩ 0 (r.length + 1) 4) = _ := frz_list0 (xs := x :: r) (by rw [h2]; simp only [Heap.get, if_true]) rfl (by decide) hx
    rw [hz]
    rfl
/-- Cloned, to be written to. -/
theorem ca_cloneR {d dst : Nat} {S : St} {j : Nat} (xs : List DV) (h0 : xs ≠ []) (hx : ∀ y ∈ xs, Elt 4 y) (hl : xs.length * 40 ≤ 140737488355328) (ht : tab.thaw 24 dst = some j) :
    callA tab (callR tab) d dst 24 [.d (.sl 4 xs)] S = some (.arr ⟨d, dst, 0 :: S.g⟩ 0 xs.length 4, ⟨S.T, (⟨d, dst, 0 :: S.g⟩, .box (flatD xs)) :: S.H, 1 :: S.g⟩) := by
  cases xs with
  | nil => exact absurd rfl h0
  | cons x r =>
    obtain ⟨H', h1, h2⟩ := run_cloneR (d := 0) (g := []) x r (fun y hy => (hx y hy).1) hl
    exact call_thaw (ds := [.sl 4 (x :: r)]) h1 rfl rfl (tab_opn (by kernel_rfl)) ht (by rw [h2]; simp only [Heap.get, if_true]; rfl) (allD_map _)
theorem ca_clone0R {d dst : Nat} {S : St} {j : Nat} (ht : tab.thaw 24 dst = some j) :
    callA tab (callR tab) d dst 24 [.d (.sl 4 [])] S = some (.own 4 [] none, S) :=
  call_thaw0 (ds := [.sl 4 []]) run_cloneER rfl rfl (tab_opn (by kernel_rfl)) ht
/-- Cloned for good. -/
theorem ca_cloneDR {d dst : Nat} {S : St} (xs : List DV) (hx : ∀ y ∈ xs, Elt 4 y) (hl : xs.length * 40 ≤ 140737488355328) (ht : tab.thaw 24 dst = none) :
    callA tab (callR tab) d dst 24 [.d (.sl 4 xs)] S = some (.d (.sl 4 xs), S) :=
  ca_frz (ds := [.sl 4 xs]) (ret_cloneR xs hx hl) rfl (tab_opn (by kernel_rfl)) (by kernel_rfl) ht
/-- Cloned while it stands in a variable. -/
theorem ca_cloneLR {d dst : Nat} {S : St} {j n : Nat} {id : Id} {rest : List AV} (xs : List DV) (hg : S.H.get id = some (.box (flatD xs ++ rest))) (hn : n = xs.length) (h0 : xs ≠ []) (hx : ∀ y ∈ xs, Elt 4 y) (hf : (xs.flatMap DV.cells).all DV.flat = true) (hl : xs.length * 40 ≤ 140737488355328) (ht : tab.thaw 24 dst = some j) :
    callA tab (callR tab) d dst 24 [.arr id 0 n 4] S = some (.arr ⟨d, dst, 0 :: S.g⟩ 0 xs.length 4, ⟨S.T, (⟨d, dst, 0 :: S.g⟩, .box (flatD xs)) :: S.H, 1 :: S.g⟩) := by
  have hz := frz_list (sz := 4) hg hn (by decide) hx
  cases xs with
  | nil => exact absurd rfl h0
  | cons x r =>
    obtain ⟨H', h1, h2⟩ := run_cloneR (d := 0) (g := []) x r (fun y hy => (hx y hy).1) hl
    exact call_lent_thaw (ds := [.sl 4 (x :: r)]) (tab_lend (by kernel_rfl)) rfl (by rw [List.map_cons, hz]; rfl) h1 ht (by rw [h2]; simp only [Heap.get, if_true]; rfl) (allD_map _) hf
theorem ca_cloneL0R {d dst : Nat} {S : St} {j : Nat} {id : Id} {cs : List AV} (hg : S.H.get id = some (.box cs)) (ht : tab.thaw 24 dst = some j) :
    callA tab (callR tab) d dst 24 [.arr id 0 0 4] S = some (.own 4 [] none, S) := by
  have hz := frz_list (sz := 4) (n := 0) (xs := []) (rest := cs) (by simpa [flatD] using hg) rfl (by decide) (by simp)
  exact call_lent_thaw0 (ds := [.sl 4 []]) (tab_lend (by kernel_rfl)) rfl (by rw [List.map_cons, hz]; rfl) run_cloneER ht
def rz : Raw := ⟨0, 0, 0, []⟩
def rzd : DV := .agg [.int .i64 0, .int .i64 0, .int .i64 0, .str []]
theorem ret_NetApart (l : List Raw) (i j : Int) (hl : l.length * 40 ≤ 140737488351232) (hr : ∀ r ∈ l, r.ok) (hi : -9223372036854775808 ≤ i ∧ i ≤ 9223372036854775807) (hj : -9223372036854775808 ≤ j ∧ j ≤ 9223372036854775807) : Ret tab 7 [.d (.sl 4 (l.map Raw.dv)), .d (.int .i64 (i)), .d (.int .i64 (j))] (.d (.bool (true))) := by
  refine ret_of (1) fn7 rfl rfl ?_
  have hr2 : ∀ r ∈ l ++ [rz, rz], r.ok := fun r hm => by
    rcases List.mem_append.1 hm with h | h
    · exact hr r h
    · simp only [List.mem_cons, List.not_mem_nil, or_false, or_self] at h; rw [h]; exact rz_ok
  have fL : ∀ (T : Tm) (g q : List Nat) (dst : Nat), callA tab (callR tab) 0 dst 23 [.arr ⟨0, 23, q⟩ 0 (l.length + 2) 4] ⟨T, [(⟨0, 23, q⟩, .box (flatD (l.map Raw.dv) ++ flatD [rzd, rzd]))], g⟩ = some (.d (.sl 8 ((lts 0 (l ++ [rz, rz])).map Letter.dv)), ⟨T, [(⟨0, 23, q⟩, .box (flatD (l.map Raw.dv) ++ flatD [rzd, rzd]))], 1 :: g⟩) := fun T g q dst =>
    ca_lettersV (l ++ [rz, rz]) (by simp; omega) hr2 (by simp only [List.map_append, flatD_append]; rfl) (by simp)
  have hX := lts_len (l ++ [rz, rz]) 0 (by decide)
  have hok := lts_ok hr2
  simp only [List.length_append, List.length_cons, List.length_nil] at hX
  generalize lts 0 (l ++ [rz, rz]) = X at *
  have hn2 : 2 ≤ X.length := by omega
  have hn12 : X.length ≤ 12 := by omega
  have hpk := pick_range i ((X.length : Int) - 1) hi.1 hi.2 (by omega)
  have p1 := fun (S : St) (d dst : Nat) => ca_picked (d := d) (dst := dst) (S := S) i ((X.length : Int) - 1) (by omega)
  generalize pick i ((X.length : Int) - 1) = p at *
  obtain ⟨a, rfl⟩ : ∃ a : Nat, p = a := ⟨p.toNat, by omega⟩
  have hqk := pick_range j ((X.length : Int) - 1 - a) hj.1 hj.2 (by omega)
  have p2 := fun (S : St) (d dst : Nat) => ca_picked (d := d) (dst := dst) (S := S) j ((X.length : Int) - 1 - a) (by omega)
  generalize pick j ((X.length : Int) - 1 - a) = q at *
  obtain ⟨b, rfl⟩ : ∃ b : Nat, q = b := ⟨q.toNat, by omega⟩
  have w1 : IntKind.i64.wrap ((X.length : Int) - 1) = (X.length : Int) - 1 := wrap_in (by omega) (by omega)
  have w2 : IntKind.i64.wrap ((a : Int) + 1) = (a : Int) + 1 := wrap_in (by omega) (by omega)
  have w3 : IntKind.i64.wrap ((X.length : Int) - 1 - (a : Int)) = (X.length : Int) - 1 - (a : Int) := wrap_in (by omega) (by omega)
  have w4 : IntKind.i64.wrap ((a : Int) + 1 + (b : Int)) = ((a + 1 + b : Nat) : Int) := by rw [wrap_in (by omega) (by omega)]; omega
  have w5 : IntKind.i64.wrap (((a + 1 + b : Nat) : Int) - 1) = ((a + 1 + b - 1 : Nat) : Int) := by rw [wrap_in (by omega) (by omega)]; omega
  have w6 : IntKind.i64.wrap ((X.length : Int) - 2) = (X.length : Int) - 2 := wrap_in (by omega) (by omega)
  have hlt : a + 1 + b < X.length := by omega
  generalize hc : a + 1 + b = c at *
  have hac : a < c := by omega
  have hz := erase_two X hac hlt
  have l1 := List.length_eraseIdx_of_lt (l := X) (i := a) (by omega)
  have l2 := List.length_eraseIdx_of_lt (l := X) (i := c) (by omega)
  have l3 := List.length_eraseIdx_of_lt (l := X.eraseIdx c) (i := a) (by omega)
  have n1 : nchk X = 0 := nchk_ok (by omega) hok
  have n2 : nchk (X.eraseIdx a) = 0 := nchk_ok (by omega) (erase_ok hok)
  have n3 : nchk (X.eraseIdx c) = 0 := nchk_ok (by omega) (erase_ok hok)
  have fy := fun (S : St) (d dst : Nat) => cf_lose (d := d) (dst := dst) (S := S) X a X[a] (List.getElem?_eq_getElem (by omega)) n1 (by omega)
  have fz := fun (S : St) (d dst : Nat) => cf_lose (d := d) (dst := dst) (S := S) (X.eraseIdx a) (c - 1) (X.eraseIdx a)[c - 1] (List.getElem?_eq_getElem (by omega)) n2 (by omega)
  have fu := fun (S : St) (d dst : Nat) => cf_lose (d := d) (dst := dst) (S := S) X c X[c] (List.getElem?_eq_getElem (by omega)) n1 (by omega)
  have fw := fun (S : St) (d dst : Nat) => cf_lose (d := d) (dst := dst) (S := S) (X.eraseIdx c) a (X.eraseIdx c)[a] (List.getElem?_eq_getElem (by omega)) n3 (by omega)
  rw [hz] at fz
  have fe := fun (S : St) (d dst : Nat) => ca_EqL (d := d) (dst := dst) (S := S) ((X.eraseIdx c).eraseIdx a) ((X.eraseIdx c).eraseIdx a) (by omega)
  rw [show decide ((X.eraseIdx c).eraseIdx a = (X.eraseIdx c).eraseIdx a) = true from decide_eq_true rfl] at fe
  have b0 : decide ((X.length : Int) < 2) = false := decide_eq_false (by omega)
  have b1 : (((((X.eraseIdx c).eraseIdx a).length : Nat) : Int) == (X.length : Int) - 2) = true := beq_iff_eq.2 (by omega)
  generalize (X.eraseIdx c).eraseIdx a = Z at *
  generalize X.eraseIdx c = U at *
  generalize X.eraseIdx a = Y at *
  clear hz l1 l2 l3 n1 n2 n3 hX
  cases hle : l with
  | nil =>
    subst hle
    have f0 := fun (S : St) (d : Nat) => ca_clone0R (d := d) (dst := 19) (S := S) (j := 0) (tab_thaw (by kernel_rfl))
    simp only [List.map_nil, List.length_nil, Nat.zero_add, rzd] at fL
    rw [show flatD [] = [] from rfl] at fL
    simp only [List.nil_append] at fL
    simp only [amr, amc, List.getElem?_cons_zero, List.getElem?_cons_succ, if_true, if_false, List.nil_append, List.cons_append, List.append_eq, List.append_nil, List.map_nil, List.map_cons, List.contains_nil, List.contains_cons, List.flatMap_nil, List.flatMap_cons, List.cons.injEq, List.length_cons, List.length_nil, List.take_succ_cons, List.take_zero, List.take_nil, List.drop_succ_cons, List.drop_zero, List.drop_nil, List.head?_cons, List.all_cons, List.all_nil, ne_eq, Option.map_some, Option.map_none, Option.some.injEq, List.flatten_cons, List.flatten_nil, gt_iff_lt, List.any_nil, List.any_cons, List.map_append, List.length_map, List.length_append, Option.getD, argsT, Option.bind, Option.map, List.headD, List.tail, reduceIte, reduceDIte, Nat.reduceEqDiff, Nat.reduceAdd, Nat.reduceSub, Nat.reduceMul, Nat.reduceLT, reduceCtorEq, Int.reduceEq, Int.reduceLT, Int.reduceLE, Int.reduceNeg, Int.reduceToNat, Int.reduceBNe, Int.reduceBEq, Int.reduceAdd, Int.reduceSub, Int.reduceMul, opnsL, Nat.reduceLeDiff, Nat.reduceGT, List.replicate, Nat.reduceShiftRight, Nat.reduceMod, Nat.reduceBEq, lendsL, ty_NetL_7, f0, fL, p1, p2, w1, w2, w3, w4, w5, w6, fy, fz, fu, fw, fe, b0, b1, beq_self_eq_true]
  | cons r0 l0 =>
    rw [← hle]
    have f0 := fun (S : St) (d : Nat) => ca_cloneR (d := d) (dst := 19) (S := S) (j := 0) (l.map Raw.dv) (by rw [hle]; simp) (elt_r l) (by rw [List.length_map]; omega) (tab_thaw (by kernel_rfl))
    rw [List.length_map] at f0
    clear hle
    have hC : (flatD (l.map Raw.dv)).length = l.length * 4 := by rw [flatD_len _ (elt_r l), List.length_map]
    have k1 : ((l.length + 2) * 40 ≤ 140737488355328) = True := eq_true (by omega)
    have k2 : ((l.length + 2) * 4 ≤ l.length * 4) = False := eq_false (by omega)
    simp only [rzd] at fL
    generalize flatD (l.map Raw.dv) = C at *
    simp only [amr, amc, List.getElem?_cons_zero, List.getElem?_cons_succ, if_true, if_false, List.nil_append, List.cons_append, List.append_eq, List.append_nil, List.map_nil, List.map_cons, List.contains_nil, List.contains_cons, List.flatMap_nil, List.flatMap_cons, List.cons.injEq, List.length_cons, List.length_nil, List.take_succ_cons, List.take_zero, List.take_nil, List.drop_succ_cons, List.drop_zero, List.drop_nil, List.head?_cons, List.all_cons, List.all_nil, ne_eq, Option.map_some, Option.map_none, Option.some.injEq, List.flatten_cons, List.flatten_nil, gt_iff_lt, List.any_nil, List.any_cons, List.map_append, List.length_map, List.length_append, Option.getD, argsT, Option.bind, Option.map, List.headD, List.tail, reduceIte, reduceDIte, Nat.reduceEqDiff, Nat.reduceAdd, Nat.reduceSub, Nat.reduceMul, Nat.reduceLT, reduceCtorEq, Int.reduceEq, Int.reduceLT, Int.reduceLE, Int.reduceNeg, Int.reduceToNat, Int.reduceBNe, Int.reduceBEq, Int.reduceAdd, Int.reduceSub, Int.reduceMul, opnsL, Nat.reduceLeDiff, Nat.reduceGT, List.replicate, Nat.reduceShiftRight, Nat.reduceMod, Nat.reduceBEq, lendsL, ty_NetL_7, f0, fL, p1, p2, w1, w2, w3, w4, w5, w6, fy, fz, fu, fw, fe, b0, b1, beq_self_eq_true, hC, k1, k2]
theorem ca_NetApart {d dst : Nat} {S : St} (l : List Raw) (i j : Int) (hl : l.length * 40 ≤ 140737488351232) (hr : ∀ r ∈ l, r.ok) (hi : -9223372036854775808 ≤ i ∧ i ≤ 9223372036854775807) (hj : -9223372036854775808 ≤ j ∧ j ≤ 9223372036854775807) : callA tab (callR tab) d dst 7 [.d (.sl 4 (l.map Raw.dv)), .d (.int .i64 (i)), .d (.int .i64 (j))] S = some (.d (.bool (true)), S) :=
  ca_ret (ds := [.sl 4 (l.map Raw.dv), .int .i64 (i), .int .i64 (j)]) (ret_NetApart l i j hl hr hi hj) rfl (tab_opn (by kernel_rfl)) (tab_res (by kernel_rfl))
end Go.Proofs.Ytghjhlngaigdiaa.Am
