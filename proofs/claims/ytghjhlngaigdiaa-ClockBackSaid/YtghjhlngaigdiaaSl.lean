/- Lists of the library's, cloned and compared. -/
import Derived.Test.YtghjhlngaigdiaaBase
import Derived.Test.YtghjhlngaigdiaaAmOpc
set_option linter.unusedVariables false
set_option linter.unusedSimpArgs false
namespace Go.Proofs.Ytghjhlngaigdiaa.Am
open Go Go.RowKit
theorem ty_Sl_40 : type_of% (And.intro (And.intro (And.intro (And.intro @rs40 (And.intro @lv40_0 @lv40_1)) (And.intro (And.intro @lv40_2 @lv40_3) (And.intro @mu23_7 @und3))) (And.intro (And.intro (And.intro @sz3 @ag3) (And.intro @lv3 @inf3)) (And.intro (And.intro @und4 @sz4) (And.intro @ag4 @lv4)))) (And.intro (And.intro (And.intro @inf4 (And.intro @und23 @sz23)) (And.intro (And.intro @ag23 @pT23) (And.intro @inf23 @und27))) (And.intro (And.intro (And.intro @sz27 @ag27) (And.intro @fo27 @bA27)) (And.intro (And.intro @pT27_0 @pT27_1) (And.intro @lv27 @inf27))))) := (And.intro (And.intro (And.intro (And.intro @rs40 (And.intro @lv40_0 @lv40_1)) (And.intro (And.intro @lv40_2 @lv40_3) (And.intro @mu23_7 @und3))) (And.intro (And.intro (And.intro @sz3 @ag3) (And.intro @lv3 @inf3)) (And.intro (And.intro @und4 @sz4) (And.intro @ag4 @lv4)))) (And.intro (And.intro (And.intro @inf4 (And.intro @und23 @sz23)) (And.intro (And.intro @ag23 @pT23) (And.intro @inf23 @und27))) (And.intro (And.intro (And.intro @sz27 @ag27) (And.intro @fo27 @bA27)) (And.intro (And.intro @pT27_0 @pT27_1) (And.intro @lv27 @inf27)))))
set_option maxRecDepth 100000
set_option maxHeartbeats 4000000

def EXx {α : Type} (k : Out) (mk : α → St) (P : α → Prop) : Out → St → Prop := fun o S => o = k ∧ ∃ x, P x ∧ Sub (mk x) S
theorem up_exx {α : Type} {k : Out} {mk : α → St} {P : α → Prop} : Up (EXx k mk P) := fun o S S' h ⟨h1, x, h2, h3⟩ => ⟨h1, x, h2, h3.trans h⟩
theorem allD_map : ∀ l : List DV, allD (l.map .d) = some l
  | [] => rfl
  | x :: r => by simp [allD, toDc, allD_map r]
theorem chop_flat (sz : Nat) : ∀ (xs : List DV), (∀ x ∈ xs, x.cells.length = sz ∧ (if sz = 1 then x.leaf = true else ∃ cs, x = .agg cs)) → chop sz xs.length (xs.flatMap DV.cells) = xs
  | [], _ => rfl
  | x :: r, h => by
    obtain ⟨h1, h2⟩ := h x (by simp)
    have ih := chop_flat sz r (fun y hy => h y (by simp [hy]))
    have ht : (x.cells ++ r.flatMap DV.cells).take sz = x.cells := by rw [← h1]; simp
    have hd : (x.cells ++ r.flatMap DV.cells).drop sz = r.flatMap DV.cells := by rw [← h1]; simp
    simp only [List.length_cons, chop, List.flatMap_cons, ht, hd, ih]
    by_cases hs : sz = 1
    · rw [if_pos hs] at h2 ⊢
      rw [dcells_leaf h2]
      rfl
    · rw [if_neg hs] at h2 ⊢
      obtain ⟨cs, rfl⟩ := h2
      rfl
theorem flatD_append (xs ys : List DV) : flatD (xs ++ ys) = flatD xs ++ flatD ys := by simp [flatD]
/-- Elements of one size. -/
def Elt (sz : Nat) (x : DV) : Prop := x.cells.length = sz ∧ (if sz = 1 then x.leaf = true else ∃ cs, x = .agg cs)
theorem flatD_len {sz : Nat} : ∀ (xs : List DV), (∀ x ∈ xs, Elt sz x) → (flatD xs).length = xs.length * sz
  | [], _ => by simp [flatD]
  | x :: r, h => by
    have ih := flatD_len r fun y hy => h y (by simp [hy])
    have h1 := (h x (by simp)).1
    simp only [flatD, List.flatMap_cons, List.map_append, List.length_append, List.length_map] at ih ⊢
    rw [ih, h1, List.length_cons, Nat.add_mul]
    omega
/-- A list that can be written to, as it stands. -/
theorem frz_list {H : Heap} {id : Id} {sz n : Nat} {xs : List DV} {rest : List AV} (hg : H.get id = some (.box (flatD xs ++ rest))) (hn : n = xs.length) (hs : 0 < sz) (hx : ∀ x ∈ xs, Elt sz x) :
    frzB H (.arr id 0 n sz) = .d (.sl sz xs) := by
  subst hn
  have hl := flatD_len xs hx
  have hl2 : (xs.flatMap DV.cells).length = xs.length * sz := by simpa [flatD] using hl
  show frzV H (.arr id 0 xs.length sz) = _
  unfold frzV
  simp only [hg, List.drop_zero]
  rw [← hl, List.take_left, hl]
  unfold flatD
  simp only [allD_map, hl2, hs, and_self, if_true]
  rw [chop_flat sz xs hx]
theorem frz_list0 {H : Heap} {id : Id} {sz n : Nat} {xs : List DV} (hg : H.get id = some (.box (flatD xs))) (hn : n = xs.length) (hs : 0 < sz) (hx : ∀ x ∈ xs, Elt sz x) :
    frzB H (.arr id 0 n sz) = .d (.sl sz xs) := frz_list (rest := []) (by simpa using hg) hn hs hx
/-- A closed call of a list that answers a list of its own. -/
theorem ca_frz {d dst f : Nat} {S : St} {args : List AV} {ds : List DV} {y : DV} (h : RetD tab f (ds.map .d) y) (ha : toDs args = some ds) (ho : tab.opn f = false) (hr : tab.res f = none) (ht : tab.thaw f dst = none) : callA tab (callR tab) d dst f args S = some (.d y, S) := by
  obtain ⟨x, H, h, hq, hx⟩ := h
  exact call_closed h ha rfl ho hr ht hq hx
/-- A list, cloned: its cells in a new block. -/
theorem run_cloneT {d : Nat} {g : List Nat} (x : DV) (xs : List DV) (hx : ∀ y ∈ x :: xs, y.cells.length = 2) (hl : (xs.length + 1) * 16 ≤ 140737488355328) :
    ∃ H', callR tab d 40 [.d (.sl 2 (x :: xs))] [] g = some (.arr ⟨d, 7, 0 :: g⟩ 0 (xs.length + 1) 2, H') ∧ H' = [(⟨d, 7, 0 :: g⟩, .box (flatD (x :: xs)))] := by
  refine ret_good rfl 1 fn40 rfl rfl ?_ (by simp [isAlt])
  simp only [amr, amc, List.getElem?_cons_zero, List.getElem?_cons_succ, if_true, if_false, List.nil_append, List.cons_append, List.append_eq, List.append_nil, List.map_nil, List.map_cons, List.contains_nil, List.contains_cons, List.flatMap_nil, List.flatMap_cons, List.cons.injEq, List.length_cons, List.length_nil, List.take_succ_cons, List.take_zero, List.take_nil, List.drop_succ_cons, List.drop_zero, List.drop_nil, List.head?_cons, List.all_cons, List.all_nil, ne_eq, Option.map_some, Option.map_none, Option.some.injEq, List.flatten_cons, List.flatten_nil, gt_iff_lt, List.any_nil, List.any_cons, List.map_append, List.length_map, List.length_append, Option.getD, argsT, Option.bind, Option.map, List.headD, List.tail, reduceIte, reduceDIte, Nat.reduceEqDiff, Nat.reduceAdd, Nat.reduceSub, Nat.reduceMul, Nat.reduceLT, reduceCtorEq, Int.reduceEq, Int.reduceLT, Int.reduceLE, Int.reduceNeg, Int.reduceToNat, Int.reduceBNe, Int.reduceBEq, Int.reduceAdd, Int.reduceSub, Int.reduceMul, opnsL, Nat.reduceLeDiff, Nat.reduceGT, List.replicate, Nat.reduceShiftRight, Nat.reduceMod, Nat.reduceBEq, lendsL, ty_Sl_40, nl_c, hl, Nat.succ_ne_zero]
theorem run_clone0T {d : Nat} {g : List Nat} : ∃ H', callR tab d 40 [.d (.nils 2)] [] g = some (.own 2 [] none, H') ∧ True := by
  refine ret_good rfl 1 fn40 rfl rfl ?_ (by simp [isAlt])
  simp only [amr, amc, List.getElem?_cons_zero, List.getElem?_cons_succ, if_true, if_false, List.nil_append, List.cons_append, List.append_eq, List.append_nil, List.map_nil, List.map_cons, List.contains_nil, List.contains_cons, List.flatMap_nil, List.flatMap_cons, List.cons.injEq, List.length_cons, List.length_nil, List.take_succ_cons, List.take_zero, List.take_nil, List.drop_succ_cons, List.drop_zero, List.drop_nil, List.head?_cons, List.all_cons, List.all_nil, ne_eq, Option.map_some, Option.map_none, Option.some.injEq, List.flatten_cons, List.flatten_nil, gt_iff_lt, List.any_nil, List.any_cons, List.map_append, List.length_map, List.length_append, Option.getD, argsT, Option.bind, Option.map, List.headD, List.tail, reduceIte, reduceDIte, Nat.reduceEqDiff, Nat.reduceAdd, Nat.reduceSub, Nat.reduceMul, Nat.reduceLT, reduceCtorEq, Int.reduceEq, Int.reduceLT, Int.reduceLE, Int.reduceNeg, Int.reduceToNat, Int.reduceBNe, Int.reduceBEq, Int.reduceAdd, Int.reduceSub, Int.reduceMul, opnsL, Nat.reduceLeDiff, Nat.reduceGT, List.replicate, Nat.reduceShiftRight, Nat.reduceMod, Nat.reduceBEq, lendsL, ty_Sl_40]
theorem run_clone1T {d : Nat} {g : List Nat} : ∃ H', callR tab d 40 [.d (.emps 2)] [] g = some (.own 2 [] none, H') ∧ True := by
  refine ret_good rfl 1 fn40 rfl rfl ?_ (by simp [isAlt])
  simp only [amr, amc, List.getElem?_cons_zero, List.getElem?_cons_succ, if_true, if_false, List.nil_append, List.cons_append, List.append_eq, List.append_nil, List.map_nil, List.map_cons, List.contains_nil, List.contains_cons, List.flatMap_nil, List.flatMap_cons, List.cons.injEq, List.length_cons, List.length_nil, List.take_succ_cons, List.take_zero, List.take_nil, List.drop_succ_cons, List.drop_zero, List.drop_nil, List.head?_cons, List.all_cons, List.all_nil, ne_eq, Option.map_some, Option.map_none, Option.some.injEq, List.flatten_cons, List.flatten_nil, gt_iff_lt, List.any_nil, List.any_cons, List.map_append, List.length_map, List.length_append, Option.getD, argsT, Option.bind, Option.map, List.headD, List.tail, reduceIte, reduceDIte, Nat.reduceEqDiff, Nat.reduceAdd, Nat.reduceSub, Nat.reduceMul, Nat.reduceLT, reduceCtorEq, Int.reduceEq, Int.reduceLT, Int.reduceLE, Int.reduceNeg, Int.reduceToNat, Int.reduceBNe, Int.reduceBEq, Int.reduceAdd, Int.reduceSub, Int.reduceMul, opnsL, Nat.reduceLeDiff, Nat.reduceGT, List.replicate, Nat.reduceShiftRight, Nat.reduceMod, Nat.reduceBEq, lendsL, ty_Sl_40, Nat.zero_mul, Nat.zero_le]
theorem run_cloneET {d : Nat} {g : List Nat} : callR tab d 40 [.d (.sl 2 [])] [] g = some (.own 2 [] none, []) := by
  obtain ⟨H1, h1, _⟩ := run_clone0T (d := d) (g := g)
  obtain ⟨H2, h2, _⟩ := run_clone1T (d := d) (g := g)
  exact callR_alt (tab_alt (by kernel_rfl)) h1 h2
theorem ret_cloneT (xs : List DV) (hx : ∀ y ∈ xs, Elt 2 y) (hl : xs.length * 16 ≤ 140737488355328) : RetD tab 40 [.d (.sl 2 xs)] (.sl 2 xs) := by
  cases xs with
  | nil => exact ⟨_, _, run_cloneET, rfl, rfl⟩
  | cons x r =>
    obtain ⟨H', h1, h2⟩ := run_cloneT (d := 0) (g := []) x r (fun y hy => (hx y hy).1) hl
    refine ⟨_, _, h1, rfl, ?_⟩
    show toD (frzB H' (.arr ⟨0, 7, [0]⟩ 0 (r.length + 1) 2)) = some (DV.sl 2 (x :: r))
    have hz : frzB H' (.arr ⟨0, 7, [0]⟩ 0 (r.length + 1) 2) = _ := frz_list0 (xs := x :: r) (by rw [h2]; simp only [Heap.get, if_true]) rfl (by decide) hx
    rw [hz]
    rfl
/-- Cloned, to be written to. -/
theorem ca_cloneT {d dst : Nat} {S : St} {j : Nat} (xs : List DV) (h0 : xs ≠ []) (hx : ∀ y ∈ xs, Elt 2 y) (hl : xs.length * 16 ≤ 140737488355328) (ht : tab.thaw 40 dst = some j) :
    callA tab (callR tab) d dst 40 [.d (.sl 2 xs)] S = some (.arr ⟨d, dst, 0 :: S.g⟩ 0 xs.length 2, ⟨S.T, (⟨d, dst, 0 :: S.g⟩, .box (flatD xs)) :: S.H, 1 :: S.g⟩) := by
  cases xs with
  | nil => exact absurd rfl h0
  | cons x r =>
    obtain ⟨H', h1, h2⟩ := run_cloneT (d := 0) (g := []) x r (fun y hy => (hx y hy).1) hl
    exact call_thaw (ds := [.sl 2 (x :: r)]) h1 rfl rfl (tab_opn (by kernel_rfl)) ht (by rw [h2]; simp only [Heap.get, if_true]; rfl) (allD_map _)
theorem ca_clone0T {d dst : Nat} {S : St} {j : Nat} (ht : tab.thaw 40 dst = some j) :
    callA tab (callR tab) d dst 40 [.d (.sl 2 [])] S = some (.own 2 [] none, S) :=
  call_thaw0 (ds := [.sl 2 []]) run_cloneET rfl rfl (tab_opn (by kernel_rfl)) ht
/-- Cloned for good. -/
theorem ca_cloneDT {d dst : Nat} {S : St} (xs : List DV) (hx : ∀ y ∈ xs, Elt 2 y) (hl : xs.length * 16 ≤ 140737488355328) (ht : tab.thaw 40 dst = none) :
    callA tab (callR tab) d dst 40 [.d (.sl 2 xs)] S = some (.d (.sl 2 xs), S) :=
  ca_frz (ds := [.sl 2 xs]) (ret_cloneT xs hx hl) rfl (tab_opn (by kernel_rfl)) (by kernel_rfl) ht
/-- Cloned while it stands in a variable. -/
theorem ca_cloneLT {d dst : Nat} {S : St} {j n : Nat} {id : Id} {rest : List AV} (xs : List DV) (hg : S.H.get id = some (.box (flatD xs ++ rest))) (hn : n = xs.length) (h0 : xs ≠ []) (hx : ∀ y ∈ xs, Elt 2 y) (hf : (xs.flatMap DV.cells).all DV.flat = true) (hl : xs.length * 16 ≤ 140737488355328) (ht : tab.thaw 40 dst = some j) :
    callA tab (callR tab) d dst 40 [.arr id 0 n 2] S = some (.arr ⟨d, dst, 0 :: S.g⟩ 0 xs.length 2, ⟨S.T, (⟨d, dst, 0 :: S.g⟩, .box (flatD xs)) :: S.H, 1 :: S.g⟩) := by
  have hz := frz_list (sz := 2) hg hn (by decide) hx
  cases xs with
  | nil => exact absurd rfl h0
  | cons x r =>
    obtain ⟨H', h1, h2⟩ := run_cloneT (d := 0) (g := []) x r (fun y hy => (hx y hy).1) hl
    exact call_lent_thaw (ds := [.sl 2 (x :: r)]) (tab_lend (by kernel_rfl)) rfl (by rw [List.map_cons, hz]; rfl) h1 ht (by rw [h2]; simp only [Heap.get, if_true]; rfl) (allD_map _) hf
theorem ca_cloneL0T {d dst : Nat} {S : St} {j : Nat} {id : Id} {cs : List AV} (hg : S.H.get id = some (.box cs)) (ht : tab.thaw 40 dst = some j) :
    callA tab (callR tab) d dst 40 [.arr id 0 0 2] S = some (.own 2 [] none, S) := by
  have hz := frz_list (sz := 2) (n := 0) (xs := []) (rest := cs) (by simpa [flatD] using hg) rfl (by decide) (by simp)
  exact call_lent_thaw0 (ds := [.sl 2 []]) (tab_lend (by kernel_rfl)) rfl (by rw [List.map_cons, hz]; rfl) run_cloneET ht
end Go.Proofs.Ytghjhlngaigdiaa.Am
