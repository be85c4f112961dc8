/- The evaluator's table for this program: functions, types, and what is kept at a loop's head. Printed by gentab.py. -/
import Derived.Test.YtfcakcipnikcjaaAmLim
import Derived.Test.YtfcakcipnikcjaaProg
set_option linter.unusedVariables false
set_option linter.unusedSimpArgs false
namespace Go.Proofs.Ytfcakcipnikcjaa.Am
open Go Go.RowKit

def look {α : Type} : List (Nat × α) → Nat → Option α
  | [], _ => none
  | (i, x) :: r, k => if i = k then some x else look r k
def look2 {α : Type} : List (Nat × Nat × α) → Nat → Nat → Option α
  | [], _, _ => none
  | (i, j, x) :: r, k, m => if i = k ∧ j = m then some x else look2 r k m

def goodF : List Nat := [3, 4, 5, 6, 7, 8, 9, 10, 11, 12, 13, 14, 15, 16, 17, 18, 19, 20, 21, 22, 23, 24, 25, 26, 27, 28, 29, 30, 31, 32, 33, 34, 35, 36, 37, 38, 39, 40, 41, 42, 43, 44, 45, 46, 47, 48, 49, 50, 51, 52, 53, 54, 55, 56, 57, 58, 59, 60, 61, 62, 63, 64, 65, 66, 67, 68, 69, 70, 71, 72, 73, 74, 75, 76, 77, 78, 79, 80, 81, 82, 83, 84]
def infs : List (Nat × Nat × Nat × List AV) := [(2, 1, 8, [.d (.int .i64 0)]),
  (3, 1, 8, [.d (.int .i64 0)]),
  (4, 1, 1, [.d (.bool false)]),
  (5, 1, 1, [.d (.int .u8 0)]),
  (6, 1, 1, [.d (.int .u8 0)]),
  (7, 4, 24, [.d (.int .i64 0), .d (.int .i64 0), .d (.bool false), .d (.int .u8 0)]),
  (8, 4, 24, [.d (.int .i64 0), .d (.int .i64 0), .d (.bool false), .d (.int .u8 0)]),
  (9, 1, 16, [.d (.str [])]),
  (10, 1, 16, [.d (.str [])]),
  (11, 1, 16, [.d (.str [])]),
  (12, 1, 8, [.d (.int .u64 0)]),
  (13, 2, 24, [.d (.str []), .d (.int .u64 0)]),
  (14, 2, 24, [.d (.str []), .d (.int .u64 0)]),
  (21, 1, 4, [.d (.int .i32 0)]),
  (22, 1, 24, [.own 4 [] none]),
  (23, 1, 24, [.own 9 [] none]),
  (24, 1, 24, [.own 8 [] none]),
  (25, 2, 48, [.own 9 [] none, .own 8 [] none]),
  (26, 2, 48, [.own 9 [] none, .own 8 [] none]),
  (28, 3, 32, [.d (.int .i64 0), .d (.int .i64 0), .d (.str [])]),
  (29, 3, 32, [.d (.int .i64 0), .d (.int .i64 0), .d (.str [])]),
  (30, 1, 24, [.own 6 [] none]),
  (31, 6, 80, [.d (.int .i64 0), .d (.int .i64 0), .d (.int .i64 0), .d (.str []), .d (.str []), .own 6 [] none]),
  (32, 6, 80, [.d (.int .i64 0), .d (.int .i64 0), .d (.int .i64 0), .d (.str []), .d (.str []), .own 6 [] none]),
  (33, 9, 112, [.d (.str []), .d (.int .i64 0), .d (.int .i64 0), .d (.int .i64 0), .d (.int .i64 0), .d (.int .i64 0), .d (.str []), .d (.str []), .own 6 [] none]),
  (34, 9, 112, [.d (.str []), .d (.int .i64 0), .d (.int .i64 0), .d (.int .i64 0), .d (.int .i64 0), .d (.int .i64 0), .d (.str []), .d (.str []), .own 6 [] none]),
  (35, 1, 8, [.d (.int .i64 0)]),
  (44, 3, 24, [.d (.int .i64 0), .d (.int .i64 0), .d (.int .i64 0)]),
  (45, 3, 24, [.d (.int .i64 0), .d (.int .i64 0), .d (.int .i64 0)]),
  (49, 4, 40, [.d (.int .i64 0), .d (.int .i64 0), .d (.int .i64 0), .d (.str [])]),
  (50, 4, 40, [.d (.int .i64 0), .d (.int .i64 0), .d (.int .i64 0), .d (.str [])]),
  (55, 1, 24, [.own 6 [] none]),
  (61, 1, 24, [.own 2 [] none]),
  (64, 2, 16, [.d (.int .i64 0), .d (.int .i64 0)]),
  (65, 2, 16, [.d (.int .i64 0), .d (.int .i64 0)]),
  (67, 1, 24, [.own 7 [] none]),
  (70, 7, 80, [.d (.str []), .d (.int .i64 0), .d (.int .i64 0), .d (.str []), .d (.int .i64 0), .d (.int .i64 0), .d (.str [])]),
  (71, 7, 80, [.d (.str []), .d (.int .i64 0), .d (.int .i64 0), .d (.str []), .d (.int .i64 0), .d (.int .i64 0), .d (.str [])]),
  (73, 6, 64, [.d (.int .i64 0), .d (.int .i64 0), .d (.str []), .d (.int .i64 0), .d (.int .i64 0), .d (.str [])]),
  (74, 6, 64, [.d (.int .i64 0), .d (.int .i64 0), .d (.str []), .d (.int .i64 0), .d (.int .i64 0), .d (.str [])]),
  (77, 2, 32, [.own 4 [] none, .d (.int .i64 0)]),
  (78, 2, 32, [.own 4 [] none, .d (.int .i64 0)]),
  (80, 1, 24, [.own 1 [] none]),
  (83, 1, 24, [.own 1 [] none]),
  (84, 8, 120, [.d (.str []), .own 1 [] none, .d (.int .i64 0), .d (.int .i64 0), .d (.int .i64 0), .d (.str []), .d (.str []), .own 6 [] none]),
  (85, 8, 120, [.d (.str []), .own 1 [] none, .d (.int .i64 0), .d (.int .i64 0), .d (.int .i64 0), .d (.str []), .d (.str []), .own 6 [] none]),
  (109, 1, 24, [.own 1 [] none]),
  (112, 13, 208, [.d (.str []), .d (.str []), .d (.str []), .d (.str []), .d (.str []), .d (.str []), .d (.str []), .d (.str []), .d (.str []), .d (.str []), .d (.str []), .d (.str []), .d (.str [])]),
  (122, 1, 8, [.d (.int .u64 0)]),
  (130, 1, 4, [.d (.int .u32 0)]),
  (131, 1, 1, [.d (.int .u8 0)]),
  (132, 1, 1, [.d (.int .u8 0)]),
  (135, 1, 4, [.d (.int .i32 0)]),
  (136, 1, 4, [.d (.int .i32 0)])]
def keeps : List (Nat × Nat × List Nat × List Nat) := [(3, 3, [3, 15, 16, 17], [13, 16, 26, 39]),
  (6, 4, [7, 8, 9, 22, 23], [7, 20, 30, 54, 65, 73]),
  (9, 3, [0, 7, 10, 18, 19, 20, 24, 25, 26, 27, 28, 29, 30], [4, 7, 15, 17, 19, 25, 30, 46, 54]),
  (12, 3, [0, 3, 4, 12, 13, 16, 17, 18, 19, 20, 21, 22, 23, 24, 25, 26, 27, 28, 29, 30, 31, 32, 33, 34, 35, 36, 37, 38, 39, 40, 41, 42, 43, 44, 45, 46, 47, 48, 49, 50, 51, 52, 53, 54, 55, 56, 57, 58, 59], [8, 12, 64, 66, 67, 72]),
  (15, 23, [2, 3, 4, 5, 9, 10, 11, 12, 77, 78, 91, 92, 93], [2, 4, 5, 7, 8, 11, 12, 17, 19, 22, 23, 24, 30, 31, 37, 41, 53, 60, 64, 70, 75, 82, 92, 109, 114, 119, 125, 130, 134]),
  (15, 18, [2, 3, 4, 5, 9, 77, 78], [2, 4, 5, 7, 8, 17, 19, 22, 23, 24, 30, 31, 37, 41, 53, 60, 64, 70, 75, 82, 92, 109, 114, 119, 125, 130, 134]),
  (15, 5, [2, 3, 4, 5, 8, 25, 26, 31, 32, 33, 34, 35, 36, 37, 38, 39, 40, 41, 42, 43, 57, 58, 59, 60, 61, 62, 63, 64, 65], [2, 4, 5, 11, 12, 14, 17, 19, 22, 23, 24, 30, 31, 37, 41, 53, 60, 64, 70, 75, 82, 92, 109, 114, 119, 125, 130, 134]),
  (23, 6, [1, 5, 15, 16], [1, 10, 23]),
  (30, 5, [0, 5, 6], [10, 14, 26, 38, 43]),
  (32, 3, [4, 11, 12, 13], [12, 26, 28, 35]),
  (33, 4, [0, 8, 9, 10, 29, 30, 31, 32, 33, 34, 35, 36, 37, 38, 39, 40, 41, 42, 43, 44, 45, 46, 47, 48, 49], [6, 9, 35, 47]),
  (34, 4, [5, 6, 14, 15, 16, 31, 32, 33, 34, 35, 36, 37, 38, 39, 40], [2, 12, 15, 21, 28, 37, 40]),
  (35, 2, [1, 2, 8, 9, 10], [2, 9, 21, 33]),
  (41, 1, [0, 2, 3, 14, 15, 16, 17, 18, 19, 20, 21, 22, 23, 24, 25, 26, 27], [5]),
  (42, 2, [0, 1, 7, 8], [7, 16]),
  (53, 3, [5, 15, 16, 17], [16]),
  (55, 12, [0, 2, 36, 37], [2, 12, 14, 19, 21, 33, 42]),
  (56, 3, [3, 6, 7, 8], [7]),
  (65, 2, [0, 1, 5], [8, 15]),
  (68, 4, [1, 6, 7, 8, 13, 14, 15], [6, 7, 12, 14, 27, 30, 35, 40, 45, 46]),
  (69, 3, [2, 3, 4, 7, 8, 13, 14, 15, 19, 20, 21, 22, 23, 24, 25, 26, 27, 28, 29], [7, 8, 14, 26, 28]),
  (71, 5, [0, 2, 4, 5, 17, 18], [2, 8]),
  (73, 3, [0, 2, 3, 4, 5, 27, 28, 29, 30, 31, 32, 33, 34], [2, 9, 19, 24, 42, 66]),
  (77, 3, [0, 2, 4, 6, 7, 8, 9, 10, 24, 25, 26, 27, 28, 29, 30, 31, 35, 36, 37, 38, 39, 40, 41, 42, 43, 44, 45, 46, 47, 48], [4, 13, 30, 46]),
  (79, 2, [0, 1, 7, 8], [7, 16]),
  (81, 2, [0, 1, 7, 8], [7, 16]),
  (83, 4, [0, 8, 9], [5, 8])]
def drws : List (Nat × Nat × List (List Nat)) := [(9, 1, [[], [], [], [1], [], [1, 3, 4], []]),
  (9, 5, [[], [], [], [1], [1], [1], [], []]),
  (11, 2, [[], [], [], [], [2], [], [], [2, 5], [], [1, 2, 4, 5, 7, 8], [1, 2, 4, 5, 7, 8], [1, 2, 4, 5, 7, 8], [], [], []]),
  (12, 5, [[], [], [], [], [], [], [], [], [], [], [], [], [], [], [], [], [], [], [], [], [], [], [], [], [], [], [], [], [], [], [], [], [], [], [], [], [], [], [], [], [], [], [], []]),
  (13, 7, [[], [], [], [], [], [], [0], [], [], [], [0], [], [], []]),
  (15, 4, [[], [], [0, 1], [], [], [], []]),
  (15, 8, [[], [], [], [], [0], [0], [2, 3], [], [0, 6], [0, 6], [2, 3], [], [], [0, 2, 3, 4, 5, 6, 8, 9, 10], []]),
  (15, 13, [[], [], [], [], [], [3], [3], [], [], []]),
  (22, 6, [[], [], [], [], [], [], [], [], [], []]),
  (29, 6, [[], [], [], [], [], [], [], [], [], [], [], [], [], []]),
  (31, 3, [[], [], [], [], [], [4], [4], [4], [4], [], [], [], [], []]),
  (33, 8, [[], [], [], [], [], [], [], []]),
  (33, 10, [[], [], [], [], [], [], [], [], [], [], [], [], []]),
  (34, 8, [[], [], [], [], [], [], [1, 2], [], [], [], []]),
  (38, 3, [[], [], [], [], [], [], [], [], [], [], [], [], [], [], [], [], [1, 2, 3, 5, 6, 7, 9, 10, 11, 12, 14, 15], []]),
  (38, 4, [[], [], [], [], [], [], [], [], [], [], [], [], [], [], []]),
  (41, 3, [[], [], [], [], [], [], [], [], [], [], [], [], [], [], [], []]),
  (51, 1, [[], [], [], [], [], [], [], []]),
  (59, 5, [[], [], [], [], [3], [], [], [], [], [], [], []]),
  (61, 1, [[], [], [], [], [], [4], [4], [4], [4], [], [], [], []]),
  (69, 5, [[], [], [], [], [], [], [], [0, 1], [], [], [], []]),
  (73, 10, [[], [], [], [], [], [], [], [], [], []]),
  (77, 5, [[], [], [], [], [], [], [], []]),
  (77, 8, [[], [], [], [], [], [], [], [], [], [], [], [], [], [], [], []])]
def cmpsL : List Nat := []
def ress : List (Nat × Nat) := []
def opnsL : List Nat := []

noncomputable def tab : Tab where
  fn := fun k => if goodF.contains k then Try.prog.funcs[k]? else none
  und := Try.prog.underlying
  inf := look infs
  keep := look2 keeps
  opn := fun f => opnsL.contains f
  res := look ress
  cmp := fun t => cmpsL.contains t
  drw := look2 drws
  prim := fun _ => none

def fnGood (L : Nat → Option (List (List Nat))) : Option Func → Bool
  | some F => !(F.name == "runtime.NumGoroutine") && match F.body with
    | some c => dstsOk F.ntmps c && drawsOk L c
    | none => false
  | none => false
theorem allGood : (goodF.all fun k => fnGood (look2 drws k) Try.prog.funcs[k]?) = true := by kernel_rfl
def crepB : Value → AV → Bool
  | .int k n, .d (.int j m) => k == j && n == m
  | .bool b, .d (.bool c) => b == c
  | .string s, .d (.str l) => s.data.toList == l
  | .slice none 0 0, .own _ [] none => true
  | _, _ => false
theorem crepB_ok {v : Value} {x : AV} (h : crepB v x = true) : CRep v x := by
  unfold crepB at h
  split at h
  · simp only [Bool.and_eq_true, beq_iff_eq] at h
    obtain ⟨rfl, rfl⟩ := h
    exact .int _ _
  · simp only [beq_iff_eq] at h
    subst h
    exact .bool _
  · simp only [beq_iff_eq] at h
    subst h
    exact .str _
  · exact .nilsl _
  · cases h
def crepsB : List Value → List AV → Bool
  | [], [] => true
  | v :: vs, x :: xs => crepB v x && crepsB vs xs
  | _, _ => false
theorem crepsB_ok : ∀ (vs : List Value) (xs : List AV), crepsB vs xs = true → vs.length = xs.length ∧ ∀ (j : Nat) y, xs[j]? = some y → ∃ u, vs[j]? = some u ∧ CRep u y
  | [], [], h => ⟨rfl, fun j y hy => by simp at hy⟩
  | v :: vs, x :: xs, h => by
    simp only [crepsB, Bool.and_eq_true] at h
    obtain ⟨h1, h2⟩ := crepsB_ok vs xs h.2
    refine ⟨by simp [h1], fun j y hy => ?_⟩
    cases j with
    | zero =>
      have : x = y := by simpa using hy
      subst this
      exact ⟨v, rfl, crepB_ok h.1⟩
    | succ j => exact h2 j y (by simpa using hy)
  | [], _ :: _, h => by simp [crepsB] at h
  | _ :: _, [], h => by simp [crepsB] at h
def infGoodP (P : Program) (e : Nat × Nat × Nat × List AV) : Bool := match P.types[e.1]? with
  | some i => i.size == e.2.1 && i.bytes == e.2.2.1 && match i.zero with
    | some zv => zv.cells.size == e.2.1 && crepsB zv.cells.toList e.2.2.2
    | none => false
  | none => false
theorem allInf : (infs.all (infGoodP Try.prog)) = true := by kernel_rfl
theorem look_mem {α : Type} : ∀ (l : List (Nat × α)) (k : Nat) (x : α), look l k = some x → (k, x) ∈ l
  | [], k, x, h => by simp [look] at h
  | (i, y) :: r, k, x, h => by
    simp only [look] at h
    split at h
    · rename_i hi
      injection h with h
      subst hi; subst h
      simp
    · exact List.mem_cons_of_mem _ (look_mem r k x h)

theorem tab_fn {k : Nat} {F : Func} (h1 : goodF.contains k = true) (h2 : Try.prog.funcs[k]? = some F) : tab.fn k = some F := by
  simp only [tab]
  rw [if_pos h1]
  exact h2
theorem tab_und (t : Nat) : tab.und t = Try.prog.underlying t := by simp only [tab]
theorem tab_inf0 (t : Nat) : tab.inf t = look infs t := by simp only [tab]
theorem tab_inf {t : Nat} {d : Option (Nat × Nat × List AV)} (h : look infs t = d) : tab.inf t = d := by
  simp only [tab]
  exact h
theorem tab_keep {f r : Nat} {d : Option (List Nat × List Nat)} (h : look2 keeps f r = d) : tab.keep f r = d := by
  simp only [tab]
  exact h
theorem tab_drw {f r : Nat} {d : Option (List (List Nat))} (h : look2 drws f r = d) : tab.drw f r = d := by
  simp only [tab]
  exact h
theorem tab_opn {f : Nat} {b : Bool} (h : opnsL.contains f = b) : tab.opn f = b := by
  simp only [tab]
  exact h
theorem tab_res {f : Nat} {d : Option Nat} (h : look ress f = d) : tab.res f = d := by
  simp only [tab]
  exact h
theorem tab_cmp {t : Nat} {b : Bool} (h : cmpsL.contains t = b) : tab.cmp t = b := by
  simp only [tab]
  exact h
theorem tab_prim (f : Nat) : tab.prim f = none := by simp only [tab]

theorem info_of {P : Program} {t : Nat} {i : TypeInfo} (h : P.types[t]? = some i) : P.info? t = some i := by
  have : t < P.types.size := (Array.getElem?_eq_some_iff.1 h).1
  show Tables.info? P.toTables t = some i
  unfold Tables.info?
  rw [if_pos this]
  exact h
theorem infGood_ok {P : Program} {t n b : Nat} {z : List AV} (h1 : infGoodP P (t, n, b, z) = true) : ∃ i zv, P.info? t = some i ∧ i.size = n ∧ i.bytes = b ∧ i.zero = some zv ∧ zv.cells.size = n ∧ z.length = n ∧
    ∀ (j : Nat) y, z[j]? = some y → ∃ u, zv.cells[j]? = some u ∧ CRep u y := by
  unfold infGoodP at h1
  simp only at h1
  cases hi : P.types[t]? with
  | none => rw [hi] at h1; simp at h1
  | some i =>
    rw [hi] at h1
    simp only [Bool.and_eq_true, beq_iff_eq] at h1
    obtain ⟨⟨h2, h3⟩, h4⟩ := h1
    cases hz : i.zero with
    | none => rw [hz] at h4; simp at h4
    | some zv =>
      rw [hz] at h4
      simp only [Bool.and_eq_true, beq_iff_eq] at h4
      obtain ⟨h5, h6⟩ := crepsB_ok _ _ h4.2
      refine ⟨i, zv, info_of hi, h2, h3, hz, h4.1, by simp at h5; omega, fun j y hy => ?_⟩
      obtain ⟨u, h7, h8⟩ := h6 j y hy
      exact ⟨u, by simpa using h7, h8⟩
theorem inf_ok (t n b : Nat) (z : List AV) (h : look infs t = some (n, b, z)) : ∃ i zv, Try.prog.info? t = some i ∧ i.size = n ∧ i.bytes = b ∧ i.zero = some zv ∧ zv.cells.size = n ∧ z.length = n ∧
    ∀ (j : Nat) y, z[j]? = some y → ∃ u, zv.cells[j]? = some u ∧ CRep u y := by
  exact infGood_ok ((List.all_eq_true (l := infs) (p := infGoodP Try.prog)).1 allInf (t, n, b, z) (look_mem infs t (n, b, z) h))
theorem tab_ok : tab.Ok Try.prog where
  fn := fun f F h => by
    simp only [tab] at h
    split at h
    · rename_i hg
      have h1 := List.all_eq_true.1 allGood f (by simpa using hg)
      rw [h] at h1
      simp only [fnGood, Bool.and_eq_true, Bool.not_eq_true'] at h1
      cases hb : F.body with
      | none => rw [hb] at h1; simp at h1
      | some c =>
        rw [hb] at h1
        simp only [Bool.and_eq_true] at h1
        exact ⟨h, h1.1, c, rfl, h1.2.1⟩
    · cases h
  und := fun t d h => (tab_und t).symm.trans h
  inf := fun t n b z h => inf_ok t n b z ((tab_inf0 t).symm.trans h)
  mix := by kernel_rfl
  drw := fun f F c h hb => by
    simp only [tab] at h
    split at h
    · rename_i hg
      have h1 := List.all_eq_true.1 allGood f (by simpa using hg)
      rw [h] at h1
      simp only [fnGood, Bool.and_eq_true, hb] at h1
      exact h1.2.2
    · cases h
  cmp := fun t h => by
    have h1 : (cmpsL.all fun t => !Try.prog.stoodInHeld t && !Try.prog.eqGuardType Try.prog.depth t) = true := by kernel_rfl
    have h2 := List.all_eq_true.1 h1 t (by simpa [tab] using h)
    simpa using h2
theorem prim_ok : PrimOk Try.prog tab := fun f p h => by simp [tab] at h

theorem fn3 : tab.fn 3 = some Try.f3 := tab_fn (by kernel_rfl) Try.func3
theorem fn4 : tab.fn 4 = some Try.f4 := tab_fn (by kernel_rfl) Try.func4
theorem fn5 : tab.fn 5 = some Try.f5 := tab_fn (by kernel_rfl) Try.func5
theorem fn6 : tab.fn 6 = some Try.f6 := tab_fn (by kernel_rfl) Try.func6
theorem fn7 : tab.fn 7 = some Try.f7 := tab_fn (by kernel_rfl) Try.func7
theorem fn8 : tab.fn 8 = some Try.f8 := tab_fn (by kernel_rfl) Try.func8
theorem fn9 : tab.fn 9 = some Try.f9 := tab_fn (by kernel_rfl) Try.func9
theorem fn10 : tab.fn 10 = some Try.f10 := tab_fn (by kernel_rfl) Try.func10
theorem fn11 : tab.fn 11 = some Try.f11 := tab_fn (by kernel_rfl) Try.func11
theorem fn12 : tab.fn 12 = some Try.f12 := tab_fn (by kernel_rfl) Try.func12
theorem fn13 : tab.fn 13 = some Try.f13 := tab_fn (by kernel_rfl) Try.func13
theorem fn14 : tab.fn 14 = some Try.f14 := tab_fn (by kernel_rfl) Try.func14
theorem fn15 : tab.fn 15 = some Try.f15 := tab_fn (by kernel_rfl) Try.func15
theorem fn16 : tab.fn 16 = some Try.f16 := tab_fn (by kernel_rfl) Try.func16
theorem fn17 : tab.fn 17 = some Try.f17 := tab_fn (by kernel_rfl) Try.func17
theorem fn18 : tab.fn 18 = some Try.f18 := tab_fn (by kernel_rfl) Try.func18
theorem fn19 : tab.fn 19 = some Try.f19 := tab_fn (by kernel_rfl) Try.func19
theorem fn20 : tab.fn 20 = some Try.f20 := tab_fn (by kernel_rfl) Try.func20
theorem fn21 : tab.fn 21 = some Try.f21 := tab_fn (by kernel_rfl) Try.func21
theorem fn22 : tab.fn 22 = some Try.f22 := tab_fn (by kernel_rfl) Try.func22
theorem fn23 : tab.fn 23 = some Try.f23 := tab_fn (by kernel_rfl) Try.func23
theorem fn24 : tab.fn 24 = some Try.f24 := tab_fn (by kernel_rfl) Try.func24
theorem fn25 : tab.fn 25 = some Try.f25 := tab_fn (by kernel_rfl) Try.func25
theorem fn26 : tab.fn 26 = some Try.f26 := tab_fn (by kernel_rfl) Try.func26
theorem fn27 : tab.fn 27 = some Try.f27 := tab_fn (by kernel_rfl) Try.func27
theorem fn28 : tab.fn 28 = some Try.f28 := tab_fn (by kernel_rfl) Try.func28
theorem fn29 : tab.fn 29 = some Try.f29 := tab_fn (by kernel_rfl) Try.func29
theorem fn30 : tab.fn 30 = some Try.f30 := tab_fn (by kernel_rfl) Try.func30
theorem fn31 : tab.fn 31 = some Try.f31 := tab_fn (by kernel_rfl) Try.func31
theorem fn32 : tab.fn 32 = some Try.f32 := tab_fn (by kernel_rfl) Try.func32
theorem fn33 : tab.fn 33 = some Try.f33 := tab_fn (by kernel_rfl) Try.func33
theorem fn34 : tab.fn 34 = some Try.f34 := tab_fn (by kernel_rfl) Try.func34
theorem fn35 : tab.fn 35 = some Try.f35 := tab_fn (by kernel_rfl) Try.func35
theorem fn36 : tab.fn 36 = some Try.f36 := tab_fn (by kernel_rfl) Try.func36
theorem fn37 : tab.fn 37 = some Try.f37 := tab_fn (by kernel_rfl) Try.func37
theorem fn38 : tab.fn 38 = some Try.f38 := tab_fn (by kernel_rfl) Try.func38
theorem fn39 : tab.fn 39 = some Try.f39 := tab_fn (by kernel_rfl) Try.func39
theorem fn40 : tab.fn 40 = some Try.f40 := tab_fn (by kernel_rfl) Try.func40
theorem fn41 : tab.fn 41 = some Try.f41 := tab_fn (by kernel_rfl) Try.func41
theorem fn42 : tab.fn 42 = some Try.f42 := tab_fn (by kernel_rfl) Try.func42
theorem fn43 : tab.fn 43 = some Try.f43 := tab_fn (by kernel_rfl) Try.func43
theorem fn44 : tab.fn 44 = some Try.f44 := tab_fn (by kernel_rfl) Try.func44
theorem fn45 : tab.fn 45 = some Try.f45 := tab_fn (by kernel_rfl) Try.func45
theorem fn46 : tab.fn 46 = some Try.f46 := tab_fn (by kernel_rfl) Try.func46
theorem fn47 : tab.fn 47 = some Try.f47 := tab_fn (by kernel_rfl) Try.func47
theorem fn48 : tab.fn 48 = some Try.f48 := tab_fn (by kernel_rfl) Try.func48
theorem fn49 : tab.fn 49 = some Try.f49 := tab_fn (by kernel_rfl) Try.func49
theorem fn50 : tab.fn 50 = some Try.f50 := tab_fn (by kernel_rfl) Try.func50
theorem fn51 : tab.fn 51 = some Try.f51 := tab_fn (by kernel_rfl) Try.func51
theorem fn52 : tab.fn 52 = some Try.f52 := tab_fn (by kernel_rfl) Try.func52
theorem fn53 : tab.fn 53 = some Try.f53 := tab_fn (by kernel_rfl) Try.func53
theorem fn54 : tab.fn 54 = some Try.f54 := tab_fn (by kernel_rfl) Try.func54
theorem fn55 : tab.fn 55 = some Try.f55 := tab_fn (by kernel_rfl) Try.func55
theorem fn56 : tab.fn 56 = some Try.f56 := tab_fn (by kernel_rfl) Try.func56
theorem fn57 : tab.fn 57 = some Try.f57 := tab_fn (by kernel_rfl) Try.func57
theorem fn58 : tab.fn 58 = some Try.f58 := tab_fn (by kernel_rfl) Try.func58
theorem fn59 : tab.fn 59 = some Try.f59 := tab_fn (by kernel_rfl) Try.func59
theorem fn60 : tab.fn 60 = some Try.f60 := tab_fn (by kernel_rfl) Try.func60
theorem fn61 : tab.fn 61 = some Try.f61 := tab_fn (by kernel_rfl) Try.func61
theorem fn62 : tab.fn 62 = some Try.f62 := tab_fn (by kernel_rfl) Try.func62
theorem fn63 : tab.fn 63 = some Try.f63 := tab_fn (by kernel_rfl) Try.func63
theorem fn64 : tab.fn 64 = some Try.f64 := tab_fn (by kernel_rfl) Try.func64
theorem fn65 : tab.fn 65 = some Try.f65 := tab_fn (by kernel_rfl) Try.func65
theorem fn66 : tab.fn 66 = some Try.f66 := tab_fn (by kernel_rfl) Try.func66
theorem fn67 : tab.fn 67 = some Try.f67 := tab_fn (by kernel_rfl) Try.func67
theorem fn68 : tab.fn 68 = some Try.f68 := tab_fn (by kernel_rfl) Try.func68
theorem fn69 : tab.fn 69 = some Try.f69 := tab_fn (by kernel_rfl) Try.func69
theorem fn70 : tab.fn 70 = some Try.f70 := tab_fn (by kernel_rfl) Try.func70
theorem fn71 : tab.fn 71 = some Try.f71 := tab_fn (by kernel_rfl) Try.func71
theorem fn72 : tab.fn 72 = some Try.f72 := tab_fn (by kernel_rfl) Try.func72
theorem fn73 : tab.fn 73 = some Try.f73 := tab_fn (by kernel_rfl) Try.func73
theorem fn74 : tab.fn 74 = some Try.f74 := tab_fn (by kernel_rfl) Try.func74
theorem fn75 : tab.fn 75 = some Try.f75 := tab_fn (by kernel_rfl) Try.func75
theorem fn76 : tab.fn 76 = some Try.f76 := tab_fn (by kernel_rfl) Try.func76
theorem fn77 : tab.fn 77 = some Try.f77 := tab_fn (by kernel_rfl) Try.func77
theorem fn78 : tab.fn 78 = some Try.f78 := tab_fn (by kernel_rfl) Try.func78
theorem fn79 : tab.fn 79 = some Try.f79 := tab_fn (by kernel_rfl) Try.func79
theorem fn80 : tab.fn 80 = some Try.f80 := tab_fn (by kernel_rfl) Try.func80
theorem fn81 : tab.fn 81 = some Try.f81 := tab_fn (by kernel_rfl) Try.func81
theorem fn82 : tab.fn 82 = some Try.f82 := tab_fn (by kernel_rfl) Try.func82
theorem fn83 : tab.fn 83 = some Try.f83 := tab_fn (by kernel_rfl) Try.func83
theorem fn84 : tab.fn 84 = some Try.f84 := tab_fn (by kernel_rfl) Try.func84
theorem inf2 : tab.inf 2 = some (1, 8, [.d (.int .i64 0)]) := tab_inf (by kernel_rfl)
theorem inf3 : tab.inf 3 = some (1, 8, [.d (.int .i64 0)]) := tab_inf (by kernel_rfl)
theorem inf4 : tab.inf 4 = some (1, 1, [.d (.bool false)]) := tab_inf (by kernel_rfl)
theorem inf5 : tab.inf 5 = some (1, 1, [.d (.int .u8 0)]) := tab_inf (by kernel_rfl)
theorem inf6 : tab.inf 6 = some (1, 1, [.d (.int .u8 0)]) := tab_inf (by kernel_rfl)
theorem inf7 : tab.inf 7 = some (4, 24, [.d (.int .i64 0), .d (.int .i64 0), .d (.bool false), .d (.int .u8 0)]) := tab_inf (by kernel_rfl)
theorem inf8 : tab.inf 8 = some (4, 24, [.d (.int .i64 0), .d (.int .i64 0), .d (.bool false), .d (.int .u8 0)]) := tab_inf (by kernel_rfl)
theorem inf9 : tab.inf 9 = some (1, 16, [.d (.str [])]) := tab_inf (by kernel_rfl)
theorem inf10 : tab.inf 10 = some (1, 16, [.d (.str [])]) := tab_inf (by kernel_rfl)
theorem inf11 : tab.inf 11 = some (1, 16, [.d (.str [])]) := tab_inf (by kernel_rfl)
theorem inf12 : tab.inf 12 = some (1, 8, [.d (.int .u64 0)]) := tab_inf (by kernel_rfl)
theorem inf13 : tab.inf 13 = some (2, 24, [.d (.str []), .d (.int .u64 0)]) := tab_inf (by kernel_rfl)
theorem inf14 : tab.inf 14 = some (2, 24, [.d (.str []), .d (.int .u64 0)]) := tab_inf (by kernel_rfl)
theorem inf21 : tab.inf 21 = some (1, 4, [.d (.int .i32 0)]) := tab_inf (by kernel_rfl)
theorem inf22 : tab.inf 22 = some (1, 24, [.own 4 [] none]) := tab_inf (by kernel_rfl)
theorem inf23 : tab.inf 23 = some (1, 24, [.own 9 [] none]) := tab_inf (by kernel_rfl)
theorem inf24 : tab.inf 24 = some (1, 24, [.own 8 [] none]) := tab_inf (by kernel_rfl)
theorem inf25 : tab.inf 25 = some (2, 48, [.own 9 [] none, .own 8 [] none]) := tab_inf (by kernel_rfl)
theorem inf26 : tab.inf 26 = some (2, 48, [.own 9 [] none, .own 8 [] none]) := tab_inf (by kernel_rfl)
theorem inf28 : tab.inf 28 = some (3, 32, [.d (.int .i64 0), .d (.int .i64 0), .d (.str [])]) := tab_inf (by kernel_rfl)
theorem inf29 : tab.inf 29 = some (3, 32, [.d (.int .i64 0), .d (.int .i64 0), .d (.str [])]) := tab_inf (by kernel_rfl)
theorem inf30 : tab.inf 30 = some (1, 24, [.own 6 [] none]) := tab_inf (by kernel_rfl)
theorem inf31 : tab.inf 31 = some (6, 80, [.d (.int .i64 0), .d (.int .i64 0), .d (.int .i64 0), .d (.str []), .d (.str []), .own 6 [] none]) := tab_inf (by kernel_rfl)
theorem inf32 : tab.inf 32 = some (6, 80, [.d (.int .i64 0), .d (.int .i64 0), .d (.int .i64 0), .d (.str []), .d (.str []), .own 6 [] none]) := tab_inf (by kernel_rfl)
theorem inf33 : tab.inf 33 = some (9, 112, [.d (.str []), .d (.int .i64 0), .d (.int .i64 0), .d (.int .i64 0), .d (.int .i64 0), .d (.int .i64 0), .d (.str []), .d (.str []), .own 6 [] none]) := tab_inf (by kernel_rfl)
theorem inf34 : tab.inf 34 = some (9, 112, [.d (.str []), .d (.int .i64 0), .d (.int .i64 0), .d (.int .i64 0), .d (.int .i64 0), .d (.int .i64 0), .d (.str []), .d (.str []), .own 6 [] none]) := tab_inf (by kernel_rfl)
theorem inf35 : tab.inf 35 = some (1, 8, [.d (.int .i64 0)]) := tab_inf (by kernel_rfl)
theorem inf44 : tab.inf 44 = some (3, 24, [.d (.int .i64 0), .d (.int .i64 0), .d (.int .i64 0)]) := tab_inf (by kernel_rfl)
theorem inf45 : tab.inf 45 = some (3, 24, [.d (.int .i64 0), .d (.int .i64 0), .d (.int .i64 0)]) := tab_inf (by kernel_rfl)
theorem inf49 : tab.inf 49 = some (4, 40, [.d (.int .i64 0), .d (.int .i64 0), .d (.int .i64 0), .d (.str [])]) := tab_inf (by kernel_rfl)
theorem inf50 : tab.inf 50 = some (4, 40, [.d (.int .i64 0), .d (.int .i64 0), .d (.int .i64 0), .d (.str [])]) := tab_inf (by kernel_rfl)
theorem inf55 : tab.inf 55 = some (1, 24, [.own 6 [] none]) := tab_inf (by kernel_rfl)
theorem inf61 : tab.inf 61 = some (1, 24, [.own 2 [] none]) := tab_inf (by kernel_rfl)
theorem inf64 : tab.inf 64 = some (2, 16, [.d (.int .i64 0), .d (.int .i64 0)]) := tab_inf (by kernel_rfl)
theorem inf65 : tab.inf 65 = some (2, 16, [.d (.int .i64 0), .d (.int .i64 0)]) := tab_inf (by kernel_rfl)
theorem inf67 : tab.inf 67 = some (1, 24, [.own 7 [] none]) := tab_inf (by kernel_rfl)
theorem inf70 : tab.inf 70 = some (7, 80, [.d (.str []), .d (.int .i64 0), .d (.int .i64 0), .d (.str []), .d (.int .i64 0), .d (.int .i64 0), .d (.str [])]) := tab_inf (by kernel_rfl)
theorem inf71 : tab.inf 71 = some (7, 80, [.d (.str []), .d (.int .i64 0), .d (.int .i64 0), .d (.str []), .d (.int .i64 0), .d (.int .i64 0), .d (.str [])]) := tab_inf (by kernel_rfl)
theorem inf73 : tab.inf 73 = some (6, 64, [.d (.int .i64 0), .d (.int .i64 0), .d (.str []), .d (.int .i64 0), .d (.int .i64 0), .d (.str [])]) := tab_inf (by kernel_rfl)
theorem inf74 : tab.inf 74 = some (6, 64, [.d (.int .i64 0), .d (.int .i64 0), .d (.str []), .d (.int .i64 0), .d (.int .i64 0), .d (.str [])]) := tab_inf (by kernel_rfl)
theorem inf77 : tab.inf 77 = some (2, 32, [.own 4 [] none, .d (.int .i64 0)]) := tab_inf (by kernel_rfl)
theorem inf78 : tab.inf 78 = some (2, 32, [.own 4 [] none, .d (.int .i64 0)]) := tab_inf (by kernel_rfl)
theorem inf80 : tab.inf 80 = some (1, 24, [.own 1 [] none]) := tab_inf (by kernel_rfl)
theorem inf83 : tab.inf 83 = some (1, 24, [.own 1 [] none]) := tab_inf (by kernel_rfl)
theorem inf84 : tab.inf 84 = some (8, 120, [.d (.str []), .own 1 [] none, .d (.int .i64 0), .d (.int .i64 0), .d (.int .i64 0), .d (.str []), .d (.str []), .own 6 [] none]) := tab_inf (by kernel_rfl)
theorem inf85 : tab.inf 85 = some (8, 120, [.d (.str []), .own 1 [] none, .d (.int .i64 0), .d (.int .i64 0), .d (.int .i64 0), .d (.str []), .d (.str []), .own 6 [] none]) := tab_inf (by kernel_rfl)
theorem inf109 : tab.inf 109 = some (1, 24, [.own 1 [] none]) := tab_inf (by kernel_rfl)
theorem inf112 : tab.inf 112 = some (13, 208, [.d (.str []), .d (.str []), .d (.str []), .d (.str []), .d (.str []), .d (.str []), .d (.str []), .d (.str []), .d (.str []), .d (.str []), .d (.str []), .d (.str []), .d (.str [])]) := tab_inf (by kernel_rfl)
theorem inf122 : tab.inf 122 = some (1, 8, [.d (.int .u64 0)]) := tab_inf (by kernel_rfl)
theorem inf130 : tab.inf 130 = some (1, 4, [.d (.int .u32 0)]) := tab_inf (by kernel_rfl)
theorem inf131 : tab.inf 131 = some (1, 1, [.d (.int .u8 0)]) := tab_inf (by kernel_rfl)
theorem inf132 : tab.inf 132 = some (1, 1, [.d (.int .u8 0)]) := tab_inf (by kernel_rfl)
theorem inf135 : tab.inf 135 = some (1, 4, [.d (.int .i32 0)]) := tab_inf (by kernel_rfl)
theorem inf136 : tab.inf 136 = some (1, 4, [.d (.int .i32 0)]) := tab_inf (by kernel_rfl)
end Go.Proofs.Ytfcakcipnikcjaa.Am
