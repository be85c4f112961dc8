/- Forms of raw things, as data. -/
import Derived.Test.YtnombkkfijlkfaaFmD
set_option linter.unusedVariables false
set_option linter.unusedSimpArgs false
namespace Go.Proofs.Ytnombkkfijlkfaa.Am
open Go Go.RowKit
set_option maxRecDepth 100000
set_option maxHeartbeats 40000000



structure Page where
  name : List UInt8
  fields : List (List UInt8)
  skip : Exp
def Page.dv (p : Page) : DV := .agg [.str p.name, .sl 1 (p.fields.map DV.str), .int .i64 p.skip.op, .int .i64 p.skip.v.kind, .int .i64 p.skip.v.n, .str p.skip.v.s, .str p.skip.name, .sl 6 (p.skip.args.map Exp.dv)]
theorem Page.eta {p : Page} : Page.mk p.name p.fields p.skip = p := rfl

structure Frm where
  fields : List Field
  pages : List Page
def Frm.dv (p : Frm) : DV := .agg [.sl 9 (p.fields.map Field.dv), .sl 8 (p.pages.map Page.dv)]
theorem Frm.eta {p : Frm} : Frm.mk p.fields p.pages = p := rfl

def fnm : List Str := [[97], [98], [99], [100, 97, 121], [101, 49], [102, 101, 101], [103, 111, 110, 101], [104, 111, 109, 101], [105, 116, 101, 109], [106, 111, 98]]
def Exp.zero : Exp := .mk 0 Val.zero [] []
/-- A field's formula, and the place behind it. -/
def gsrc (l : List Raw) (fs : List Field) (kind ty : Int) (r : Raw) (k : Nat) : Exp × Nat :=
  if kind = 2 then gexpr fs l 2 ty k else if kind = 3 then gexpr fs l 1 (1 + pick r.a 3) k else (Exp.zero, k)
def gfield (l : List Raw) (fs : List Field) (i k : Nat) : Field × Nat :=
  (⟨fnm.getD i [], 1 + pick (gnext l k).kind 3, 1 + pick (gnext l k).b 3, (gsrc l fs (1 + pick (gnext l k).kind 3) (1 + pick (gnext l k).b 3) (gnext l k) (gat l k)).1⟩,
    (gsrc l fs (1 + pick (gnext l k).kind 3) (1 + pick (gnext l k).b 3) (gnext l k) (gat l k)).2)
/-- So many more fields. -/
def gfields (l : List Raw) : Nat → List Field → Nat → List Field × Nat
  | 0, fs, k => (fs, k)
  | m + 1, fs, k => gfields l m (fs ++ [(gfield l fs fs.length k).1]) (gfield l fs fs.length k).2
/-- The fields of one page. -/
def pnames (n i : Nat) : Nat → List Field → List Str
  | _, [] => []
  | k, f :: r => if k % (n + 1) = i then f.name :: pnames n i (k + 1) r else pnames n i (k + 1) r
def gskip (l : List Raw) (fs : List Field) (r : Raw) (k : Nat) : Exp × Nat := if pick r.kind 2 = 0 then gexpr fs l 1 2 k else (Exp.zero, k)
def gpage (l : List Raw) (fs : List Field) (n i k : Nat) : Page × Nat :=
  (⟨[112, UInt8.ofNat (49 + i)], pnames n i 0 fs, (gskip l fs (gnext l k) (gat l k)).1⟩, (gskip l fs (gnext l k) (gat l k)).2)
def gpages (l : List Raw) (fs : List Field) (n : Nat) : Nat → List Page → Nat → List Page × Nat
  | 0, ps, k => (ps, k)
  | m + 1, ps, k => gpages l fs n m (ps ++ [(gpage l fs n ps.length k).1]) (gpage l fs n ps.length k).2
def nfields (l : List Raw) : Nat := (1 + pick (gnext l 0).a 10).toNat
def npages (l : List Raw) : Nat := (1 + pick (gnext l 0).b 4).toNat
/-- The fields, as they were made. -/
def ffields (l : List Raw) : List Field := (gfields l (nfields l) [] (gat l 0)).1
def fpages (l : List Raw) : List Page := (gpages l (ffields l) (npages l) (npages l) [] (gfields l (nfields l) [] (gat l 0)).2).1
def mkForm (l : List Raw) : Frm := ⟨if pick (gnext l 0).kind 2 = 0 then (ffields l).reverse else ffields l, fpages l⟩
theorem gsrc_at (l : List Raw) (fs : List Field) (kind ty : Int) (r : Raw) (k : Nat) : k ≤ (gsrc l fs kind ty r k).2 ∧ (gsrc l fs kind ty r k).2 ≤ k + 256 := by
  unfold gsrc
  split
  · have := gexpr_at fs l 2 ty k; omega
  · split
    · have := gexpr_at fs l 1 (1 + pick r.a 3) k; omega
    · simp only; omega
theorem gskip_at (l : List Raw) (fs : List Field) (r : Raw) (k : Nat) : k ≤ (gskip l fs r k).2 ∧ (gskip l fs r k).2 ≤ k + 256 := by
  unfold gskip
  split
  · have := gexpr_at fs l 1 2 k; omega
  · simp only; omega
theorem gfield_at (l : List Raw) (fs : List Field) (i k : Nat) : k ≤ (gfield l fs i k).2 ∧ (gfield l fs i k).2 ≤ k + 257 := by
  have h1 := gat_le l k
  have h2 := gsrc_at l fs (1 + pick (gnext l k).kind 3) (1 + pick (gnext l k).b 3) (gnext l k) (gat l k)
  unfold gfield
  simp only
  omega
theorem gpage_at (l : List Raw) (fs : List Field) (n i k : Nat) : k ≤ (gpage l fs n i k).2 ∧ (gpage l fs n i k).2 ≤ k + 257 := by
  have h1 := gat_le l k
  have h2 := gskip_at l fs (gnext l k) (gat l k)
  unfold gpage
  simp only
  omega
theorem gfields_at (l : List Raw) : ∀ (m : Nat) (fs : List Field) (k : Nat), k ≤ (gfields l m fs k).2 ∧ (gfields l m fs k).2 ≤ k + m * 257
  | 0, fs, k => by simp [gfields]
  | m + 1, fs, k => by
    have h1 := gfield_at l fs fs.length k
    have h2 := gfields_at l m (fs ++ [(gfield l fs fs.length k).1]) (gfield l fs fs.length k).2
    unfold gfields
    omega
theorem gfields_len (l : List Raw) : ∀ (m : Nat) (fs : List Field) (k : Nat), (gfields l m fs k).1.length = fs.length + m
  | 0, fs, k => by simp [gfields]
  | m + 1, fs, k => by
    have h2 := gfields_len l m (fs ++ [(gfield l fs fs.length k).1]) (gfield l fs fs.length k).2
    unfold gfields
    rw [h2]
    simp
    omega
theorem gpages_len (l : List Raw) (fs : List Field) (n : Nat) : ∀ (m : Nat) (ps : List Page) (k : Nat), (gpages l fs n m ps k).1.length = ps.length + m
  | 0, ps, k => by simp [gpages]
  | m + 1, ps, k => by
    have h2 := gpages_len l fs n m (ps ++ [(gpage l fs n ps.length k).1]) (gpage l fs n ps.length k).2
    unfold gpages
    rw [h2]
    simp
    omega
theorem pnames_len (n i : Nat) : ∀ (k : Nat) (fs : List Field), (pnames n i k fs).length ≤ fs.length
  | _, [] => Nat.le_refl _
  | k, f :: r => by
    have := pnames_len n i (k + 1) r
    unfold pnames
    split <;> simp only [List.length_cons] <;> omega
/-- Turned round, as the library does it: two at a time. -/
def turn {α : Type} : Nat → Nat → Nat → List α → List α
  | 0, _, _, xs => xs
  | m + 1, i, j, xs => match xs[i]?, xs[j]? with
    | some x, some y => if i < j then turn m (i + 1) (j - 1) ((xs.set i y).set j x) else xs
    | _, _ => xs
theorem turn_get {α : Type} : ∀ (m i j : Nat) (xs : List α) (n : Nat), n = xs.length → i + j + 1 = n → n ≤ 2 * m + 2 * i + 1 → ∀ t, t < n → (turn m i j xs)[t]? = if i ≤ t ∧ t ≤ j then xs[n - 1 - t]? else xs[t]?
  | 0, i, j, xs, n, hn, h1, h2, t, ht => by
    unfold turn
    split
    · rename_i h
      congr 1
      omega
    · rfl
  | m + 1, i, j, xs, n, hn, h1, h2, t, ht => by
    have hi : i < xs.length := by omega
    have hj : j < xs.length := by omega
    unfold turn
    rw [List.getElem?_eq_getElem hi, List.getElem?_eq_getElem hj]
    simp only
    by_cases hij : i < j
    · rw [if_pos hij, turn_get m (i + 1) (j - 1) _ n (by simp [hn]) (by omega) (by omega) t ht]
      by_cases c1 : i + 1 ≤ t ∧ t ≤ j - 1
      · rw [if_pos c1, if_pos (by omega), List.getElem?_set, List.getElem?_set, if_neg (by omega), if_neg (by omega)]
      · rw [if_neg c1]
        by_cases c2 : t = i
        · subst c2
          rw [if_pos (by omega), List.getElem?_set, if_neg (by omega), List.getElem?_set, if_pos rfl, if_pos hi, show n - 1 - t = j by omega, List.getElem?_eq_getElem hj]
        · by_cases c3 : t = j
          · subst c3
            rw [if_pos (by omega), List.getElem?_set, if_pos rfl, List.length_set, if_pos hj, show n - 1 - t = i by omega, List.getElem?_eq_getElem hi]
          · rw [if_neg (by omega), List.getElem?_set, if_neg (fun e => c3 e.symm), List.getElem?_set, if_neg (fun e => c2 e.symm)]
    · rw [if_neg hij]
      split
      · congr 1
        omega
      · rfl
theorem turn_rev {α : Type} (xs : List α) (h : xs ≠ []) : turn xs.length 0 (xs.length - 1) xs = xs.reverse := by
  have hp : 0 < xs.length := List.length_pos_iff.2 h
  apply List.ext_getElem?
  intro t
  by_cases ht : t < xs.length
  · rw [turn_get xs.length 0 (xs.length - 1) xs xs.length rfl (by omega) (by omega) t ht, if_pos (by omega), List.getElem?_reverse ht]
  · have hl : ∀ (m i j : Nat) (xs : List α), (turn m i j xs).length = xs.length := by
      intro m
      induction m with
      | zero => intro i j xs; rfl
      | succ m ih =>
        intro i j xs
        unfold turn
        split
        · split
          · rw [ih]; simp
          · rfl
        · rfl
    rw [List.getElem?_eq_none (by rw [hl]; omega), List.getElem?_eq_none (by rw [List.length_reverse]; omega)]
end Go.Proofs.Ytnombkkfijlkfaa.Am
