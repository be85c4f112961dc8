/- Lists of raw things, as a statement hands them in. -/
import Derived.Test.YtfcfifohflgboaaRowKit
import Derived.Test.YtfcfifohflgboaaRows
import Derived.JoinedCond
set_option linter.unusedVariables false
set_option linter.unusedSimpArgs false
namespace Go.Proofs.Ytfcfifohflgboaa.Am
set_option maxRecDepth 100000
open Go Go.RowKit Go.ChangeShapes Go.WideShapes Go.ChangeAt

theorem exists_list {α : Type} (Q : Nat → α → Prop) : ∀ (n : Nat), (∀ i, i < n → ∃ r, Q i r) → ∃ l : List α, l.length = n ∧ ∀ (i : Nat) r, l[i]? = some r → Q i r
  | 0, _ => ⟨[], rfl, fun i r h => by simp at h⟩
  | n + 1, h => by
    obtain ⟨l, hl, hq⟩ := exists_list Q n fun i hi => h i (by omega)
    obtain ⟨r, hr⟩ := h n (by omega)
    refine ⟨l ++ [r], by simp [hl], fun i s hs => ?_⟩
    by_cases hi : i < n
    · rw [List.getElem?_append_left (by omega)] at hs
      exact hq i s hs
    · rw [List.getElem?_append_right (by omega)] at hs
      have : i = n := by
        have := (List.getElem?_eq_some_iff.1 hs).1
        simp at this
        omega
      subst this
      rw [hl] at hs
      simp at hs
      subst hs
      exact hr
section
variable {H : Type} {enc : TypeId × Value → H} {W : World}
theorem bulk_one_le (d : DataW H) : 1 ≤ Rows.uptoBulk d := by
  cases d with
  | lit l => cases l <;> simp [Rows.uptoBulk]
  | nil => simp [Rows.uptoBulk]
  | ptr d => simp [Rows.uptoBulk]
  | slice elems spare => simp [Rows.uptoBulk]
  | agg parts => simp [Rows.uptoBulk]
  | iface t d => simp [Rows.uptoBulk]
  | map entries => simp [Rows.uptoBulk]
  | held h => simp [Rows.uptoBulk]
theorem bulk_length_le (l : List (DataW H)) : l.length ≤ Rows.uptoBulkAll l := by
  induction l with
  | nil => simp [Rows.uptoBulkAll]
  | cons x r ih => have := bulk_one_le x; simp only [Rows.uptoBulkAll, List.length_cons]; omega
theorem bulk_slice_le (elems spare : List (DataW H)) : elems.length + spare.length + 1 ≤ Rows.uptoBulk (.slice elems spare) := by
  have h1 := bulk_length_le elems
  have h2 := bulk_length_le spare
  simp only [Rows.uptoBulk]
  omega
theorem open_raws {v : Value} {A : Option Addr} {n c : Nat} (hv : v = .slice A n c) {d : DataW H} {ps : List MemPlace} (h : DataW.Trod enc Try.prog W 0 (fun _ => true) true 22 v d ps) :
    ∃ rs : List RawB, RepD W (fun _ _ => True) v (.sl 4 (rs.map fun r => r.raw.dv)) ∧ (∀ r ∈ rs, r.raw.ok) ∧ rs.length ≤ 9223372036854775807 ∧ rs.length ≤ Rows.uptoBulk d ∧ (rs = [] ∨ ∃ elems spare, d = .slice elems spare ∧ rs.length ≤ elems.length) := by
  subst hv
  obtain ⟨fuel, h⟩ := h
  have hc4 : Try.prog.cellsOf 69 = 4 := by kernel_rfl
  rcases DataW.trod_slice Try.underlying22 h with ⟨h1, h2⟩ | ⟨a, len, cap, elems, rest, k, _, h1, h2, _, hlc, hcm, hel, hi, _, _⟩
  · have h1' : Value.slice A n c = .slice none 0 0 := by simpa [Value.cells] using h1
    injection h1' with e1 e2 e3
    subst e1; subst e2; subst e3
    exact ⟨[], .sl none 0 0 4 [] (fun _ => .bool true) rfl (Nat.le_refl _) (Nat.zero_le _) (fun i x hx => by simp at hx) (fun i x hx => by simp at hx), fun r hr => by simp at hr, by simp, by simp, .inl rfl⟩
  · have h1' : Value.slice A n c = .slice (some a) len cap := by simpa [Value.cells] using h1
    injection h1' with e1 e2 e3
    subst e1; subst e2; subst e3
    injection h2 with e4 e5
    subst e4
    rw [hc4] at hi
    have hmax : c ≤ 9223372036854775807 := by simpa [maxLen] using hcm
    have hsp0 : 0 < n → a.spot = none := fun h0n => by
      have hx := hi 0 h0n
      rw [List.getElem?_eq_getElem (by omega)] at hx
      obtain ⟨cs, hcs, _⟩ := Option.bind_eq_some_iff.1 hx
      obtain ⟨_, hl4, hcell⟩ := World.cells?_some hcs
      have h0 := hcell 0 (by omega)
      rw [List.getElem?_eq_getElem (by omega)] at h0
      simpa [Addr.add] using World.cell?_spot h0
    obtain ⟨rs, hrl, hrq⟩ := exists_list (fun i (r : RawB) => a.spot = none ∧ r.raw.ok ∧ ∀ j u, r.val.cells[j]? = some u → W.cell? ⟨a.block, a.off + i * 4 + j, none⟩ = some u) n (fun i hil => by
      have hx := hi i hil
      rw [List.getElem?_eq_getElem (by omega)] at hx
      obtain ⟨cs, hcs, ht⟩ := Option.bind_eq_some_iff.1 hx
      obtain ⟨r, hr, hok⟩ := open_raw_cells ht
      obtain ⟨_, hl4, hcell⟩ := World.cells?_some hcs
      have hsp : a.spot = none := hsp0 (by omega)
      refine ⟨r, hsp, hok, fun j u hu => ?_⟩
      have hj : j < 4 := by
        have := (Array.getElem?_eq_some_iff.1 hu).1
        simpa [RawB.val, Value.cells] using this
      have h0 := hcell j hj
      rw [hr] at h0
      have e : (a.add (i * 4)).add j = ⟨a.block, a.off + i * 4 + j, none⟩ := by
        obtain ⟨ab, ao, sp⟩ := a
        simp only at hsp
        subst hsp
        rw [Addr.add_lit, Addr.add_lit]
      rw [e] at h0
      rw [h0]
      simpa using hu)
    refine ⟨rs, .sl (some a) n c 4 _ (fun i => match rs[i]? with | some r => r.val | none => .bool true) (by simp [hrl]) hlc (by omega) (fun i x hx => ?_) (fun i x hx => ?_), fun r hr => ?_, by omega, ?_, .inr ⟨_, _, rfl, by rw [List.length_map]; omega⟩⟩
    · simp only [List.getElem?_map, Option.map_eq_some_iff] at hx
      obtain ⟨r, hr, rfl⟩ := hx
      obtain ⟨hsp, _, hcell⟩ := hrq i r hr
      refine ⟨rfl, a.block, a.off, by cases a; simp_all, fun j u hu => ?_⟩
      rw [hr] at hu
      exact ⟨hcell j u hu, trivial⟩
    · simp only [List.getElem?_map, Option.map_eq_some_iff] at hx
      obtain ⟨r, hr, rfl⟩ := hx
      rw [hr]
      exact RawB.rep r _
    · obtain ⟨i, hi'⟩ := List.getElem?_of_mem hr
      exact (hrq i r hi').2.1
    · have := bulk_slice_le (elems.map (·.1)) (rest.map (·.1))
      simp only [List.length_map] at this
      omega
theorem open_rawl {v : Value} {A : Option Addr} {n c : Nat} (hv : v = .slice A n c) {d : DataW H} {ps : List MemPlace} (h : DataW.Trod enc Try.prog W 0 (fun _ => true) true 22 v d ps) :
    ∃ rs : List Raw, RepD W (fun _ _ => True) v (.sl 4 (rs.map Raw.dv)) ∧ (∀ r ∈ rs, r.ok) ∧ rs.length ≤ 9223372036854775807 ∧ rs.length ≤ Rows.uptoBulk d ∧ (rs = [] ∨ ∃ elems spare, d = .slice elems spare ∧ rs.length ≤ elems.length) := by
  obtain ⟨rs, h1, h2, h3, h4, h5⟩ := open_raws hv h
  refine ⟨rs.map RawB.raw, by rw [List.map_map]; exact h1, fun r hr => ?_, by simpa using h3, by simpa using h4, ?_⟩
  rotate_left
  · rcases h5 with rfl | ⟨elems, spare, h6, h7⟩
    · exact .inl rfl
    · exact .inr ⟨elems, spare, h6, by simpa using h7⟩
  obtain ⟨x, hx, rfl⟩ := List.mem_map.1 hr
  exact h2 x hx
end
end Go.Proofs.Ytfcfifohflgboaa.Am
