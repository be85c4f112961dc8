/- FormFree, walked. -/
import Derived.Test.YtfcfifohflgboaaRkL
set_option linter.unusedVariables false
set_option linter.unusedSimpArgs false
namespace Go.Proofs.Ytfcfifohflgboaa.Am
open Go Go.RowKit
theorem ty_RkM_18 : type_of% (ai (ai (ai @rs18 @lw18) (ai @dr18_6 @kp18_4)) (ai (ai @tt3 @tt4) (ai @tt9 @tt31))) := (ai (ai (ai @rs18 @lw18) (ai @dr18_6 @kp18_4)) (ai (ai @tt3 @tt4) (ai @tt9 @tt31)))
theorem ty_RkM_4 : type_of% (ai (ai (ai (ai @rs4 @lw4) (ai @dr4_17 (ai @kp4_7 @kp4_15))) (ai (ai @tt1 (ai @tt3 @tt4)) (ai @tt9 (ai @tt22 @tt23)))) (ai (ai (ai @tt24 @tt26) (ai @tt28 (ai @tt31 @tt33))) (ai (ai @tt34 (ai @tt36 @tt38)) (ai @tt48 (ai @tt50 @tt69))))) := (ai (ai (ai (ai @rs4 @lw4) (ai @dr4_17 (ai @kp4_7 @kp4_15))) (ai (ai @tt1 (ai @tt3 @tt4)) (ai @tt9 (ai @tt22 @tt23)))) (ai (ai (ai @tt24 @tt26) (ai @tt28 (ai @tt31 @tt33))) (ai (ai @tt34 (ai @tt36 @tt38)) (ai @tt48 (ai @tt50 @tt69)))))
set_option maxRecDepth 100000
set_option maxHeartbeats 40000000





theorem mem_free {ps : List Page} {s : Str} : ∀ (fs : List Field), s ∈ freeL ps fs ↔ ∃ x ∈ fs, x.name = s ∧ (pof ps x.name).2 ≠ 0
  | [] => by simp [freeL]
  | x :: r => by
    have ih := mem_free (ps := ps) (s := s) r
    unfold freeL
    split
    · rename_i c
      rw [ih]
      constructor
      · rintro ⟨y, h1, h2⟩; exact ⟨y, by simp [h1], h2⟩
      · rintro ⟨y, h1, h2, h3⟩
        rcases List.mem_cons.1 h1 with rfl | h1
        · exact absurd c h3
        · exact ⟨y, h1, h2, h3⟩
    · rename_i c
      rw [List.mem_cons, ih]
      constructor
      · rintro (rfl | ⟨y, h1, h2⟩)
        · exact ⟨x, by simp, rfl, c⟩
        · exact ⟨y, by simp [h1], h2⟩
      · rintro ⟨y, h1, h2, h3⟩
        rcases List.mem_cons.1 h1 with rfl | h1
        · exact .inl h2.symm
        · exact .inr ⟨y, h1, h2, h3⟩
theorem any_free {ps : List Page} {fs : List Field} {x : Field} (hx : x ∈ fs) : ((freeL ps fs).any fun z => x.name == z) = !((pof ps x.name).2 == 0) := by
  by_cases c : (pof ps x.name).2 = 0
  · rw [c]
    refine List.any_eq_false.2 (fun z hz => ?_)
    obtain ⟨y, h1, h2, h3⟩ := (mem_free fs).1 hz
    intro e
    have e2 : x.name = z := by simpa using e
    rw [h2, ← e2] at h3
    exact h3 c
  · have h : x.name ∈ freeL ps fs := (mem_free fs).2 ⟨x, hx, rfl, c⟩
    have e : ((pof ps x.name).2 == 0) = false := beq_eq_false_iff_ne.2 c
    rw [e]
    exact List.any_eq_true.2 ⟨x.name, h, by simp⟩
theorem mem_in {j : Int} : ∀ (fs : List Field) (k : Nat), j ∈ inL k fs ↔ ∃ i x, fs[i]? = some x ∧ j = ((k + i : Nat) : Int) ∧ x.kind = 1
  | [], k => by simp [inL]
  | x :: r, k => by
    have ih := mem_in (j := j) r (k + 1)
    have hr : (∃ i y, r[i]? = some y ∧ j = ((k + 1 + i : Nat) : Int) ∧ y.kind = 1) → ∃ i y, (x :: r)[i]? = some y ∧ j = ((k + i : Nat) : Int) ∧ y.kind = 1 := by
      rintro ⟨i, y, h1, h2, h3⟩
      exact ⟨i + 1, y, by simpa using h1, by rw [h2]; congr 1; omega, h3⟩
    have hr2 : (∃ i y, (x :: r)[i]? = some y ∧ j = ((k + i : Nat) : Int) ∧ y.kind = 1) → (j = (k : Int) ∧ x.kind = 1) ∨ ∃ i y, r[i]? = some y ∧ j = ((k + 1 + i : Nat) : Int) ∧ y.kind = 1 := by
      rintro ⟨i, y, h1, h2, h3⟩
      cases i with
      | zero =>
        obtain rfl : x = y := by simpa using h1
        exact .inl ⟨h2, h3⟩
      | succ i => exact .inr ⟨i, y, by simpa using h1, by rw [h2]; congr 1; omega, h3⟩
    unfold inL
    split
    · rename_i c
      rw [List.mem_cons, ih]
      constructor
      · rintro (h | h)
        · exact ⟨0, x, rfl, h, c⟩
        · exact hr h
      · intro h
        rcases hr2 h with h | h
        · exact .inl h.1
        · exact .inr h
    · rename_i c
      rw [ih]
      constructor
      · exact hr
      · intro h
        rcases hr2 h with h | h
        · exact absurd h.2 c
        · exact h
theorem any_in {fs : List Field} {i : Nat} {x : Field} (hx : fs[i]? = some x) : ((inL 0 fs).any fun z => (i : Int) == z) = (x.kind == 1) := by
  by_cases c : x.kind = 1
  · have e : (x.kind == 1) = true := by rw [c]; rfl
    rw [e]
    exact List.any_eq_true.2 ⟨i, (mem_in fs 0).2 ⟨i, x, hx, by rw [Nat.zero_add], c⟩, by simp⟩
  · have e : (x.kind == 1) = false := beq_eq_false_iff_ne.2 c
    rw [e]
    refine List.any_eq_false.2 (fun z hz => ?_)
    obtain ⟨k, y, h1, h2, h3⟩ := (mem_in fs 0).1 hz
    intro e2
    have e3 : (i : Int) = z := by simpa using e2
    have e4 : i = k := by omega
    subst e4
    rw [hx] at h1
    cases h1
    exact c h3
theorem inL_len : ∀ (k : Nat) (fs : List Field), (inL k fs).length ≤ fs.length
  | _, [] => Nat.le_refl _
  | k, x :: r => by
    have := inL_len (k + 1) r
    unfold inL
    split <;> simp only [List.length_cons] <;> omega
theorem freeL_len (ps : List Page) : ∀ fs : List Field, (freeL ps fs).length ≤ fs.length
  | [] => Nat.le_refl _
  | x :: r => by
    have := freeL_len ps r
    unfold freeL
    split <;> simp only [List.length_cons] <;> omega
theorem small_free : freeL smallF.pages smallF.fields = [[98]] := by decide
theorem ca_eqB {d dst : Nat} {S : St} : callA tab (callR tab) d dst 18 [.d (.sl 1 [.str [98]]), .own 1 [.str [98]] none] S = some (.d (.bool true), S) := by
  refine ca_ret (ds := [.sl 1 [.str [98]], .sl 1 [.str [98]]]) ?_ rfl (tab_opn (by kernel_rfl)) (tab_res (by kernel_rfl))
  refine ret_of 3 fn18 rfl rfl ?_
  simp only [amr, amc, amp, amz, seval, ty_RkM_18, cx_loop, clp_s, nameOf, (show IntKind.i64.wrap 0 = 0 from rfl), (show IntKind.i64.wrap 1 = 1 from rfl), (show IntKind.i64.wrap 2 = 2 from rfl), (show IntKind.i64.wrap 3 = 3 from rfl), (show IntKind.i64.wrap 4 = 4 from rfl), (show IntKind.i64.wrap 5 = 5 from rfl), (show IntKind.i64.wrap 6 = 6 from rfl), (show IntKind.i64.wrap 7 = 7 from rfl), (show IntKind.i64.wrap 8 = 8 from rfl), (show IntKind.i64.wrap 9 = 9 from rfl), (show IntKind.i64.wrap 10 = 10 from rfl), (show IntKind.i64.wrap 11 = 11 from rfl), (show IntKind.i64.wrap 12 = 12 from rfl), (show IntKind.i64.wrap 13 = 13 from rfl), (show IntKind.i64.wrap 14 = 14 from rfl), (show (([98] : Str) == [98]) = true from rfl), Bool.not_true, bne_self_eq_false]
theorem ret_FormFree (l : List Raw) (hl : l.length ≤ 9223372036854775807) (hr : ∀ r ∈ l, r.ok) : ∃ x H', stepA tab (callZ zR 64 20) 64 0 4 ([.sl 4 (l.map Raw.dv)].map AV.d) [] [] = some (x, H') ∧ x = .d (.bool true) := by
  have hk : FrOk (mkForm l) := frok hr
  have fF := fun (S : St) (d dst : Nat) => (ca_Z (Z := zR) (N := 64) (k := 20) (by decide) (by decide)).trans (ca_Form (d := d) (dst := dst) (S := S) l hl hr)
  have fS := fun (S : St) (d dst : Nat) => (ca_Z (Z := zR) (N := 64) (k := 20) (by decide) (by decide)).trans (ca_small (d := d) (dst := dst) (S := S))
  have fA := fun (S : St) (d dst : Nat) => ca_retZT (d := d) (dst := dst) (S := S) (args := [.d (mkForm l).dv]) (ds := [(mkForm l).dv]) (by decide) (ret_Free 15 (mkForm l) hk) rfl (tab_opn (by kernel_rfl)) (tab_res (by kernel_rfl))
  have fB := fun (S : St) (d dst : Nat) => ca_retZT (d := d) (dst := dst) (S := S) (args := [.d smallF.dv]) (ds := [smallF.dv]) (by decide) (ret_Free 15 smallF ⟨small_ok, small_pg⟩) rfl (tab_opn (by kernel_rfl)) (tab_res (by kernel_rfl))
  have fI := fun (S : St) (d dst : Nat) => ca_retZT (d := d) (dst := dst) (S := S) (args := [.d (mkForm l).dv]) (ds := [(mkForm l).dv]) (by decide) (ret_InputsS 15 (mkForm l) hk) rfl (tab_opn (by kernel_rfl)) (tab_res (by kernel_rfl))
  have fQ := fun (S : St) (d dst : Nat) => (ca_Z (Z := zR) (N := 64) (k := 20) (by decide) (by decide)).trans (ca_eqB (d := d) (dst := dst) (S := S))
  rw [small_free] at fB
  simp only [List.map_cons, List.map_nil] at fB
  generalize smallF.dv = sd at *
  rw [Frm.dv_eq] at fF fA fI
  generalize (mkForm l) = f at *
  have hl2 := hk.p.l2
  have hl14 := hk.r.ok.len
  have hpf : ∀ p ∈ f.pages, p.fields.length ≤ 1048576 := fun p hp => by
    have h1 := hk.p.ft
    have h2 : p.fields.length ≤ (f.pages.flatMap Page.fields).length := by
      obtain ⟨s, t, e⟩ := List.append_of_mem hp
      rw [e, List.flatMap_append, List.flatMap_cons]
      simp only [List.length_append]
      omega
    omega
  have fO := fun (s : Str) (S : St) (d dst : Nat) => (ca_Z (Z := zR) (N := 64) (k := 20) (by decide) (by decide)).trans (ca_pof (d := d) (dst := dst) (S := S) f.pages s (by omega) hpf)
  have fC := fun (s : Str) (S : St) (d dst : Nat) => (ca_Z (Z := zR) (N := 64) (k := 20) (by decide) (by decide)).trans (ca_conS (d := d) (dst := dst) (S := S) (freeL f.pages f.fields) s (by have := freeL_len f.pages f.fields; omega))
  have fD := fun (s : Int) (S : St) (d dst : Nat) => (ca_Z (Z := zR) (N := 64) (k := 20) (by decide) (by decide)).trans (ca_conI (d := d) (dst := dst) (S := S) (inL 0 f.fields) s (by have := inL_len 0 f.fields; omega))
  have hfree := fun (x : Field) (hx : x ∈ f.fields) => any_free (ps := f.pages) hx
  have hin := fun (i : Nat) (x : Field) (hx : f.fields[i]? = some x) => any_in hx
  unfold intD at fI
  generalize hfs : f.fields = fs at *
  generalize (freeL f.pages fs).map DV.str = frd at *
  generalize (inL 0 fs).map (DV.int .i64) = ind at *
  have hln2 : (fs.map Field.dv).length = fs.length := by simp
  have hfg : ∀ (k : Nat) (x : Field), fs[k]? = some x → (fs.map Field.dv)[k]? = some x.dv := fun k x h => by rw [List.getElem?_map, h]; rfl
  generalize fs.map Field.dv = fd at *
  generalize f.pages.map Page.dv = pd at *
  refine stepq_good fn4 rfl rfl ?_
  simp only [amr, amc, amp, amz, seval, ty_RkM_4, fF, fS, fA, fB, fQ, hln2, bne_self_eq_false]
  refine good_range fs (fun k (_ : Unit) g => ⟨[(3, .ptr ⟨0, 3, [0]⟩ 0), (4, .d (.sl 1 frd)), (41, .d (.sl 9 fd)), (42, .d (.int .i64 fs.length)), (43, .d (.int .i64 (k : Nat)))], [(⟨0, 3, [0]⟩, .box [.d (.sl 9 fd), .d (.sl 8 pd)])], g⟩) (fun _ _ => True) (fun _ _ _ => ())
    (QX (.exit 0) (fun _ g => ⟨[(3, .ptr ⟨0, 3, [0]⟩ 0)], [(⟨0, 3, [0]⟩, .box [.d (.sl 9 fd), .d (.sl 8 pd)])], g⟩)) () kp4_7 up_qx trivial (by omega) (by omega) ?_ ?_ ?_ ?_
  · rintro i a g x rest hi hget hdr _ hb w1
    have hget' := hfg i x hget
    rw [Field.dv_eq x] at hget'
    have fO' := fO x.name
    have fC' := fC x.name
    rw [hfree x (List.mem_of_getElem? hget)] at fC'
    generalize pof f.pages x.name = q at *
    have hq : ((q.2 == 0) == !(q.2 == 0)) = false := by cases (q.2 == 0) <;> rfl
    simp only [amr, amc, amp, amz, seval, ty_RkM_4, hb, hget', w1, fO', fC', hq]
    refine step_nrm () trivial rfl ?_
    (apply Exists.intro; (try simp only [amr, amc, amp, amz, seval]); exact sub_mk (by repeat first | exact subT_nil | refine subT_cons (by first | rfl | simp [Tm.get, *]) ?_))
  · intro a g _ hb
    simp only [amr, amc, amp, amz, seval, ty_RkM_4, hb]
    refine last_end (by simp) ⟨rfl, ?_⟩
    (apply Exists.intro; (try simp only [amr, amc, amp, amz, seval]); exact sub_mk (by repeat first | exact subT_nil | refine subT_cons (by first | rfl | simp [Tm.get, *]) ?_))
  · (apply Exists.intro; (try simp only [amr, amc, amp, amz, seval]); exact sub_mk (by repeat first | exact subT_nil | refine subT_cons (by first | rfl | simp [Tm.get, *]) ?_))
  · rintro o S' ⟨rfl, g, hs⟩
    refine good_sub_cr up_finq hs ?_
    simp only [amr, amc, amp, amz, seval, ty_RkM_4, fI, hln2]
    refine good_range fs (fun k (_ : Unit) g => ⟨[(12, .d (.sl 1 ind)), (13, .d (.int .i64 0)), (69, .d (.sl 9 fd)), (70, .d (.int .i64 fs.length)), (71, .d (.int .i64 (k : Nat)))], [(⟨0, 3, [0]⟩, .box [.d (.sl 9 fd), .d (.sl 8 pd)])], g⟩) (fun _ _ => True) (fun _ _ _ => ())
      (QX (.exit 2) (fun _ g => ⟨[(13, .d (.int .i64 0))], [(⟨0, 3, [0]⟩, .box [.d (.sl 9 fd), .d (.sl 8 pd)])], g⟩)) () kp4_15 up_qx trivial (by omega) (by omega) ?_ ?_ ?_ ?_
    · rintro i a g x rest hi hget hdr _ hb w1
      have hget' := hfg i x hget
      rw [Field.dv_eq x] at hget'
      have fD' := fD (i : Int)
      rw [hin i x hget] at fD'
      have hq : ((x.kind == 1) != (x.kind == 1)) = false := by simp
      have hx0 : (List.drop (g.length - (g.length + 1)) (0 :: g) = 4 :: 1 :: g) = False := eq_false (by rw [show g.length - (g.length + 1) = 0 by omega]; simp)
      have hq2 : ((x.kind == 1) == (x.kind == 1)) = true := by simp
      simp only [amr, amc, amp, amz, seval, ty_RkM_4, hb, hget', w1, fD', hq, hq2, hx0, Bool.not_true, decide_false, Bool.not_false]
      refine step_nrm () trivial rfl ?_
      (apply Exists.intro; (try simp only [amr, amc, amp, amz, seval]); exact sub_mk (by repeat first | exact subT_nil | refine subT_cons (by first | rfl | simp [Tm.get, *]) ?_))
    · intro a g _ hb
      simp only [amr, amc, amp, amz, seval, ty_RkM_4, hb]
      refine last_end (by simp) ⟨rfl, ?_⟩
      (apply Exists.intro; (try simp only [amr, amc, amp, amz, seval]); exact sub_mk (by repeat first | exact subT_nil | refine subT_cons (by first | rfl | simp [Tm.get, *]) ?_))
    · (apply Exists.intro; (try simp only [amr, amc, amp, amz, seval]); exact sub_mk (by repeat first | exact subT_nil | refine subT_cons (by first | rfl | simp [Tm.get, *]) ?_))
    · rintro o S' ⟨rfl, g, hs⟩
      refine good_sub_cr up_finq hs ?_
      simp only [amr, amc, amp, amz, seval, ty_RkM_4, beq_self_eq_true]
end Go.Proofs.Ytfcfifohflgboaa.Am
