/- sheet.Check, Free, Inputs: walked. -/
import Derived.Test.YtfcfifohflgboaaRkK
set_option linter.unusedVariables false
set_option linter.unusedSimpArgs false
namespace Go.Proofs.Ytfcfifohflgboaa.Am
open Go Go.RowKit
theorem ty_RkL_43 : type_of% (ai (ai (ai (ai @rs43 @lw43) (ai @ro26_1_sheet_go_14 @tt1)) (ai (ai @tt2 @tt3) (ai @tt4 (ai @tt9 @tt23)))) (ai (ai (ai @tt24 @tt26) (ai @tt28 (ai @tt31 @tt33))) (ai (ai @tt34 @tt36) (ai @tt38 (ai @tt48 @tt50))))) := (ai (ai (ai (ai @rs43 @lw43) (ai @ro26_1_sheet_go_14 @tt1)) (ai (ai @tt2 @tt3) (ai @tt4 (ai @tt9 @tt23)))) (ai (ai (ai @tt24 @tt26) (ai @tt28 (ai @tt31 @tt33))) (ai (ai @tt34 @tt36) (ai @tt38 (ai @tt48 @tt50)))))
theorem ty_RkL_17 : type_of% (ai (ai (ai (ai @rs17 @lw17) (ai @ro26_1_sheet_go_36 @mu31_36)) (ai (ai @kp17_6 @tt1) (ai @tt3 (ai @tt4 @tt9)))) (ai (ai (ai @tt23 @tt24) (ai @tt26 (ai @tt28 @tt31))) (ai (ai @tt33 @tt34) (ai @tt36 (ai @tt38 @tt48))))) := (ai (ai (ai (ai @rs17 @lw17) (ai @ro26_1_sheet_go_36 @mu31_36)) (ai (ai @kp17_6 @tt1) (ai @tt3 (ai @tt4 @tt9)))) (ai (ai (ai @tt23 @tt24) (ai @tt26 (ai @tt28 @tt31))) (ai (ai @tt33 @tt34) (ai @tt36 (ai @tt38 @tt48)))))
theorem ty_RkL_20 : type_of% (ai (ai (ai (ai @rs20 @lw20) (ai @ro26_1_sheet_go_22 (ai @mu50_27 @kp20_6))) (ai (ai @tt1 @tt3) (ai @tt4 (ai @tt9 @tt23)))) (ai (ai (ai @tt24 @tt26) (ai @tt28 (ai @tt31 @tt33))) (ai (ai @tt34 @tt36) (ai @tt38 (ai @tt48 @tt50))))) := (ai (ai (ai (ai @rs20 @lw20) (ai @ro26_1_sheet_go_22 (ai @mu50_27 @kp20_6))) (ai (ai @tt1 @tt3) (ai @tt4 (ai @tt9 @tt23)))) (ai (ai (ai @tt24 @tt26) (ai @tt28 (ai @tt31 @tt33))) (ai (ai @tt34 @tt36) (ai @tt38 (ai @tt48 @tt50)))))
set_option maxRecDepth 100000
set_option maxHeartbeats 40000000





structure FrOk (f : Frm) : Prop where
  r : RkFs f.fields
  p : PgFs f.fields f.pages
theorem frok {l : List Raw} (hr : ∀ r ∈ l, r.ok) : FrOk (mkForm l) := ⟨rkfs hr, pgfs hr⟩
theorem Frm.dv_eq (f : Frm) : f.dv = .agg [.sl 9 (f.fields.map Field.dv), .sl 8 (f.pages.map Page.dv)] := rfl
theorem ret_CheckS (k : Nat) (f : Frm) (h : FrOk f) : RetZ zR 64 (k + 3) 43 [.d f.dv] (.int .i64 0) := by
  have f1 := fun (S : St) (d dst : Nat) => ca_retZT (d := d) (dst := dst) (S := S) (args := [.d (.sl 9 (f.fields.map Field.dv))]) (ds := [.sl 9 (f.fields.map Field.dv)]) (by decide) (ret_OfR k f.fields h.r) rfl (tab_opn (by kernel_rfl)) (tab_res (by kernel_rfl))
  have f2 := fun (S : St) (d dst : Nat) => (ca_Z (Z := zR) (N := 64) (k := k + 3) (by decide) (by decide)).trans (ca_CheckP (d := d) (dst := dst) (S := S) f.fields f.pages h.r.ok h.p)
  rw [Frm.dv_eq f]
  generalize f.fields.map Field.dv = fd at *
  generalize f.pages.map Page.dv = pd at *
  refine stepq_good fn43 rfl rfl ?_
  simp only [amr, amc, amp, amz, seval, ty_RkL_43, f1, f2, bne_self_eq_false]
structure FeS (α : Type) where
  acc : List α
  t : Option (List Nat)
  g : List Nat
def freeL (ps : List Page) : List Field → List Str
  | [] => []
  | x :: r => if (pof ps x.name).2 = 0 then freeL ps r else x.name :: freeL ps r
def inL : Nat → List Field → List Int
  | _, [] => []
  | k, x :: r => if x.kind = 1 then (k : Int) :: inL (k + 1) r else inL (k + 1) r
theorem ret_Free (k : Nat) (f : Frm) (h : FrOk f) : RetZT zR 64 (k + 4) 17 [.d f.dv] [.sl 1 ((freeL f.pages f.fields).map DV.str), .int .i64 0] := by
  have f1 := fun (S : St) (d dst : Nat) => ca_retZ (d := d) (dst := dst) (S := S) (args := [.d f.dv]) (ds := [f.dv]) (by decide) (ret_CheckS k f h) rfl (tab_opn (by kernel_rfl)) (tab_res (by kernel_rfl))
  have hl2 := h.p.l2
  have hl14 := h.r.ok.len
  have hpf : ∀ p ∈ f.pages, p.fields.length ≤ 1048576 := fun p hp => by
    have h1 := h.p.ft
    have h2 : p.fields.length ≤ (f.pages.flatMap Page.fields).length := by
      obtain ⟨s, t, e⟩ := List.append_of_mem hp
      rw [e, List.flatMap_append, List.flatMap_cons]
      simp only [List.length_append]
      omega
    omega
  have f2 := fun (s : Str) (S : St) (d dst : Nat) => (ca_Z (Z := zR) (N := 64) (k := k + 4) (by decide) (by decide)).trans (ca_pof (d := d) (dst := dst) (S := S) f.pages s (by omega) hpf)
  rw [Frm.dv_eq f] at f1 ⊢
  generalize f.fields = fs at *
  generalize f.pages.map Page.dv = pd at *
  have hln2 : (fs.map Field.dv).length = fs.length := by simp
  have hfg : ∀ (k : Nat) (x : Field), fs[k]? = some x → (fs.map Field.dv)[k]? = some x.dv := fun k x h => by rw [List.getElem?_map, h]; rfl
  generalize fs.map Field.dv = fd at *
  refine stepq_good fn17 rfl rfl ?_
  simp only [amr, amc, amp, amz, seval, ty_RkL_17, f1, hln2, bne_self_eq_false]
  refine good_range fs (fun k (a : FeS Str) _ => ⟨[(1, .d (.rp [.sl 9 fd, .sl 8 pd])), (5, .own 1 (a.acc.map DV.str) (tokD 0 36 a.t)), (16, .d (.sl 9 fd)), (17, .d (.int .i64 fs.length)), (18, .d (.int .i64 (k : Nat)))], tokP 0 36 (a.acc.length * 1) a.t, a.g⟩)
    (fun k a => a.acc.length ≤ k) (fun k a r => a.acc ++ freeL f.pages r)
    (fun (o : List Str) (q : Out) (S : St) => q = .exit 0 ∧ ∃ t g, Sub ⟨[(5, .own 1 (o.map DV.str) (tokD 0 36 t))], tokP 0 36 (o.length * 1) t, g⟩ S)
    ⟨[], none, []⟩ kp17_6 (fun _ => up_tok) (Nat.le_refl _) (by omega) (by omega) ?_ ?_ ?_ ?_
  · rintro j ⟨acc, t, g⟩ _ x rest hj hget hd hI hb w1
    simp only at hI
    have hget' := hfg j x hget
    rw [Field.dv_eq x] at hget'
    have hA : ((acc.length + 1) * 16 ≤ 140737488355328) = True := eq_true (by omega)
    have f3 := f2 x.name
    by_cases c : (pof f.pages x.name).2 = 0
    · have b1 : ((pof f.pages x.name).2 != 0) = false := by rw [c]; rfl
      have hS : acc ++ freeL f.pages (x :: rest) = acc ++ freeL f.pages rest := by rw [freeL, if_pos c]
      generalize pof f.pages x.name = q at *
      rcases t with _ | t
      · simp only [amr, amc, amp, amz, seval, ty_RkL_17, hb, hget', w1, f3, b1, tokD, tokP]
        refine step_nrm (FeS.mk acc none (1 :: g)) (by show acc.length ≤ j + 1; omega) hS ?_
        (refine ⟨[], ?_⟩; (try simp only [amr, amc, amp, amz, seval, tokD, tokP]); exact sub_mk (by repeat first | exact subT_nil | refine subT_cons (by first | rfl | simp [Tm.get, *]) ?_))
      · simp only [amr, amc, amp, amz, seval, ty_RkL_17, hb, hget', w1, f3, b1, tokD, tokP]
        refine step_nrm (FeS.mk acc (some t) (1 :: g)) (by show acc.length ≤ j + 1; omega) hS ?_
        (refine ⟨[], ?_⟩; (try simp only [amr, amc, amp, amz, seval, tokD, tokP]); exact sub_mk (by repeat first | exact subT_nil | refine subT_cons (by first | rfl | simp [Tm.get, *]) ?_))
    · have b1 : ((pof f.pages x.name).2 != 0) = true := by simp [c]
      have hS : acc ++ freeL f.pages (x :: rest) = (acc ++ [x.name]) ++ freeL f.pages rest := by rw [freeL, if_neg c]; simp
      generalize pof f.pages x.name = q at *
      rcases t with _ | t
      · simp only [amr, amc, amp, amz, seval, ty_RkL_17, hb, hget', w1, f3, b1, hA, tokD, tokP]
        refine step_nrm (FeS.mk (acc ++ [x.name]) (some (1 :: g)) (1 :: 1 :: g)) (by show (acc ++ [x.name]).length ≤ j + 1; simp; omega) hS ?_
        (refine ⟨[], ?_⟩; (try simp only [amr, amc, amp, amz, seval, tokD, tokP]); exact sub_mk (by repeat first | exact subT_nil | refine subT_cons (by first | rfl | simp [Tm.get, *]) ?_))
      · simp only [amr, amc, amp, amz, seval, ty_RkL_17, hb, hget', w1, f3, b1, hA, tokD, tokP]
        refine step_nrm (FeS.mk (acc ++ [x.name]) (some t) (1 :: g)) (by show (acc ++ [x.name]).length ≤ j + 1; simp; omega) hS ?_
        (refine ⟨[], ?_⟩; (try simp only [amr, amc, amp, amz, seval, tokD, tokP]); exact sub_mk (by repeat first | exact subT_nil | refine subT_cons (by first | rfl | simp [Tm.get, *]) ?_))
  · rintro ⟨acc, t, g⟩ _ hI hb
    simp only [amr, amc, amp, amz, seval, ty_RkL_17, hb]
    refine last_end (by simp) ⟨rfl, t, g, ?_⟩
    simp only [freeL, List.append_nil]
    exact sub_mk (by repeat first | exact subT_nil | refine subT_cons (by first | rfl | simp [Tm.get, *]) ?_)
  · (refine ⟨[], ?_⟩; (try simp only [amr, amc, amp, amz, seval, tokD, tokP]); exact sub_mk (by repeat first | exact subT_nil | refine subT_cons (by first | rfl | simp [Tm.get, *]) ?_))
  · rintro o S' ⟨rfl, t, g, hs⟩
    refine good_sub_cr up_finq hs ?_
    simp only [List.nil_append]
    generalize freeL f.pages fs = R at *
    rcases t with _ | t
    · simp only [amr, amc, amp, amz, seval, ty_RkL_17, tokD, tokP]
    · simp only [amr, amc, amp, amz, seval, ty_RkL_17, tokD, tokP]
theorem ret_InputsS (k : Nat) (f : Frm) (h : FrOk f) : RetZT zR 64 (k + 4) 20 [.d f.dv] [intD (inL 0 f.fields), .int .i64 0] := by
  have f1 := fun (S : St) (d dst : Nat) => ca_retZ (d := d) (dst := dst) (S := S) (args := [.d f.dv]) (ds := [f.dv]) (by decide) (ret_CheckS k f h) rfl (tab_opn (by kernel_rfl)) (tab_res (by kernel_rfl))
  have hl14 := h.r.ok.len
  rw [Frm.dv_eq f] at f1 ⊢
  generalize f.fields = fs at *
  generalize f.pages.map Page.dv = pd at *
  have hln2 : (fs.map Field.dv).length = fs.length := by simp
  have hfg : ∀ (k : Nat) (x : Field), fs[k]? = some x → (fs.map Field.dv)[k]? = some x.dv := fun k x h => by rw [List.getElem?_map, h]; rfl
  generalize fs.map Field.dv = fd at *
  unfold intD
  refine stepq_good fn20 rfl rfl ?_
  simp only [amr, amc, amp, amz, seval, ty_RkL_20, f1, hln2, bne_self_eq_false]
  refine good_range fs (fun k (a : FeS Int) _ => ⟨[(5, .own 1 (a.acc.map (DV.int .i64)) (tokD 0 27 a.t)), (14, .d (.sl 9 fd)), (15, .d (.int .i64 fs.length)), (16, .d (.int .i64 (k : Nat)))], tokP 0 27 (a.acc.length * 1) a.t, a.g⟩)
    (fun k a => a.acc.length ≤ k) (fun k a r => a.acc ++ inL k r)
    (fun (o : List Int) (q : Out) (S : St) => q = .exit 0 ∧ ∃ t g, Sub ⟨[(5, .own 1 (o.map (DV.int .i64)) (tokD 0 27 t))], tokP 0 27 (o.length * 1) t, g⟩ S)
    ⟨[], none, []⟩ kp20_6 (fun _ => up_tok) (Nat.le_refl _) (by omega) (by omega) ?_ ?_ ?_ ?_
  · rintro j ⟨acc, t, g⟩ _ x rest hj hget hd hI hb w1
    simp only at hI
    have hget' := hfg j x hget
    rw [Field.dv_eq x] at hget'
    have hA : ((acc.length + 1) * 8 ≤ 140737488355328) = True := eq_true (by omega)
    by_cases c : x.kind = 1
    · have b1 : (x.kind == 1) = true := by rw [c]; rfl
      have hS : acc ++ inL j (x :: rest) = (acc ++ [(j : Int)]) ++ inL (j + 1) rest := by rw [inL, if_pos c]; simp
      rcases t with _ | t
      · simp only [amr, amc, amp, amz, seval, ty_RkL_20, hb, hget', w1, b1, hA, tokD, tokP]
        refine step_nrm (FeS.mk (acc ++ [(j : Int)]) (some (1 :: g)) (1 :: 1 :: g)) (by show (acc ++ [(j : Int)]).length ≤ j + 1; simp; omega) hS ?_
        (refine ⟨[], ?_⟩; (try simp only [amr, amc, amp, amz, seval, tokD, tokP]); exact sub_mk (by repeat first | exact subT_nil | refine subT_cons (by first | rfl | simp [Tm.get, *]) ?_))
      · simp only [amr, amc, amp, amz, seval, ty_RkL_20, hb, hget', w1, b1, hA, tokD, tokP]
        refine step_nrm (FeS.mk (acc ++ [(j : Int)]) (some t) (1 :: g)) (by show (acc ++ [(j : Int)]).length ≤ j + 1; simp; omega) hS ?_
        (refine ⟨[], ?_⟩; (try simp only [amr, amc, amp, amz, seval, tokD, tokP]); exact sub_mk (by repeat first | exact subT_nil | refine subT_cons (by first | rfl | simp [Tm.get, *]) ?_))
    · have b1 : (x.kind == 1) = false := by simp [c]
      have hS : acc ++ inL j (x :: rest) = acc ++ inL (j + 1) rest := by rw [inL, if_neg c]
      rcases t with _ | t
      · simp only [amr, amc, amp, amz, seval, ty_RkL_20, hb, hget', w1, b1, tokD, tokP]
        refine step_nrm (FeS.mk acc none (1 :: g)) (by show acc.length ≤ j + 1; omega) hS ?_
        (refine ⟨[], ?_⟩; (try simp only [amr, amc, amp, amz, seval, tokD, tokP]); exact sub_mk (by repeat first | exact subT_nil | refine subT_cons (by first | rfl | simp [Tm.get, *]) ?_))
      · simp only [amr, amc, amp, amz, seval, ty_RkL_20, hb, hget', w1, b1, tokD, tokP]
        refine step_nrm (FeS.mk acc (some t) (1 :: g)) (by show acc.length ≤ j + 1; omega) hS ?_
        (refine ⟨[], ?_⟩; (try simp only [amr, amc, amp, amz, seval, tokD, tokP]); exact sub_mk (by repeat first | exact subT_nil | refine subT_cons (by first | rfl | simp [Tm.get, *]) ?_))
  · rintro ⟨acc, t, g⟩ _ hI hb
    simp only [amr, amc, amp, amz, seval, ty_RkL_20, hb]
    refine last_end (by simp) ⟨rfl, t, g, ?_⟩
    simp only [inL, List.append_nil]
    exact sub_mk (by repeat first | exact subT_nil | refine subT_cons (by first | rfl | simp [Tm.get, *]) ?_)
  · (refine ⟨[], ?_⟩; (try simp only [amr, amc, amp, amz, seval, tokD, tokP]); exact sub_mk (by repeat first | exact subT_nil | refine subT_cons (by first | rfl | simp [Tm.get, *]) ?_))
  · rintro o S' ⟨rfl, t, g, hs⟩
    refine good_sub_cr up_finq hs ?_
    simp only [List.nil_append]
    generalize inL 0 fs = R at *
    rcases t with _ | t
    · simp only [amr, amc, amp, amz, seval, ty_RkL_20, tokD, tokP]
    · simp only [amr, amc, amp, amz, seval, ty_RkL_20, tokD, tokP]
end Go.Proofs.Ytfcfifohflgboaa.Am
