/- What each field needs, walked. -/
import Derived.Test.YtfcfifohflgboaaRkB
import Derived.Test.YtfcfifohflgboaaOfQ
set_option linter.unusedVariables false
set_option linter.unusedSimpArgs false
namespace Go.Proofs.Ytfcfifohflgboaa.Am
open Go Go.RowKit
theorem ty_RkC_47 : type_of% (ai (ai (ai (ai @rs47 @lw47) (ai @mu50_43 @mu85_48)) (ai (ai @kp47_3 @kp47_9) (ai @tt1 (ai @tt3 @tt4)))) (ai (ai (ai @tt9 @tt23) (ai @tt28 (ai @tt31 @tt33))) (ai (ai @tt34 @tt36) (ai @tt48 (ai @tt50 @tt85))))) := (ai (ai (ai (ai @rs47 @lw47) (ai @mu50_43 @mu85_48)) (ai (ai @kp47_3 @kp47_9) (ai @tt1 (ai @tt3 @tt4)))) (ai (ai (ai @tt9 @tt23) (ai @tt28 (ai @tt31 @tt33))) (ai (ai @tt34 @tt36) (ai @tt48 (ai @tt50 @tt85)))))
set_option maxRecDepth 100000
set_option maxHeartbeats 40000000



def zR : Nat → Bool := fun f => f == 47 || f == 22 || f == 28 || f == 30 || f == 43 || f == 17 || f == 20 || f == 23
def needR (fs : List Field) (f : Field) : List Nat := if f.kind = 1 then [] else (namesR f.source.ex).map fun s => (ffind fs s).1.toNat
theorem nd_le : ∀ (l m : List (List UInt8)), l.Nodup → (∀ s ∈ l, s ∈ m) → l.length ≤ m.length
  | [], m, _, _ => Nat.zero_le _
  | a :: r, m, h, hs => by
    rw [List.nodup_cons] at h
    have h1 := nd_le r (m.erase a) h.2 (fun s hr => (List.mem_erase_of_ne (fun e => h.1 (by rw [← e]; exact hr))).2 (hs s (by simp [hr])))
    have h2 := hs a (by simp)
    have h3 := List.length_erase_of_mem h2
    have h4 := List.length_pos_of_mem h2
    simp only [List.length_cons]
    omega
theorem ffind_nat (fs : List Field) (s : List UInt8) : (((ffind fs s).1.toNat : Nat) : Int) = (ffind fs s).1 := by
  unfold ffind
  split <;> simp only <;> omega
theorem el_ow {sz : Nat} {xs s : List DV} {tok : Option Id} : el1 (some (.own sz xs tok)) (some s) = some (.sl sz xs :: s) := rfl
structure NdS where
  acc : List (List Nat)
  t : Option (List Nat)
  g : List Nat
structure NdT where
  acc : List Nat
  w : Option (List Nat)
  g : List Nat
theorem ret_needs (k : Nat) (fs : List Field) (h : FOKs fs) (hnm : ∀ f ∈ fs, f.kind ≠ 1 → ∀ s ∈ f.source.refs, s.length ≤ 1000) : RetZ zR 64 (k + 1) 47 [.d (.sl 9 (fs.map Field.dv))] (needD (fs.map (needR fs))) := by
  have hlen := h.len
  refine stepq_good fn47 rfl rfl ?_
  unfold needD
  simp only [amr, amc, amp, amz, seval, ty_RkC_47]
  refine good_range fs (fun k (a : NdS) _ => ⟨[(0, .d (.sl 9 (fs.map Field.dv))), (3, .own 1 (a.acc.map rowD) (tokD 0 48 a.t)), (13, .d (.sl 9 (fs.map Field.dv))), (14, .d (.int .i64 fs.length)), (15, .d (.int .i64 (k : Nat)))], tokP 0 48 (a.acc.length * 1) a.t, a.g⟩)
    (fun k a => a.acc.length = k) (fun k a r => a.acc ++ r.map (needR fs))
    (fun (o : List (List Nat)) (q : Out) (S : St) => q = .exit 0 ∧ ∃ t g, Sub ⟨[(3, .own 1 (o.map rowD) (tokD 0 48 t))], tokP 0 48 (o.length * 1) t, g⟩ S)
    ⟨[], none, []⟩ kp47_3 (fun _ => up_tok) rfl (by omega) (by omega) ?_ ?_ ?_ ?_
  · rintro j ⟨acc, t, g⟩ _ x rest hj hget hd hI hb w1
    simp only at hI
    have hx := h.one x (List.mem_of_getElem? hget)
    have hget' : (fs.map Field.dv)[j]? = some x.dv := by rw [List.getElem?_map, hget]; rfl
    have hA : ((acc.length + 1) * 24 ≤ 140737488355328) = True := eq_true (by omega)
    have hS : acc ++ (x :: rest).map (needR fs) = (acc ++ [needR fs x]) ++ rest.map (needR fs) := by simp
    rw [Field.dv_eq x] at hget'
    by_cases c : x.kind = 1
    · have b1 : (x.kind != 1) = false := by rw [c]; rfl
      have hR : needR fs x = [] := by unfold needR; rw [if_pos c]
      rw [hR] at hS
      rcases t with _ | t
      · simp only [amr, amc, amp, amz, seval, ty_RkC_47, hb, hget', w1, b1, hA, el_ow, tokD, tokP]
        refine step_nrm (NdS.mk (acc ++ [[]]) (some (1 :: g)) (1 :: 1 :: g)) (by show (acc ++ [[]]).length = j + 1; rw [List.length_append, hI]; rfl) hS ?_
        (refine ⟨[], ?_⟩; (try simp only [amr, amc, amp, amz, seval, tokD, tokP, rowD, List.map_nil]); exact sub_mk (by repeat first | exact subT_nil | refine subT_cons (by first | rfl | simp [Tm.get, *]) ?_))
      · simp only [amr, amc, amp, amz, seval, ty_RkC_47, hb, hget', w1, b1, hA, el_ow, tokD, tokP]
        refine step_nrm (NdS.mk (acc ++ [[]]) (some t) (1 :: g)) (by show (acc ++ [[]]).length = j + 1; rw [List.length_append, hI]; rfl) hS ?_
        (refine ⟨[], ?_⟩; (try simp only [amr, amc, amp, amz, seval, tokD, tokP, rowD, List.map_nil]); exact sub_mk (by repeat first | exact subT_nil | refine subT_cons (by first | rfl | simp [Tm.get, *]) ?_))
    · have b1 : (x.kind != 1) = true := by simp [c]
      obtain ⟨s1, s2, s3⟩ := hx.src c
      have hof := ofOk x.source (hnm x (List.mem_of_getElem? hget) c) ⟨s2, s3⟩ s1
      have f1 := fun (S : St) (d dst : Nat) => ca_OfZ (Z := zR) (N := 64) (k := k + 1) (d := d) (dst := dst) (S := S) (by decide) x.source.ex hof
      rw [ex_dv, Exp.dv_eq x.source] at f1
      have hNl : (namesR x.source.ex).length ≤ 60 := by
        obtain ⟨p1, p2⟩ := names_perm x.source.ex
        have h1 := refs_len x.source
        have h2 : (namesR x.source.ex).length ≤ x.source.refs.length := by
          refine nd_le _ _ p1 (fun s hs => ?_)
          have := (p2 s).1 hs
          rwa [ex_refs] at this
        omega
      have hR : needR fs x = (namesR x.source.ex).map fun s => (ffind fs s).1.toNat := by unfold needR; rw [if_neg c]
      generalize namesR x.source.ex = L at *
      rcases t with _ | t
      · simp only [amr, amc, amp, amz, seval, ty_RkC_47, hb, hget', w1, b1, f1, tokD, tokP]
        refine good_range L (fun i (a : NdT) _ => ⟨[(0, .d (.sl 9 (fs.map Field.dv))), (3, .own 1 (acc.map rowD) none), (6, .own 1 (a.acc.map fun (k : Nat) => DV.int .i64 k) (tokD 0 43 a.w)), (13, .d (.sl 9 (fs.map Field.dv))), (14, .d (.int .i64 fs.length)), (15, .d (.int .i64 (j : Nat))), (28, .d (.sl 1 (L.map DV.str))), (29, .d (.int .i64 L.length)), (30, .d (.int .i64 (i : Nat)))], tokP 0 43 (a.acc.length * 1) a.w ++ [(⟨0, 5, 0 :: g⟩, .box [.d (.str x.name), .d (.int .i64 x.kind), .d (.int .i64 x.ty), .d (.int .i64 x.source.op), .d (.int .i64 x.source.v.kind), .d (.int .i64 x.source.v.n), .d (.str x.source.v.s), .d (.str x.source.name), .d (.sl 6 (x.source.args.map Exp.dv))])], a.g⟩)
          (fun i a => a.acc.length = i) (fun i a r => a.acc ++ r.map fun s => (ffind fs s).1.toNat)
          (fun (o : List Nat) (q : Out) (S : St) => q = .exit 2 ∧ ∃ w g', Sub ⟨[(0, .d (.sl 9 (fs.map Field.dv))), (3, .own 1 (acc.map rowD) none), (6, .own 1 (o.map fun (k : Nat) => DV.int .i64 k) (tokD 0 43 w)), (13, .d (.sl 9 (fs.map Field.dv))), (14, .d (.int .i64 fs.length)), (15, .d (.int .i64 (j : Nat)))], tokP 0 43 (o.length * 1) w ++ [(⟨0, 5, 0 :: g⟩, .box [.d (.str x.name), .d (.int .i64 x.kind), .d (.int .i64 x.ty), .d (.int .i64 x.source.op), .d (.int .i64 x.source.v.kind), .d (.int .i64 x.source.v.n), .d (.str x.source.v.s), .d (.str x.source.name), .d (.sl 6 (x.source.args.map Exp.dv))])], g'⟩ S)
          ⟨[], none, 1 :: g⟩ kp47_9 (fun _ => up_tok) rfl (by omega) (by omega) ?_ ?_ ?_ ?_
        · rintro i ⟨acc2, w, g'⟩ _ s rest2 hi hget2 hd2 hI2 hb2 w2
          simp only at hI2
          have hget2' : (L.map DV.str)[i]? = some (.str s) := by rw [List.getElem?_map, hget2]; rfl
          have hB : ((acc2.length + 1) * 8 ≤ 140737488355328) = True := eq_true (by omega)
          have hS2 : acc2 ++ (s :: rest2).map (fun s => (ffind fs s).1.toNat) = (acc2 ++ [(ffind fs s).1.toNat]) ++ rest2.map fun s => (ffind fs s).1.toNat := by simp
          have f2 := fun (S : St) (d dst : Nat) => (ca_Z (Z := zR) (N := 64) (k := k + 1) (by decide) (by decide)).trans (ca_Find (d := d) (dst := dst) (S := S) fs s (by omega))
          have hq := ffind_nat fs s
          generalize ffind fs s = q at *
          rw [← hq] at f2
          generalize q.1.toNat = q1 at *
          generalize q.2 = q2 at *
          rcases w with _ | w
          · simp only [amr, amc, amp, amz, seval, ty_RkC_47, hb2, hget2', w2, f2, hB, tokD, tokP]
            refine step_nrm (NdT.mk (acc2 ++ [q1]) (some g') (1 :: g')) (by show (acc2 ++ [q1]).length = i + 1; rw [List.length_append, hI2]; rfl) hS2 ?_
            (refine ⟨[], ?_⟩; (try simp only [amr, amc, amp, amz, seval, tokD, tokP]); exact sub_mk (by repeat first | exact subT_nil | refine subT_cons (by first | rfl | simp [Tm.get, *]) ?_))
          · simp only [amr, amc, amp, amz, seval, ty_RkC_47, hb2, hget2', w2, f2, hB, tokD, tokP]
            refine step_nrm (NdT.mk (acc2 ++ [q1]) (some w) g') (by show (acc2 ++ [q1]).length = i + 1; rw [List.length_append, hI2]; rfl) hS2 ?_
            (refine ⟨[], ?_⟩; (try simp only [amr, amc, amp, amz, seval, tokD, tokP]); exact sub_mk (by repeat first | exact subT_nil | refine subT_cons (by first | rfl | simp [Tm.get, *]) ?_))
        · rintro ⟨acc2, w, g'⟩ _ hI2 hb2
          simp only [amr, amc, amp, amz, seval, ty_RkC_47, hb2]
          refine last_end (by simp) ⟨rfl, w, g', ?_⟩
          try simp only [List.map_nil, List.append_nil]
          exact sub_mk (by repeat first | exact subT_nil | refine subT_cons (by first | rfl | simp [Tm.get, *]) ?_)
        · (refine ⟨[], ?_⟩; (try simp only [amr, amc, amp, amz, seval, tokD, tokP]); exact sub_mk (by repeat first | exact subT_nil | refine subT_cons (by first | rfl | simp [Tm.get, *]) ?_))
        · rintro o S' ⟨rfl, w, g', hs'⟩
          refine good_sub_cr (up_stepr (fun r => up_tok)) hs' ?_
          simp only [List.nil_append] at hs' ⊢
          rw [← hR]
          generalize needR fs x = R at *
          rcases w with _ | w
          · simp only [amr, amc, amp, amz, seval, ty_RkC_47, w1, hA, el_ow, tokD, tokP]
            refine step_nrm (NdS.mk (acc ++ [R]) (some g') (1 :: g')) (by show (acc ++ [R]).length = j + 1; rw [List.length_append, hI]; rfl) hS ?_
            (refine ⟨[], ?_⟩; (try simp only [amr, amc, amp, amz, seval, tokD, tokP, rowD]); exact sub_mk (by repeat first | exact subT_nil | refine subT_cons (by first | rfl | simp [Tm.get, *]) ?_))
          · simp only [amr, amc, amp, amz, seval, ty_RkC_47, w1, hA, el_ow, tokD, tokP]
            refine step_nrm (NdS.mk (acc ++ [R]) (some g') (1 :: g')) (by show (acc ++ [R]).length = j + 1; rw [List.length_append, hI]; rfl) hS ?_
            (refine ⟨[], ?_⟩; (try simp only [amr, amc, amp, amz, seval, tokD, tokP, rowD]); exact sub_mk (by repeat first | exact subT_nil | refine subT_cons (by first | rfl | simp [Tm.get, *]) ?_))
      · simp only [amr, amc, amp, amz, seval, ty_RkC_47, hb, hget', w1, b1, f1, tokD, tokP]
        refine good_range L (fun i (a : NdT) _ => ⟨[(0, .d (.sl 9 (fs.map Field.dv))), (3, .own 1 (acc.map rowD) (some ⟨0, 48, 0 :: t⟩)), (6, .own 1 (a.acc.map fun (k : Nat) => DV.int .i64 k) (tokD 0 43 a.w)), (13, .d (.sl 9 (fs.map Field.dv))), (14, .d (.int .i64 fs.length)), (15, .d (.int .i64 (j : Nat))), (28, .d (.sl 1 (L.map DV.str))), (29, .d (.int .i64 L.length)), (30, .d (.int .i64 (i : Nat)))], tokP 0 43 (a.acc.length * 1) a.w ++ [(⟨0, 5, 0 :: g⟩, .box [.d (.str x.name), .d (.int .i64 x.kind), .d (.int .i64 x.ty), .d (.int .i64 x.source.op), .d (.int .i64 x.source.v.kind), .d (.int .i64 x.source.v.n), .d (.str x.source.v.s), .d (.str x.source.name), .d (.sl 6 (x.source.args.map Exp.dv))]), (⟨0, 48, 0 :: t⟩, .grow (acc.length * 1))], a.g⟩)
          (fun i a => a.acc.length = i) (fun i a r => a.acc ++ r.map fun s => (ffind fs s).1.toNat)
          (fun (o : List Nat) (q : Out) (S : St) => q = .exit 2 ∧ ∃ w g', Sub ⟨[(0, .d (.sl 9 (fs.map Field.dv))), (3, .own 1 (acc.map rowD) (some ⟨0, 48, 0 :: t⟩)), (6, .own 1 (o.map fun (k : Nat) => DV.int .i64 k) (tokD 0 43 w)), (13, .d (.sl 9 (fs.map Field.dv))), (14, .d (.int .i64 fs.length)), (15, .d (.int .i64 (j : Nat)))], tokP 0 43 (o.length * 1) w ++ [(⟨0, 5, 0 :: g⟩, .box [.d (.str x.name), .d (.int .i64 x.kind), .d (.int .i64 x.ty), .d (.int .i64 x.source.op), .d (.int .i64 x.source.v.kind), .d (.int .i64 x.source.v.n), .d (.str x.source.v.s), .d (.str x.source.name), .d (.sl 6 (x.source.args.map Exp.dv))]), (⟨0, 48, 0 :: t⟩, .grow (acc.length * 1))], g'⟩ S)
          ⟨[], none, 1 :: g⟩ kp47_9 (fun _ => up_tok) rfl (by omega) (by omega) ?_ ?_ ?_ ?_
        · rintro i ⟨acc2, w, g'⟩ _ s rest2 hi hget2 hd2 hI2 hb2 w2
          simp only at hI2
          have hget2' : (L.map DV.str)[i]? = some (.str s) := by rw [List.getElem?_map, hget2]; rfl
          have hB : ((acc2.length + 1) * 8 ≤ 140737488355328) = True := eq_true (by omega)
          have hS2 : acc2 ++ (s :: rest2).map (fun s => (ffind fs s).1.toNat) = (acc2 ++ [(ffind fs s).1.toNat]) ++ rest2.map fun s => (ffind fs s).1.toNat := by simp
          have f2 := fun (S : St) (d dst : Nat) => (ca_Z (Z := zR) (N := 64) (k := k + 1) (by decide) (by decide)).trans (ca_Find (d := d) (dst := dst) (S := S) fs s (by omega))
          have hq := ffind_nat fs s
          generalize ffind fs s = q at *
          rw [← hq] at f2
          generalize q.1.toNat = q1 at *
          generalize q.2 = q2 at *
          rcases w with _ | w
          · simp only [amr, amc, amp, amz, seval, ty_RkC_47, hb2, hget2', w2, f2, hB, tokD, tokP]
            refine step_nrm (NdT.mk (acc2 ++ [q1]) (some g') (1 :: g')) (by show (acc2 ++ [q1]).length = i + 1; rw [List.length_append, hI2]; rfl) hS2 ?_
            (refine ⟨[], ?_⟩; (try simp only [amr, amc, amp, amz, seval, tokD, tokP]); exact sub_mk (by repeat first | exact subT_nil | refine subT_cons (by first | rfl | simp [Tm.get, *]) ?_))
          · simp only [amr, amc, amp, amz, seval, ty_RkC_47, hb2, hget2', w2, f2, hB, tokD, tokP]
            refine step_nrm (NdT.mk (acc2 ++ [q1]) (some w) g') (by show (acc2 ++ [q1]).length = i + 1; rw [List.length_append, hI2]; rfl) hS2 ?_
            (refine ⟨[], ?_⟩; (try simp only [amr, amc, amp, amz, seval, tokD, tokP]); exact sub_mk (by repeat first | exact subT_nil | refine subT_cons (by first | rfl | simp [Tm.get, *]) ?_))
        · rintro ⟨acc2, w, g'⟩ _ hI2 hb2
          simp only [amr, amc, amp, amz, seval, ty_RkC_47, hb2]
          refine last_end (by simp) ⟨rfl, w, g', ?_⟩
          try simp only [List.map_nil, List.append_nil]
          exact sub_mk (by repeat first | exact subT_nil | refine subT_cons (by first | rfl | simp [Tm.get, *]) ?_)
        · (refine ⟨[], ?_⟩; (try simp only [amr, amc, amp, amz, seval, tokD, tokP]); exact sub_mk (by repeat first | exact subT_nil | refine subT_cons (by first | rfl | simp [Tm.get, *]) ?_))
        · rintro o S' ⟨rfl, w, g', hs'⟩
          refine good_sub_cr (up_stepr (fun r => up_tok)) hs' ?_
          simp only [List.nil_append] at hs' ⊢
          rw [← hR]
          generalize needR fs x = R at *
          rcases w with _ | w
          · simp only [amr, amc, amp, amz, seval, ty_RkC_47, w1, hA, el_ow, tokD, tokP]
            refine step_nrm (NdS.mk (acc ++ [R]) (some t) g') (by show (acc ++ [R]).length = j + 1; rw [List.length_append, hI]; rfl) hS ?_
            (refine ⟨[], ?_⟩; (try simp only [amr, amc, amp, amz, seval, tokD, tokP, rowD]); exact sub_mk (by repeat first | exact subT_nil | refine subT_cons (by first | rfl | simp [Tm.get, *]) ?_))
          · simp only [amr, amc, amp, amz, seval, ty_RkC_47, w1, hA, el_ow, tokD, tokP]
            refine step_nrm (NdS.mk (acc ++ [R]) (some t) g') (by show (acc ++ [R]).length = j + 1; rw [List.length_append, hI]; rfl) hS ?_
            (refine ⟨[], ?_⟩; (try simp only [amr, amc, amp, amz, seval, tokD, tokP, rowD]); exact sub_mk (by repeat first | exact subT_nil | refine subT_cons (by first | rfl | simp [Tm.get, *]) ?_))
  · rintro ⟨acc, t, g⟩ _ hI hb
    simp only [amr, amc, amp, amz, seval, ty_RkC_47, hb]
    refine last_end (by simp) ⟨rfl, t, g, ?_⟩
    try simp only [List.map_nil, List.append_nil]
    exact sub_mk (by repeat first | exact subT_nil | refine subT_cons (by first | rfl | simp [Tm.get, *]) ?_)
  · (refine ⟨[], ?_⟩; (try simp only [amr, amc, amp, amz, seval, tokD, tokP]); exact sub_mk (by repeat first | exact subT_nil | refine subT_cons (by first | rfl | simp [Tm.get, *]) ?_))
  · rintro o S' ⟨rfl, t, g, hs⟩
    refine good_sub_cr up_finq hs ?_
    simp only [List.nil_append]
    rcases t with _ | t
    · simp only [amr, amc, amp, amz, seval, ty_RkC_47, tokD, tokP]
    · simp only [amr, amc, amp, amz, seval, ty_RkC_47, tokD, tokP]
end Go.Proofs.Ytfcfifohflgboaa.Am
