/- page.Check, walked where pages may be. -/
import Derived.Test.YtfcfifohflgboaaRkI
set_option linter.unusedVariables false
set_option linter.unusedSimpArgs false
namespace Go.Proofs.Ytfcfifohflgboaa.Am
open Go Go.RowKit
theorem ty_RkJ_11 : type_of% (ai (ai (ai (ai @rs11 @lw11) (ai @dr11_10 (ai @mu24_40 @mu31_70))) (ai (ai @kp11_5 @kp11_14) (ai @tt1 (ai @tt2 @tt3)))) (ai (ai (ai @tt4 @tt9) (ai @tt23 (ai @tt24 @tt28))) (ai (ai @tt31 (ai @tt33 @tt34)) (ai @tt36 (ai @tt38 @tt48))))) := (ai (ai (ai (ai @rs11 @lw11) (ai @dr11_10 (ai @mu24_40 @mu31_70))) (ai (ai @kp11_5 @kp11_14) (ai @tt1 (ai @tt2 @tt3)))) (ai (ai (ai @tt4 @tt9) (ai @tt23 (ai @tt24 @tt28))) (ai (ai @tt31 (ai @tt33 @tt34)) (ai @tt36 (ai @tt38 @tt48)))))
set_option maxRecDepth 100000
set_option maxHeartbeats 40000000





structure PgFs (fs : List Field) (ps : List Page) : Prop where
  l1 : 1 ≤ ps.length
  l2 : ps.length ≤ 6
  nm : ∀ p ∈ ps, nameErr p.name = 0
  nd : (ps.map Page.name).Nodup
  fd : ∀ p ∈ ps, ∀ s ∈ p.fields, ∃ g ∈ fs, g.name = s
  fn : (ps.flatMap Page.fields).Nodup
  ft : (ps.flatMap Page.fields).length ≤ 1000
  sk : ∀ p ∈ ps, p.skip = Exp.zero ∨ (p.skip.op ≠ 0 ∧ p.skip.wf ∧ p.skip.nodes ≤ 60 ∧ p.skip.deep ≤ 12 ∧ p.skip.ty (tmap fs) = 2)
theorem pfind_take {ps : List Page} (hn : (ps.map Page.name).Nodup) {k : Nat} {x : Page} (hx : ps[k]? = some x) : pfind (ps.take k) x.name = (0, 5) := by
  have h : ∀ p ∈ ps.take k, (p.name == x.name) = false := fun p hp => by
    refine beq_eq_false_iff_ne.2 (fun he => ?_)
    obtain ⟨i, hi, he2⟩ := List.getElem_of_mem hp
    rw [List.length_take] at hi
    rw [List.getElem_take] at he2
    obtain ⟨h1, h1'⟩ := List.getElem?_eq_some_iff.1 hx
    exact (List.pairwise_iff_getElem.1 hn) i k (by simp; omega) (by simpa using h1) (by omega) (by simp [h1', he2, he])
  unfold pfind
  rw [fidx_none _ _ 0 h, if_pos (by decide)]
theorem met_split {ps : List Page} {k i : Nat} {x : Page} {s : Str} (hk : ps[k]? = some x) (hi : x.fields[i]? = some s) : ps.flatMap Page.fields = ((ps.take k).flatMap Page.fields ++ x.fields.take i) ++ s :: (x.fields.drop (i + 1) ++ (ps.drop (k + 1)).flatMap Page.fields) := by
  obtain ⟨h1, h2⟩ := List.getElem?_eq_some_iff.1 hk
  obtain ⟨h3, h4⟩ := List.getElem?_eq_some_iff.1 hi
  conv => lhs; rw [← List.take_append_drop k ps, List.drop_eq_getElem_cons h1, h2]
  rw [List.flatMap_append, List.flatMap_cons]
  conv => lhs; rw [← List.take_append_drop i x.fields, List.drop_eq_getElem_cons h3, h4]
  simp
theorem met_new {ps : List Page} (hn : (ps.flatMap Page.fields).Nodup) {k i : Nat} {x : Page} {s : Str} (hk : ps[k]? = some x) (hi : x.fields[i]? = some s) : (((ps.take k).flatMap Page.fields ++ x.fields.take i).any fun z => s == z) = false := by
  rw [met_split hk hi, List.nodup_append] at hn
  rw [List.any_eq_false]
  intro z hz
  have := hn.2.2 z hz s (by simp)
  simpa using fun e => this e.symm
theorem up_cp {k : Out} {Q : Tm} : Up (fun (q : Out) S => q = k ∧ ∃ H g, Sub ⟨Q, H, g⟩ S) := fun o S S' h ⟨h1, H, g, h2⟩ => ⟨h1, H, g, h2.trans h⟩
structure PcS where
  acc : List Str
  t : Option (List Nat)
  g : List Nat
theorem ret_CheckP (fs : List Field) (ps : List Page) (hf : FOKs fs) (h : PgFs fs ps) : Ret tab 11 [.d (.sl 8 (ps.map Page.dv)), .d (.sl 9 (fs.map Field.dv))] (.d (.int .i64 0)) := by
  have l1 := h.l1
  have l2 := h.l2
  have hfl := hf.len
  have b1 : decide ((ps.length : Int) < 1) = false := decide_eq_false (by omega)
  have b2 : decide ((ps.length : Int) > 6) = false := decide_eq_false (by omega)
  have b2' : decide (6 < (ps.length : Int)) = false := b2
  refine ret_of 1002 fn11 rfl rfl ?_
  simp only [amr, amc, amp, amz, seval, ty_RkJ_11, b1, b2, b2']
  refine good_range ps (fun k (a : PcS) _ => ⟨[(0, .d (.sl 8 (ps.map Page.dv))), (1, .d (.sl 9 (fs.map Field.dv))), (5, .own 1 (a.acc.map DV.str) (tokD 0 70 a.t)), (24, .d (.sl 8 (ps.map Page.dv))), (25, .d (.int .i64 ps.length)), (26, .d (.int .i64 (k : Nat)))], tokP 0 70 (a.acc.length * 1) a.t, a.g⟩)
    (fun k a => a.acc = (ps.take k).flatMap Page.fields) (fun _ _ _ => ())
    (fun (o : Unit) (q : Out) (S : St) => q = .exit 0 ∧ ∃ H g, Sub ⟨[], H, g⟩ S)
    ⟨[], none, []⟩ kp11_5 (fun _ => up_cp) rfl (by omega) (by omega) ?_ ?_ ?_ ?_
  · rintro k ⟨acc, t, g⟩ _ x rest hk hget hd hI hb w1
    simp only at hI
    have hx := List.mem_of_getElem? hget
    have hget' : (ps.map Page.dv)[k]? = some x.dv := by rw [List.getElem?_map, hget]; rfl
    rw [Page.dv_eq x] at hget'
    have hkl : ((k : Int) ≤ (ps.length : Int)) = True := eq_true (by omega)
    have htk : List.take k (ps.map Page.dv) = (ps.take k).map Page.dv := List.map_take.symm
    have fN := fun (S : St) (d dst : Nat) => ca_Name (d := d) (dst := dst) (S := S) x.name
    rw [h.nm x hx] at fN
    have fP := fun (S : St) (d dst : Nat) => ca_PFind (d := d) (dst := dst) (S := S) (ps.take k) x.name (by rw [List.length_take]; omega)
    rw [pfind_take h.nd hget] at fP
    have fP' : ∀ (S : St) (d dst : Nat), callA tab (callR tab) d dst 14 [.d (.sl 8 ((ps.take k).map Page.dv)), .d (.str x.name)] S = some (.tup [.d (.int .i64 0), .d (.int .i64 5)], S) := fP
    clear fP
    have hlx : (acc ++ x.fields).length ≤ 1000 := by
      have h1 := h.ft
      have h2 : ps.flatMap Page.fields = (ps.take k).flatMap Page.fields ++ (x.fields ++ (ps.drop (k + 1)).flatMap Page.fields) := by
        obtain ⟨h1, h2⟩ := List.getElem?_eq_some_iff.1 hget
        conv => lhs; rw [← List.take_append_drop k ps, List.drop_eq_getElem_cons h1, h2]
        rw [List.flatMap_append, List.flatMap_cons]
      rw [h2, ← hI] at h1
      simp only [List.length_append] at h1 ⊢
      omega
    rw [List.length_append] at hlx
    have hnext : acc ++ x.fields = (ps.take (k + 1)).flatMap Page.fields := by
      obtain ⟨h1, h2⟩ := List.getElem?_eq_some_iff.1 hget
      rw [List.take_succ_eq_append_getElem h1, List.flatMap_append, ← hI, h2]
      simp
    have hany : ∀ (i : Nat) (s : Str), x.fields[i]? = some s → ((acc ++ x.fields.take i).any fun z => s == z) = false := fun i s hi => by rw [hI]; exact met_new h.fn hget hi
    have hfnd : ∀ (i : Nat) (s : Str), x.fields[i]? = some s → ∃ q : Nat, ffind fs s = ((q : Int), 0) := fun i s hi => by
      obtain ⟨g, hg, rfl⟩ := h.fd x hx s (List.mem_of_getElem? hi)
      obtain ⟨q, hq⟩ := List.getElem?_of_mem hg
      exact ⟨q, ffind_at hf.nd hq⟩
    have hsk := h.sk x hx
    have fT := fun (hz : x.skip.op ≠ 0) (w : x.skip.wf) (n : x.skip.nodes ≤ 60) (d : x.skip.deep ≤ 12) (hty : x.skip.ty (tmap fs) = 2) => fun (S : St) (d' dst : Nat) => ca_FitsT (d := d') (dst := dst) (S := S) x.skip fs 2 ⟨n, d⟩ w (by rw [hty]; decide)
    clear hI
    rcases t with _ | t
    · simp only [amr, amc, amp, amz, seval, ty_RkJ_11, hb, hget', hkl, htk, fN, fP', tokD, tokP, bne_self_eq_false]
      refine good_range x.fields (fun i (a : PcS) _ => ⟨[(0, .d (.sl 8 (ps.map Page.dv))), (1, .d (.sl 9 (fs.map Field.dv))), (5, .own 1 (a.acc.map DV.str) (tokD 0 70 a.t)), (7, .ptr ⟨0, 7, 0 :: g⟩ 0), (24, .d (.sl 8 (ps.map Page.dv))), (25, .d (.int .i64 ps.length)), (26, .d (.int .i64 (k : Nat))), (49, .d (.sl 1 (x.fields.map DV.str))), (50, .d (.int .i64 x.fields.length)), (51, .d (.int .i64 (i : Nat)))], tokP 0 70 (a.acc.length * 1) a.t ++ [(⟨0, 7, 0 :: g⟩, .box [.d (.str x.name), .d (.sl 1 (x.fields.map DV.str)), .d (.int .i64 x.skip.op), .d (.int .i64 x.skip.v.kind), .d (.int .i64 x.skip.v.n), .d (.str x.skip.v.s), .d (.str x.skip.name), .d (.sl 6 (x.skip.args.map Exp.dv))])], a.g⟩)
        (fun i a => a.acc = acc ++ x.fields.take i) (fun _ _ _ => ())
        (fun (o : Unit) (q : Out) (S : St) => q = .exit 2 ∧ ∃ (w : Option (List Nat)) (g' : List Nat), Sub ⟨[(0, .d (.sl 8 (ps.map Page.dv))), (1, .d (.sl 9 (fs.map Field.dv))), (5, .own 1 ((acc ++ x.fields).map DV.str) (tokD 0 70 w)), (7, .ptr ⟨0, 7, 0 :: g⟩ 0), (24, .d (.sl 8 (ps.map Page.dv))), (25, .d (.int .i64 ps.length)), (26, .d (.int .i64 (k : Nat)))], tokP 0 70 ((acc ++ x.fields).length * 1) w ++ [(⟨0, 7, 0 :: g⟩, .box [.d (.str x.name), .d (.sl 1 (x.fields.map DV.str)), .d (.int .i64 x.skip.op), .d (.int .i64 x.skip.v.kind), .d (.int .i64 x.skip.v.n), .d (.str x.skip.v.s), .d (.str x.skip.name), .d (.sl 6 (x.skip.args.map Exp.dv))])], g'⟩ S)
        ⟨acc, none, 1 :: 1 :: g⟩ kp11_14 (fun _ => up_tok) (by simp) (by omega) (by omega) ?_ ?_ ?_ ?_
      · rintro i ⟨acc2, w, g'⟩ _ s rest2 hi hget2 hd2 hI2 hb2 w2
        simp only at hI2
        have hget2' : (x.fields.map DV.str)[i]? = some (.str s) := by rw [List.getElem?_map, hget2]; rfl
        have hl2 : acc2.length ≤ 1000 := by rw [hI2, List.length_append, List.length_take]; omega
        have hB : ((acc2.length + 1) * 16 ≤ 140737488355328) = True := eq_true (by omega)
        obtain ⟨q, hq⟩ := hfnd i s hget2
        have f2 := fun (S : St) (d dst : Nat) => ca_Find (d := d) (dst := dst) (S := S) fs s (by omega)
        rw [hq] at f2
        have f3 := fun (S : St) (d dst : Nat) (tok : Option Id) => ca_conOS (d := d) (dst := dst) (S := S) (tok := tok) acc2 s (by omega)
        rw [hI2, hany i s hget2, ← hI2] at f3
        have hI3 : acc2 ++ [s] = acc ++ x.fields.take (i + 1) := by
          obtain ⟨h1, h2⟩ := List.getElem?_eq_some_iff.1 hget2
          rw [List.take_succ_eq_append_getElem h1, h2, hI2, List.append_assoc]
        clear hI2
        rcases w with _ | w
        · simp only [amr, amc, amp, amz, seval, ty_RkJ_11, hb2, hget2', w2, f2, f3, hB, tokD, tokP, bne_self_eq_false]
          refine step_nrm (PcS.mk (acc2 ++ [s]) (some g') (1 :: g')) hI3 rfl ?_
          (refine ⟨[], ?_⟩; (try simp only [amr, amc, amp, amz, seval, tokD, tokP]); exact sub_mk (by repeat first | exact subT_nil | refine subT_cons (by first | rfl | simp [Tm.get, *]) ?_))
        · simp only [amr, amc, amp, amz, seval, ty_RkJ_11, hb2, hget2', w2, f2, f3, hB, tokD, tokP, bne_self_eq_false]
          refine step_nrm (PcS.mk (acc2 ++ [s]) (some w) g') hI3 rfl ?_
          (refine ⟨[], ?_⟩; (try simp only [amr, amc, amp, amz, seval, tokD, tokP]); exact sub_mk (by repeat first | exact subT_nil | refine subT_cons (by first | rfl | simp [Tm.get, *]) ?_))
      · rintro ⟨acc2, w, g'⟩ _ hI2 hb2
        rw [List.take_length] at hI2
        simp only at hI2
        subst hI2
        simp only [amr, amc, amp, amz, seval, ty_RkJ_11, hb2]
        refine last_end (by simp) ⟨rfl, w, g', ?_⟩
        exact sub_mk (by repeat first | exact subT_nil | refine subT_cons (by first | rfl | simp [Tm.get, *]) ?_)
      · (refine ⟨[], ?_⟩; (try simp only [amr, amc, amp, amz, seval, tokD, tokP]); exact sub_mk (by repeat first | exact subT_nil | refine subT_cons (by first | rfl | simp [Tm.get, *]) ?_))
      · rintro o S' ⟨rfl, w, g', hs'⟩
        refine good_sub_cr (up_stepr (fun r => up_cp)) hs' ?_
        rcases w with _ | w
        · rcases hsk with hz | ⟨z1, z2, z3, z4, z5⟩
          · have e1 : x.skip.op = 0 := by rw [hz]; rfl
            have e2 : x.skip.v.kind = 0 := by rw [hz]; rfl
            have e3 : x.skip.v.n = 0 := by rw [hz]; rfl
            have e4 : x.skip.v.s = [] := by rw [hz]; rfl
            have e5 : x.skip.name = [] := by rw [hz]; rfl
            have e6 : x.skip.args.map Exp.dv = [] := by rw [hz]; rfl
            simp only [amr, amc, amp, amz, seval, ty_RkJ_11, e1, e2, e3, e4, e5, e6, ca_NeverZ, w1, tokD, tokP]
            refine step_nrm (PcS.mk (acc ++ x.fields) none g') hnext rfl ?_
            (refine ⟨[], ?_⟩; (try simp only [amr, amc, amp, amz, seval, tokD, tokP]); exact sub_mk (by repeat first | exact subT_nil | refine subT_cons (by first | rfl | simp [Tm.get, *]) ?_))
          · have fT' := fT z1 z2 z3 z4 z5
            rw [z5, if_pos rfl, Exp.dv_eq x.skip] at fT'
            have fV := fun (S : St) (d dst : Nat) => ca_NeverN (d := d) (dst := dst) (S := S) x z1
            rw [Page.dv_eq x] at fV
            simp only [amr, amc, amp, amz, seval, ty_RkJ_11, fV, fT', w1, tokD, tokP, bne_self_eq_false]
            refine step_nrm (PcS.mk (acc ++ x.fields) none g') hnext rfl ?_
            (refine ⟨[], ?_⟩; (try simp only [amr, amc, amp, amz, seval, tokD, tokP]); exact sub_mk (by repeat first | exact subT_nil | refine subT_cons (by first | rfl | simp [Tm.get, *]) ?_))
        · rcases hsk with hz | ⟨z1, z2, z3, z4, z5⟩
          · have e1 : x.skip.op = 0 := by rw [hz]; rfl
            have e2 : x.skip.v.kind = 0 := by rw [hz]; rfl
            have e3 : x.skip.v.n = 0 := by rw [hz]; rfl
            have e4 : x.skip.v.s = [] := by rw [hz]; rfl
            have e5 : x.skip.name = [] := by rw [hz]; rfl
            have e6 : x.skip.args.map Exp.dv = [] := by rw [hz]; rfl
            simp only [amr, amc, amp, amz, seval, ty_RkJ_11, e1, e2, e3, e4, e5, e6, ca_NeverZ, w1, tokD, tokP]
            refine step_nrm (PcS.mk (acc ++ x.fields) (some w) g') hnext rfl ?_
            (refine ⟨[], ?_⟩; (try simp only [amr, amc, amp, amz, seval, tokD, tokP]); exact sub_mk (by repeat first | exact subT_nil | refine subT_cons (by first | rfl | simp [Tm.get, *]) ?_))
          · have fT' := fT z1 z2 z3 z4 z5
            rw [z5, if_pos rfl, Exp.dv_eq x.skip] at fT'
            have fV := fun (S : St) (d dst : Nat) => ca_NeverN (d := d) (dst := dst) (S := S) x z1
            rw [Page.dv_eq x] at fV
            simp only [amr, amc, amp, amz, seval, ty_RkJ_11, fV, fT', w1, tokD, tokP, bne_self_eq_false]
            refine step_nrm (PcS.mk (acc ++ x.fields) (some w) g') hnext rfl ?_
            (refine ⟨[], ?_⟩; (try simp only [amr, amc, amp, amz, seval, tokD, tokP]); exact sub_mk (by repeat first | exact subT_nil | refine subT_cons (by first | rfl | simp [Tm.get, *]) ?_))
    · simp only [amr, amc, amp, amz, seval, ty_RkJ_11, hb, hget', hkl, htk, fN, fP', tokD, tokP, bne_self_eq_false]
      refine good_range x.fields (fun i (a : PcS) _ => ⟨[(0, .d (.sl 8 (ps.map Page.dv))), (1, .d (.sl 9 (fs.map Field.dv))), (5, .own 1 (a.acc.map DV.str) (some ⟨0, 70, 0 :: t⟩)), (7, .ptr ⟨0, 7, 0 :: g⟩ 0), (24, .d (.sl 8 (ps.map Page.dv))), (25, .d (.int .i64 ps.length)), (26, .d (.int .i64 (k : Nat))), (49, .d (.sl 1 (x.fields.map DV.str))), (50, .d (.int .i64 x.fields.length)), (51, .d (.int .i64 (i : Nat)))], [(⟨0, 7, 0 :: g⟩, .box [.d (.str x.name), .d (.sl 1 (x.fields.map DV.str)), .d (.int .i64 x.skip.op), .d (.int .i64 x.skip.v.kind), .d (.int .i64 x.skip.v.n), .d (.str x.skip.v.s), .d (.str x.skip.name), .d (.sl 6 (x.skip.args.map Exp.dv))]), (⟨0, 70, 0 :: t⟩, .grow (a.acc.length * 1))], a.g⟩)
        (fun i a => a.acc = acc ++ x.fields.take i) (fun _ _ _ => ())
        (fun (o : Unit) (q : Out) (S : St) => q = .exit 2 ∧ ∃ (w : Option (List Nat)) (g' : List Nat), Sub ⟨[(0, .d (.sl 8 (ps.map Page.dv))), (1, .d (.sl 9 (fs.map Field.dv))), (5, .own 1 ((acc ++ x.fields).map DV.str) (some ⟨0, 70, 0 :: t⟩)), (7, .ptr ⟨0, 7, 0 :: g⟩ 0), (24, .d (.sl 8 (ps.map Page.dv))), (25, .d (.int .i64 ps.length)), (26, .d (.int .i64 (k : Nat)))], [(⟨0, 7, 0 :: g⟩, .box [.d (.str x.name), .d (.sl 1 (x.fields.map DV.str)), .d (.int .i64 x.skip.op), .d (.int .i64 x.skip.v.kind), .d (.int .i64 x.skip.v.n), .d (.str x.skip.v.s), .d (.str x.skip.name), .d (.sl 6 (x.skip.args.map Exp.dv))]), (⟨0, 70, 0 :: t⟩, .grow ((acc ++ x.fields).length * 1))], g'⟩ S)
        ⟨acc, none, 1 :: 1 :: g⟩ kp11_14 (fun _ => up_tok) (by simp) (by omega) (by omega) ?_ ?_ ?_ ?_
      · rintro i ⟨acc2, w, g'⟩ _ s rest2 hi hget2 hd2 hI2 hb2 w2
        simp only at hI2
        have hget2' : (x.fields.map DV.str)[i]? = some (.str s) := by rw [List.getElem?_map, hget2]; rfl
        have hl2 : acc2.length ≤ 1000 := by rw [hI2, List.length_append, List.length_take]; omega
        have hB : ((acc2.length + 1) * 16 ≤ 140737488355328) = True := eq_true (by omega)
        obtain ⟨q, hq⟩ := hfnd i s hget2
        have f2 := fun (S : St) (d dst : Nat) => ca_Find (d := d) (dst := dst) (S := S) fs s (by omega)
        rw [hq] at f2
        have f3 := fun (S : St) (d dst : Nat) (tok : Option Id) => ca_conOS (d := d) (dst := dst) (S := S) (tok := tok) acc2 s (by omega)
        rw [hI2, hany i s hget2, ← hI2] at f3
        have hI3 : acc2 ++ [s] = acc ++ x.fields.take (i + 1) := by
          obtain ⟨h1, h2⟩ := List.getElem?_eq_some_iff.1 hget2
          rw [List.take_succ_eq_append_getElem h1, h2, hI2, List.append_assoc]
        clear hI2
        simp only [amr, amc, amp, amz, seval, ty_RkJ_11, hb2, hget2', w2, f2, f3, hB, bne_self_eq_false]
        refine step_nrm (PcS.mk (acc2 ++ [s]) none g') hI3 rfl ?_
        (refine ⟨[], ?_⟩; (try simp only [amr, amc, amp, amz, seval]); exact sub_mk (by repeat first | exact subT_nil | refine subT_cons (by first | rfl | simp [Tm.get, *]) ?_))
      · rintro ⟨acc2, w, g'⟩ _ hI2 hb2
        rw [List.take_length] at hI2
        simp only at hI2
        subst hI2
        simp only [amr, amc, amp, amz, seval, ty_RkJ_11, hb2]
        refine last_end (by simp) ⟨rfl, w, g', ?_⟩
        exact sub_mk (by repeat first | exact subT_nil | refine subT_cons (by first | rfl | simp [Tm.get, *]) ?_)
      · (refine ⟨[], ?_⟩; (try simp only [amr, amc, amp, amz, seval, tokD, tokP]); exact sub_mk (by repeat first | exact subT_nil | refine subT_cons (by first | rfl | simp [Tm.get, *]) ?_))
      · rintro o S' ⟨rfl, w, g', hs'⟩
        refine good_sub_cr (up_stepr (fun r => up_cp)) hs' ?_
        rcases hsk with hz | ⟨z1, z2, z3, z4, z5⟩
        · have e1 : x.skip.op = 0 := by rw [hz]; rfl
          have e2 : x.skip.v.kind = 0 := by rw [hz]; rfl
          have e3 : x.skip.v.n = 0 := by rw [hz]; rfl
          have e4 : x.skip.v.s = [] := by rw [hz]; rfl
          have e5 : x.skip.name = [] := by rw [hz]; rfl
          have e6 : x.skip.args.map Exp.dv = [] := by rw [hz]; rfl
          simp only [amr, amc, amp, amz, seval, ty_RkJ_11, e1, e2, e3, e4, e5, e6, ca_NeverZ, w1, tokD, tokP]
          refine step_nrm (PcS.mk (acc ++ x.fields) (some t) g') hnext rfl ?_
          (refine ⟨[], ?_⟩; (try simp only [amr, amc, amp, amz, seval, tokD, tokP]); exact sub_mk (by repeat first | exact subT_nil | refine subT_cons (by first | rfl | simp [Tm.get, *]) ?_))
        · have fT' := fT z1 z2 z3 z4 z5
          rw [z5, if_pos rfl, Exp.dv_eq x.skip] at fT'
          have fV := fun (S : St) (d dst : Nat) => ca_NeverN (d := d) (dst := dst) (S := S) x z1
          rw [Page.dv_eq x] at fV
          simp only [amr, amc, amp, amz, seval, ty_RkJ_11, fV, fT', w1, tokD, tokP, bne_self_eq_false]
          refine step_nrm (PcS.mk (acc ++ x.fields) (some t) g') hnext rfl ?_
          (refine ⟨[], ?_⟩; (try simp only [amr, amc, amp, amz, seval, tokD, tokP]); exact sub_mk (by repeat first | exact subT_nil | refine subT_cons (by first | rfl | simp [Tm.get, *]) ?_))
  · rintro ⟨acc, t, g⟩ _ hI hb
    simp only [amr, amc, amp, amz, seval, ty_RkJ_11, hb]
    refine last_end (by simp) ⟨rfl, tokP 0 70 (acc.length * 1) t, g, ?_⟩
    exact sub_mk subT_nil
  · (refine ⟨[], ?_⟩; (try simp only [amr, amc, amp, amz, seval, tokD, tokP]); exact sub_mk (by repeat first | exact subT_nil | refine subT_cons (by first | rfl | simp [Tm.get, *]) ?_))
  · rintro o S' ⟨rfl, H, g, hs⟩
    refine good_sub_cr up_fin hs ?_
    simp only [amr, amc, amp, amz, seval, ty_RkJ_11]
theorem ca_CheckP {d dst : Nat} {S : St} (fs : List Field) (ps : List Page) (hf : FOKs fs) (h : PgFs fs ps) : callA tab (callR tab) d dst 11 [.d (.sl 8 (ps.map Page.dv)), .d (.sl 9 (fs.map Field.dv))] S = some (.d (.int .i64 0), S) :=
  ca_ret (ds := [.sl 8 (ps.map Page.dv), .sl 9 (fs.map Field.dv)]) (ret_CheckP fs ps hf h) rfl (tab_opn (by kernel_rfl)) (tab_res (by kernel_rfl))
end Go.Proofs.Ytfcfifohflgboaa.Am
