/- Pages: found; on which a field stands; never passed over. -/
import Derived.Test.YtfcfifohflgboaaRkH
set_option linter.unusedVariables false
set_option linter.unusedSimpArgs false
namespace Go.Proofs.Ytfcfifohflgboaa.Am
open Go Go.RowKit
theorem ty_RkI_44 : type_of% (ai (ai @rs44 (ai @lw44 @kp44_2)) (ai (ai @tt3 @tt4) (ai @tt9 @tt31))) := (ai (ai @rs44 (ai @lw44 @kp44_2)) (ai (ai @tt3 @tt4) (ai @tt9 @tt31)))
theorem ty_RkI_19 : type_of% (ai (ai @rs19 (ai @lw19 @tt3)) (ai @tt4 (ai @tt9 @tt31))) := (ai (ai @rs19 (ai @lw19 @tt3)) (ai @tt4 (ai @tt9 @tt31)))
theorem ty_RkI_45 : type_of% (ai (ai @rs45 (ai @lw45 @kp45_2)) (ai @tt3 (ai @tt4 @tt50))) := (ai (ai @rs45 (ai @lw45 @kp45_2)) (ai @tt3 (ai @tt4 @tt50)))
theorem ty_RkI_21 : type_of% (ai (ai @rs21 @lw21) (ai @tt3 (ai @tt4 @tt50))) := (ai (ai @rs21 @lw21) (ai @tt3 (ai @tt4 @tt50)))
theorem ty_RkI_40 : type_of% (ai (ai (ai @rs40 @lw40) (ai @ro38_2_page_go_22 (ai @tt3 @tt4))) (ai (ai @tt9 (ai @tt31 @tt33)) (ai @tt34 (ai @tt36 @tt38)))) := (ai (ai (ai @rs40 @lw40) (ai @ro38_2_page_go_22 (ai @tt3 @tt4))) (ai (ai @tt9 (ai @tt31 @tt33)) (ai @tt34 (ai @tt36 @tt38))))
theorem ty_RkI_38 : type_of% (ai (ai (ai @rs38 (ai @lw38 @kp38_2)) (ai @tt3 (ai @tt4 @tt9))) (ai (ai @tt24 (ai @tt31 @tt33)) (ai (ai @tt34 @tt36) (ai @tt38 @tt76)))) := (ai (ai (ai @rs38 (ai @lw38 @kp38_2)) (ai @tt3 (ai @tt4 @tt9))) (ai (ai @tt24 (ai @tt31 @tt33)) (ai (ai @tt34 @tt36) (ai @tt38 @tt76))))
theorem ty_RkI_14 : type_of% (ai (ai (ai @rs14 (ai @lw14 @ro9_3_page_go_21)) (ai (ai @tt3 @tt4) (ai @tt9 @tt24))) (ai (ai @tt28 (ai @tt31 @tt33)) (ai (ai @tt34 @tt36) (ai @tt38 @tt76)))) := (ai (ai (ai @rs14 (ai @lw14 @ro9_3_page_go_21)) (ai (ai @tt3 @tt4) (ai @tt9 @tt24))) (ai (ai @tt28 (ai @tt31 @tt33)) (ai (ai @tt34 @tt36) (ai @tt38 @tt76))))
theorem ty_RkI_39 : type_of% (ai (ai (ai @rs39 (ai @lw39 @ro38_2_page_go_63)) (ai @tt1 (ai @tt3 @tt4))) (ai (ai @tt9 (ai @tt31 @tt33)) (ai @tt34 (ai @tt36 @tt38)))) := (ai (ai (ai @rs39 (ai @lw39 @ro38_2_page_go_63)) (ai @tt1 (ai @tt3 @tt4))) (ai (ai @tt9 (ai @tt31 @tt33)) (ai @tt34 (ai @tt36 @tt38))))
theorem ty_RkI_13 : type_of% (ai (ai (ai @rs13 (ai @lw13 @ro9_3_page_go_62)) (ai (ai @tt3 @tt4) (ai @tt9 @tt24))) (ai (ai @tt28 (ai @tt31 @tt33)) (ai (ai @tt34 @tt36) (ai @tt38 @tt76)))) := (ai (ai (ai @rs13 (ai @lw13 @ro9_3_page_go_62)) (ai (ai @tt3 @tt4) (ai @tt9 @tt24))) (ai (ai @tt28 (ai @tt31 @tt33)) (ai (ai @tt34 @tt36) (ai @tt38 @tt76))))
theorem ty_RkI_36 : type_of% (ai (ai (ai @rs36 (ai @lw36 @ro38_1_page_go_15)) (ai @tt1 (ai @tt2 @tt3))) (ai (ai @tt4 (ai @tt9 @tt31)) (ai (ai @tt33 @tt34) (ai @tt36 @tt38)))) := (ai (ai (ai @rs36 (ai @lw36 @ro38_1_page_go_15)) (ai @tt1 (ai @tt2 @tt3))) (ai (ai @tt4 (ai @tt9 @tt31)) (ai (ai @tt33 @tt34) (ai @tt36 @tt38))))
set_option maxRecDepth 100000
set_option maxHeartbeats 40000000





theorem Page.dv_eq (x : Page) : x.dv = .agg [.str x.name, .sl 1 (x.fields.map DV.str), .int .i64 x.skip.op, .int .i64 x.skip.v.kind, .int .i64 x.skip.v.n, .str x.skip.v.s, .str x.skip.name, .sl 6 (x.skip.args.map Exp.dv)] := rfl
theorem ret_ixS (l : List Str) (s : Str) (hl : l.length ≤ 1048576) : Ret tab 44 [.d (.sl 1 (l.map DV.str)), .d (DV.str s)] (.d (.int .i64 (fidx (fun x => s == x) l 0))) := by
  refine ret_of (l.length + 1) fn44 rfl rfl ?_
  simp only [amr, amc, amp, amz, seval, ty_RkI_44]
  refine good_range l (fun k (_ : Unit) g => ⟨[(0, .d (.sl 1 (l.map DV.str))), (1, .d (DV.str s)), (7, .d (.int .i64 l.length)), (8, .d (.int .i64 (k : Nat)))], [], g⟩) (fun _ _ => True) (fun k _ r => (if fidx (fun x => s == x) r k = -1 then .inr () else .inl (fidx (fun x => s == x) r k) : Sum Int Unit))
    (QO .ret (fun e g => ⟨[(4, .d (.int .i64 e))], [], g⟩) (.exit 0) (fun _ g => ⟨[], [], g⟩)) () kp44_2 up_qo trivial (by omega) (by omega) ?_ ?_ ?_ ?_
  · rintro k a g x rest hk hget hdr _ hb w1
    have hget' : (l.map DV.str)[k]? = some (DV.str x) := by rw [List.getElem?_map, hget]; rfl
    cases hq : (s == x) with
    | true =>
      simp only [amr, amc, amp, amz, seval, ty_RkI_44, hb, hget', hq, w1]
      refine step_end (r := .inl (k : Int)) (by simp) ?_ ⟨rfl, ?_⟩
      · simp only [fidx, hq, if_true]; rw [if_neg (by omega)]
      · (apply Exists.intro; (try simp only [amr, amc, amp, amz, seval]); exact sub_mk (by repeat first | exact subT_nil | refine subT_cons (by first | rfl | simp [Tm.get, *]) ?_))
    | false =>
      simp only [amr, amc, amp, amz, seval, ty_RkI_44, hb, hget', hq, w1]
      refine step_nrm () trivial ?_ ?_
      · simp only [fidx, hq, Bool.false_eq_true, if_false]
      · (apply Exists.intro; (try simp only [amr, amc, amp, amz, seval]); exact sub_mk (by repeat first | exact subT_nil | refine subT_cons (by first | rfl | simp [Tm.get, *]) ?_))
  · intro a g _ hb
    simp only [amr, amc, amp, amz, seval, ty_RkI_44, hb]
    refine last_end (by simp) ?_
    simp only [fidx, if_true]
    refine ⟨rfl, ?_⟩
    (apply Exists.intro; (try simp only [amr, amc, amp, amz, seval]); exact sub_mk (by repeat first | exact subT_nil | refine subT_cons (by first | rfl | simp [Tm.get, *]) ?_))
  · (apply Exists.intro; (try simp only [amr, amc, amp, amz, seval]); exact sub_mk (by repeat first | exact subT_nil | refine subT_cons (by first | rfl | simp [Tm.get, *]) ?_))
  · intro o S' hq
    by_cases hz : fidx (fun x => s == x) l 0 = -1
    · rw [if_pos hz] at hq
      obtain ⟨rfl, g, hs⟩ := hq
      refine good_sub_cr up_fin hs ?_
      rw [hz]
      simp only [amr, amc, amp, amz, seval, ty_RkI_44]
    · rw [if_neg hz] at hq
      obtain ⟨rfl, g, hs⟩ := hq
      refine good_sub_cr up_fin hs ?_
      simp only [amr, amc, amp, amz, seval, ty_RkI_44]
theorem ret_conS (l : List Str) (s : Str) (hl : l.length ≤ 1048576) : Ret tab 19 [.d (.sl 1 (l.map DV.str)), .d (DV.str s)] (.d (.bool (l.any fun x => s == x))) := by
  have f1 := fun (S : St) (d dst : Nat) => ca_ret (d := d) (dst := dst) (S := S) (args := [.d (.sl 1 (l.map DV.str)), .d (DV.str s)]) (ds := [.sl 1 (l.map DV.str), DV.str s]) (ret_ixS l s hl) rfl (tab_opn (by kernel_rfl)) (tab_res (by kernel_rfl))
  have hz := fidx_any (fun x => s == x) l 0
  generalize fidx (fun x => s == x) l 0 = k at *
  generalize (l.any fun x => s == x) = b at *
  generalize l.map DV.str = ld at *
  refine ret_of 1 fn19 rfl rfl ?_
  simp only [amr, amc, amp, amz, seval, ty_RkI_19, f1, ge_iff_le] at hz ⊢
  simp only [hz]
theorem ca_conS {d dst : Nat} {S : St} (l : List Str) (s : Str) (hl : l.length ≤ 1048576) : callA tab (callR tab) d dst 19 [.d (.sl 1 (l.map DV.str)), .d (DV.str s)] S = some (.d (.bool (l.any fun x => s == x)), S) :=
  ca_ret (ds := [.sl 1 (l.map DV.str), DV.str s]) (ret_conS l s hl) rfl (tab_opn (by kernel_rfl)) (tab_res (by kernel_rfl))
theorem ca_conOS {d dst : Nat} {S : St} {tok : Option Id} (l : List Str) (s : Str) (hl : l.length ≤ 1048576) : callA tab (callR tab) d dst 19 [.own 1 (l.map DV.str) tok, .d (DV.str s)] S = some (.d (.bool (l.any fun x => s == x)), S) :=
  ca_ret (ds := [.sl 1 (l.map DV.str), DV.str s]) (ret_conS l s hl) rfl (tab_opn (by kernel_rfl)) (tab_res (by kernel_rfl))
theorem ret_ixI (l : List Int) (s : Int) (hl : l.length ≤ 1048576) : Ret tab 45 [.d (.sl 1 (l.map (DV.int .i64))), .d ((DV.int .i64) s)] (.d (.int .i64 (fidx (fun x => s == x) l 0))) := by
  refine ret_of (l.length + 1) fn45 rfl rfl ?_
  simp only [amr, amc, amp, amz, seval, ty_RkI_45]
  refine good_range l (fun k (_ : Unit) g => ⟨[(0, .d (.sl 1 (l.map (DV.int .i64)))), (1, .d ((DV.int .i64) s)), (7, .d (.int .i64 l.length)), (8, .d (.int .i64 (k : Nat)))], [], g⟩) (fun _ _ => True) (fun k _ r => (if fidx (fun x => s == x) r k = -1 then .inr () else .inl (fidx (fun x => s == x) r k) : Sum Int Unit))
    (QO .ret (fun e g => ⟨[(4, .d (.int .i64 e))], [], g⟩) (.exit 0) (fun _ g => ⟨[], [], g⟩)) () kp45_2 up_qo trivial (by omega) (by omega) ?_ ?_ ?_ ?_
  · rintro k a g x rest hk hget hdr _ hb w1
    have hget' : (l.map (DV.int .i64))[k]? = some ((DV.int .i64) x) := by rw [List.getElem?_map, hget]; rfl
    cases hq : (s == x) with
    | true =>
      simp only [amr, amc, amp, amz, seval, ty_RkI_45, hb, hget', hq, w1]
      refine step_end (r := .inl (k : Int)) (by simp) ?_ ⟨rfl, ?_⟩
      · simp only [fidx, hq, if_true]; rw [if_neg (by omega)]
      · (apply Exists.intro; (try simp only [amr, amc, amp, amz, seval]); exact sub_mk (by repeat first | exact subT_nil | refine subT_cons (by first | rfl | simp [Tm.get, *]) ?_))
    | false =>
      simp only [amr, amc, amp, amz, seval, ty_RkI_45, hb, hget', hq, w1]
      refine step_nrm () trivial ?_ ?_
      · simp only [fidx, hq, Bool.false_eq_true, if_false]
      · (apply Exists.intro; (try simp only [amr, amc, amp, amz, seval]); exact sub_mk (by repeat first | exact subT_nil | refine subT_cons (by first | rfl | simp [Tm.get, *]) ?_))
  · intro a g _ hb
    simp only [amr, amc, amp, amz, seval, ty_RkI_45, hb]
    refine last_end (by simp) ?_
    simp only [fidx, if_true]
    refine ⟨rfl, ?_⟩
    (apply Exists.intro; (try simp only [amr, amc, amp, amz, seval]); exact sub_mk (by repeat first | exact subT_nil | refine subT_cons (by first | rfl | simp [Tm.get, *]) ?_))
  · (apply Exists.intro; (try simp only [amr, amc, amp, amz, seval]); exact sub_mk (by repeat first | exact subT_nil | refine subT_cons (by first | rfl | simp [Tm.get, *]) ?_))
  · intro o S' hq
    by_cases hz : fidx (fun x => s == x) l 0 = -1
    · rw [if_pos hz] at hq
      obtain ⟨rfl, g, hs⟩ := hq
      refine good_sub_cr up_fin hs ?_
      rw [hz]
      simp only [amr, amc, amp, amz, seval, ty_RkI_45]
    · rw [if_neg hz] at hq
      obtain ⟨rfl, g, hs⟩ := hq
      refine good_sub_cr up_fin hs ?_
      simp only [amr, amc, amp, amz, seval, ty_RkI_45]
theorem ret_conI (l : List Int) (s : Int) (hl : l.length ≤ 1048576) : Ret tab 21 [.d (.sl 1 (l.map (DV.int .i64))), .d ((DV.int .i64) s)] (.d (.bool (l.any fun x => s == x))) := by
  have f1 := fun (S : St) (d dst : Nat) => ca_ret (d := d) (dst := dst) (S := S) (args := [.d (.sl 1 (l.map (DV.int .i64))), .d ((DV.int .i64) s)]) (ds := [.sl 1 (l.map (DV.int .i64)), (DV.int .i64) s]) (ret_ixI l s hl) rfl (tab_opn (by kernel_rfl)) (tab_res (by kernel_rfl))
  have hz := fidx_any (fun x => s == x) l 0
  generalize fidx (fun x => s == x) l 0 = k at *
  generalize (l.any fun x => s == x) = b at *
  generalize l.map (DV.int .i64) = ld at *
  refine ret_of 1 fn21 rfl rfl ?_
  simp only [amr, amc, amp, amz, seval, ty_RkI_21, f1, ge_iff_le] at hz ⊢
  simp only [hz]
theorem ca_conI {d dst : Nat} {S : St} (l : List Int) (s : Int) (hl : l.length ≤ 1048576) : callA tab (callR tab) d dst 21 [.d (.sl 1 (l.map (DV.int .i64))), .d ((DV.int .i64) s)] S = some (.d (.bool (l.any fun x => s == x)), S) :=
  ca_ret (ds := [.sl 1 (l.map (DV.int .i64)), (DV.int .i64) s]) (ret_conI l s hl) rfl (tab_opn (by kernel_rfl)) (tab_res (by kernel_rfl))
theorem ret_pfind1 (p : Page) (s : Str) : Ret tab 40 [.d (p.dv), .d (.rp [.str s])] (.d (.bool (p.name == s))) := by
  refine ret_of (1) fn40 rfl rfl ?_
  simp only [amr, amc, amp, amz, seval, ty_RkI_40, Page.dv]
  repeat' ((first | refine good_ci (fun h => ?_) (fun h => ?_) | refine good_cgt (fun h => ?_) (fun h => ?_) | refine good_cgf (fun h => ?_) (fun h => ?_) | refine good_cqgt (fun h => ?_) (fun h => ?_) | refine good_cqgf (fun h => ?_) (fun h => ?_)) <;> simp only [amr, amc, amp, amz, seval, ty_RkI_40, Page.dv, h])
  all_goals (simp [*])
theorem cf_pfind1 {d dst : Nat} {S : St} (p : Page) (s : Str) : callA tab (callR tab) d dst 40 [.d (p.dv), .d (.rp [.str s])] S = some (.d (.bool (p.name == s)), S) :=
  ca_ret (ds := [p.dv, .rp [.str s]]) (ret_pfind1 p s) rfl (tab_opn (by kernel_rfl)) (tab_res (by kernel_rfl))
theorem ca_idxP {d dst : Nat} {S : St} (f : Nat) (caps : List DV) (p : Page → Bool) (hp : ∀ (S : St) (d dst : Nat) (t : Page), callA tab (callR tab) d dst f (.d (Page.dv t) :: caps.map .d) S = some (.d (.bool (p t)), S)) (l : List Page) (hl : l.length ≤ 1048576) :
    callA tab (callR tab) d dst 38 [.d (.sl 8 (l.map Page.dv)), .d (.fn f caps)] S = some (.d (.int .i64 (fidx p l 0)), S) := by
  refine ca_ret (ds := [.sl 8 (l.map Page.dv), .fn f caps]) ?_ rfl (tab_opn (by kernel_rfl)) (tab_res (by kernel_rfl))
  refine ret_of (l.length + 1) fn38 rfl rfl ?_
  try simp only [Page.dv] at hp
  simp only [amr, amc, amp, amz, seval, ty_RkI_38]
  refine good_range l (fun k (_ : Unit) g => ⟨[(0, .d (.sl 8 (l.map Page.dv))), (1, .d (.fn f caps)), (7, .d (.int .i64 l.length)), (8, .d (.int .i64 (k : Nat)))], [], g⟩) (fun _ _ => True) (fun k _ r => (if fidx p r k = -1 then .inr () else .inl (fidx p r k) : Sum Int Unit))
    (QO .ret (fun e g => ⟨[(4, .d (.int .i64 e))], [], g⟩) (.exit 0) (fun _ g => ⟨[], [], g⟩)) () kp38_2 up_qo trivial (by omega) (by omega) ?_ ?_ ?_ ?_
  · rintro k a g x rest hk hget hdr _ hb w1
    have hget' : (l.map Page.dv)[k]? = some (Page.dv x) := by rw [List.getElem?_map, hget]; rfl
    cases hq : p x with
    | true =>
      simp only [amr, amc, amp, amz, seval, ty_RkI_38, Page.dv, hb, hget', hp, hq, w1]
      refine step_end (r := .inl (k : Int)) (by simp) ?_ ⟨rfl, ?_⟩
      · simp only [fidx, hq, if_true]; rw [if_neg (by omega)]
      · (apply Exists.intro; (try simp only [amr, amc, amp, amz, seval]); exact sub_mk (by repeat first | exact subT_nil | refine subT_cons (by first | rfl | simp [Tm.get, *]) ?_))
    | false =>
      simp only [amr, amc, amp, amz, seval, ty_RkI_38, Page.dv, hb, hget', hp, hq, w1]
      refine step_nrm () trivial ?_ ?_
      · simp only [fidx, hq, Bool.false_eq_true, if_false]
      · (apply Exists.intro; (try simp only [amr, amc, amp, amz, seval]); exact sub_mk (by repeat first | exact subT_nil | refine subT_cons (by first | rfl | simp [Tm.get, *]) ?_))
  · intro a g _ hb
    simp only [amr, amc, amp, amz, seval, ty_RkI_38, hb]
    refine last_end (by simp) ?_
    simp only [fidx, if_true]
    refine ⟨rfl, ?_⟩
    (apply Exists.intro; (try simp only [amr, amc, amp, amz, seval]); exact sub_mk (by repeat first | exact subT_nil | refine subT_cons (by first | rfl | simp [Tm.get, *]) ?_))
  · (apply Exists.intro; (try simp only [amr, amc, amp, amz, seval]); exact sub_mk (by repeat first | exact subT_nil | refine subT_cons (by first | rfl | simp [Tm.get, *]) ?_))
  · intro o S' hq
    by_cases hz : fidx p l 0 = -1
    · rw [if_pos hz] at hq
      obtain ⟨rfl, g, hs⟩ := hq
      refine good_sub_cr up_fin hs ?_
      rw [hz]
      simp only [amr, amc, amp, amz, seval, ty_RkI_38]
    · rw [if_neg hz] at hq
      obtain ⟨rfl, g, hs⟩ := hq
      refine good_sub_cr up_fin hs ?_
      simp only [amr, amc, amp, amz, seval, ty_RkI_38]
def pfind (l : List Page) (s : Str) : Int × Int := if fidx (fun p => p.name == s) l 0 < 0 then (0, 5) else (fidx (fun p => p.name == s) l 0, 0)
theorem ret_PFind (l : List Page) (s : Str) (hl : l.length ≤ 1048576) : Ret tab 14 [.d (.sl 8 (l.map Page.dv)), .d (.str (s))] (.tup [.d (.int .i64 ((pfind l s).1)), .d (.int .i64 ((pfind l s).2))]) := by
  refine ret_of (1) fn14 rfl rfl ?_
  have f1 := fun (S : St) (d dst : Nat) => ca_idxP (d := d) (dst := dst) (S := S) 40 [.rp [.str s]] (fun p => p.name == s) (fun S d dst t => cf_pfind1 t s) l hl
  unfold pfind
  generalize fidx (fun p => p.name == s) l 0 = k at *
  by_cases c : k < 0
  · have b : decide (k < 0) = true := decide_eq_true c
    rw [if_pos c]
    simp only [amr, amc, amp, amz, seval, ty_RkI_14, f1, b]
  · have b : decide (k < 0) = false := decide_eq_false c
    rw [if_neg c]
    simp only [amr, amc, amp, amz, seval, ty_RkI_14, f1, b]
theorem ca_PFind {d dst : Nat} {S : St} (l : List Page) (s : Str) (hl : l.length ≤ 1048576) : callA tab (callR tab) d dst 14 [.d (.sl 8 (l.map Page.dv)), .d (.str (s))] S = some (.tup [.d (.int .i64 ((pfind l s).1)), .d (.int .i64 ((pfind l s).2))], S) :=
  ca_ret_tup (ds := [.sl 8 (l.map Page.dv), .str (s)]) (ys := [.int .i64 ((pfind l s).1), .int .i64 ((pfind l s).2)]) (ret_PFind l s hl) rfl (tab_opn (by kernel_rfl)) (tab_res (by kernel_rfl)) rfl
theorem ca_pof1 {d dst : Nat} {S : St} (p : Page) (s : Str) (hl : p.fields.length ≤ 1048576) : callA tab (callR tab) d dst 39 [.d p.dv, .d (.rp [.str s])] S = some (.d (.bool (p.fields.any fun x => s == x)), S) := by
  refine ca_ret (ds := [p.dv, .rp [.str s]]) ?_ rfl (tab_opn (by kernel_rfl)) (tab_res (by kernel_rfl))
  have f1 := fun (S : St) (d dst : Nat) => ca_conS (d := d) (dst := dst) (S := S) p.fields s hl
  rw [Page.dv_eq p]
  generalize p.fields.map DV.str = fd at *
  refine ret_of 1 fn39 rfl rfl ?_
  simp only [amr, amc, amp, amz, seval, ty_RkI_39, f1]
def pof (l : List Page) (s : Str) : Int × Int := if fidx (fun p => p.fields.any fun x => s == x) l 0 < 0 then (0, 5) else (fidx (fun p => p.fields.any fun x => s == x) l 0, 0)
theorem ca_idmP {d dst : Nat} {S : St} (f : Nat) (caps : List DV) (p : Page → Bool) (l : List Page) (hl : l.length ≤ 1048576) (hp : ∀ (S : St) (d dst : Nat) (t : Page), t ∈ l → callA tab (callR tab) d dst f (.d (Page.dv t) :: caps.map .d) S = some (.d (.bool (p t)), S)) :
    callA tab (callR tab) d dst 38 [.d (.sl 8 (l.map Page.dv)), .d (.fn f caps)] S = some (.d (.int .i64 (fidx p l 0)), S) := by
  refine ca_ret (ds := [.sl 8 (l.map Page.dv), .fn f caps]) ?_ rfl (tab_opn (by kernel_rfl)) (tab_res (by kernel_rfl))
  refine ret_of (l.length + 1) fn38 rfl rfl ?_
  simp only [amr, amc, amp, amz, seval, ty_RkI_38]
  refine good_range l (fun k (_ : Unit) g => ⟨[(0, .d (.sl 8 (l.map Page.dv))), (1, .d (.fn f caps)), (7, .d (.int .i64 l.length)), (8, .d (.int .i64 (k : Nat)))], [], g⟩) (fun _ _ => True) (fun k _ r => (if fidx p r k = -1 then .inr () else .inl (fidx p r k) : Sum Int Unit))
    (QO .ret (fun e g => ⟨[(4, .d (.int .i64 e))], [], g⟩) (.exit 0) (fun _ g => ⟨[], [], g⟩)) () kp38_2 up_qo trivial (by omega) (by omega) ?_ ?_ ?_ ?_
  · rintro k a g x rest hk hget hdr _ hb w1
    have hget' : (l.map Page.dv)[k]? = some (Page.dv x) := by rw [List.getElem?_map, hget]; rfl
    have hp' := fun (S : St) (d dst : Nat) => hp S d dst x (List.mem_of_getElem? hget)
    simp only [Page.dv] at hp'
    cases hq : p x with
    | true =>
      simp only [amr, amc, amp, amz, seval, ty_RkI_38, Page.dv, hb, hget', hp', hq, w1]
      refine step_end (r := .inl (k : Int)) (by simp) ?_ ⟨rfl, ?_⟩
      · simp only [fidx, hq, if_true]; rw [if_neg (by omega)]
      · (apply Exists.intro; (try simp only [amr, amc, amp, amz, seval]); exact sub_mk (by repeat first | exact subT_nil | refine subT_cons (by first | rfl | simp [Tm.get, *]) ?_))
    | false =>
      simp only [amr, amc, amp, amz, seval, ty_RkI_38, Page.dv, hb, hget', hp', hq, w1]
      refine step_nrm () trivial ?_ ?_
      · simp only [fidx, hq, Bool.false_eq_true, if_false]
      · (apply Exists.intro; (try simp only [amr, amc, amp, amz, seval]); exact sub_mk (by repeat first | exact subT_nil | refine subT_cons (by first | rfl | simp [Tm.get, *]) ?_))
  · intro a g _ hb
    simp only [amr, amc, amp, amz, seval, ty_RkI_38, hb]
    refine last_end (by simp) ?_
    simp only [fidx, if_true]
    refine ⟨rfl, ?_⟩
    (apply Exists.intro; (try simp only [amr, amc, amp, amz, seval]); exact sub_mk (by repeat first | exact subT_nil | refine subT_cons (by first | rfl | simp [Tm.get, *]) ?_))
  · (apply Exists.intro; (try simp only [amr, amc, amp, amz, seval]); exact sub_mk (by repeat first | exact subT_nil | refine subT_cons (by first | rfl | simp [Tm.get, *]) ?_))
  · intro o S' hq
    by_cases hz : fidx p l 0 = -1
    · rw [if_pos hz] at hq
      obtain ⟨rfl, g, hs⟩ := hq
      refine good_sub_cr up_fin hs ?_
      rw [hz]
      simp only [amr, amc, amp, amz, seval, ty_RkI_38]
    · rw [if_neg hz] at hq
      obtain ⟨rfl, g, hs⟩ := hq
      refine good_sub_cr up_fin hs ?_
      simp only [amr, amc, amp, amz, seval, ty_RkI_38]
theorem ret_pof (l : List Page) (s : Str) (hl : l.length ≤ 1048576) (hf : ∀ p ∈ l, p.fields.length ≤ 1048576) : Ret tab 13 [.d (.sl 8 (l.map Page.dv)), .d (.str s)] (.tup [.d (.int .i64 (pof l s).1), .d (.int .i64 (pof l s).2)]) := by
  have f1 := fun (S : St) (d dst : Nat) => ca_idmP (d := d) (dst := dst) (S := S) 39 [.rp [.str s]] (fun p => p.fields.any fun x => s == x) l hl (fun S d dst t ht => ca_pof1 t s (hf t ht))
  unfold pof
  generalize fidx (fun p => p.fields.any fun x => s == x) l 0 = k at *
  refine ret_of 1 fn13 rfl rfl ?_
  by_cases c : k < 0
  · have b : decide (k < 0) = true := decide_eq_true c
    rw [if_pos c]
    simp only [amr, amc, amp, amz, seval, ty_RkI_13, f1, b]
  · have b : decide (k < 0) = false := decide_eq_false c
    rw [if_neg c]
    simp only [amr, amc, amp, amz, seval, ty_RkI_13, f1, b]
theorem ca_pof {d dst : Nat} {S : St} (l : List Page) (s : Str) (hl : l.length ≤ 1048576) (hf : ∀ p ∈ l, p.fields.length ≤ 1048576) : callA tab (callR tab) d dst 13 [.d (.sl 8 (l.map Page.dv)), .d (.str s)] S = some (.tup [.d (.int .i64 (pof l s).1), .d (.int .i64 (pof l s).2)], S) :=
  ca_ret_tup (ds := [.sl 8 (l.map Page.dv), .str s]) (ys := [.int .i64 (pof l s).1, .int .i64 (pof l s).2]) (ret_pof l s hl hf) rfl (tab_opn (by kernel_rfl)) (tab_res (by kernel_rfl)) rfl
theorem ca_NeverZ {d dst : Nat} {S : St} (nm : Str) (fd : List DV) : callA tab (callR tab) d dst 36 [.d (.agg [.str nm, .sl 1 fd, .int .i64 0, .int .i64 0, .int .i64 0, .str [], .str [], .sl 6 []])] S = some (.d (.bool true), S) := by
  refine ca_ret (ds := [.agg [.str nm, .sl 1 fd, .int .i64 0, .int .i64 0, .int .i64 0, .str [], .str [], .sl 6 []]]) ?_ rfl (tab_opn (by kernel_rfl)) (tab_res (by kernel_rfl))
  refine ret_of 1 fn36 rfl rfl ?_
  simp only [amr, amc, amp, amz, seval, ty_RkI_36, beq_self_eq_true]
theorem ca_NeverN {d dst : Nat} {S : St} (p : Page) (h : p.skip.op ≠ 0) : callA tab (callR tab) d dst 36 [.d p.dv] S = some (.d (.bool false), S) := by
  refine ca_ret (ds := [p.dv]) ?_ rfl (tab_opn (by kernel_rfl)) (tab_res (by kernel_rfl))
  have b1 : (p.skip.op == 0) = false := beq_eq_false_iff_ne.2 h
  rw [Page.dv_eq p]
  refine ret_of 1 fn36 rfl rfl ?_
  simp only [amr, amc, amp, amz, seval, ty_RkI_36, b1]
end Go.Proofs.Ytfcfifohflgboaa.Am
