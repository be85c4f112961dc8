/- Of which type a formula is: the walk. -/
import Derived.Test.YtjjjkoknodcaaaaNmH
set_option linter.unusedVariables false
set_option linter.unusedSimpArgs false
namespace Go.Proofs.Ytjjjkoknodcaaaa.Am
open Go Go.RowKit
theorem ty_TyC_72 : type_of% (ai (ai (ai (ai @rs72 (ai @lv72_0 @lv72_1)) (ai (ai @lv72_2 @lv72_3) (ai @lv72_4 @lv72_5))) (ai (ai @dr72_6 (ai @lv72_6 @lv72_7)) (ai (ai @lv72_8 @lv72_9) (ai @kp72_4 @und3)))) (ai (ai (ai @sz3 (ai @ag3 @lv3)) (ai (ai @inf3 @und4) (ai @sz4 @ag4))) (ai (ai @lv4 (ai @inf4 @und67)) (ai (ai @sz67 @ag67) (ai @pT67 @inf67))))) := (ai (ai (ai (ai @rs72 (ai @lv72_0 @lv72_1)) (ai (ai @lv72_2 @lv72_3) (ai @lv72_4 @lv72_5))) (ai (ai @dr72_6 (ai @lv72_6 @lv72_7)) (ai (ai @lv72_8 @lv72_9) (ai @kp72_4 @und3)))) (ai (ai (ai @sz3 (ai @ag3 @lv3)) (ai (ai @inf3 @und4) (ai @sz4 @ag4))) (ai (ai @lv4 (ai @inf4 @und67)) (ai (ai @sz67 @ag67) (ai @pT67 @inf67)))))
theorem ty_TyC_49 : type_of% (ai (ai (ai (ai (ai (ai @rs49 (ai @lv49_0 @ro27_3_typing_go_28)) (ai @lv49_1 (ai @lv49_2 @lv49_3))) (ai (ai @lv49_4 (ai @lv49_5 @lv49_6)) (ai @lv49_7 (ai @lv49_8 @lv49_9)))) (ai (ai (ai @lv49_10 (ai @lv49_11 @lv49_12)) (ai @lv49_13 (ai @lv49_14 @lv49_15))) (ai (ai @lv49_16 (ai @mu67_56 @lv49_17)) (ai (ai @lv49_18 @lv49_19) (ai @lv49_20 @lv49_21))))) (ai (ai (ai (ai @lv49_22 (ai @dr49_23 @lv49_23)) (ai @lv49_24 (ai @dr49_25 @lv49_25))) (ai (ai @lv49_26 (ai @lv49_27 @kp49_11)) (ai (ai @und1 @sz1) (ai @ag1 @inf1)))) (ai (ai (ai @und2 (ai @sz2 @ag2)) (ai @lv2 (ai @inf2 @und3))) (ai (ai @sz3 (ai @ag3 @lv3)) (ai (ai @inf3 @und4) (ai @sz4 @ag4)))))) (ai (ai (ai (ai (ai @lv4 (ai @inf4 @und9)) (ai @sz9 (ai @ag9 @lv9))) (ai (ai @inf9 (ai @und24 @sz24)) (ai (ai @ag24 @fo24) (ai @bA24 @pT24_0)))) (ai (ai (ai @pT24_1 (ai @pT24_2 @lv24)) (ai @inf24 (ai @und25 @sz25))) (ai (ai @ag25 (ai @pT25 @inf25)) (ai (ai @und27 @sz27) (ai @ag27 @fo27))))) (ai (ai (ai (ai @bA27 (ai @pT27_0 @pT27_1)) (ai @pT27_2 (ai @pT27_3 @inf27))) (ai (ai @und34 (ai @sz34 @ag34)) (ai (ai @lv34 @inf34) (ai @und67 @sz67)))) (ai (ai (ai @ag67 (ai @pT67 @inf67)) (ai @und88 (ai @und90 @und112))) (ai (ai @sz112 (ai @ag112 @fo112)) (ai (ai @bA112 @pT112_0) (ai @pT112_1 @inf112))))))) := (ai (ai (ai (ai (ai (ai @rs49 (ai @lv49_0 @ro27_3_typing_go_28)) (ai @lv49_1 (ai @lv49_2 @lv49_3))) (ai (ai @lv49_4 (ai @lv49_5 @lv49_6)) (ai @lv49_7 (ai @lv49_8 @lv49_9)))) (ai (ai (ai @lv49_10 (ai @lv49_11 @lv49_12)) (ai @lv49_13 (ai @lv49_14 @lv49_15))) (ai (ai @lv49_16 (ai @mu67_56 @lv49_17)) (ai (ai @lv49_18 @lv49_19) (ai @lv49_20 @lv49_21))))) (ai (ai (ai (ai @lv49_22 (ai @dr49_23 @lv49_23)) (ai @lv49_24 (ai @dr49_25 @lv49_25))) (ai (ai @lv49_26 (ai @lv49_27 @kp49_11)) (ai (ai @und1 @sz1) (ai @ag1 @inf1)))) (ai (ai (ai @und2 (ai @sz2 @ag2)) (ai @lv2 (ai @inf2 @und3))) (ai (ai @sz3 (ai @ag3 @lv3)) (ai (ai @inf3 @und4) (ai @sz4 @ag4)))))) (ai (ai (ai (ai (ai @lv4 (ai @inf4 @und9)) (ai @sz9 (ai @ag9 @lv9))) (ai (ai @inf9 (ai @und24 @sz24)) (ai (ai @ag24 @fo24) (ai @bA24 @pT24_0)))) (ai (ai (ai @pT24_1 (ai @pT24_2 @lv24)) (ai @inf24 (ai @und25 @sz25))) (ai (ai @ag25 (ai @pT25 @inf25)) (ai (ai @und27 @sz27) (ai @ag27 @fo27))))) (ai (ai (ai (ai @bA27 (ai @pT27_0 @pT27_1)) (ai @pT27_2 (ai @pT27_3 @inf27))) (ai (ai @und34 (ai @sz34 @ag34)) (ai (ai @lv34 @inf34) (ai @und67 @sz67)))) (ai (ai (ai @ag67 (ai @pT67 @inf67)) (ai @und88 (ai @und90 @und112))) (ai (ai @sz112 (ai @ag112 @fo112)) (ai (ai @bA112 @pT112_0) (ai @pT112_1 @inf112)))))))
set_option maxRecDepth 100000
set_option maxHeartbeats 40000000



def Field.fl (f : Field) : Fl := ⟨f.name, f.kind, f.ty, f.source.ex⟩
theorem fl_dv (f : Field) : f.fl.dv = f.dv := by
  obtain ⟨name, kind, ty, ⟨op, v, nm, args⟩⟩ := f
  simp only [Field.fl, Fl.dv, Exp.ex, Ex.cells, ex_dvs, Exp.dvs_map, Field.dv]
  rfl
/-- The types of fields. -/
def tmap (fs : List Field) : List (List UInt8 × Int) := typesL (fs.map Field.fl)
theorem ca_types {d dst : Nat} {S : St} (fs : List Field) : callA tab (callR tab) d dst 50 [.d (.sl 9 (fs.map Field.dv))] S = some (.d (.mp (mdvI (tmap fs))), S) := by
  refine call_prim prim50 (ds := [.sl 9 (fs.map Field.dv)]) rfl (tab_opn (by kernel_rfl)) (tab_lend (by kernel_rfl)) (by simp only [tab]; exact look2_none _ _ _ (by kernel_rfl)) (by kernel_rfl) ?_
  have h : fs.map Field.dv = (fs.map Field.fl).map Fl.dv := by rw [List.map_map]; exact List.map_congr_left (fun f _ => (fl_dv f).symm)
  rw [h, typP_eq]
  rfl
theorem ca_rules {d dst : Nat} {S : St} : callA tab (callR tab) d dst 51 [] S = some (.d (.ump knownL), S) :=
  call_prim prim51 (ds := []) rfl (tab_opn (by kernel_rfl)) (tab_lend (by kernel_rfl)) (by simp only [tab]; exact look2_none _ _ _ (by kernel_rfl)) (by kernel_rfl) rfl
theorem ret_EqI (l : List Int) (hl : l.length ≤ 1048576) : Ret tab 72 [.d (.sl 1 (l.map (fun x => DV.int .i64 x))), .d (.sl 1 (l.map (fun x => DV.int .i64 x)))] (.d (.bool true)) := by
  refine ret_of (l.length + 1) fn72 rfl rfl ?_
  simp only [amr, amc, amp, if_true, if_false, ne_eq, gt_iff_lt, Option.getD, argsT, Option.bind, Option.map, List.headD, List.tail, opnsL, List.replicate, lendsL, seval, ty_TyC_72, bne_self_eq_false]
  refine good_range l (fun k (_ : Unit) g => ⟨[(0, .d (.sl 1 (l.map (fun x => DV.int .i64 x)))), (1, .d (.sl 1 (l.map (fun x => DV.int .i64 x)))), (12, .d (.int .i64 l.length)), (13, .d (.int .i64 (k : Nat)))], [], g⟩)
    (fun _ _ => True) (fun _ _ _ => ()) (QX (.exit 0) (fun _ g => ⟨[], [], g⟩)) () kp72_4 up_qx trivial (by omega) (by omega) ?_ ?_ ?_ ?_
  · rintro k _ g x rest hk hget hd _ hb w1
    have hget' : (l.map (fun x => DV.int .i64 x))[k]? = some (.int .i64 x) := by rw [List.getElem?_map, hget]; rfl
    have hkl : ((k : Int) < (l.length : Int)) = True := eq_true (by omega)
    simp only [amr, amc, amp, if_true, if_false, ne_eq, gt_iff_lt, Option.getD, argsT, Option.bind, Option.map, List.headD, List.tail, opnsL, List.replicate, lendsL, seval, ty_TyC_72, hb, hget', w1, hkl, bne_self_eq_false]
    refine step_nrm () trivial rfl ?_
    (apply Exists.intro; (try simp only [amr, amc, amp, if_true, if_false, ne_eq, gt_iff_lt, Option.getD, argsT, Option.bind, Option.map, List.headD, List.tail, opnsL, List.replicate, lendsL, seval]); exact sub_mk (by repeat first | exact subT_nil | refine subT_cons (by first | rfl | simp [Tm.get, *]) ?_))
  · rintro _ g _ hb
    simp only [amr, amc, amp, if_true, if_false, ne_eq, gt_iff_lt, Option.getD, argsT, Option.bind, Option.map, List.headD, List.tail, opnsL, List.replicate, lendsL, seval, ty_TyC_72, hb]
    refine last_end (by simp) ⟨rfl, ?_⟩
    (apply Exists.intro; (try simp only [amr, amc, amp, if_true, if_false, ne_eq, gt_iff_lt, Option.getD, argsT, Option.bind, Option.map, List.headD, List.tail, opnsL, List.replicate, lendsL, seval]); exact sub_mk (by repeat first | exact subT_nil | refine subT_cons (by first | rfl | simp [Tm.get, *]) ?_))
  · (apply Exists.intro; (try simp only [amr, amc, amp, if_true, if_false, ne_eq, gt_iff_lt, Option.getD, argsT, Option.bind, Option.map, List.headD, List.tail, opnsL, List.replicate, lendsL, seval]); exact sub_mk (by repeat first | exact subT_nil | refine subT_cons (by first | rfl | simp [Tm.get, *]) ?_))
  · rintro o S' ⟨rfl, g, hs⟩
    refine good_sub_cr up_fin hs ?_
    simp only [amr, amc, amp, if_true, if_false, ne_eq, gt_iff_lt, Option.getD, argsT, Option.bind, Option.map, List.headD, List.tail, opnsL, List.replicate, lendsL, seval, ty_TyC_72]
theorem ca_EqI {d dst : Nat} {S : St} (l : List Int) (tok : Option Id) (hl : l.length ≤ 1048576) : callA tab (callR tab) d dst 72 [.own 1 (l.map (fun x => DV.int .i64 x)) tok, .d (.sl 1 (l.map (fun x => DV.int .i64 x)))] S = some (.d (.bool true), S) :=
  ca_ret (ds := [.sl 1 (l.map (fun x => DV.int .i64 x)), .sl 1 (l.map (fun x => DV.int .i64 x))]) (ret_EqI l hl) rfl (tab_opn (by kernel_rfl)) (tab_res (by kernel_rfl))
/-- The type that a name has; 0 where it has none. -/
def lookI : List (List UInt8 × Int) → List UInt8 → Int
  | [], _ => 0
  | (k, v) :: r, s => if s = k then v else lookI r s
theorem fk_I {m : List (List UInt8 × Int)} (s : List UInt8) (h : lookI m s ≠ 0) : findK .string (.str s) (mdvI m) = some (some (.int .i64 (lookI m s))) := by
  induction m with
  | nil => exact absurd rfl h
  | cons p r ih =>
    obtain ⟨k, v⟩ := p
    simp only [mdvI, List.map_cons] at ih ⊢
    unfold findK
    simp only [sameK]
    unfold lookI at h ⊢
    by_cases e : s = k
    · subst e
      simp
    · rw [if_neg e] at h ⊢
      rw [beq_eq_false_iff_ne.2 e]
      exact ih h
/-- .. of ops that stand in no list. -/
def ruleE (op : Int) (ts : List Int) : Int := if op = 17 then (match ts with
    | [c, a, b] => if c = 2 ∧ a = b ∧ 1 ≤ a ∧ a ≤ 3 then a else 0
    | _ => 0)
  else if 11 ≤ op ∧ op ≤ 14 then (match ts with
    | [a, b] => if a = b ∧ 1 ≤ a ∧ a ≤ 3 then 2 else 0
    | _ => 0)
  else 0
/-- The type that an op gives, by those of its arguments; 0 where it gives none. -/
def ruleT (op : Int) (ts : List Int) : Int :=
  if op = 3 then (if ts = [1] then 1 else 0) else if op = 4 then (if ts = [2] then 2 else 0) else if op = 18 then (if ts = [3] then 1 else 0)
  else if 5 ≤ op ∧ op ≤ 9 then (if ts = [1, 1] then 1 else 0) else if op = 10 then (if ts = [3, 3] then 3 else 0) else if op = 15 ∨ op = 16 then (if ts = [2, 2] then 2 else 0)
  else ruleE op ts
mutual
/-- A formula's type; 0 where it has none. -/
def Exp.ty (m : List (List UInt8 × Int)) : Exp → Int
  | .mk op v name args => if op = 1 then v.kind else if op = 2 then lookI m name else ruleT op (Exp.tyL m args)
def Exp.tyL (m : List (List UInt8 × Int)) : List Exp → List Int
  | [] => []
  | x :: r => x.ty m :: Exp.tyL m r
end
theorem tyL_map (m : List (List UInt8 × Int)) : ∀ l : List Exp, Exp.tyL m l = l.map (Exp.ty m)
  | [] => rfl
  | x :: r => by rw [Exp.tyL, tyL_map m r]; rfl
/-- What an op gives a type for. -/
theorem rule_cases {op : Int} {ts : List Int} (h : ruleT op ts ≠ 0) :
    (op = 3 ∧ ts = [1] ∧ ruleT op ts = 1) ∨ (op = 4 ∧ ts = [2] ∧ ruleT op ts = 2) ∨ (op = 18 ∧ ts = [3] ∧ ruleT op ts = 1) ∨ ((op = 5 ∨ op = 6 ∨ op = 7 ∨ op = 8 ∨ op = 9) ∧ ts = [1, 1] ∧ ruleT op ts = 1) ∨
    (op = 10 ∧ ts = [3, 3] ∧ ruleT op ts = 3) ∨ ((op = 15 ∨ op = 16) ∧ ts = [2, 2] ∧ ruleT op ts = 2) ∨ (op = 17 ∧ ∃ a, ts = [2, a, a] ∧ (1 ≤ a ∧ a ≤ 3) ∧ ruleT op ts = a) ∨ ((op = 11 ∨ op = 12 ∨ op = 13 ∨ op = 14) ∧ ∃ a, ts = [a, a] ∧ (1 ≤ a ∧ a ≤ 3) ∧ ruleT op ts = 2) := by
  by_cases c1 : op = 3
  · subst c1
    by_cases e : ts = [1]
    · subst e; exact .inl ⟨rfl, rfl, rfl⟩
    · exact absurd (by unfold ruleT; rw [if_pos rfl, if_neg e]) h
  by_cases c2 : op = 4
  · subst c2
    by_cases e : ts = [2]
    · subst e; exact .inr (.inl ⟨rfl, rfl, rfl⟩)
    · exact absurd (by unfold ruleT; rw [if_neg (by decide), if_pos rfl, if_neg e]) h
  by_cases c3 : op = 18
  · subst c3
    by_cases e : ts = [3]
    · subst e; exact .inr (.inr (.inl ⟨rfl, rfl, rfl⟩))
    · exact absurd (by unfold ruleT; rw [if_neg (by decide), if_neg (by decide), if_pos rfl, if_neg e]) h
  by_cases c4 : 5 ≤ op ∧ op ≤ 9
  · by_cases e : ts = [1, 1]
    · subst e
      exact .inr (.inr (.inr (.inl ⟨by omega, rfl, by unfold ruleT; rw [if_neg c1, if_neg c2, if_neg c3, if_pos c4, if_pos rfl]⟩)))
    · exact absurd (by unfold ruleT; rw [if_neg c1, if_neg c2, if_neg c3, if_pos c4, if_neg e]) h
  by_cases c5 : op = 10
  · subst c5
    by_cases e : ts = [3, 3]
    · subst e; exact .inr (.inr (.inr (.inr (.inl ⟨rfl, rfl, rfl⟩))))
    · exact absurd (by unfold ruleT; rw [if_neg c1, if_neg c2, if_neg c3, if_neg c4, if_pos rfl, if_neg e]) h
  by_cases c6 : op = 15 ∨ op = 16
  · by_cases e : ts = [2, 2]
    · subst e
      exact .inr (.inr (.inr (.inr (.inr (.inl ⟨c6, rfl, by unfold ruleT; rw [if_neg c1, if_neg c2, if_neg c3, if_neg c4, if_neg c5, if_pos c6, if_pos rfl]⟩)))))
    · exact absurd (by unfold ruleT; rw [if_neg c1, if_neg c2, if_neg c3, if_neg c4, if_neg c5, if_pos c6, if_neg e]) h
  have hr : ruleT op ts = ruleE op ts := by unfold ruleT; rw [if_neg c1, if_neg c2, if_neg c3, if_neg c4, if_neg c5, if_neg c6]
  rw [hr] at h ⊢
  unfold ruleE at h ⊢
  by_cases c7 : op = 17
  · subst c7
    rw [if_pos rfl] at h ⊢
    rcases ts with _ | ⟨c, _ | ⟨a, _ | ⟨b, _ | ⟨e, r⟩⟩⟩⟩
    · exact absurd rfl h
    · exact absurd rfl h
    · exact absurd rfl h
    · by_cases k : c = 2 ∧ a = b ∧ 1 ≤ a ∧ a ≤ 3
      · obtain ⟨rfl, rfl, k1, k2⟩ := k
        exact .inr (.inr (.inr (.inr (.inr (.inr (.inl ⟨rfl, a, rfl, ⟨k1, k2⟩, by simp [k1, k2]⟩))))))
      · exact absurd (if_neg k) h
    · exact absurd rfl h
  · rw [if_neg c7] at h ⊢
    by_cases c8 : 11 ≤ op ∧ op ≤ 14
    · rw [if_pos c8] at h ⊢
      rcases ts with _ | ⟨a, _ | ⟨b, _ | ⟨e, r⟩⟩⟩
      · exact absurd rfl h
      · exact absurd rfl h
      · by_cases k : a = b ∧ 1 ≤ a ∧ a ≤ 3
        · obtain ⟨rfl, k1, k2⟩ := k
          exact .inr (.inr (.inr (.inr (.inr (.inr (.inr ⟨by omega, a, rfl, ⟨k1, k2⟩, by simp [k1, k2]⟩))))))
        · exact absurd (if_neg k) h
      · exact absurd rfl h
    · rw [if_neg c8] at h; exact absurd rfl h
theorem ruleT_args {op : Int} {ts : List Int} (h : ruleT op ts ≠ 0) : ∀ t ∈ ts, t ≠ 0 := by
  rcases rule_cases h with ⟨_, rfl, _⟩ | ⟨_, rfl, _⟩ | ⟨_, rfl, _⟩ | ⟨_, rfl, _⟩ | ⟨_, rfl, _⟩ | ⟨_, rfl, _⟩ | ⟨_, a, rfl, ⟨h1, h2⟩, _⟩ | ⟨_, a, rfl, ⟨h1, h2⟩, _⟩ <;>
    (intro t ht; simp only [List.mem_cons, List.not_mem_nil, or_false] at ht; omega)
theorem kn_3 : findK (.int .i64) (.int .i64 3) knownL = some (some (.agg [.sl 1 [.int .i64 1], .int .i64 1])) := by kernel_rfl
theorem kn_4 : findK (.int .i64) (.int .i64 4) knownL = some (some (.agg [.sl 1 [.int .i64 2], .int .i64 2])) := by kernel_rfl
theorem kn_5 : findK (.int .i64) (.int .i64 5) knownL = some (some (.agg [.sl 1 [.int .i64 1, .int .i64 1], .int .i64 1])) := by kernel_rfl
theorem kn_6 : findK (.int .i64) (.int .i64 6) knownL = some (some (.agg [.sl 1 [.int .i64 1, .int .i64 1], .int .i64 1])) := by kernel_rfl
theorem kn_7 : findK (.int .i64) (.int .i64 7) knownL = some (some (.agg [.sl 1 [.int .i64 1, .int .i64 1], .int .i64 1])) := by kernel_rfl
theorem kn_8 : findK (.int .i64) (.int .i64 8) knownL = some (some (.agg [.sl 1 [.int .i64 1, .int .i64 1], .int .i64 1])) := by kernel_rfl
theorem kn_9 : findK (.int .i64) (.int .i64 9) knownL = some (some (.agg [.sl 1 [.int .i64 1, .int .i64 1], .int .i64 1])) := by kernel_rfl
theorem kn_10 : findK (.int .i64) (.int .i64 10) knownL = some (some (.agg [.sl 1 [.int .i64 3, .int .i64 3], .int .i64 3])) := by kernel_rfl
theorem kn_11 : findK (.int .i64) (.int .i64 11) knownL = some none := by kernel_rfl
theorem kn_12 : findK (.int .i64) (.int .i64 12) knownL = some none := by kernel_rfl
theorem kn_13 : findK (.int .i64) (.int .i64 13) knownL = some none := by kernel_rfl
theorem kn_14 : findK (.int .i64) (.int .i64 14) knownL = some none := by kernel_rfl
theorem kn_15 : findK (.int .i64) (.int .i64 15) knownL = some (some (.agg [.sl 1 [.int .i64 2, .int .i64 2], .int .i64 2])) := by kernel_rfl
theorem kn_16 : findK (.int .i64) (.int .i64 16) knownL = some (some (.agg [.sl 1 [.int .i64 2, .int .i64 2], .int .i64 2])) := by kernel_rfl
theorem kn_17 : findK (.int .i64) (.int .i64 17) knownL = some none := by kernel_rfl
theorem kn_18 : findK (.int .i64) (.int .i64 18) knownL = some (some (.agg [.sl 1 [.int .i64 3], .int .i64 1])) := by kernel_rfl
theorem eq_1 {d dst : Nat} {S : St} {tok : Option Id} : callA tab (callR tab) d dst 72 [.own 1 [.int .i64 1] tok, .d (.sl 1 [.int .i64 1])] S = some (.d (.bool true), S) := ca_EqI [1] tok (by decide)
theorem eq_2 {d dst : Nat} {S : St} {tok : Option Id} : callA tab (callR tab) d dst 72 [.own 1 [.int .i64 2] tok, .d (.sl 1 [.int .i64 2])] S = some (.d (.bool true), S) := ca_EqI [2] tok (by decide)
theorem eq_3 {d dst : Nat} {S : St} {tok : Option Id} : callA tab (callR tab) d dst 72 [.own 1 [.int .i64 3] tok, .d (.sl 1 [.int .i64 3])] S = some (.d (.bool true), S) := ca_EqI [3] tok (by decide)
theorem eq_11 {d dst : Nat} {S : St} {tok : Option Id} : callA tab (callR tab) d dst 72 [.own 1 [.int .i64 1, .int .i64 1] tok, .d (.sl 1 [.int .i64 1, .int .i64 1])] S = some (.d (.bool true), S) := ca_EqI [1, 1] tok (by decide)
theorem eq_22 {d dst : Nat} {S : St} {tok : Option Id} : callA tab (callR tab) d dst 72 [.own 1 [.int .i64 2, .int .i64 2] tok, .d (.sl 1 [.int .i64 2, .int .i64 2])] S = some (.d (.bool true), S) := ca_EqI [2, 2] tok (by decide)
theorem eq_33 {d dst : Nat} {S : St} {tok : Option Id} : callA tab (callR tab) d dst 72 [.own 1 [.int .i64 3, .int .i64 3] tok, .d (.sl 1 [.int .i64 3, .int .i64 3])] S = some (.d (.bool true), S) := ca_EqI [3, 3] tok (by decide)
structure TW where
  acc : List Int
  t : Option (List Nat)
theorem ret_ofN (tm : List (List UInt8 × Int)) : ∀ (m : Nat) (x : Exp), x.nodes ≤ m → x.nodes ≤ 1048576 → x.ty tm ≠ 0 → RetT tab 49 [.d x.dv, .d (.mp (mdvI tm)), .d (.ump knownL)] [.int .i64 (x.ty tm), .int .i64 0]
  | 0, x, h, _, _ => by cases x; simp [Exp.nodes] at h
  | m + 1, .mk op v name args, h, hB, hty => by
    have hlen := Exp.nodes_len args
    simp only [Exp.nodes] at h hB
    have ihn : ∀ a ∈ args, a.nodes ≤ m ∧ a.nodes ≤ 1048576 := fun a ha => ⟨by have := Exp.nodes_mem ha; omega, by have := Exp.nodes_mem ha; omega⟩
    rw [Exp.dv_mk]
    rw [Exp.ty] at hty ⊢
    by_cases c1 : op = 1
    · subst c1
      rw [if_pos rfl]
      refine retq_good (args.length + 1) fn49 rfl rfl ?_
      simp only [amr, amc, amp, if_true, if_false, ne_eq, gt_iff_lt, Option.getD, argsT, Option.bind, Option.map, List.headD, List.tail, opnsL, List.replicate, lendsL, seval, ty_TyC_49]
    have b1 : (op == 1) = false := beq_eq_false_iff_ne.2 c1
    rw [if_neg c1] at hty ⊢
    by_cases c2 : op = 2
    · subst c2
      rw [if_pos rfl] at hty ⊢
      have hf := fk_I name hty
      refine retq_good (args.length + 1) fn49 rfl rfl ?_
      simp only [amr, amc, amp, if_true, if_false, ne_eq, gt_iff_lt, Option.getD, argsT, Option.bind, Option.map, List.headD, List.tail, opnsL, List.replicate, lendsL, seval, ty_TyC_49, b1, hf, beq_self_eq_true]
    have b2 : (op == 2) = false := beq_eq_false_iff_ne.2 c2
    rw [if_neg c2] at hty ⊢
    have hne : ∀ a ∈ args, a.ty tm ≠ 0 := fun a ha => ruleT_args hty _ (by rw [tyL_map]; exact List.mem_map.2 ⟨a, ha, rfl⟩)
    have ih : ∀ a ∈ args, RetT tab 49 [.d a.dv, .d (.mp (mdvI tm)), .d (.ump knownL)] [.int .i64 (a.ty tm), .int .i64 0] := fun a ha => ret_ofN tm m a (ihn a ha).1 (ihn a ha).2 (hne a ha)
    have hrc := rule_cases hty
    rw [tyL_map] at hrc ⊢
    clear hty hne ihn
    generalize ruleT op (args.map (Exp.ty tm)) = T at *
    refine retq_good (args.length + 1) fn49 rfl rfl ?_
    simp only [amr, amc, amp, if_true, if_false, ne_eq, gt_iff_lt, Option.getD, argsT, Option.bind, Option.map, List.headD, List.tail, opnsL, List.replicate, lendsL, seval, ty_TyC_49, b1, b2]
    refine good_range args (fun k (a : TW) g => ⟨[(1, .d (.mp (mdvI tm))), (2, .d (.ump knownL)), (3, .d (.rp [.int .i64 op, .int .i64 v.kind, .int .i64 v.n, .str v.s, .str name, .sl 6 (args.map Exp.dv)])), (10, .own 1 (a.acc.map (fun x => DV.int .i64 x)) (tokD 0 56 a.t)), (37, .d (.sl 6 (args.map Exp.dv))), (38, .d (.int .i64 args.length)), (39, .d (.int .i64 (k : Nat)))],
        tokP 0 56 (a.acc.length * 1) a.t, g⟩)
      (fun k a => a.acc.length ≤ k) (fun k a r => a.acc ++ r.map (Exp.ty tm))
      (fun (o : List Int) (q : Out) (S : St) => q = .exit 1 ∧ ∃ t g, Sub ⟨[(2, .d (.ump knownL)), (3, .d (.rp [.int .i64 op, .int .i64 v.kind, .int .i64 v.n, .str v.s, .str name, .sl 6 (args.map Exp.dv)])), (10, .own 1 (o.map (fun x => DV.int .i64 x)) (tokD 0 56 t))],
        tokP 0 56 (o.length * 1) t, g⟩ S)
      ⟨[], none⟩ kp49_11 (fun _ => up_tok) (Nat.le_refl _) (by omega) (by omega) ?_ ?_ ?_ ?_
    · rintro k ⟨acc, t⟩ g x rest hk hget hd hI hb w1
      have hget' : (args.map Exp.dv)[k]? = some x.dv := by rw [List.getElem?_map, hget]; rfl
      simp only at hI
      have hA : ((acc.length + 1) * 8 ≤ 140737488355328) = True := eq_true (by omega)
      have f1 := fun (S : St) (d dst : Nat) => ca_retT (d := d) (dst := dst) (S := S) (args := [.d x.dv, .d (.mp (mdvI tm)), .d (.ump knownL)]) (ds := [x.dv, .mp (mdvI tm), .ump knownL]) (ih x (List.mem_of_getElem? hget)) rfl (tab_opn (by kernel_rfl)) (tab_res (by kernel_rfl))
      rw [Exp.dv_eq x] at hget' f1
      have hS : acc ++ (x :: rest).map (Exp.ty tm) = (acc ++ [x.ty tm]) ++ rest.map (Exp.ty tm) := by simp
      generalize x.ty tm = y at *
      rcases t with _ | t
      · simp only [amr, amc, amp, if_true, if_false, ne_eq, gt_iff_lt, Option.getD, argsT, Option.bind, Option.map, List.headD, List.tail, opnsL, List.replicate, lendsL, seval, ty_TyC_49, hb, hget', w1, sx1, sx2, f1, hA, tokD, tokP, bne_self_eq_false]
        refine step_nrm (TW.mk (acc ++ [y]) (some (1 :: g))) ?_ hS ?_
        · simp only [List.length_append, List.length_cons, List.length_nil]; omega
        · (apply Exists.intro; (try simp only [amr, amc, amp, if_true, if_false, ne_eq, gt_iff_lt, Option.getD, argsT, Option.bind, Option.map, List.headD, List.tail, opnsL, List.replicate, lendsL, seval, tokD, tokP]); exact sub_mk (by repeat first | exact subT_nil | refine subT_cons (by first | rfl | simp [Tm.get, *]) ?_))
      · simp only [amr, amc, amp, if_true, if_false, ne_eq, gt_iff_lt, Option.getD, argsT, Option.bind, Option.map, List.headD, List.tail, opnsL, List.replicate, lendsL, seval, ty_TyC_49, hb, hget', w1, sx1, sx2, f1, hA, tokD, tokP, bne_self_eq_false]
        refine step_nrm (TW.mk (acc ++ [y]) (some t)) ?_ hS ?_
        · simp only [List.length_append, List.length_cons, List.length_nil]; omega
        · (apply Exists.intro; (try simp only [amr, amc, amp, if_true, if_false, ne_eq, gt_iff_lt, Option.getD, argsT, Option.bind, Option.map, List.headD, List.tail, opnsL, List.replicate, lendsL, seval, tokD, tokP]); exact sub_mk (by repeat first | exact subT_nil | refine subT_cons (by first | rfl | simp [Tm.get, *]) ?_))
    · rintro ⟨acc, t⟩ g hI hb
      simp only [amr, amc, amp, if_true, if_false, ne_eq, gt_iff_lt, Option.getD, argsT, Option.bind, Option.map, List.headD, List.tail, opnsL, List.replicate, lendsL, seval, ty_TyC_49, hb]
      refine last_end (by simp) ⟨rfl, t, g, ?_⟩
      try simp only [List.map_nil, List.append_nil]
      rcases t with _ | t
      · simp only [amr, amc, amp, if_true, if_false, ne_eq, gt_iff_lt, Option.getD, argsT, Option.bind, Option.map, List.headD, List.tail, opnsL, List.replicate, lendsL, seval, tokD, tokP]
        exact sub_mk (by repeat first | exact subT_nil | refine subT_cons (by first | rfl | simp [Tm.get, *]) ?_)
      · simp only [amr, amc, amp, if_true, if_false, ne_eq, gt_iff_lt, Option.getD, argsT, Option.bind, Option.map, List.headD, List.tail, opnsL, List.replicate, lendsL, seval, tokD, tokP]
        exact sub_mk (by repeat first | exact subT_nil | refine subT_cons (by first | rfl | simp [Tm.get, *]) ?_)
    · (refine ⟨[], ?_⟩; (try simp only [amr, amc, amp, if_true, if_false, ne_eq, gt_iff_lt, Option.getD, argsT, Option.bind, Option.map, List.headD, List.tail, opnsL, List.replicate, lendsL, seval, tokD, tokP]); exact sub_mk (by repeat first | exact subT_nil | refine subT_cons (by first | rfl | simp [Tm.get, *]) ?_))
    · rintro o S' ⟨rfl, t, g, hs⟩
      refine good_sub_cr up_finq hs ?_
      simp only [List.nil_append]
      generalize args.map (Exp.ty tm) = ts at *
      rcases hrc with ⟨ho, rfl, rfl⟩ | ⟨ho, rfl, rfl⟩ | ⟨ho, rfl, rfl⟩ | ⟨ho, rfl, rfl⟩ | ⟨ho, rfl, rfl⟩ | ⟨ho, rfl, rfl⟩ | ⟨ho, a, rfl, _, rfl⟩ | ⟨ho, a, rfl, _, rfl⟩
      · subst ho
        rcases t with _ | t <;> simp only [amr, amc, amp, if_true, if_false, ne_eq, gt_iff_lt, Option.getD, argsT, Option.bind, Option.map, List.headD, List.tail, opnsL, List.replicate, lendsL, seval, ty_TyC_49, kn_3, kn_4, kn_5, kn_6, kn_7, kn_8, kn_9, kn_10, kn_11, kn_12, kn_13, kn_14, kn_15, kn_16, kn_17, kn_18, eq_1, eq_2, eq_3, eq_11, eq_22, eq_33, tokD, tokP, beq_self_eq_true]
      · subst ho
        rcases t with _ | t <;> simp only [amr, amc, amp, if_true, if_false, ne_eq, gt_iff_lt, Option.getD, argsT, Option.bind, Option.map, List.headD, List.tail, opnsL, List.replicate, lendsL, seval, ty_TyC_49, kn_3, kn_4, kn_5, kn_6, kn_7, kn_8, kn_9, kn_10, kn_11, kn_12, kn_13, kn_14, kn_15, kn_16, kn_17, kn_18, eq_1, eq_2, eq_3, eq_11, eq_22, eq_33, tokD, tokP, beq_self_eq_true]
      · subst ho
        rcases t with _ | t <;> simp only [amr, amc, amp, if_true, if_false, ne_eq, gt_iff_lt, Option.getD, argsT, Option.bind, Option.map, List.headD, List.tail, opnsL, List.replicate, lendsL, seval, ty_TyC_49, kn_3, kn_4, kn_5, kn_6, kn_7, kn_8, kn_9, kn_10, kn_11, kn_12, kn_13, kn_14, kn_15, kn_16, kn_17, kn_18, eq_1, eq_2, eq_3, eq_11, eq_22, eq_33, tokD, tokP, beq_self_eq_true]
      · rcases ho with rfl | rfl | rfl | rfl | rfl <;> rcases t with _ | t <;> simp only [amr, amc, amp, if_true, if_false, ne_eq, gt_iff_lt, Option.getD, argsT, Option.bind, Option.map, List.headD, List.tail, opnsL, List.replicate, lendsL, seval, ty_TyC_49, kn_3, kn_4, kn_5, kn_6, kn_7, kn_8, kn_9, kn_10, kn_11, kn_12, kn_13, kn_14, kn_15, kn_16, kn_17, kn_18, eq_1, eq_2, eq_3, eq_11, eq_22, eq_33, tokD, tokP, beq_self_eq_true]
      · subst ho
        rcases t with _ | t <;> simp only [amr, amc, amp, if_true, if_false, ne_eq, gt_iff_lt, Option.getD, argsT, Option.bind, Option.map, List.headD, List.tail, opnsL, List.replicate, lendsL, seval, ty_TyC_49, kn_3, kn_4, kn_5, kn_6, kn_7, kn_8, kn_9, kn_10, kn_11, kn_12, kn_13, kn_14, kn_15, kn_16, kn_17, kn_18, eq_1, eq_2, eq_3, eq_11, eq_22, eq_33, tokD, tokP, beq_self_eq_true]
      · rcases ho with rfl | rfl <;> rcases t with _ | t <;> simp only [amr, amc, amp, if_true, if_false, ne_eq, gt_iff_lt, Option.getD, argsT, Option.bind, Option.map, List.headD, List.tail, opnsL, List.replicate, lendsL, seval, ty_TyC_49, kn_3, kn_4, kn_5, kn_6, kn_7, kn_8, kn_9, kn_10, kn_11, kn_12, kn_13, kn_14, kn_15, kn_16, kn_17, kn_18, eq_1, eq_2, eq_3, eq_11, eq_22, eq_33, tokD, tokP, beq_self_eq_true]
      · subst ho
        rcases t with _ | t <;> simp only [amr, amc, amp, if_true, if_false, ne_eq, gt_iff_lt, Option.getD, argsT, Option.bind, Option.map, List.headD, List.tail, opnsL, List.replicate, lendsL, seval, ty_TyC_49, kn_3, kn_4, kn_5, kn_6, kn_7, kn_8, kn_9, kn_10, kn_11, kn_12, kn_13, kn_14, kn_15, kn_16, kn_17, kn_18, eq_1, eq_2, eq_3, eq_11, eq_22, eq_33, tokD, tokP, beq_self_eq_true]
      · rcases ho with rfl | rfl | rfl | rfl <;> rcases t with _ | t <;> simp only [amr, amc, amp, if_true, if_false, ne_eq, gt_iff_lt, Option.getD, argsT, Option.bind, Option.map, List.headD, List.tail, opnsL, List.replicate, lendsL, seval, ty_TyC_49, kn_3, kn_4, kn_5, kn_6, kn_7, kn_8, kn_9, kn_10, kn_11, kn_12, kn_13, kn_14, kn_15, kn_16, kn_17, kn_18, eq_1, eq_2, eq_3, eq_11, eq_22, eq_33, tokD, tokP, beq_self_eq_true]
end Go.Proofs.Ytjjjkoknodcaaaa.Am
