/- Leaves of formulas, the fields a list of a call, walked. -/
import Derived.Test.YtnombkkfijlkfaaFmQ
import Derived.Test.YtnombkkfijlkfaaSl
set_option linter.unusedVariables false
set_option linter.unusedSimpArgs false
namespace Go.Proofs.Ytnombkkfijlkfaa.Am
open Go Go.RowKit
theorem ty_FmB_79 : type_of% (ai (ai (ai (ai (ai (ai @rs79 (ai @lv79_0 @lv79_1)) (ai @lv79_2 (ai @lv79_3 @lv79_4))) (ai (ai @lv79_5 (ai @lv79_6 @lv79_7)) (ai @mu56_27 (ai @lv79_8 @lv79_9)))) (ai (ai (ai @lv79_10 (ai @lv79_11 @kp79_4)) (ai @und1 (ai @sz1 @ag1))) (ai (ai @inf1 (ai @und2 @sz2)) (ai @ag2 (ai @lv2 @inf2))))) (ai (ai (ai (ai @und3 (ai @sz3 @ag3)) (ai @lv3 (ai @inf3 @und4))) (ai (ai @sz4 (ai @ag4 @lv4)) (ai @inf4 (ai @und9 @sz9)))) (ai (ai (ai @ag9 (ai @lv9 @inf9)) (ai @und23 (ai @sz23 @ag23))) (ai (ai @pT23 (ai @inf23 @und29)) (ai (ai @sz29 @ag29) (ai @fo29 @bA29)))))) (ai (ai (ai (ai (ai @pT29_0 (ai @pT29_1 @pT29_2)) (ai @lv29 (ai @inf29 @und30))) (ai (ai @sz30 (ai @ag30 @pT30)) (ai @inf30 (ai @und32 @sz32)))) (ai (ai (ai @ag32 (ai @fo32 @bA32)) (ai @pT32_0 (ai @pT32_1 @pT32_2))) (ai (ai @pT32_3 (ai @inf32 @und34)) (ai @sz34 (ai @ag34 @fo34))))) (ai (ai (ai (ai @bA34 (ai @pT34_0 @pT34_1)) (ai @pT34_2 (ai @pT34_3 @inf34))) (ai (ai @und41 (ai @sz41 @ag41)) (ai @fo41 (ai @bA41 @pT41_0)))) (ai (ai (ai @pT41_1 (ai @pT41_2 @pT41_3)) (ai @inf41 (ai @und56 @sz56))) (ai (ai @ag56 (ai @pT56 @inf56)) (ai (ai @und78 @sz78) (ai @ag78 @inf78))))))) := (ai (ai (ai (ai (ai (ai @rs79 (ai @lv79_0 @lv79_1)) (ai @lv79_2 (ai @lv79_3 @lv79_4))) (ai (ai @lv79_5 (ai @lv79_6 @lv79_7)) (ai @mu56_27 (ai @lv79_8 @lv79_9)))) (ai (ai (ai @lv79_10 (ai @lv79_11 @kp79_4)) (ai @und1 (ai @sz1 @ag1))) (ai (ai @inf1 (ai @und2 @sz2)) (ai @ag2 (ai @lv2 @inf2))))) (ai (ai (ai (ai @und3 (ai @sz3 @ag3)) (ai @lv3 (ai @inf3 @und4))) (ai (ai @sz4 (ai @ag4 @lv4)) (ai @inf4 (ai @und9 @sz9)))) (ai (ai (ai @ag9 (ai @lv9 @inf9)) (ai @und23 (ai @sz23 @ag23))) (ai (ai @pT23 (ai @inf23 @und29)) (ai (ai @sz29 @ag29) (ai @fo29 @bA29)))))) (ai (ai (ai (ai (ai @pT29_0 (ai @pT29_1 @pT29_2)) (ai @lv29 (ai @inf29 @und30))) (ai (ai @sz30 (ai @ag30 @pT30)) (ai @inf30 (ai @und32 @sz32)))) (ai (ai (ai @ag32 (ai @fo32 @bA32)) (ai @pT32_0 (ai @pT32_1 @pT32_2))) (ai (ai @pT32_3 (ai @inf32 @und34)) (ai @sz34 (ai @ag34 @fo34))))) (ai (ai (ai (ai @bA34 (ai @pT34_0 @pT34_1)) (ai @pT34_2 (ai @pT34_3 @inf34))) (ai (ai @und41 (ai @sz41 @ag41)) (ai @fo41 (ai @bA41 @pT41_0)))) (ai (ai (ai @pT41_1 (ai @pT41_2 @pT41_3)) (ai @inf41 (ai @und56 @sz56))) (ai (ai @ag56 (ai @pT56 @inf56)) (ai (ai @und78 @sz78) (ai @ag78 @inf78)))))))
set_option maxRecDepth 100000
set_option maxHeartbeats 40000000



def fbox (fs : List Field) : Place := .box (flatD (fs.map Field.dv))
theorem elt_fd (l : List Field) : ∀ x ∈ l.map Field.dv, Elt 9 x := by
  intro x hx
  obtain ⟨t, _, rfl⟩ := List.mem_map.1 hx
  exact ⟨rfl, by rw [if_neg (by decide)]; exact ⟨_, rfl⟩⟩
theorem fdrop : ∀ (l : List Field) (k : Nat) (x : Field), l[k]? = some x → ∃ R, (flatD (l.map Field.dv)).drop (k * 9) = x.dv.cells.map .d ++ R
  | [], k, x, h => by simp at h
  | z :: r, 0, x, h => by
    obtain rfl : z = x := by simpa using h
    exact ⟨flatD (r.map Field.dv), by simp [flatD]⟩
  | z :: r, k + 1, x, h => by
    obtain ⟨R, hR⟩ := fdrop r k x (by simpa using h)
    refine ⟨R, ?_⟩
    have h1 : flatD ((z :: r).map Field.dv) = z.dv.cells.map .d ++ flatD (r.map Field.dv) := by simp [flatD]
    have h2 : (z.dv.cells.map AV.d).length = 9 := rfl
    rw [h1, ← hR, show (k + 1) * 9 = (z.dv.cells.map AV.d).length + k * 9 by rw [h2]; omega, List.drop_append, List.drop_eq_nil_of_le (by omega), List.nil_append, Nat.add_sub_cancel_left]
theorem fdrop' {l : List Field} {k : Nat} {x : Field} (h : l[k]? = some x) : ∃ R, (flatD (l.map Field.dv)).drop (k * 9) = .d (.str x.name) :: .d (.int .i64 x.kind) :: .d (.int .i64 x.ty) :: .d (.int .i64 x.source.op) :: .d (.int .i64 x.source.v.kind) :: .d (.int .i64 x.source.v.n) :: .d (.str x.source.v.s) :: .d (.str x.source.name) :: .d (.sl 6 (x.source.args.map Exp.dv)) :: R := fdrop l k x h
theorem nt_arr {i : Id} {a b c : Nat} : noTup (.arr i a b c) = true := rfl
theorem ac_arr {i : Id} {a b c : Nat} : (AV.arr i a b c).cells = [.arr i a b c] := rfl
theorem cap_arr {i : Id} {a b c : Nat} : (AV.arr i a b c).cap = true := rfl
theorem plainD_arr {i : Id} {a b c : Nat} {r : List AV} : plainD (.arr i a b c :: r) = none := rfl
theorem ids_g (l : List Raw) (k : Nat) : idsL [.d (.sl 4 (l.map Raw.dv)), .d (.int .i64 k)] = [] := rfl
/-- An open call that sees two variables, and nothing behind them. -/
theorem ca_open2 {d dst f : Nat} {args : List AV} {S : St} {i j : Id} {cs cs' fc : List AV} {r : AV}
    (hn : (if tab.opn f = true then none else toDs args) = none) (hlt : lentA tab S f args = none) (hne : i ≠ j) (ha : idsL args = [i, j]) (hi : idsL cs = []) (hi' : idsL cs' = []) (hj : idsL fc = [])
    (hc : ∃ x H', callR tab (d + 1) f args [(i, .box cs), (j, .box fc)] (0 :: S.g) = some (x, H') ∧ soft tab f x = r ∧ H'.get i = some (.box cs') ∧ H'.get j = some (.box fc))
    (h4 : idsA r = []) (hS : S.H.get i = some (.box cs)) (hT : S.H.get j = some (.box fc)) :
    callA tab (callR tab) d dst f args S = some (r, ⟨S.T, upd [(i, .box cs'), (j, .box fc)] S.H, 1 :: S.g⟩) := by
  obtain ⟨x, H', hc, hs, hW, hV⟩ := hc
  have hne2 : j ≠ i := fun e => hne e.symm
  have ha' : addIds [] (idsL args) = [i, j] := by rw [ha]; simp [addIds, hne2]
  have hw : within [i, j] S.H = [(i, .box cs), (j, .box fc)] := by
    unfold within
    rw [hS]
    simp only
    unfold within
    rw [hT]
    rfl
  have hid : ∀ cs, idsL cs = [] → idsH [(i, Place.box cs), (j, Place.box fc)] = [] := fun cs h => by simp [idsH, idsP, h, hj]
  refine ca_open (W0 := [(i, .box cs), (j, .box fc)]) hn hlt ?_ hw ?_ ⟨x, H', hc, hs, fun k hk => ?_⟩ (by rw [h4]; rfl) rfl ?_
  · rw [ha']
    unfold reach
    rw [hw, hid cs hi, if_pos (by simp)]
    rfl
  · rw [hid cs hi]; simp
  · have : k = i ∨ k = j := by simpa [Am.keys] using hk
    rcases this with rfl | rfl
    · rw [hW]; simp [Heap.get]
    · rw [hV]; simp [Heap.get, hne]
  · have : within (Am.keys [(i, Place.box cs), (j, .box fc)]) [(i, Place.box cs'), (j, .box fc)] = [(i, .box cs'), (j, .box fc)] := by
      simp [Am.keys, within, Heap.get, hne]
    rw [this, hid cs' hi']; simp
theorem ftC_2 {S : St} {args : List AV} {i j : Id} {cs fc : List AV} (hne : i ≠ j) (ha : idsL args = [i, j]) (hS : S.H.get i = some (.box cs)) (hT : S.H.get j = some (.box fc)) (hi : idsL cs = []) (hj : idsL fc = []) : ftC S args none = ⟨[], [i, j], true⟩ := by
  have hne2 : j ≠ i := fun e => hne e.symm
  unfold ftC
  have ha' : addIds [] (idsL args) = [i, j] := by rw [ha]; simp [addIds, hne2]
  rw [ha']
  have hw : within [i, j] S.H = [(i, .box cs), (j, .box fc)] := by
    unfold within
    rw [hS]
    simp only
    unfold within
    rw [hT]
    rfl
  have : reach S.H 8 [i, j] = [i, j] := by
    unfold reach
    rw [hw, if_pos (by simp [idsH, idsP, hi, hj])]
  rw [this]
theorem id_ne {d t t' : Nat} {g g' : List Nat} (h : t ≠ t') : (⟨d, t, g⟩ : Id) ≠ ⟨d, t', g'⟩ := fun e => h (by injection e)
theorem run_leafN {d : Nat} {p : List Nat} (d0 t0 : Nat) (g0 : List Nat) (h : d0 < d) (hg0 : ¬ p <:+ g0) (kind : Int) (fs : List Field) (hfs : fs.length ≤ 1048576) (l : List Raw) (k : Nat) (hk : k ≤ 4611686018427387904) (hl : l.length ≤ 9223372036854775807) (hr : ∀ r ∈ l, r.ok) :
    ∃ x H', callR tab d 79 [.ptr ⟨d0, t0, g0⟩ 0, .d (.int .i64 kind), .own 9 (fs.map Field.dv) none] [(⟨d0, t0, g0⟩, gbox l k)] p = some (x, H') ∧ (soft tab 79 x = .d (gleafE kind fs (gnext l k)).dv ∧ H'.get ⟨d0, t0, g0⟩ = some (gbox l (gat l k))) := by
  have e1 : (d0 = d) = False := eq_false (by omega)
  have e2 : (d = d0) = False := eq_false (by omega)
  have hd1 : decide (d0 < d) = true := decide_eq_true h
  have hs0 : (p <:+ g0) = False := eq_false hg0
  refine retq_good (fs.length + 1) fn79 rfl rfl ?_
  have fn := fun (T : Tm) (g : List Nat) (H : Heap) (dst : Nat) (hx : ((0 :: g) <:+ g0) = False) (hS : Heap.get H ⟨d0, t0, g0⟩ = some (gbox l k)) => ca_next (d := d) (dst := dst) (S := ⟨T, H, g⟩) d0 t0 g0 l k hk hl (by omega) hx hS
  have hrk := gnext_ok hr k
  generalize gnext l k = r at *
  generalize gat l k = k2 at *
  simp only [amr, amc, amp, if_true, if_false, ne_eq, gt_iff_lt, Option.getD, argsT, Option.bind, Option.map, List.headD, List.tail, opnsL, List.replicate, lendsL, seval, ty_FmB_79, fn, suf1 hg0, suf2 hg0, suf3 hg0, suf4 hg0, hs0, Raw.dv, e1, e2, upd, Option.getD_none, Option.getD_some]
  refine good_range fs (fun k (a : List (List UInt8) × Option (List Nat)) g => ⟨[(1, .d (.int .i64 kind)), (6, .ptr ⟨d, 6, 0 :: p⟩ 0), (7, .ptr ⟨d, 7, 0 :: 1 :: 1 :: p⟩ 0), (8, .own 1 (a.1.map DV.str) (tokD d 27 a.2)), (13, .own 9 (fs.map Field.dv) none), (14, .d (.int .i64 fs.length)), (15, .d (.int .i64 (k : Nat)))],
      tokP d 27 (a.1.length * 1) a.2 ++ [(⟨d, 7, 0 :: 1 :: 1 :: p⟩, .box [.d (.int .i64 r.kind), .d (.int .i64 r.a), .d (.int .i64 r.b), .d (.str r.text)]), (⟨d, 6, 0 :: p⟩, .box [.d (.int .i64 0), .d (.int .i64 0), .d (.int .i64 0), .d (.str []), .d (.str []), .own 6 [] none]), (⟨d0, t0, g0⟩, gbox l k2)], g⟩) (fun k a => a.1.length ≤ k) (fun k a r => a.1 ++ fnames kind r)
    (fun (o : List (List UInt8)) (q : Out) (S : St) => q = .exit 0 ∧ ∃ t g, Sub ⟨[(1, .d (.int .i64 kind)), (6, .ptr ⟨d, 6, 0 :: p⟩ 0), (7, .ptr ⟨d, 7, 0 :: 1 :: 1 :: p⟩ 0), (8, .own 1 (o.map DV.str) (tokD d 27 t))],
      tokP d 27 (o.length * 1) t ++ [(⟨d, 7, 0 :: 1 :: 1 :: p⟩, .box [.d (.int .i64 r.kind), .d (.int .i64 r.a), .d (.int .i64 r.b), .d (.str r.text)]), (⟨d, 6, 0 :: p⟩, .box [.d (.int .i64 0), .d (.int .i64 0), .d (.int .i64 0), .d (.str []), .d (.str []), .own 6 [] none]), (⟨d0, t0, g0⟩, gbox l k2)], g⟩ S) ([], none) kp79_4 (fun r => up_tok) (Nat.le_refl _) (by omega) (by omega) ?_ ?_ ?_ ?_
  · rintro k ⟨acc, t⟩ g x rest hk hget hd _ hb w1
    have hget' : (fs.map Field.dv)[k]? = some x.dv := by rw [List.getElem?_map, hget]; rfl
    rename_i hI
    simp only at hI
    have hA : ((acc.length + 1) * 16 ≤ 140737488355328) = True := eq_true (by omega)
    by_cases hq : x.ty = kind
    · have bq : (x.ty == kind) = true := beq_iff_eq.2 hq
      rcases t with _ | t
      · simp only [amr, amc, amp, if_true, if_false, ne_eq, gt_iff_lt, Option.getD, argsT, Option.bind, Option.map, List.headD, List.tail, opnsL, List.replicate, lendsL, seval, ty_FmB_79, Field.dv, hb, w1, hget', bq, tokD, tokP, hA, e1, e2, hd1, sx1, sx2]
        refine step_nrm (acc ++ [x.name], some (1 :: g)) ?_ ?_ ?_
        · simp only [List.length_append, List.length_cons, List.length_nil]; omega
        · simp [fnames, hq]
        · (apply Exists.intro; (try simp only [amr, amc, amp, if_true, if_false, ne_eq, gt_iff_lt, Option.getD, argsT, Option.bind, Option.map, List.headD, List.tail, opnsL, List.replicate, lendsL, seval, tokD, tokP, e1, e2, hd1]); exact sub_mk (by repeat first | exact subT_nil | refine subT_cons (by first | rfl | simp [Tm.get, *]) ?_))
      · simp only [amr, amc, amp, if_true, if_false, ne_eq, gt_iff_lt, Option.getD, argsT, Option.bind, Option.map, List.headD, List.tail, opnsL, List.replicate, lendsL, seval, ty_FmB_79, Field.dv, hb, w1, hget', bq, tokD, tokP, hA, e1, e2, hd1, sx1, sx2]
        refine step_nrm (acc ++ [x.name], some t) ?_ ?_ ?_
        · simp only [List.length_append, List.length_cons, List.length_nil]; omega
        · simp [fnames, hq]
        · (apply Exists.intro; (try simp only [amr, amc, amp, if_true, if_false, ne_eq, gt_iff_lt, Option.getD, argsT, Option.bind, Option.map, List.headD, List.tail, opnsL, List.replicate, lendsL, seval, tokD, tokP, e1, e2, hd1]); exact sub_mk (by repeat first | exact subT_nil | refine subT_cons (by first | rfl | simp [Tm.get, *]) ?_))
    · have bq : (x.ty == kind) = false := beq_eq_false_iff_ne.2 hq
      rcases t with _ | t
      · simp only [amr, amc, amp, if_true, if_false, ne_eq, gt_iff_lt, Option.getD, argsT, Option.bind, Option.map, List.headD, List.tail, opnsL, List.replicate, lendsL, seval, ty_FmB_79, Field.dv, hb, w1, hget', bq, tokD, tokP, e1, e2, hd1, sx1, sx2]
        refine step_nrm (acc, none) ?_ ?_ ?_
        · simp only; omega
        · simp [fnames, hq]
        · (apply Exists.intro; (try simp only [amr, amc, amp, if_true, if_false, ne_eq, gt_iff_lt, Option.getD, argsT, Option.bind, Option.map, List.headD, List.tail, opnsL, List.replicate, lendsL, seval, tokD, tokP, e1, e2, hd1]); exact sub_mk (by repeat first | exact subT_nil | refine subT_cons (by first | rfl | simp [Tm.get, *]) ?_))
      · simp only [amr, amc, amp, if_true, if_false, ne_eq, gt_iff_lt, Option.getD, argsT, Option.bind, Option.map, List.headD, List.tail, opnsL, List.replicate, lendsL, seval, ty_FmB_79, Field.dv, hb, w1, hget', bq, tokD, tokP, e1, e2, hd1, sx1, sx2]
        refine step_nrm (acc, some t) ?_ ?_ ?_
        · simp only; omega
        · simp [fnames, hq]
        · (apply Exists.intro; (try simp only [amr, amc, amp, if_true, if_false, ne_eq, gt_iff_lt, Option.getD, argsT, Option.bind, Option.map, List.headD, List.tail, opnsL, List.replicate, lendsL, seval, tokD, tokP, e1, e2, hd1]); exact sub_mk (by repeat first | exact subT_nil | refine subT_cons (by first | rfl | simp [Tm.get, *]) ?_))
  · rintro ⟨acc, t⟩ g _ hb
    simp only [amr, amc, amp, if_true, if_false, ne_eq, gt_iff_lt, Option.getD, argsT, Option.bind, Option.map, List.headD, List.tail, opnsL, List.replicate, lendsL, seval, ty_FmB_79, hb]
    refine last_end (by simp) ⟨rfl, t, ?_⟩
    simp only [fnames, List.append_nil]
    rcases t with _ | t
    · (apply Exists.intro; (try simp only [amr, amc, amp, if_true, if_false, ne_eq, gt_iff_lt, Option.getD, argsT, Option.bind, Option.map, List.headD, List.tail, opnsL, List.replicate, lendsL, seval, tokD, tokP, e1, e2, hd1]); exact sub_mk (by repeat first | exact subT_nil | refine subT_cons (by first | rfl | simp [Tm.get, *]) ?_))
    · (apply Exists.intro; (try simp only [amr, amc, amp, if_true, if_false, ne_eq, gt_iff_lt, Option.getD, argsT, Option.bind, Option.map, List.headD, List.tail, opnsL, List.replicate, lendsL, seval, tokD, tokP, e1, e2, hd1]); exact sub_mk (by repeat first | exact subT_nil | refine subT_cons (by first | rfl | simp [Tm.get, *]) ?_))
  · (apply Exists.intro; (try simp only [amr, amc, amp, if_true, if_false, ne_eq, gt_iff_lt, Option.getD, argsT, Option.bind, Option.map, List.headD, List.tail, opnsL, List.replicate, lendsL, seval, tokD, tokP, e1, e2, hd1]); exact sub_mk (by repeat first | exact subT_nil | refine subT_cons (by first | rfl | simp [Tm.get, *]) ?_))
  · rintro o S' ⟨rfl, t, g, hs⟩
    refine good_sub_cr up_finq hs ?_
    unfold gleafE
    simp only [List.nil_append]
    have hol := fnames_le kind fs
    generalize fnames kind fs = o at *
    have fc : ∀ (S : St) (d dst : Nat), callA tab (callR tab) d dst 101 [.d (.int .i64 kind), .d (.agg [.int .i64 r.kind, .int .i64 r.a, .int .i64 r.b, .str r.text])] S = some (.d (.agg [.int .i64 1, .int .i64 (constV kind r).kind, .int .i64 (constV kind r).n, .str (constV kind r).s, .str [], .sl 6 []]), S) := fun S d dst => by
      have h := cf_constant (d := d) (dst := dst) (S := S) kind r hrk.text
      unfold constE at h
      rw [Exp.dv_mk] at h
      exact h
    have hdc : (constE kind r).dv = .agg [.int .i64 1, .int .i64 (constV kind r).kind, .int .i64 (constV kind r).n, .str (constV kind r).s, .str [], .sl 6 []] := by unfold constE; rw [Exp.dv_mk]; rfl
    have p1 := fun (S : St) (d dst : Nat) => ca_picked (d := d) (dst := dst) (S := S) r.kind 4 (by decide)
    by_cases c0 : o.length = 0
    · rw [if_pos c0, hdc]
      obtain rfl := List.eq_nil_of_length_eq_zero c0
      rcases t with _ | t
      · simp only [amr, amc, amp, if_true, if_false, ne_eq, gt_iff_lt, Option.getD, argsT, Option.bind, Option.map, List.headD, List.tail, opnsL, List.replicate, lendsL, seval, ty_FmB_79, tokD, tokP, e1, e2, hd1, fc, beq_self_eq_true, soft_d]
      · simp only [amr, amc, amp, if_true, if_false, ne_eq, gt_iff_lt, Option.getD, argsT, Option.bind, Option.map, List.headD, List.tail, opnsL, List.replicate, lendsL, seval, ty_FmB_79, tokD, tokP, e1, e2, hd1, fc, beq_self_eq_true, soft_d]
    · rw [if_neg c0]
      have b0 : ((o.length : Int) == 0) = false := beq_eq_false_iff_ne.2 (by omega)
      by_cases c4 : pick r.kind 4 = 0
      · rw [if_pos c4, hdc]
        rw [c4] at p1
        rcases t with _ | t
        · simp only [amr, amc, amp, if_true, if_false, ne_eq, gt_iff_lt, Option.getD, argsT, Option.bind, Option.map, List.headD, List.tail, opnsL, List.replicate, lendsL, seval, ty_FmB_79, tokD, tokP, e1, e2, hd1, fc, p1, b0, beq_self_eq_true, soft_d]
        · simp only [amr, amc, amp, if_true, if_false, ne_eq, gt_iff_lt, Option.getD, argsT, Option.bind, Option.map, List.headD, List.tail, opnsL, List.replicate, lendsL, seval, ty_FmB_79, tokD, tokP, e1, e2, hd1, fc, p1, b0, beq_self_eq_true, soft_d]
      · rw [if_neg c4, Exp.dv_mk]
        have b4 : (pick r.kind 4 == 0) = false := beq_eq_false_iff_ne.2 c4
        have hpn := pick_range r.b (o.length : Int) hrk.b.1 hrk.b.2 (by omega)
        have p2 := fun (S : St) (d dst : Nat) => ca_picked (d := d) (dst := dst) (S := S) r.b (o.length : Int) (by omega)
        generalize pick r.b (o.length : Int) = q at *
        obtain ⟨j, rfl⟩ : ∃ j : Nat, q = j := ⟨q.toNat, by omega⟩
        have hj : j < o.length := by omega
        have hjl : ((j : Int) < (o.length : Int)) = True := eq_true (by omega)
        have hoj : (o.map DV.str)[j]? = some (.str (o.getD j [])) := by rw [List.getElem?_map, List.getD_eq_getElem?_getD, List.getElem?_eq_getElem hj]; rfl
        rw [Int.toNat_natCast]
        rcases t with _ | t
        · simp only [amr, amc, amp, if_true, if_false, ne_eq, gt_iff_lt, Option.getD, argsT, Option.bind, Option.map, List.headD, List.tail, opnsL, List.replicate, lendsL, seval, ty_FmB_79, tokD, tokP, e1, e2, hd1, fc, p1, p2, b0, b4, hoj, hjl, beq_self_eq_true]
          exact soft_agg (by kernel_rfl) rfl
        · simp only [amr, amc, amp, if_true, if_false, ne_eq, gt_iff_lt, Option.getD, argsT, Option.bind, Option.map, List.headD, List.tail, opnsL, List.replicate, lendsL, seval, ty_FmB_79, tokD, tokP, e1, e2, hd1, fc, p1, p2, b0, b4, hoj, hjl, beq_self_eq_true]
          exact soft_agg (by kernel_rfl) rfl
theorem ca_leafN {d dst : Nat} {S : St} (d0 t0 : Nat) (g0 : List Nat) (h : d0 ≤ d) (kind : Int) (fs : List Field) (hfs : fs.length ≤ 1048576) (l : List Raw) (k : Nat) (hk : k ≤ 4611686018427387904) (hl : l.length ≤ 9223372036854775807) (hr : ∀ r ∈ l, r.ok) (hg0 : ((0 :: S.g) <:+ g0) = False) (hS : S.H.get ⟨d0, t0, g0⟩ = some (gbox l k)) :
    callA tab (callR tab) d dst 79 [.ptr ⟨d0, t0, g0⟩ 0, .d (.int .i64 kind), .own 9 (fs.map Field.dv) none] S = some (.d (gleafE kind fs (gnext l k)).dv, ⟨S.T, upd [(⟨d0, t0, g0⟩, gbox l (gat l k))] S.H, 1 :: S.g⟩) := by
  obtain ⟨x, H', h1, h2, h3⟩ := run_leafN (p := 0 :: S.g) d0 t0 g0 (Nat.lt_succ_of_le h) (of_eq_false hg0) kind fs hfs l k hk hl hr
  exact ca_open1 (cs := [.d (.sl 4 (l.map Raw.dv)), .d (.int .i64 k)]) (cs' := [.d (.sl 4 (l.map Raw.dv)), .d (.int .i64 (gat l k))]) (by split <;> rfl) (lent_off (tab_lend (by kernel_rfl))) rfl rfl rfl ⟨x, H', h1, h2, h3⟩ rfl hS
theorem run_leafA {d : Nat} {p : List Nat} (d0 t0 : Nat) (g0 : List Nat) (h : d0 < d) (hg0 : ¬ p <:+ g0) (t1 : Nat) (g1 : List Nat) (ht : t0 ≠ t1) (hg1 : ¬ p <:+ g1) (kind : Int) (fs : List Field) (hfs : fs.length ≤ 1048576) (l : List Raw) (k : Nat) (hk : k ≤ 4611686018427387904) (hl : l.length ≤ 9223372036854775807) (hr : ∀ r ∈ l, r.ok) :
    ∃ x H', callR tab d 79 [.ptr ⟨d0, t0, g0⟩ 0, .d (.int .i64 kind), .arr ⟨d0, t1, g1⟩ 0 fs.length 9] [(⟨d0, t0, g0⟩, gbox l k), (⟨d0, t1, g1⟩, fbox fs)] p = some (x, H') ∧ (soft tab 79 x = .d (gleafE kind fs (gnext l k)).dv ∧ H'.get ⟨d0, t0, g0⟩ = some (gbox l (gat l k)) ∧ H'.get ⟨d0, t1, g1⟩ = some (fbox fs)) := by
  have e1 : (d0 = d) = False := eq_false (by omega)
  have e2 : (d = d0) = False := eq_false (by omega)
  have hd1 : decide (d0 < d) = true := decide_eq_true h
  have hs0 : (p <:+ g0) = False := eq_false hg0
  have hs1 : (p <:+ g1) = False := eq_false hg1
  have ht1 : (t0 = t1) = False := eq_false ht
  have ht2 : (t1 = t0) = False := eq_false (fun e => ht e.symm)
  have hfb : fbox fs = .box (flatD (fs.map Field.dv)) := rfl
  refine retq_good (fs.length + 1) fn79 rfl rfl ?_
  have fn := fun (T : Tm) (g : List Nat) (H : Heap) (dst : Nat) (hx : ((0 :: g) <:+ g0) = False) (hS : Heap.get H ⟨d0, t0, g0⟩ = some (gbox l k)) => ca_next (d := d) (dst := dst) (S := ⟨T, H, g⟩) d0 t0 g0 l k hk hl (by omega) hx hS
  have hrk := gnext_ok hr k
  generalize gnext l k = r at *
  generalize gat l k = k2 at *
  simp only [amr, amc, amp, if_true, if_false, ne_eq, gt_iff_lt, Option.getD, argsT, Option.bind, Option.map, List.headD, List.tail, opnsL, List.replicate, lendsL, seval, ty_FmB_79, fn, suf1 hg0, suf2 hg0, suf3 hg0, suf4 hg0, hs0, suf1 hg1, suf2 hg1, suf3 hg1, suf4 hg1, hs1, ht1, ht2, hfb, Raw.dv, e1, e2, upd, Option.getD_none, Option.getD_some]
  refine good_range fs (fun k (a : List (List UInt8) × Option (List Nat)) g => ⟨[(1, .d (.int .i64 kind)), (6, .ptr ⟨d, 6, 0 :: p⟩ 0), (7, .ptr ⟨d, 7, 0 :: 1 :: 1 :: p⟩ 0), (8, .own 1 (a.1.map DV.str) (tokD d 27 a.2)), (13, .arr ⟨d0, t1, g1⟩ 0 fs.length 9), (14, .d (.int .i64 fs.length)), (15, .d (.int .i64 (k : Nat)))],
      tokP d 27 (a.1.length * 1) a.2 ++ [(⟨d, 7, 0 :: 1 :: 1 :: p⟩, .box [.d (.int .i64 r.kind), .d (.int .i64 r.a), .d (.int .i64 r.b), .d (.str r.text)]), (⟨d, 6, 0 :: p⟩, .box [.d (.int .i64 0), .d (.int .i64 0), .d (.int .i64 0), .d (.str []), .d (.str []), .own 6 [] none]), (⟨d0, t0, g0⟩, gbox l k2), (⟨d0, t1, g1⟩, .box (flatD (fs.map Field.dv)))], g⟩) (fun k a => a.1.length ≤ k) (fun k a r => a.1 ++ fnames kind r)
    (fun (o : List (List UInt8)) (q : Out) (S : St) => q = .exit 0 ∧ ∃ t g, Sub ⟨[(1, .d (.int .i64 kind)), (6, .ptr ⟨d, 6, 0 :: p⟩ 0), (7, .ptr ⟨d, 7, 0 :: 1 :: 1 :: p⟩ 0), (8, .own 1 (o.map DV.str) (tokD d 27 t))],
      tokP d 27 (o.length * 1) t ++ [(⟨d, 7, 0 :: 1 :: 1 :: p⟩, .box [.d (.int .i64 r.kind), .d (.int .i64 r.a), .d (.int .i64 r.b), .d (.str r.text)]), (⟨d, 6, 0 :: p⟩, .box [.d (.int .i64 0), .d (.int .i64 0), .d (.int .i64 0), .d (.str []), .d (.str []), .own 6 [] none]), (⟨d0, t0, g0⟩, gbox l k2), (⟨d0, t1, g1⟩, .box (flatD (fs.map Field.dv)))], g⟩ S) ([], none) kp79_4 (fun r => up_tok) (Nat.le_refl _) (by omega) (by omega) ?_ ?_ ?_ ?_
  · rintro k ⟨acc, t⟩ g x rest hk hget hd _ hb w1
    obtain ⟨R, hget'⟩ := fdrop' hget
    have hkl : ((k : Int) < (fs.length : Int)) = True := eq_true (by omega)
    have hR9 : (9 ≤ R.length + 1 + 1 + 1 + 1 + 1 + 1 + 1 + 1 + 1) = True := eq_true (by omega)
    generalize flatD (fs.map Field.dv) = CC at *
    rename_i hI
    simp only at hI
    have hA : ((acc.length + 1) * 16 ≤ 140737488355328) = True := eq_true (by omega)
    by_cases hq : x.ty = kind
    · have bq : (x.ty == kind) = true := beq_iff_eq.2 hq
      rcases t with _ | t
      · simp only [amr, amc, amp, if_true, if_false, ne_eq, gt_iff_lt, Option.getD, argsT, Option.bind, Option.map, List.headD, List.tail, opnsL, List.replicate, lendsL, seval, ty_FmB_79, Field.dv, hb, w1, hget', hkl, hR9, ht1, ht2, bq, tokD, tokP, hA, e1, e2, hd1, sx1, sx2]
        refine step_nrm (acc ++ [x.name], some (1 :: g)) ?_ ?_ ?_
        · simp only [List.length_append, List.length_cons, List.length_nil]; omega
        · simp [fnames, hq]
        · (apply Exists.intro; (try simp only [amr, amc, amp, if_true, if_false, ne_eq, gt_iff_lt, Option.getD, argsT, Option.bind, Option.map, List.headD, List.tail, opnsL, List.replicate, lendsL, seval, tokD, tokP, e1, e2, hd1, ht1, ht2]); exact sub_mk (by repeat first | exact subT_nil | refine subT_cons (by first | rfl | simp [Tm.get, *]) ?_))
      · simp only [amr, amc, amp, if_true, if_false, ne_eq, gt_iff_lt, Option.getD, argsT, Option.bind, Option.map, List.headD, List.tail, opnsL, List.replicate, lendsL, seval, ty_FmB_79, Field.dv, hb, w1, hget', hkl, hR9, ht1, ht2, bq, tokD, tokP, hA, e1, e2, hd1, sx1, sx2]
        refine step_nrm (acc ++ [x.name], some t) ?_ ?_ ?_
        · simp only [List.length_append, List.length_cons, List.length_nil]; omega
        · simp [fnames, hq]
        · (apply Exists.intro; (try simp only [amr, amc, amp, if_true, if_false, ne_eq, gt_iff_lt, Option.getD, argsT, Option.bind, Option.map, List.headD, List.tail, opnsL, List.replicate, lendsL, seval, tokD, tokP, e1, e2, hd1, ht1, ht2]); exact sub_mk (by repeat first | exact subT_nil | refine subT_cons (by first | rfl | simp [Tm.get, *]) ?_))
    · have bq : (x.ty == kind) = false := beq_eq_false_iff_ne.2 hq
      rcases t with _ | t
      · simp only [amr, amc, amp, if_true, if_false, ne_eq, gt_iff_lt, Option.getD, argsT, Option.bind, Option.map, List.headD, List.tail, opnsL, List.replicate, lendsL, seval, ty_FmB_79, Field.dv, hb, w1, hget', hkl, hR9, ht1, ht2, bq, tokD, tokP, e1, e2, hd1, sx1, sx2]
        refine step_nrm (acc, none) ?_ ?_ ?_
        · simp only; omega
        · simp [fnames, hq]
        · (apply Exists.intro; (try simp only [amr, amc, amp, if_true, if_false, ne_eq, gt_iff_lt, Option.getD, argsT, Option.bind, Option.map, List.headD, List.tail, opnsL, List.replicate, lendsL, seval, tokD, tokP, e1, e2, hd1, ht1, ht2]); exact sub_mk (by repeat first | exact subT_nil | refine subT_cons (by first | rfl | simp [Tm.get, *]) ?_))
      · simp only [amr, amc, amp, if_true, if_false, ne_eq, gt_iff_lt, Option.getD, argsT, Option.bind, Option.map, List.headD, List.tail, opnsL, List.replicate, lendsL, seval, ty_FmB_79, Field.dv, hb, w1, hget', hkl, hR9, ht1, ht2, bq, tokD, tokP, e1, e2, hd1, sx1, sx2]
        refine step_nrm (acc, some t) ?_ ?_ ?_
        · simp only; omega
        · simp [fnames, hq]
        · (apply Exists.intro; (try simp only [amr, amc, amp, if_true, if_false, ne_eq, gt_iff_lt, Option.getD, argsT, Option.bind, Option.map, List.headD, List.tail, opnsL, List.replicate, lendsL, seval, tokD, tokP, e1, e2, hd1, ht1, ht2]); exact sub_mk (by repeat first | exact subT_nil | refine subT_cons (by first | rfl | simp [Tm.get, *]) ?_))
  · rintro ⟨acc, t⟩ g _ hb
    simp only [amr, amc, amp, if_true, if_false, ne_eq, gt_iff_lt, Option.getD, argsT, Option.bind, Option.map, List.headD, List.tail, opnsL, List.replicate, lendsL, seval, ty_FmB_79, hb, ht1, ht2]
    refine last_end (by simp) ⟨rfl, t, ?_⟩
    simp only [fnames, List.append_nil]
    rcases t with _ | t
    · (apply Exists.intro; (try simp only [amr, amc, amp, if_true, if_false, ne_eq, gt_iff_lt, Option.getD, argsT, Option.bind, Option.map, List.headD, List.tail, opnsL, List.replicate, lendsL, seval, tokD, tokP, e1, e2, hd1, ht1, ht2]); exact sub_mk (by repeat first | exact subT_nil | refine subT_cons (by first | rfl | simp [Tm.get, *]) ?_))
    · (apply Exists.intro; (try simp only [amr, amc, amp, if_true, if_false, ne_eq, gt_iff_lt, Option.getD, argsT, Option.bind, Option.map, List.headD, List.tail, opnsL, List.replicate, lendsL, seval, tokD, tokP, e1, e2, hd1, ht1, ht2]); exact sub_mk (by repeat first | exact subT_nil | refine subT_cons (by first | rfl | simp [Tm.get, *]) ?_))
  · (apply Exists.intro; (try simp only [amr, amc, amp, if_true, if_false, ne_eq, gt_iff_lt, Option.getD, argsT, Option.bind, Option.map, List.headD, List.tail, opnsL, List.replicate, lendsL, seval, tokD, tokP, e1, e2, hd1, ht1, ht2]); exact sub_mk (by repeat first | exact subT_nil | refine subT_cons (by first | rfl | simp [Tm.get, *]) ?_))
  · rintro o S' ⟨rfl, t, g, hs⟩
    refine good_sub_cr up_finq hs ?_
    unfold gleafE
    simp only [List.nil_append]
    have hol := fnames_le kind fs
    generalize fnames kind fs = o at *
    have fc : ∀ (S : St) (d dst : Nat), callA tab (callR tab) d dst 101 [.d (.int .i64 kind), .d (.agg [.int .i64 r.kind, .int .i64 r.a, .int .i64 r.b, .str r.text])] S = some (.d (.agg [.int .i64 1, .int .i64 (constV kind r).kind, .int .i64 (constV kind r).n, .str (constV kind r).s, .str [], .sl 6 []]), S) := fun S d dst => by
      have h := cf_constant (d := d) (dst := dst) (S := S) kind r hrk.text
      unfold constE at h
      rw [Exp.dv_mk] at h
      exact h
    have hdc : (constE kind r).dv = .agg [.int .i64 1, .int .i64 (constV kind r).kind, .int .i64 (constV kind r).n, .str (constV kind r).s, .str [], .sl 6 []] := by unfold constE; rw [Exp.dv_mk]; rfl
    have p1 := fun (S : St) (d dst : Nat) => ca_picked (d := d) (dst := dst) (S := S) r.kind 4 (by decide)
    by_cases c0 : o.length = 0
    · rw [if_pos c0, hdc]
      obtain rfl := List.eq_nil_of_length_eq_zero c0
      rcases t with _ | t
      · simp only [amr, amc, amp, if_true, if_false, ne_eq, gt_iff_lt, Option.getD, argsT, Option.bind, Option.map, List.headD, List.tail, opnsL, List.replicate, lendsL, seval, ty_FmB_79, tokD, tokP, e1, e2, hd1, ht1, ht2, fc, beq_self_eq_true, soft_d, hfb]
      · simp only [amr, amc, amp, if_true, if_false, ne_eq, gt_iff_lt, Option.getD, argsT, Option.bind, Option.map, List.headD, List.tail, opnsL, List.replicate, lendsL, seval, ty_FmB_79, tokD, tokP, e1, e2, hd1, ht1, ht2, fc, beq_self_eq_true, soft_d, hfb]
    · rw [if_neg c0]
      have b0 : ((o.length : Int) == 0) = false := beq_eq_false_iff_ne.2 (by omega)
      by_cases c4 : pick r.kind 4 = 0
      · rw [if_pos c4, hdc]
        rw [c4] at p1
        rcases t with _ | t
        · simp only [amr, amc, amp, if_true, if_false, ne_eq, gt_iff_lt, Option.getD, argsT, Option.bind, Option.map, List.headD, List.tail, opnsL, List.replicate, lendsL, seval, ty_FmB_79, tokD, tokP, e1, e2, hd1, ht1, ht2, fc, p1, b0, beq_self_eq_true, soft_d, hfb]
        · simp only [amr, amc, amp, if_true, if_false, ne_eq, gt_iff_lt, Option.getD, argsT, Option.bind, Option.map, List.headD, List.tail, opnsL, List.replicate, lendsL, seval, ty_FmB_79, tokD, tokP, e1, e2, hd1, ht1, ht2, fc, p1, b0, beq_self_eq_true, soft_d, hfb]
      · rw [if_neg c4, Exp.dv_mk]
        have b4 : (pick r.kind 4 == 0) = false := beq_eq_false_iff_ne.2 c4
        have hpn := pick_range r.b (o.length : Int) hrk.b.1 hrk.b.2 (by omega)
        have p2 := fun (S : St) (d dst : Nat) => ca_picked (d := d) (dst := dst) (S := S) r.b (o.length : Int) (by omega)
        generalize pick r.b (o.length : Int) = q at *
        obtain ⟨j, rfl⟩ : ∃ j : Nat, q = j := ⟨q.toNat, by omega⟩
        have hj : j < o.length := by omega
        have hjl : ((j : Int) < (o.length : Int)) = True := eq_true (by omega)
        have hoj : (o.map DV.str)[j]? = some (.str (o.getD j [])) := by rw [List.getElem?_map, List.getD_eq_getElem?_getD, List.getElem?_eq_getElem hj]; rfl
        rw [Int.toNat_natCast]
        rcases t with _ | t
        · simp only [amr, amc, amp, if_true, if_false, ne_eq, gt_iff_lt, Option.getD, argsT, Option.bind, Option.map, List.headD, List.tail, opnsL, List.replicate, lendsL, seval, ty_FmB_79, tokD, tokP, e1, e2, hd1, ht1, ht2, fc, p1, p2, b0, b4, hoj, hjl, beq_self_eq_true]
          exact soft_agg (by kernel_rfl) rfl
        · simp only [amr, amc, amp, if_true, if_false, ne_eq, gt_iff_lt, Option.getD, argsT, Option.bind, Option.map, List.headD, List.tail, opnsL, List.replicate, lendsL, seval, ty_FmB_79, tokD, tokP, e1, e2, hd1, ht1, ht2, fc, p1, p2, b0, b4, hoj, hjl, beq_self_eq_true]
          exact soft_agg (by kernel_rfl) rfl
theorem ca_leafA {d dst : Nat} {S : St} (d0 t0 : Nat) (g0 : List Nat) (t1 : Nat) (g1 : List Nat) (ht : t0 ≠ t1) (h : d0 ≤ d) (kind : Int) (fs : List Field) (hfs : fs.length ≤ 1048576) (l : List Raw) (k : Nat) (hk : k ≤ 4611686018427387904) (hl : l.length ≤ 9223372036854775807) (hr : ∀ r ∈ l, r.ok) (hg0 : ((0 :: S.g) <:+ g0) = False) (hg1 : ((0 :: S.g) <:+ g1) = False) (hS : S.H.get ⟨d0, t0, g0⟩ = some (gbox l k)) (hF : S.H.get ⟨d0, t1, g1⟩ = some (fbox fs)) :
    callA tab (callR tab) d dst 79 [.ptr ⟨d0, t0, g0⟩ 0, .d (.int .i64 kind), .arr ⟨d0, t1, g1⟩ 0 fs.length 9] S = some (.d (gleafE kind fs (gnext l k)).dv, ⟨S.T, upd [(⟨d0, t0, g0⟩, gbox l (gat l k)), (⟨d0, t1, g1⟩, fbox fs)] S.H, 1 :: S.g⟩) := by
  obtain ⟨x, H', h1, h2, h3, h4⟩ := run_leafA (p := 0 :: S.g) d0 t0 g0 (Nat.lt_succ_of_le h) (of_eq_false hg0) t1 g1 ht (of_eq_false hg1) kind fs hfs l k hk hl hr
  exact ca_open2 (cs := [.d (.sl 4 (l.map Raw.dv)), .d (.int .i64 k)]) (cs' := [.d (.sl 4 (l.map Raw.dv)), .d (.int .i64 (gat l k))]) (by split <;> rfl) (lent_off (tab_lend (by kernel_rfl))) (id_ne ht) rfl rfl rfl (ids_flat _) ⟨x, H', h1, h2, h3, h4⟩ rfl hS hF
end Go.Proofs.Ytnombkkfijlkfaa.Am
