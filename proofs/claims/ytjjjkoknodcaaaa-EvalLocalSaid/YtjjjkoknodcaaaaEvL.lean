/- Fields that a formula does not ask for are of no matter. -/
import Derived.Test.YtjjjkoknodcaaaaNmH
import Derived.Test.YtjjjkoknodcaaaaNmL
set_option linter.unusedVariables false
set_option linter.unusedSimpArgs false
namespace Go.Proofs.Ytjjjkoknodcaaaa.Am
open Go Go.RowKit
theorem ty_EvL_13 : type_of% (ai (ai (ai (ai (ai (ai @rs13 (ai @lv13_0 @lv13_1)) (ai @lv13_2 (ai @lv13_3 @lv13_4))) (ai (ai @lv13_5 (ai @dr13_6 @lv13_6)) (ai (ai @lv13_7 @lv13_8) (ai @lv13_9 @lv13_10)))) (ai (ai (ai @lv13_11 (ai @lv13_12 @kp13_4)) (ai (ai @und1 @sz1) (ai @ag1 @inf1))) (ai (ai @und3 (ai @sz3 @ag3)) (ai (ai @lv3 @inf3) (ai @und4 @sz4))))) (ai (ai (ai (ai @ag4 (ai @lv4 @inf4)) (ai @und9 (ai @sz9 @ag9))) (ai (ai @lv9 (ai @inf9 @und22)) (ai (ai @sz22 @ag22) (ai @pT22 @inf22)))) (ai (ai (ai @und24 (ai @sz24 @ag24)) (ai (ai @fo24 @bA24) (ai @pT24_0 @pT24_1))) (ai (ai @pT24_2 (ai @lv24 @inf24)) (ai (ai @und25 @sz25) (ai @ag25 @pT25)))))) (ai (ai (ai (ai (ai @inf25 (ai @und27 @sz27)) (ai @ag27 (ai @fo27 @bA27))) (ai (ai @pT27_0 (ai @pT27_1 @pT27_2)) (ai (ai @pT27_3 @inf27) (ai @und30 @sz30)))) (ai (ai (ai @ag30 (ai @pT30 @inf30)) (ai (ai @und34 @sz34) (ai @ag34 @lv34))) (ai (ai @inf34 (ai @und49 @sz49)) (ai (ai @ag49 @fo49) (ai @bA49 @pT49_0))))) (ai (ai (ai (ai @pT49_1 (ai @pT49_2 @pT49_3)) (ai (ai @inf49 @und56) (ai @sz56 @ag56))) (ai (ai @pT56 (ai @inf56 @und65)) (ai (ai @sz65 @ag65) (ai @fo65 @bA65)))) (ai (ai (ai @pT65_0 (ai @pT65_1 @pT65_2)) (ai (ai @inf65 @und99) (ai @sz99 @ag99))) (ai (ai @fo99 (ai @bA99 @pT99_0)) (ai (ai @pT99_1 @pT99_2) (ai @pT99_3 @inf99))))))) := (ai (ai (ai (ai (ai (ai @rs13 (ai @lv13_0 @lv13_1)) (ai @lv13_2 (ai @lv13_3 @lv13_4))) (ai (ai @lv13_5 (ai @dr13_6 @lv13_6)) (ai (ai @lv13_7 @lv13_8) (ai @lv13_9 @lv13_10)))) (ai (ai (ai @lv13_11 (ai @lv13_12 @kp13_4)) (ai (ai @und1 @sz1) (ai @ag1 @inf1))) (ai (ai @und3 (ai @sz3 @ag3)) (ai (ai @lv3 @inf3) (ai @und4 @sz4))))) (ai (ai (ai (ai @ag4 (ai @lv4 @inf4)) (ai @und9 (ai @sz9 @ag9))) (ai (ai @lv9 (ai @inf9 @und22)) (ai (ai @sz22 @ag22) (ai @pT22 @inf22)))) (ai (ai (ai @und24 (ai @sz24 @ag24)) (ai (ai @fo24 @bA24) (ai @pT24_0 @pT24_1))) (ai (ai @pT24_2 (ai @lv24 @inf24)) (ai (ai @und25 @sz25) (ai @ag25 @pT25)))))) (ai (ai (ai (ai (ai @inf25 (ai @und27 @sz27)) (ai @ag27 (ai @fo27 @bA27))) (ai (ai @pT27_0 (ai @pT27_1 @pT27_2)) (ai (ai @pT27_3 @inf27) (ai @und30 @sz30)))) (ai (ai (ai @ag30 (ai @pT30 @inf30)) (ai (ai @und34 @sz34) (ai @ag34 @lv34))) (ai (ai @inf34 (ai @und49 @sz49)) (ai (ai @ag49 @fo49) (ai @bA49 @pT49_0))))) (ai (ai (ai (ai @pT49_1 (ai @pT49_2 @pT49_3)) (ai (ai @inf49 @und56) (ai @sz56 @ag56))) (ai (ai @pT56 (ai @inf56 @und65)) (ai (ai @sz65 @ag65) (ai @fo65 @bA65)))) (ai (ai (ai @pT65_0 (ai @pT65_1 @pT65_2)) (ai (ai @inf65 @und99) (ai @sz99 @ag99))) (ai (ai @fo99 (ai @bA99 @pT99_0)) (ai (ai @pT99_1 @pT99_2) (ai @pT99_3 @inf99)))))))
set_option maxRecDepth 100000
set_option maxHeartbeats 40000000



mutual
theorem ev_agree {M N : VMap} : ∀ x : Exp, (∀ t ∈ x.refs, lookV M t = lookV N t) → evE M x = evE N x
  | .mk op v name args, h => by
    simp only [Exp.refs, List.mem_append] at h
    have ih := ev_agreeL args (fun t ht => h t (.inr ht))
    unfold evE
    rw [ih]
    by_cases h1 : op = 1
    · rw [if_pos h1, if_pos h1]
    rw [if_neg h1, if_neg h1]
    by_cases h2 : op = 2
    · rw [if_pos h2, if_pos h2, h name (.inl (by rw [if_pos h2]; simp))]
    rw [if_neg h2, if_neg h2]
theorem ev_agreeL {M N : VMap} : ∀ l : List Exp, (∀ t ∈ Exp.refsL l, lookV M t = lookV N t) → evL M l = evL N l
  | [], _ => by simp only [evL]
  | x :: r, h => by
    simp only [Exp.refsL, List.mem_append] at h
    simp only [evL, ev_agree x (fun t ht => h t (.inl ht)), ev_agreeL r (fun t ht => h t (.inr ht))]
end
/-- What is asked for, of the first ones; the others of the second ones. -/
def mixF (R : List (List UInt8)) : List Fact → List Fact → List Fact
  | a :: l, b :: r => (if b.name ∈ R then a else b) :: mixF R l r
  | _, _ => []
def sameN : List Fact → List Fact → Prop
  | [], [] => True
  | a :: l, b :: r => a.name = b.name ∧ sameN l r
  | _, _ => False
theorem mix_look {R : List (List UInt8)} {t : List UInt8} (ht : t ∈ R) : ∀ l r : List Fact, sameN l r → lookV (l.map fun f => (f.name, f.has)) t = lookV ((mixF R l r).map fun f => (f.name, f.has)) t
  | [], [], _ => rfl
  | a :: l, b :: r, h => by
    have ih := mix_look ht l r h.2
    simp only [mixF, List.map_cons, lookV]
    by_cases e : t = a.name
    · rw [if_pos e]
      have hb : b.name ∈ R := by rw [← h.1, ← e]; exact ht
      rw [if_pos hb, if_pos e]
    · rw [if_neg e, ih]
      by_cases hb : b.name ∈ R
      · rw [if_pos hb, if_neg e]
      · rw [if_neg hb, if_neg (by rw [← h.1]; exact e)]
  | [], _ :: _, h => h.elim
  | _ :: _, [], h => h.elim
theorem mix_ev {l r : List Fact} (h : sameN l r) (x : Exp) : evE (fmap [] l) x = evE (fmap [] (mixF x.refs l r)) x :=
  ev_agree x (fun t ht => by rw [look_fmap, look_fmap]; simp only [lookV]; exact mix_look ht l r h)
theorem mix_ok {R : List (List UInt8)} : ∀ l r : List Fact, (∀ f ∈ l, VOK f.has) → (∀ f ∈ r, VOK f.has) → ∀ f ∈ mixF R l r, VOK f.has
  | [], [], _, _, f, hf => by simp [mixF] at hf
  | a :: l, b :: r, h1, h2, f, hf => by
    simp only [mixF, List.mem_cons] at hf
    rcases hf with rfl | hf
    · split
      · exact h1 a (by simp)
      · exact h2 b (by simp)
    · exact mix_ok l r (fun g hg => h1 g (by simp [hg])) (fun g hg => h2 g (by simp [hg])) f hf
  | [], _ :: _, _, _, f, hf => by simp [mixF] at hf
  | _ :: _, [], _, _, f, hf => by simp [mixF] at hf
theorem mix_len {R : List (List UInt8)} : ∀ l r : List Fact, l.length = r.length → (mixF R l r).length = r.length
  | [], [], _ => rfl
  | a :: l, b :: r, h => by simp [mixF, mix_len l r (by simpa using h)]
  | [], _ :: _, h => by simp at h
  | _ :: _, [], h => by simp at h
theorem facts_same (l m : List Raw) : ∀ (fs : List Field) (i j : Nat), sameN (factsF l fs i) (factsF m fs j)
  | [], i, j => trivial
  | f :: r, i, j => ⟨rfl, facts_same l m r _ _⟩
theorem mix_zip (R : List (List UInt8)) : ∀ A B : List Fact, A.length = B.length → mixF R A B = (A.zip B).map fun p => if p.2.name ∈ R then p.1 else p.2
  | [], [], _ => rfl
  | a :: l, b :: r, h => by simp [mixF, mix_zip R l r (by simpa using h)]
  | [], _ :: _, h => by simp at h
  | _ :: _, [], h => by simp at h
theorem flat_dropF {α : Type} {f : α → DV} {sz : Nat} (hs : ∀ x, (f x).cells.length = sz) : ∀ (l : List α) (k : Nat) (x : α), l[k]? = some x → (flatD (l.map f)).drop (k * sz) = (f x).cells.map .d ++ flatD ((l.drop (k + 1)).map f)
  | [], k, x, h => by simp at h
  | y :: r, 0, x, h => by
    obtain rfl : y = x := by simpa using h
    simp [flatD]
  | y :: r, k + 1, x, h => by
    have h1 : (flatD ((y :: r).map f)) = (f y).cells.map .d ++ flatD (r.map f) := by simp [flatD]
    have h2 : ((f y).cells.map AV.d).length = sz := by rw [List.length_map]; exact hs y
    rw [h1, show (k + 1) * sz = ((f y).cells.map AV.d).length + k * sz by rw [h2, Nat.add_mul]; omega, List.drop_append, List.drop_eq_nil_of_le (by omega), List.nil_append, Nat.add_sub_cancel_left, List.drop_succ_cons]
    exact flat_dropF hs r k x (by simpa using h)
theorem take_setF (a : Fact) : ∀ (C : List Fact) (j : Nat), j < C.length → (C.set j a).take (j + 1) = C.take j ++ [a]
  | [], j, h => by simp at h
  | x :: r, 0, _ => by simp
  | x :: r, j + 1, h => by simpa using take_setF a r j (by simpa using h)
theorem take_oneF (b : Fact) : ∀ (C : List Fact) (j : Nat), C[j]? = some b → C.take (j + 1) = C.take j ++ [b]
  | [], j, h => by simp at h
  | x :: r, 0, h => by
    obtain rfl : x = b := by simpa using h
    simp
  | x :: r, j + 1, h => by simpa using take_oneF b r j (by simpa using h)
theorem drop_tailF {C B : List Fact} {j : Nat} (h : C.drop j = B.drop j) : C.drop (j + 1) = B.drop (j + 1) := by
  rw [← List.tail_drop, h, List.tail_drop]
def sevL : List Fact := [⟨[110], Val.zero, ⟨1, 7, []⟩⟩]
def refN : Exp := .mk 2 Val.zero [110] []
theorem wf_refN : refN.wf := ⟨⟨by decide, by decide, rfl, by rw [if_neg (by decide), if_pos rfl]; exact ⟨by kernel_rfl, rfl⟩⟩, trivial⟩
def xbox (X : Exp) : Place := .box [.d (.int .i64 X.op), .d (.int .i64 X.v.kind), .d (.int .i64 X.v.n), .d (.str X.v.s), .d (.str X.name), .d (.sl 6 (X.args.map Exp.dv))]
theorem ret_EvalLocal (l m k : List Raw) (kind : Int) (hl : l.length ≤ 9223372036854775807) (hr : ∀ r ∈ l, r.ok) (hm : m.length ≤ 9223372036854775807) (hs : ∀ r ∈ m, r.ok) (hk : k.length ≤ 9223372036854775807) (ht : ∀ r ∈ k, r.ok) (hki : -9223372036854775808 ≤ kind ∧ kind ≤ 9223372036854775807) : Ret tab 13 [.d (.sl 4 (l.map Raw.dv)), .d (.sl 4 (m.map Raw.dv)), .d (.sl 4 (k.map Raw.dv)), .d (.int .i64 kind)] (.d (.bool true)) := by
  obtain ⟨hty, w1⟩ := ty_pick hki
  have p1 : ∀ (S : St) (d dst : Nat), callA tab (callR tab) d dst 16 [.d (.int .i64 kind), .d (.int .i64 3)] S = some (.d (.int .i64 (pick kind 3)), S) := fun S d dst => ca_picked kind 3 (by decide)
  have fE := fun (S : St) (d dst : Nat) => ca_Expr (d := d) (dst := dst) (S := S) l (1 + pick kind 3) someF (by decide) hl hr
  have f3 := fun (S : St) (d : Nat) => ca_factsT m hm hs (d := d) (dst := 26) (S := S) (j := 0) (tab_thaw (by kernel_rfl))
  have f4 := fun (S : St) (d : Nat) => ca_factsT k hk ht (d := d) (dst := 28) (S := S) (j := 0) (tab_thaw (by kernel_rfl))
  have wX := mkE_wf hr hty someF_ok
  have nX := mkE_nodes l (1 + pick kind 3) someF
  have dX := mkE_deep l (1 + pick kind 3) someF
  generalize mkE l (1 + pick kind 3) someF = X at *
  have hA := facts_ok hs someF 0 someF_ok
  have hB := facts_ok ht someF 0 someF_ok
  have lA : (factsL m).length = 5 := factsF_len m someF 0
  have lB : (factsL k).length = 5 := factsF_len k someF 0
  have hN : sameN (factsL m) (factsL k) := facts_same m k someF 0 0
  change ∀ f ∈ factsL m, VOK f.has at hA
  change ∀ f ∈ factsL k, VOK f.has at hB
  generalize factsL m = A at *
  generalize factsL k = B at *
  have hev := mix_ev hN X
  have hM := mix_ok (R := X.refs) A B hA hB
  have lM : (mixF X.refs A B).length = 5 := by rw [mix_len A B (by omega), lB]
  have hmz := mix_zip X.refs A B (by omega)
  have hX := fun (S : St) (d dst : Nat) (s : List UInt8) => ca_Has (d := d) (dst := dst) (S := S) X s
  have gA : ∀ (S : St) (d dst : Nat) (id : Id), S.H.get id = some (.box (flatD (A.map Fact.dv))) → callA tab (callR tab) d dst 31 [.d X.dv, .arr id 0 5 7] S = some (.tup [.d (evE (fmap [] A) X).dv, .d (.int .i64 0)], S) := fun S d dst id h => by
    have hb := frz_list0 (sz := 7) (n := 5) (xs := A.map Fact.dv) h (by rw [List.length_map, lA]) (by decide) (elt_f A)
    exact ca_lentT (ds := [X.dv, .sl 7 (A.map Fact.dv)]) (ys := [(evE (fmap [] A) X).dv, .int .i64 0]) (ret_Of X A (by unfold chkE; rw [if_neg (by omega), if_neg (by omega)]) (by omega) wX (by omega) hA) rfl (by rw [List.map_cons, List.map_cons, hb]; rfl) (tab_lend (by kernel_rfl)) (tab_res (by kernel_rfl)) rfl
  have gM : ∀ (S : St) (d dst : Nat) (id : Id), S.H.get id = some (.box (flatD ((mixF X.refs A B).map Fact.dv))) → callA tab (callR tab) d dst 31 [.d X.dv, .arr id 0 5 7] S = some (.tup [.d (evE (fmap [] A) X).dv, .d (.int .i64 0)], S) := fun S d dst id h => by
    rw [hev]
    generalize mixF X.refs A B = C at *
    have hb := frz_list0 (sz := 7) (n := 5) (xs := C.map Fact.dv) h (by rw [List.length_map, lM]) (by decide) (elt_f C)
    exact ca_lentT (ds := [X.dv, .sl 7 (C.map Fact.dv)]) (ys := [(evE (fmap [] C) X).dv, .int .i64 0]) (ret_Of X C (by unfold chkE; rw [if_neg (by omega), if_neg (by omega)]) (by omega) wX (by omega) hM) rfl (by rw [List.map_cons, List.map_cons, hb]; rfl) (tab_lend (by kernel_rfl)) (tab_res (by kernel_rfl)) rfl
  have g3 : ∀ (S : St) (d dst : Nat), callA tab (callR tab) d dst 31 [.agg [.d (.int .i64 2), .d (.int .i64 0), .d (.int .i64 0), .d (.str []), .d (.str [110]), .own 6 [] none], .own 7 (sevL.map Fact.dv) none] S = some (.tup [.d (.agg [.int .i64 1, .int .i64 7, .str []]), .d (.int .i64 0)], S) := fun S d dst => by
    have h := ret_Of refN sevL (by kernel_rfl) (by decide) wf_refN (by decide) (by intro f hf; simp only [sevL, List.mem_cons, List.not_mem_nil, or_false] at hf; subst hf; rfl)
    exact ca_ret_tup (ds := [refN.dv, .sl 7 (sevL.map Fact.dv)]) (ys := [.agg [.int .i64 1, .int .i64 7, .str []], .int .i64 0]) h rfl (tab_opn (by kernel_rfl)) (tab_res (by kernel_rfl)) rfl
  clear hev hM hmz
  generalize evE (fmap [] A) X = v at *
  simp only [Exp.dv_eq X] at fE gA gM hX
  simp only [Val.dv] at gA gM
  simp only [sevL, List.map_cons, List.map_nil, Fact.dv, Val.dv, Val.zero] at g3
  have hC : ∀ C : List Fact, C.length = 5 → (flatD (C.map Fact.dv)).length = 35 := fun C h => by rw [flatD_len _ (elt_f C), List.length_map, h]
  have lz : (A.zip B).length = 5 := by rw [List.length_zip]; omega
  have hmz := mix_zip X.refs A B (by omega)
  refine ret_of 6 fn13 rfl rfl ?_
  simp only [amr, amc, amp, if_true, if_false, ne_eq, gt_iff_lt, Option.getD, argsT, Option.bind, Option.map, List.headD, List.tail, opnsL, List.replicate, lendsL, seval, ty_EvL_13, p1, w1, fE, f3, f4, ca_Some]
  refine good_range (A.zip B) (fun j (C : List Fact) g => ⟨[(9, .ptr ⟨0, 9, [0]⟩ 0), (10, .arr ⟨0, 26, [0, 1]⟩ 0 5 7), (11, .arr ⟨0, 28, [0, 1, 1]⟩ 0 5 7), (30, .d (.int .i64 (A.zip B).length)), (31, .d (.int .i64 (j : Nat)))],
      [(⟨0, 28, [0, 1, 1]⟩, .box (flatD (C.map Fact.dv))), (⟨0, 26, [0, 1]⟩, .box (flatD (A.map Fact.dv))), (⟨0, 9, [0]⟩, xbox X)], g⟩)
    (fun j C => C.length = 5 ∧ C.drop j = B.drop j) (fun j C r => C.take j ++ r.map fun p => if p.2.name ∈ X.refs then p.1 else p.2)
    (QX (.exit 0) (fun o g => ⟨[(9, .ptr ⟨0, 9, [0]⟩ 0), (10, .arr ⟨0, 26, [0, 1]⟩ 0 5 7), (11, .arr ⟨0, 28, [0, 1, 1]⟩ 0 5 7)],
      [(⟨0, 28, [0, 1, 1]⟩, .box (flatD (o.map Fact.dv))), (⟨0, 26, [0, 1]⟩, .box (flatD (A.map Fact.dv))), (⟨0, 9, [0]⟩, xbox X)], g⟩)) B kp13_4 up_qx ⟨lB, rfl⟩ (by omega) (by omega) ?_ ?_ ?_ ?_
  · rintro j C g ⟨a, b⟩ rest hj hget hd ⟨hI1, hI2⟩ hb w2
    have hj5 : j < 5 := by omega
    have hab : A[j]? = some a ∧ C[j]? = some b := by
      have h1 := List.getElem?_zip_eq_some.1 hget
      refine ⟨h1.1, ?_⟩
      have h2 : (C.drop j)[0]? = (B.drop j)[0]? := by rw [hI2]
      simpa using h2.trans (by simpa using h1.2)
    obtain ⟨ha, hb'⟩ := hab
    have hdC : List.drop (j * 7) (flatD (C.map Fact.dv)) = _   := flat_dropF (f := Fact.dv) (sz := 7) (fun _ => rfl) C j b hb'
    have hdA : List.drop (j * 7) (flatD (A.map Fact.dv)) = _   := flat_dropF (f := Fact.dv) (sz := 7) (fun _ => rfl) A j a ha
    have hz := flat_setF (f := Fact.dv) (sz := 7) (off := 0) (vs := [.d (.str a.name), .d (.int .i64 a.key.kind), .d (.int .i64 a.key.n), .d (.str a.key.s), .d (.int .i64 a.has.kind), .d (.int .i64 a.has.n), .d (.str a.has.s)]) (fun _ => rfl) C j b a hb' (by simp) rfl
    have hz' : flatD ((C.set j a).map Fact.dv) = List.take (j * 7) (flatD (C.map Fact.dv)) ++ [.d (.str a.name), .d (.int .i64 a.key.kind), .d (.int .i64 a.key.n), .d (.str a.key.s), .d (.int .i64 a.has.kind), .d (.int .i64 a.has.n), .d (.str a.has.s)] ++ List.drop (j * 7 + 7) (flatD (C.map Fact.dv)) := by rw [← hz]; rfl
    clear hz
    have hlC := hC C hI1
    have hlA := hC A lA
    have k1 : ((j : Int) < 5) = True := eq_true (by omega)
    have k2 : ∀ n : Nat, (7 ≤ n + 1 + 1 + 1 + 1 + 1 + 1 + 1) = True := fun n => eq_true (by omega)
    have k3 : (j * 7 + 7 ≤ 35) = True := eq_true (by omega)
    have k4 : (j * 7 + 1 ≤ 35) = True := eq_true (by omega)
    cases hn : decide (b.name ∈ X.refs) with
    | false =>
      have hn' : ¬ b.name ∈ X.refs := of_decide_eq_false hn
      simp only [amr, amc, amp, if_true, if_false, ne_eq, gt_iff_lt, Option.getD, argsT, Option.bind, Option.map, List.headD, List.tail, opnsL, List.replicate, lendsL, seval, ty_EvL_13, hb, w2, k1, k2, k3, k4, hX, hn, hdC, hdA, hlC, hlA, xbox, Fact.dv, Val.dv, DV.cells]
      refine step_nrm C ?_ ?_ ?_
      · exact ⟨hI1, drop_tailF hI2⟩
      · simp only [List.map_cons, if_neg hn', take_oneF b C j hb', List.append_assoc, List.cons_append, List.nil_append]
      · (apply Exists.intro; (try simp only [amr, amc, amp, if_true, if_false, ne_eq, gt_iff_lt, Option.getD, argsT, Option.bind, Option.map, List.headD, List.tail, opnsL, List.replicate, lendsL, seval, xbox]); exact sub_mk (by repeat first | exact subT_nil | refine subT_cons (by first | rfl | simp [Tm.get, *]) ?_))
    | true =>
      have hn' : b.name ∈ X.refs := of_decide_eq_true hn
      simp only [amr, amc, amp, if_true, if_false, ne_eq, gt_iff_lt, Option.getD, argsT, Option.bind, Option.map, List.headD, List.tail, opnsL, List.replicate, lendsL, seval, ty_EvL_13, hb, w2, k1, k2, k3, k4, hX, hn, hdC, hdA, hlC, hlA, xbox, Fact.dv, Val.dv, DV.cells]
      refine step_nrm (C.set j a) ?_ ?_ ?_
      · refine ⟨by rw [List.length_set]; exact hI1, ?_⟩
        rw [List.drop_set_of_lt (by omega)]
        exact drop_tailF hI2
      · simp only [List.map_cons, if_pos hn', take_setF a C j (by omega), List.append_assoc, List.cons_append, List.nil_append]
      · (apply Exists.intro; (try simp only [amr, amc, amp, if_true, if_false, ne_eq, gt_iff_lt, Option.getD, argsT, Option.bind, Option.map, List.headD, List.tail, opnsL, List.replicate, lendsL, seval, xbox, hz']); exact sub_mk (by repeat first | exact subT_nil | refine subT_cons (by first | rfl | simp [Tm.get, *]) ?_))
  · rintro C g ⟨hI1, hI2⟩ hb
    simp only [amr, amc, amp, if_true, if_false, ne_eq, gt_iff_lt, Option.getD, argsT, Option.bind, Option.map, List.headD, List.tail, opnsL, List.replicate, lendsL, seval, ty_EvL_13, hb, xbox]
    refine last_end (by simp) ⟨rfl, ?_⟩
    have hCt : C.take (A.zip B).length = C := by rw [lz, ← hI1, List.take_length]
    simp only [List.map_nil, List.append_nil, hCt]
    (apply Exists.intro; (try simp only [amr, amc, amp, if_true, if_false, ne_eq, gt_iff_lt, Option.getD, argsT, Option.bind, Option.map, List.headD, List.tail, opnsL, List.replicate, lendsL, seval, xbox]); exact sub_mk (by repeat first | exact subT_nil | refine subT_cons (by first | rfl | simp [Tm.get, *]) ?_))
  · simp only [lz]
    (apply Exists.intro; (try simp only [amr, amc, amp, if_true, if_false, ne_eq, gt_iff_lt, Option.getD, argsT, Option.bind, Option.map, List.headD, List.tail, opnsL, List.replicate, lendsL, seval, xbox]); exact sub_mk (by repeat first | exact subT_nil | refine subT_cons (by first | rfl | simp [Tm.get, *]) ?_))
  · rintro o S' ⟨rfl, g, hs⟩
    refine good_sub_cr up_fin hs ?_
    rw [List.take_zero, List.nil_append, ← hmz]
    cases hkq : (v.kind == v.kind) with
    | false => simp at hkq
    | true =>
      simp only [amr, amc, amp, if_true, if_false, ne_eq, gt_iff_lt, Option.getD, argsT, Option.bind, Option.map, List.headD, List.tail, opnsL, List.replicate, lendsL, seval, ty_EvL_13, xbox, gA, gM, g3, beq_self_eq_true]
end Go.Proofs.Ytjjjkoknodcaaaa.Am
