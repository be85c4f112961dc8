/- Forms of raw things, walked. -/
import Derived.Test.YtnombkkfijlkfaaFmR
set_option linter.unusedVariables false
set_option linter.unusedSimpArgs false
namespace Go.Proofs.Ytnombkkfijlkfaa.Am
open Go Go.RowKit
theorem ty_FmF_14 : type_of% (ai (ai (ai (ai (ai (ai (ai @rs14 @lv14_0) (ai @lv14_1 (ai @ro80_17_raw_go_148 @lv14_2))) (ai (ai @lv14_3 @dr14_4) (ai @lv14_4 (ai @lv14_5 @lv14_6)))) (ai (ai (ai @lv14_7 @dr14_8) (ai @lv14_8 (ai @lv14_9 @lv14_10))) (ai (ai @lv14_11 (ai @lv14_12 @dr14_13)) (ai @lv14_13 (ai @lv14_14 @mu23_70))))) (ai (ai (ai (ai @lv14_15 @lv14_16) (ai @lv14_17 (ai @lv14_18 @lv14_19))) (ai (ai @lv14_20 (ai @lv14_21 @lv14_22)) (ai @lv14_23 (ai @lv14_24 @lv14_25)))) (ai (ai (ai @lv14_26 @mu56_109) (ai @lv14_27 (ai @lv14_28 @lv14_29))) (ai (ai @lv14_30 (ai @mu24_125 @lv14_31)) (ai @lv14_32 (ai @lv14_33 @lv14_34)))))) (ai (ai (ai (ai (ai @kp14_5 @kp14_18) (ai @kp14_23 (ai @und1 @sz1))) (ai (ai @ag1 (ai @inf1 @und2)) (ai @sz2 (ai @ag2 @lv2)))) (ai (ai (ai @inf2 @und3) (ai @sz3 (ai @ag3 @lv3))) (ai (ai @inf3 (ai @und4 @sz4)) (ai @ag4 (ai @lv4 @inf4))))) (ai (ai (ai (ai @und5 @sz5) (ai @ag5 (ai @lv5 @inf5))) (ai (ai @und9 (ai @sz9 @ag9)) (ai @lv9 (ai @inf9 @und22)))) (ai (ai (ai @sz22 @ag22) (ai @pT22 (ai @inf22 @und23))) (ai (ai @sz23 (ai @ag23 @pT23)) (ai @inf23 (ai @und24 @sz24))))))) (ai (ai (ai (ai (ai (ai @ag24 @pT24) (ai @inf24 (ai @und26 @sz26))) (ai (ai @ag26 @fo26) (ai @bA26 (ai @pT26_0 @pT26_1)))) (ai (ai (ai @inf26 @und29) (ai @sz29 (ai @ag29 @fo29))) (ai (ai @bA29 (ai @pT29_0 @pT29_1)) (ai @pT29_2 (ai @lv29 @inf29))))) (ai (ai (ai (ai @und30 @sz30) (ai @ag30 (ai @pT30 @inf30))) (ai (ai @und32 (ai @sz32 @ag32)) (ai @fo32 (ai @bA32 @pT32_0)))) (ai (ai (ai @pT32_1 @pT32_2) (ai @pT32_3 (ai @inf32 @und34))) (ai (ai @sz34 (ai @ag34 @fo34)) (ai @bA34 (ai @pT34_0 @pT34_1)))))) (ai (ai (ai (ai (ai @pT34_2 @pT34_3) (ai @inf34 (ai @und41 @sz41))) (ai (ai @ag41 (ai @fo41 @bA41)) (ai @pT41_0 (ai @pT41_1 @pT41_2)))) (ai (ai (ai @pT41_3 @inf41) (ai @und56 (ai @sz56 @ag56))) (ai (ai @pT56 (ai @inf56 @und58)) (ai @sz58 (ai @ag58 @fo58))))) (ai (ai (ai (ai @bA58 @pT58_0) (ai @pT58_1 (ai @pT58_2 @inf58))) (ai (ai @und78 (ai @sz78 @ag78)) (ai @inf78 (ai @und80 @sz80)))) (ai (ai (ai @ag80 @fo80) (ai @bA80 (ai @pT80_0 @pT80_1))) (ai (ai @inf80 (ai @und84 @sz84)) (ai @ag84 (ai @pT84 @inf84)))))))) := (ai (ai (ai (ai (ai (ai (ai @rs14 @lv14_0) (ai @lv14_1 (ai @ro80_17_raw_go_148 @lv14_2))) (ai (ai @lv14_3 @dr14_4) (ai @lv14_4 (ai @lv14_5 @lv14_6)))) (ai (ai (ai @lv14_7 @dr14_8) (ai @lv14_8 (ai @lv14_9 @lv14_10))) (ai (ai @lv14_11 (ai @lv14_12 @dr14_13)) (ai @lv14_13 (ai @lv14_14 @mu23_70))))) (ai (ai (ai (ai @lv14_15 @lv14_16) (ai @lv14_17 (ai @lv14_18 @lv14_19))) (ai (ai @lv14_20 (ai @lv14_21 @lv14_22)) (ai @lv14_23 (ai @lv14_24 @lv14_25)))) (ai (ai (ai @lv14_26 @mu56_109) (ai @lv14_27 (ai @lv14_28 @lv14_29))) (ai (ai @lv14_30 (ai @mu24_125 @lv14_31)) (ai @lv14_32 (ai @lv14_33 @lv14_34)))))) (ai (ai (ai (ai (ai @kp14_5 @kp14_18) (ai @kp14_23 (ai @und1 @sz1))) (ai (ai @ag1 (ai @inf1 @und2)) (ai @sz2 (ai @ag2 @lv2)))) (ai (ai (ai @inf2 @und3) (ai @sz3 (ai @ag3 @lv3))) (ai (ai @inf3 (ai @und4 @sz4)) (ai @ag4 (ai @lv4 @inf4))))) (ai (ai (ai (ai @und5 @sz5) (ai @ag5 (ai @lv5 @inf5))) (ai (ai @und9 (ai @sz9 @ag9)) (ai @lv9 (ai @inf9 @und22)))) (ai (ai (ai @sz22 @ag22) (ai @pT22 (ai @inf22 @und23))) (ai (ai @sz23 (ai @ag23 @pT23)) (ai @inf23 (ai @und24 @sz24))))))) (ai (ai (ai (ai (ai (ai @ag24 @pT24) (ai @inf24 (ai @und26 @sz26))) (ai (ai @ag26 @fo26) (ai @bA26 (ai @pT26_0 @pT26_1)))) (ai (ai (ai @inf26 @und29) (ai @sz29 (ai @ag29 @fo29))) (ai (ai @bA29 (ai @pT29_0 @pT29_1)) (ai @pT29_2 (ai @lv29 @inf29))))) (ai (ai (ai (ai @und30 @sz30) (ai @ag30 (ai @pT30 @inf30))) (ai (ai @und32 (ai @sz32 @ag32)) (ai @fo32 (ai @bA32 @pT32_0)))) (ai (ai (ai @pT32_1 @pT32_2) (ai @pT32_3 (ai @inf32 @und34))) (ai (ai @sz34 (ai @ag34 @fo34)) (ai @bA34 (ai @pT34_0 @pT34_1)))))) (ai (ai (ai (ai (ai @pT34_2 @pT34_3) (ai @inf34 (ai @und41 @sz41))) (ai (ai @ag41 (ai @fo41 @bA41)) (ai @pT41_0 (ai @pT41_1 @pT41_2)))) (ai (ai (ai @pT41_3 @inf41) (ai @und56 (ai @sz56 @ag56))) (ai (ai @pT56 (ai @inf56 @und58)) (ai @sz58 (ai @ag58 @fo58))))) (ai (ai (ai (ai @bA58 @pT58_0) (ai @pT58_1 (ai @pT58_2 @inf58))) (ai (ai @und78 (ai @sz78 @ag78)) (ai @inf78 (ai @und80 @sz80)))) (ai (ai (ai @ag80 @fo80) (ai @bA80 (ai @pT80_0 @pT80_1))) (ai (ai @inf80 (ai @und84 @sz84)) (ai @ag84 (ai @pT84 @inf84))))))))
set_option maxRecDepth 100000
set_option maxHeartbeats 40000000





theorem pick_nat {l : List Raw} (hr : ∀ r ∈ l, r.ok) (k n : Nat) (hn : 0 < n) (hn2 : n < 1000) (f : Raw → Int) (hf : ∀ r : Raw, r.ok → -9223372036854775808 ≤ f r ∧ f r ≤ 9223372036854775807) : ∃ j : Nat, pick (f (gnext l k)) n = j ∧ j < n := by
  have h := hf _ (gnext_ok hr k)
  have hp := pick_range (f (gnext l k)) n h.1 h.2 (by omega)
  exact ⟨(pick (f (gnext l k)) n).toNat, by omega, by omega⟩
structure FS where
  fs : List Field
  t : Option (List Nat)
  n : Nat
  g : List Nat
/-- The fields' list and its cells: not yet begun, or of this path. -/
def faD (t : Option (List Nat)) (fs : List Field) : AV := match t with
  | none => .own 9 [] none
  | some q => .arr ⟨0, 70, 0 :: q⟩ 0 fs.length 9
def faP (t : Option (List Nat)) (fs : List Field) : Heap := match t with
  | none => []
  | some q => [(⟨0, 70, 0 :: q⟩, fbox fs)]
def faI (t : Option (List Nat)) (fs : List Field) (g : List Nat) : Prop := match t with
  | none => fs = []
  | some q => ¬ g <:+ (0 :: q)
theorem fapp (fs : List Field) (x : Field) : flatD ((fs ++ [x]).map Field.dv) = flatD (fs.map Field.dv) ++ fcells x := by rw [List.map_append, flatD_append]; simp [flatD, Field.dv, DV.cells, fcells]
theorem fresh_0 {q : List Nat} {a : Nat} (h : a ≠ 0) : ¬ (a :: q) <:+ (0 :: q) := fun k => h (by
  have := List.IsSuffix.eq_of_length k (by simp)
  injection this)
theorem up_fm {k : Out} {α : Type} {P : α → List Nat → Prop} {mk : α → List Nat → St} : Up (fun q S => q = k ∧ ∃ t g, P t g ∧ Sub (mk t g) S) := fun o S S' h ⟨h1, t, g, h3, h2⟩ => ⟨h1, t, g, h3, h2.trans h⟩
structure PS where
  ps : List Page
  u : Option (List Nat)
  n : Nat
  g : List Nat
structure NS where
  acc : List Str
  w : Option (List Nat)
  g : List Nat
theorem up_pg {k : Out} {α : Type} {P : List Nat → Prop} {mk : α → List Nat → Nat → St} : Up (fun q S => q = k ∧ ∃ t g n, P g ∧ Sub (mk t g n) S) := fun o S S' h ⟨h1, t, g, n, h3, h2⟩ => ⟨h1, t, g, n, h3, h2.trans h⟩
theorem up_pgs {α β ρ : Type} {mk : Nat → β → List Nat → St} {I : Nat → β → Prop} {sp : Nat → β → List α → ρ} {Q : ρ → Out → St → Prop} {d : Nat} {ts hs : List Nat} {k : Nat} {a : β} {x : α} {rest : List α} (hQ : ∀ r, Up (Q r)) : Up (StepR mk I sp Q d ts hs k a x rest) := by
  rintro o S S' h (⟨h1, h2⟩ | ⟨h1, a', g', h2, h3, h4⟩)
  · exact .inl ⟨h1, hQ _ _ _ _ h h2⟩
  · exact .inr ⟨h1, a', g', h2, h3, h4.trans (sub_keep h d _)⟩
theorem papp (ps : List Page) (x : Page) : (ps ++ [x]).map Page.dv = ps.map Page.dv ++ [x.dv] := by simp
theorem ret_Form (l : List Raw) (hl : l.length ≤ 9223372036854775807) (hr : ∀ r ∈ l, r.ok) : RetD tab 14 [.d (.sl 4 (l.map Raw.dv))] (mkForm l).dv := by
  have hgb : gbox l 0 = .box [.d (.sl 4 (l.map Raw.dv)), .d (.int .i64 0)] := rfl
  have fn := fun (T : Tm) (g : List Nat) (H : Heap) (dst : Nat) (k : Nat) (hk : k ≤ 4611686018427387904) (q : List Nat) (hx : ((0 :: g) <:+ q) = False) (hS : Heap.get H ⟨0, 17, q⟩ = some (gbox l k)) => ca_next (d := 0) (dst := dst) (S := ⟨T, H, g⟩) 0 17 q l k hk hl (Nat.le_refl _) hx hS
  have fn0 := fun (T : Tm) (g : List Nat) (H : Heap) (dst : Nat) (q : List Nat) => fn T g H dst 0 (by decide) q
  simp only [hgb] at fn0
  obtain ⟨a, ha, ha2⟩ := pick_nat hr 0 10 (by decide) (by decide) (fun r => r.a) (fun r h => h.a)
  have pA := fun (S : St) (d dst : Nat) => ca_picked (d := d) (dst := dst) (S := S) (gnext l 0).a 10 (by decide)
  have ha' : pick (gnext l 0).a 10 = a := ha
  rw [ha'] at pA
  have wA : IntKind.i64.wrap (1 + (a : Int)) = ((a + 1 : Nat) : Int) := by rw [wrap_in (by omega) (by omega)]; omega
  have hfl : ((fnm.length : Nat) : Int) = 10 := rfl
  have hsx : ([0, 1, 1, 1] <:+ [0, 1]) = False := eq_false (by decide)
  generalize hr0 : gnext l 0 = r0 at *
  refine retq_good 64 fn14 rfl rfl ?_
  simp only [amr, amc, amp, if_true, if_false, ne_eq, gt_iff_lt, Option.getD, argsT, Option.bind, Option.map, List.headD, List.tail, opnsL, List.replicate, lendsL, seval, ty_FmF_14, fn0, hsx, Raw.dv, ca_fnames, pA, wA, hfl, upd, Option.getD_some, Option.getD_none]
  clear fn0 pA
  refine good_range (List.replicate (a + 1) ()) (fun k (x : FS) _ => ⟨[(2, .ptr ⟨0, 2, [0]⟩ 0), (3, .ptr ⟨0, 17, [0, 1]⟩ 0), (4, .ptr ⟨0, 4, [0, 1, 1]⟩ 0), (5, .ptr ⟨0, 5, [0, 1, 1, 1, 1]⟩ 0), (25, .d (.int .i64 ((a + 1 : Nat) : Int))), (26, .d (.int .i64 (k : Nat)))],
      faP x.t x.fs ++ [(⟨0, 5, [0, 1, 1, 1, 1]⟩, .box [.d (.int .i64 r0.kind), .d (.int .i64 r0.a), .d (.int .i64 r0.b), .d (.str r0.text)]), (⟨0, 4, [0, 1, 1]⟩, .box [faD x.t x.fs, .own 8 [] none]), (⟨0, 17, [0, 1]⟩, gbox l x.n), (⟨0, 2, [0]⟩, .box [.own 9 [] none, .own 8 [] none])], x.g⟩)
    (fun k x => x.fs.length = k ∧ x.n ≤ 1 + k * 257 ∧ 6 ≤ x.g.length ∧ faI x.t x.fs x.g) (fun k x r => gfields l r.length x.fs x.n)
    (fun (o : List Field × Nat) (q : Out) (S : St) => q = .exit 0 ∧ ∃ t g, (6 ≤ g.length ∧ faI t o.1 g) ∧ Sub ⟨[(2, .ptr ⟨0, 2, [0]⟩ 0), (3, .ptr ⟨0, 17, [0, 1]⟩ 0), (4, .ptr ⟨0, 4, [0, 1, 1]⟩ 0), (5, .ptr ⟨0, 5, [0, 1, 1, 1, 1]⟩ 0)],
      faP t o.1 ++ [(⟨0, 5, [0, 1, 1, 1, 1]⟩, .box [.d (.int .i64 r0.kind), .d (.int .i64 r0.a), .d (.int .i64 r0.b), .d (.str r0.text)]), (⟨0, 4, [0, 1, 1]⟩, .box [faD t o.1, .own 8 [] none]), (⟨0, 17, [0, 1]⟩, gbox l o.2), (⟨0, 2, [0]⟩, .box [.own 9 [] none, .own 8 [] none])], g⟩ S)
    ⟨[], none, gat l 0, [1, 1, 1, 1, 1, 1]⟩ kp14_5 (fun r => up_fm) ⟨rfl, by have := gat_le l 0; simp only; omega, by simp, rfl⟩ (by simp only [List.length_replicate]; omega) (by simp only [List.length_replicate]; omega) ?_ ?_ ?_ ?_
  · rintro k ⟨fs, t, n, g⟩ _ x rest hk hget hd hI hb w1
    simp only [List.length_replicate] at hk hb
    obtain ⟨h1, h2, h3, h4⟩ := hI
    simp only at h1 h2 h3 h4
    subst h1
    have hn0 : ¬ g <:+ [0, 1] := fun k => by have := k.length_le; simp at this; omega
    have hrest : rest.length = a - fs.length := by rw [← hd]; simp
    have hrk := gnext_ok hr n
    obtain ⟨b, hb1, hb2⟩ := pick_nat hr n 3 (by decide) (by decide) (fun r => r.kind) (fun r h => h.kind)
    obtain ⟨c, hc1, hc2⟩ := pick_nat hr n 3 (by decide) (by decide) (fun r => r.b) (fun r h => h.b)
    obtain ⟨e, he1, he2⟩ := pick_nat hr n 3 (by decide) (by decide) (fun r => r.a) (fun r h => h.a)
    have pB := fun (S : St) (d dst : Nat) => ca_picked (d := d) (dst := dst) (S := S) (gnext l n).kind 3 (by decide)
    have pC := fun (S : St) (d dst : Nat) => ca_picked (d := d) (dst := dst) (S := S) (gnext l n).b 3 (by decide)
    have pE := fun (S : St) (d dst : Nat) => ca_picked (d := d) (dst := dst) (S := S) (gnext l n).a 3 (by decide)
    have hb1' : pick (gnext l n).kind 3 = b := hb1
    have hc1' : pick (gnext l n).b 3 = c := hc1
    have he1' : pick (gnext l n).a 3 = e := he1
    rw [hb1'] at pB
    rw [hc1'] at pC
    rw [he1'] at pE
    have fN := fun (T : Tm) (g : List Nat) (H : Heap) (dst : Nat) (q : List Nat) => fn T g H dst n (by omega) q
    have hnm : (fnm.map DV.str)[fs.length]? = some (.str (fnm.getD fs.length [])) := by
      have : fs.length < fnm.length := by have : fnm.length = 10 := rfl; omega
      rw [List.getElem?_map, List.getElem?_eq_getElem this, List.getD_eq_getElem?_getD, List.getElem?_eq_getElem this]
      rfl
    have wB : IntKind.i64.wrap (1 + (b : Int)) = 1 + (b : Int) := wrap_in (by omega) (by omega)
    have wC : IntKind.i64.wrap (1 + (c : Int)) = 1 + (c : Int) := wrap_in (by omega) (by omega)
    have wE : IntKind.i64.wrap (1 + (e : Int)) = 1 + (e : Int) := wrap_in (by omega) (by omega)
    have hG : gfields l (() :: rest).length fs n = gfields l rest.length (fs ++ [(gfield l fs fs.length n).1]) (gfield l fs fs.length n).2 := by
      rw [List.length_cons]; rfl
    have hf : gfield l fs fs.length n = (⟨fnm.getD fs.length [], 1 + b, 1 + c, (gsrc l fs (1 + b) (1 + c) (gnext l n) (gat l n)).1⟩, (gsrc l fs (1 + b) (1 + c) (gnext l n) (gat l n)).2) := by
      unfold gfield; rw [hb1', hc1']
    have hga := gat_le l n
    have sx4 : ∀ (m u : Nat), (List.drop m [0, 1, 1] = u :: 1 :: 1 :: 1 :: g) = False := fun m u => eq_false (fun h => by have := congrArg List.length h; simp only [List.length_drop, List.length_cons, List.length_nil] at this; omega)
    have sx3 : ∀ (m u : Nat), (List.drop m (0 :: 1 :: g) = u :: 1 :: 1 :: g) = False := fun m u => eq_false (fun h => by have := congrArg List.length h; simp only [List.length_drop, List.length_cons] at this; omega)
    have hsz : (fs.length + 1) * 112 ≤ 140737488355328 := by omega
    rcases (show b = 0 ∨ b = 1 ∨ b = 2 by omega) with rfl | rfl | rfl
    · have hs : gsrc l fs (1 + (0 : Nat)) (1 + c) (gnext l n) (gat l n) = (Exp.zero, gat l n) := by unfold gsrc; rw [if_neg (by decide), if_neg (by decide)]
      rw [hs] at hf
      rcases t with _ | t
      · have h4 : fs = [] := h4
        subst h4
        have hb0 : decide ((0 : Int) < ((a + 1 : Nat) : Int)) = true := decide_eq_true (by omega)
        have hnm0 : (fnm.map DV.str)[0]? = some (.str [97]) := rfl
        simp only [amr, amc, amp, if_true, if_false, ne_eq, gt_iff_lt, Option.getD, argsT, Option.bind, Option.map, List.headD, List.tail, opnsL, List.replicate, lendsL, seval, ty_FmF_14, fN, faP, faD, hb0, hnm0, (show IntKind.i64.wrap 0 = 0 from rfl), (show IntKind.i64.wrap 1 = 1 from rfl), (show IntKind.i64.wrap 2 = 2 from rfl), (show IntKind.i64.wrap 3 = 3 from rfl), (show IntKind.i64.wrap 4 = 4 from rfl), (show IntKind.i64.wrap 5 = 5 from rfl), (show IntKind.i64.wrap 6 = 6 from rfl), (show IntKind.i64.wrap 7 = 7 from rfl), (show IntKind.i64.wrap 8 = 8 from rfl), (show IntKind.i64.wrap 9 = 9 from rfl), (show IntKind.i64.wrap 10 = 10 from rfl), (show IntKind.i64.wrap 11 = 11 from rfl), (show IntKind.i64.wrap 12 = 12 from rfl), (show IntKind.i64.wrap 13 = 13 from rfl), (show IntKind.i64.wrap 14 = 14 from rfl), el_agg, nt_arr, ac_arr, sx3, sx4, sfx_f4 hn0, sfx_f5 hn0, sfx_f6 hn0, suf1 hn0, suf2 hn0, suf3 hn0, suf4 hn0, suf5 hn0, suf6 hn0, Raw.dv, ca_fnames, pB, pC, wB, wC, upd, Option.getD_some, Option.getD_none]
        refine step_nrm (FS.mk ([] ++ [⟨[97], 1, 1 + c, Exp.zero⟩]) (some (1 :: 1 :: 1 :: g)) (gat l n) (1 :: 1 :: 1 :: 1 :: g)) ⟨by simp, by simp only [List.length_nil] at *; omega, by simp only [List.length_cons]; omega, fresh_0 (by decide)⟩ ?_ ?_
        · rw [hG, hf]; rfl
        · (refine ⟨[], ?_⟩; (try simp only [amr, amc, amp, if_true, if_false, ne_eq, gt_iff_lt, Option.getD, argsT, Option.bind, Option.map, List.headD, List.tail, opnsL, List.replicate, lendsL, seval]); exact sub_mk (by repeat first | exact subT_nil | refine subT_cons (by first | rfl | simp [Tm.get, *]) ?_))
      · have h4 : ¬ g <:+ (0 :: t) := h4
        have lC : (flatD (fs.map Field.dv)).length = fs.length * 9 := by rw [flatD_len _ (elt_fd fs), List.length_map]
        have hA : ((fs.length + 1) * 112 ≤ 140737488355328) = True := eq_true hsz
        have c1 : ((fs.length + 1) * 9 ≤ fs.length * 9) = False := eq_false (by omega)
        have hfb : fbox fs = .box (flatD (fs.map Field.dv)) := rfl
        have hC : flatD (fs.map Field.dv ++ [Field.dv ⟨(fnm.getD fs.length []), 1, 1 + c, Exp.zero⟩]) = flatD (fs.map Field.dv) ++ fcells ⟨(fnm.getD fs.length []), 1, 1 + c, Exp.zero⟩ := by rw [← fapp, List.map_append]; rfl
        simp only [fcells, Exp.zero, Exp.op, Exp.v, Exp.name, Exp.args, Val.zero, List.map_nil] at hC
        generalize flatD (fs.map Field.dv) = C at *
        simp only [amr, amc, amp, if_true, if_false, ne_eq, gt_iff_lt, Option.getD, argsT, Option.bind, Option.map, List.headD, List.tail, opnsL, List.replicate, lendsL, seval, ty_FmF_14, fN, faP, faD, (show IntKind.i64.wrap 0 = 0 from rfl), (show IntKind.i64.wrap 1 = 1 from rfl), (show IntKind.i64.wrap 2 = 2 from rfl), (show IntKind.i64.wrap 3 = 3 from rfl), (show IntKind.i64.wrap 4 = 4 from rfl), (show IntKind.i64.wrap 5 = 5 from rfl), (show IntKind.i64.wrap 6 = 6 from rfl), (show IntKind.i64.wrap 7 = 7 from rfl), (show IntKind.i64.wrap 8 = 8 from rfl), (show IntKind.i64.wrap 9 = 9 from rfl), (show IntKind.i64.wrap 10 = 10 from rfl), (show IntKind.i64.wrap 11 = 11 from rfl), (show IntKind.i64.wrap 12 = 12 from rfl), (show IntKind.i64.wrap 13 = 13 from rfl), (show IntKind.i64.wrap 14 = 14 from rfl), hb, hnm, w1, hA, c1, lC, hfb, suf1 h4, suf2 h4, suf3 h4, suf4 h4, suf5 h4, suf6 h4, sfx_f4 h4, sfx_f5 h4, sfx_f6 h4, el_agg, nt_arr, ac_arr, sx3, sx4, sfx_f4 hn0, sfx_f5 hn0, sfx_f6 hn0, suf1 hn0, suf2 hn0, suf3 hn0, suf4 hn0, suf5 hn0, suf6 hn0, Raw.dv, ca_fnames, pB, pC, wB, wC, upd, Option.getD_some, Option.getD_none]
        refine step_nrm (FS.mk (fs ++ [⟨(fnm.getD fs.length []), 1, 1 + c, Exp.zero⟩]) (some (1 :: 1 :: 1 :: g)) (gat l n) (1 :: 1 :: 1 :: 1 :: g)) ⟨by simp, by simp only [List.length_nil] at *; omega, by simp only [List.length_cons]; omega, fresh_0 (by decide)⟩ ?_ ?_
        · rw [hG, hf]; rfl
        · (refine ⟨[], ?_⟩; (try simp only [amr, amc, amp, if_true, if_false, ne_eq, gt_iff_lt, Option.getD, argsT, Option.bind, Option.map, List.headD, List.tail, opnsL, List.replicate, lendsL, seval, hC, fbox, Exp.zero, Exp.op, Exp.v, Exp.name, Exp.args, Val.zero, List.map_nil]); exact sub_mk (by repeat first | exact subT_nil | refine subT_cons (by first | rfl | simp [Tm.get, *]) ?_))
    · have hs : gsrc l fs (1 + (1 : Nat)) (1 + c) (gnext l n) (gat l n) = gexpr fs l 2 (1 + c) (gat l n) := by unfold gsrc; rw [if_pos (by decide)]
      have hat := gexpr_at fs l 2 (1 + c) (gat l n)
      rw [hs] at hf
      rcases t with _ | t
      · have h4 : fs = [] := h4
        subst h4
        have hb0 : decide ((0 : Int) < ((a + 1 : Nat) : Int)) = true := decide_eq_true (by omega)
        have hnm0 : (fnm.map DV.str)[0]? = some (.str [97]) := rfl
        have fE := fun (T : Tm) (g : List Nat) (H : Heap) (dst : Nat) (hx : ((0 :: g) <:+ [0, 1]) = False) (hS : Heap.get H ⟨0, 17, [0, 1]⟩ = some (gbox l (gat l n))) => ca_exprHN (expr_okN 2 (by decide)) (d := 0) (dst := dst) (S := ⟨T, H, g⟩) 0 17 [0, 1] (Nat.le_refl _) (1 + c) [] (by decide) l (gat l n) (by omega) hl hr hx hS
        simp only [List.map_nil] at fE
        have hcd : ((2 : Nat) : Int) = 2 := rfl
        rw [hcd] at fE
        simp only [Exp.dv_eq (gexpr [] l 2 (1 + c) (gat l n)).1] at fE
        generalize gexpr [] l 2 (1 + c) (gat l n) = y at *
        simp only [amr, amc, amp, if_true, if_false, ne_eq, gt_iff_lt, Option.getD, argsT, Option.bind, Option.map, List.headD, List.tail, opnsL, List.replicate, lendsL, seval, ty_FmF_14, fN, faP, faD, hb0, hnm0, (show IntKind.i64.wrap 0 = 0 from rfl), (show IntKind.i64.wrap 1 = 1 from rfl), (show IntKind.i64.wrap 2 = 2 from rfl), (show IntKind.i64.wrap 3 = 3 from rfl), (show IntKind.i64.wrap 4 = 4 from rfl), (show IntKind.i64.wrap 5 = 5 from rfl), (show IntKind.i64.wrap 6 = 6 from rfl), (show IntKind.i64.wrap 7 = 7 from rfl), (show IntKind.i64.wrap 8 = 8 from rfl), (show IntKind.i64.wrap 9 = 9 from rfl), (show IntKind.i64.wrap 10 = 10 from rfl), (show IntKind.i64.wrap 11 = 11 from rfl), (show IntKind.i64.wrap 12 = 12 from rfl), (show IntKind.i64.wrap 13 = 13 from rfl), (show IntKind.i64.wrap 14 = 14 from rfl), fE, el_agg, nt_arr, ac_arr, sx3, sx4, sfx_f4 hn0, sfx_f5 hn0, sfx_f6 hn0, suf1 hn0, suf2 hn0, suf3 hn0, suf4 hn0, suf5 hn0, suf6 hn0, Raw.dv, ca_fnames, pB, pC, wB, wC, upd, Option.getD_some, Option.getD_none]
        refine step_nrm (FS.mk ([] ++ [⟨[97], 2, 1 + c, y.1⟩]) (some (1 :: 1 :: 1 :: 1 :: g)) (y.2) (1 :: 1 :: 1 :: 1 :: 1 :: g)) ⟨by simp, by simp only [List.length_nil] at *; omega, by simp only [List.length_cons]; omega, fresh_0 (by decide)⟩ ?_ ?_
        · rw [hG, hf]; rfl
        · (refine ⟨[], ?_⟩; (try simp only [amr, amc, amp, if_true, if_false, ne_eq, gt_iff_lt, Option.getD, argsT, Option.bind, Option.map, List.headD, List.tail, opnsL, List.replicate, lendsL, seval, Exp.dv_eq y.1]); exact sub_mk (by repeat first | exact subT_nil | refine subT_cons (by first | rfl | simp [Tm.get, *]) ?_))
      · have h4 : ¬ g <:+ (0 :: t) := h4
        have lC : (flatD (fs.map Field.dv)).length = fs.length * 9 := by rw [flatD_len _ (elt_fd fs), List.length_map]
        have hA : ((fs.length + 1) * 112 ≤ 140737488355328) = True := eq_true hsz
        have c1 : ((fs.length + 1) * 9 ≤ fs.length * 9) = False := eq_false (by omega)
        have hfb : fbox fs = .box (flatD (fs.map Field.dv)) := rfl
        have fE := fun (T : Tm) (g : List Nat) (H : Heap) (dst : Nat) (hx : ((0 :: g) <:+ [0, 1]) = False) (hx1 : ((0 :: g) <:+ (0 :: t)) = False) (hS : Heap.get H ⟨0, 17, [0, 1]⟩ = some (gbox l (gat l n))) (hF : Heap.get H ⟨0, 70, 0 :: t⟩ = some (fbox fs)) => ca_exprHA (expr_okA 2 (by decide)) (d := 0) (dst := dst) (S := ⟨T, H, g⟩) 0 17 [0, 1] 70 (0 :: t) (by decide) (Nat.le_refl _) (1 + c) fs (by omega) l (gat l n) (by omega) hl hr hx hx1 hS hF
        simp only [hfb] at fE
        have hcd : ((2 : Nat) : Int) = 2 := rfl
        rw [hcd] at fE
        simp only [Exp.dv_eq (gexpr fs l 2 (1 + c) (gat l n)).1] at fE
        generalize gexpr fs l 2 (1 + c) (gat l n) = y at *
        have hC : flatD (fs.map Field.dv ++ [Field.dv ⟨(fnm.getD fs.length []), 2, 1 + c, y.1⟩]) = flatD (fs.map Field.dv) ++ fcells ⟨(fnm.getD fs.length []), 2, 1 + c, y.1⟩ := by rw [← fapp, List.map_append]; rfl
        simp only [fcells] at hC
        generalize flatD (fs.map Field.dv) = C at *
        simp only [amr, amc, amp, if_true, if_false, ne_eq, gt_iff_lt, Option.getD, argsT, Option.bind, Option.map, List.headD, List.tail, opnsL, List.replicate, lendsL, seval, ty_FmF_14, fN, faP, faD, (show IntKind.i64.wrap 0 = 0 from rfl), (show IntKind.i64.wrap 1 = 1 from rfl), (show IntKind.i64.wrap 2 = 2 from rfl), (show IntKind.i64.wrap 3 = 3 from rfl), (show IntKind.i64.wrap 4 = 4 from rfl), (show IntKind.i64.wrap 5 = 5 from rfl), (show IntKind.i64.wrap 6 = 6 from rfl), (show IntKind.i64.wrap 7 = 7 from rfl), (show IntKind.i64.wrap 8 = 8 from rfl), (show IntKind.i64.wrap 9 = 9 from rfl), (show IntKind.i64.wrap 10 = 10 from rfl), (show IntKind.i64.wrap 11 = 11 from rfl), (show IntKind.i64.wrap 12 = 12 from rfl), (show IntKind.i64.wrap 13 = 13 from rfl), (show IntKind.i64.wrap 14 = 14 from rfl), hb, hnm, w1, hA, c1, lC, hfb, suf1 h4, suf2 h4, suf3 h4, suf4 h4, suf5 h4, suf6 h4, sfx_f4 h4, sfx_f5 h4, sfx_f6 h4, fE, el_agg, nt_arr, ac_arr, sx3, sx4, sfx_f4 hn0, sfx_f5 hn0, sfx_f6 hn0, suf1 hn0, suf2 hn0, suf3 hn0, suf4 hn0, suf5 hn0, suf6 hn0, Raw.dv, ca_fnames, pB, pC, wB, wC, upd, Option.getD_some, Option.getD_none]
        refine step_nrm (FS.mk (fs ++ [⟨(fnm.getD fs.length []), 2, 1 + c, y.1⟩]) (some (1 :: 1 :: 1 :: 1 :: g)) (y.2) (1 :: 1 :: 1 :: 1 :: 1 :: g)) ⟨by simp, by simp only [List.length_nil] at *; omega, by simp only [List.length_cons]; omega, fresh_0 (by decide)⟩ ?_ ?_
        · rw [hG, hf]; rfl
        · (refine ⟨[], ?_⟩; (try simp only [amr, amc, amp, if_true, if_false, ne_eq, gt_iff_lt, Option.getD, argsT, Option.bind, Option.map, List.headD, List.tail, opnsL, List.replicate, lendsL, seval, hC, fbox, Exp.dv_eq y.1]); exact sub_mk (by repeat first | exact subT_nil | refine subT_cons (by first | rfl | simp [Tm.get, *]) ?_))
    · have hs : gsrc l fs (1 + (2 : Nat)) (1 + c) (gnext l n) (gat l n) = gexpr fs l 1 (1 + e) (gat l n) := by unfold gsrc; rw [if_neg (by decide), if_pos (by decide), he1']
      have hat := gexpr_at fs l 1 (1 + e) (gat l n)
      rw [hs] at hf
      rcases t with _ | t
      · have h4 : fs = [] := h4
        subst h4
        have hb0 : decide ((0 : Int) < ((a + 1 : Nat) : Int)) = true := decide_eq_true (by omega)
        have hnm0 : (fnm.map DV.str)[0]? = some (.str [97]) := rfl
        have fE := fun (T : Tm) (g : List Nat) (H : Heap) (dst : Nat) (hx : ((0 :: g) <:+ [0, 1]) = False) (hS : Heap.get H ⟨0, 17, [0, 1]⟩ = some (gbox l (gat l n))) => ca_exprHN (expr_okN 1 (by decide)) (d := 0) (dst := dst) (S := ⟨T, H, g⟩) 0 17 [0, 1] (Nat.le_refl _) (1 + e) [] (by decide) l (gat l n) (by omega) hl hr hx hS
        have fR : ∀ (Q : Tm) (H : Heap) (q : List Nat) (a c : DV), Heap.get H ⟨0, 17, [0, 1]⟩ = some (gbox l (gat l n)) → ftC ⟨Q, H, q⟩ [.ptr ⟨0, 17, [0, 1]⟩ 0, .d a, .own 9 [] none, .d c] none = ⟨[], [⟨0, 17, [0, 1]⟩], true⟩ := fun Q H q a c hS => ftC_1 rfl hS rfl
        simp only [List.map_nil] at fE
        have hcd : ((1 : Nat) : Int) = 1 := rfl
        rw [hcd] at fE
        simp only [Exp.dv_eq (gexpr [] l 1 (1 + e) (gat l n)).1] at fE
        generalize gexpr [] l 1 (1 + e) (gat l n) = y at *
        simp only [amr, amc, amp, if_true, if_false, ne_eq, gt_iff_lt, Option.getD, argsT, Option.bind, Option.map, List.headD, List.tail, opnsL, List.replicate, lendsL, seval, ty_FmF_14, fN, faP, faD, hb0, hnm0, (show IntKind.i64.wrap 0 = 0 from rfl), (show IntKind.i64.wrap 1 = 1 from rfl), (show IntKind.i64.wrap 2 = 2 from rfl), (show IntKind.i64.wrap 3 = 3 from rfl), (show IntKind.i64.wrap 4 = 4 from rfl), (show IntKind.i64.wrap 5 = 5 from rfl), (show IntKind.i64.wrap 6 = 6 from rfl), (show IntKind.i64.wrap 7 = 7 from rfl), (show IntKind.i64.wrap 8 = 8 from rfl), (show IntKind.i64.wrap 9 = 9 from rfl), (show IntKind.i64.wrap 10 = 10 from rfl), (show IntKind.i64.wrap 11 = 11 from rfl), (show IntKind.i64.wrap 12 = 12 from rfl), (show IntKind.i64.wrap 13 = 13 from rfl), (show IntKind.i64.wrap 14 = 14 from rfl), fE, fR, pE, wE, el_agg, nt_arr, ac_arr, sx3, sx4, sfx_f4 hn0, sfx_f5 hn0, sfx_f6 hn0, suf1 hn0, suf2 hn0, suf3 hn0, suf4 hn0, suf5 hn0, suf6 hn0, Raw.dv, ca_fnames, pB, pC, wB, wC, upd, Option.getD_some, Option.getD_none]
        refine step_nrm (FS.mk ([] ++ [⟨[97], 3, 1 + c, y.1⟩]) (some (1 :: 1 :: 1 :: 1 :: g)) (y.2) (1 :: 1 :: 1 :: 1 :: 1 :: g)) ⟨by simp, by simp only [List.length_nil] at *; omega, by simp only [List.length_cons]; omega, fresh_0 (by decide)⟩ ?_ ?_
        · rw [hG, hf]; rfl
        · (refine ⟨[], ?_⟩; (try simp only [amr, amc, amp, if_true, if_false, ne_eq, gt_iff_lt, Option.getD, argsT, Option.bind, Option.map, List.headD, List.tail, opnsL, List.replicate, lendsL, seval, Exp.dv_eq y.1]); exact sub_mk (by repeat first | exact subT_nil | refine subT_cons (by first | rfl | simp [Tm.get, *]) ?_))
      · have h4 : ¬ g <:+ (0 :: t) := h4
        have lC : (flatD (fs.map Field.dv)).length = fs.length * 9 := by rw [flatD_len _ (elt_fd fs), List.length_map]
        have hA : ((fs.length + 1) * 112 ≤ 140737488355328) = True := eq_true hsz
        have c1 : ((fs.length + 1) * 9 ≤ fs.length * 9) = False := eq_false (by omega)
        have hfb : fbox fs = .box (flatD (fs.map Field.dv)) := rfl
        have fE := fun (T : Tm) (g : List Nat) (H : Heap) (dst : Nat) (hx : ((0 :: g) <:+ [0, 1]) = False) (hx1 : ((0 :: g) <:+ (0 :: t)) = False) (hS : Heap.get H ⟨0, 17, [0, 1]⟩ = some (gbox l (gat l n))) (hF : Heap.get H ⟨0, 70, 0 :: t⟩ = some (fbox fs)) => ca_exprHA (expr_okA 1 (by decide)) (d := 0) (dst := dst) (S := ⟨T, H, g⟩) 0 17 [0, 1] 70 (0 :: t) (by decide) (Nat.le_refl _) (1 + e) fs (by omega) l (gat l n) (by omega) hl hr hx hx1 hS hF
        have fR : ∀ (Q : Tm) (H : Heap) (q : List Nat) (a c : DV), Heap.get H ⟨0, 17, [0, 1]⟩ = some (gbox l (gat l n)) → Heap.get H ⟨0, 70, 0 :: t⟩ = some (fbox fs) → ftC ⟨Q, H, q⟩ [.ptr ⟨0, 17, [0, 1]⟩ 0, .d a, .arr ⟨0, 70, 0 :: t⟩ 0 fs.length 9, .d c] none = ⟨[], [⟨0, 17, [0, 1]⟩, ⟨0, 70, 0 :: t⟩], true⟩ := fun Q H q a c hS hT => ftC_2 (id_ne (by decide)) rfl hS hT rfl (ids_flat _)
        simp only [hfb] at fE fR
        have hcd : ((1 : Nat) : Int) = 1 := rfl
        rw [hcd] at fE
        simp only [Exp.dv_eq (gexpr fs l 1 (1 + e) (gat l n)).1] at fE
        generalize gexpr fs l 1 (1 + e) (gat l n) = y at *
        have hC : flatD (fs.map Field.dv ++ [Field.dv ⟨(fnm.getD fs.length []), 3, 1 + c, y.1⟩]) = flatD (fs.map Field.dv) ++ fcells ⟨(fnm.getD fs.length []), 3, 1 + c, y.1⟩ := by rw [← fapp, List.map_append]; rfl
        simp only [fcells] at hC
        generalize flatD (fs.map Field.dv) = C at *
        simp only [amr, amc, amp, if_true, if_false, ne_eq, gt_iff_lt, Option.getD, argsT, Option.bind, Option.map, List.headD, List.tail, opnsL, List.replicate, lendsL, seval, ty_FmF_14, fN, faP, faD, (show IntKind.i64.wrap 0 = 0 from rfl), (show IntKind.i64.wrap 1 = 1 from rfl), (show IntKind.i64.wrap 2 = 2 from rfl), (show IntKind.i64.wrap 3 = 3 from rfl), (show IntKind.i64.wrap 4 = 4 from rfl), (show IntKind.i64.wrap 5 = 5 from rfl), (show IntKind.i64.wrap 6 = 6 from rfl), (show IntKind.i64.wrap 7 = 7 from rfl), (show IntKind.i64.wrap 8 = 8 from rfl), (show IntKind.i64.wrap 9 = 9 from rfl), (show IntKind.i64.wrap 10 = 10 from rfl), (show IntKind.i64.wrap 11 = 11 from rfl), (show IntKind.i64.wrap 12 = 12 from rfl), (show IntKind.i64.wrap 13 = 13 from rfl), (show IntKind.i64.wrap 14 = 14 from rfl), hb, hnm, w1, hA, c1, lC, hfb, suf1 h4, suf2 h4, suf3 h4, suf4 h4, suf5 h4, suf6 h4, sfx_f4 h4, sfx_f5 h4, sfx_f6 h4, fE, fR, pE, wE, el_agg, nt_arr, ac_arr, sx3, sx4, sfx_f4 hn0, sfx_f5 hn0, sfx_f6 hn0, suf1 hn0, suf2 hn0, suf3 hn0, suf4 hn0, suf5 hn0, suf6 hn0, Raw.dv, ca_fnames, pB, pC, wB, wC, upd, Option.getD_some, Option.getD_none]
        refine step_nrm (FS.mk (fs ++ [⟨(fnm.getD fs.length []), 3, 1 + c, y.1⟩]) (some (1 :: 1 :: 1 :: 1 :: g)) (y.2) (1 :: 1 :: 1 :: 1 :: 1 :: g)) ⟨by simp, by simp only [List.length_nil] at *; omega, by simp only [List.length_cons]; omega, fresh_0 (by decide)⟩ ?_ ?_
        · rw [hG, hf]; rfl
        · (refine ⟨[], ?_⟩; (try simp only [amr, amc, amp, if_true, if_false, ne_eq, gt_iff_lt, Option.getD, argsT, Option.bind, Option.map, List.headD, List.tail, opnsL, List.replicate, lendsL, seval, hC, fbox, Exp.dv_eq y.1]); exact sub_mk (by repeat first | exact subT_nil | refine subT_cons (by first | rfl | simp [Tm.get, *]) ?_))
  · rintro ⟨fs, t, n, g⟩ _ ⟨h1, h2, h3, h4⟩ hb
    simp only [List.length_replicate] at hb h1 h3 h4 ⊢
    simp only [amr, amc, amp, if_true, if_false, ne_eq, gt_iff_lt, Option.getD, argsT, Option.bind, Option.map, List.headD, List.tail, opnsL, List.replicate, lendsL, seval, ty_FmF_14, hb]
    refine last_end (by simp) ⟨rfl, t, g, ⟨h3, h4⟩, ?_⟩
    simp only [List.length_nil, gfields]
    exact sub_mk (by repeat first | exact subT_nil | refine subT_cons (by first | rfl | simp [Tm.get, *]) ?_)
  · (refine ⟨[], ?_⟩; (try simp only [amr, amc, amp, if_true, if_false, ne_eq, gt_iff_lt, Option.getD, argsT, Option.bind, Option.map, List.headD, List.tail, opnsL, List.replicate, lendsL, seval, faP, faD]); exact sub_mk (by repeat first | exact subT_nil | refine subT_cons (by first | rfl | simp [Tm.get, *]) ?_))
  · rintro o S' ⟨rfl, t, g, ⟨h3, h4⟩, hs⟩
    refine good_sub_cr up_finq hs ?_
    have hnf : nfields l = a + 1 := by unfold nfields; rw [hr0, ha']; omega
    rw [List.length_replicate] at h4 ⊢
    have hlen := gfields_len l (a + 1) [] (gat l 0)
    have hat := gfields_at l (a + 1) [] (gat l 0)
    have hga := gat_le l 0
    have hff : ffields l = (gfields l (a + 1) [] (gat l 0)).1 := by unfold ffields; rw [hnf]
    have hfp : fpages l = (gpages l (ffields l) (npages l) (npages l) [] (gfields l (a + 1) [] (gat l 0)).2).1 := by unfold fpages; rw [hnf]
    unfold mkForm
    rw [hfp, hff, hr0]
    generalize gfields l (a + 1) [] (gat l 0) = o at *
    obtain ⟨fs, n0⟩ := o
    simp only [List.length_nil, Nat.zero_add] at hlen hat h4 ⊢
    rcases t with _ | t
    · have h4 : fs = [] := h4
      rw [h4] at hlen
      simp at hlen
    have h4 : ¬ g <:+ (0 :: t) := h4
    obtain ⟨c, hc, hc2⟩ := pick_nat hr 0 4 (by decide) (by decide) (fun r => r.b) (fun r h => h.b)
    have pD := fun (S : St) (d dst : Nat) => ca_picked (d := d) (dst := dst) (S := S) (gnext l 0).b 4 (by decide)
    have hc' : pick (gnext l 0).b 4 = c := hc
    rw [hc'] at pD
    have hnp : npages l = c + 1 := by unfold npages; rw [hc']; omega
    rw [hr0] at pD
    rw [hnp]
    have wD : IntKind.i64.wrap (1 + (c : Int)) = ((c + 1 : Nat) : Int) := by rw [wrap_in (by omega) (by omega)]; omega
    simp only [amr, amc, amp, if_true, if_false, ne_eq, gt_iff_lt, Option.getD, argsT, Option.bind, Option.map, List.headD, List.tail, opnsL, List.replicate, lendsL, seval, ty_FmF_14, faP, faD, pD, wD]
    clear pD
    refine good_range (List.replicate (c + 1) ()) (fun k (x : PS) _ => ⟨[(2, .ptr ⟨0, 2, [0]⟩ 0), (3, .ptr ⟨0, 17, [0, 1]⟩ 0), (4, .ptr ⟨0, 4, [0, 1, 1]⟩ 0), (5, .ptr ⟨0, 5, [0, 1, 1, 1, 1]⟩ 0), (9, .d (.int .i64 ((c + 1 : Nat) : Int))), (77, .d (.int .i64 ((c + 1 : Nat) : Int))), (78, .d (.int .i64 (k : Nat)))],
        tokP 0 125 (x.ps.length * 8) x.u ++ [(⟨0, 70, 0 :: t⟩, fbox fs), (⟨0, 5, [0, 1, 1, 1, 1]⟩, .box [.d (.int .i64 r0.kind), .d (.int .i64 r0.a), .d (.int .i64 r0.b), .d (.str r0.text)]), (⟨0, 4, [0, 1, 1]⟩, .box [.arr ⟨0, 70, 0 :: t⟩ 0 fs.length 9, .own 8 (x.ps.map Page.dv) (tokD 0 125 x.u)]), (⟨0, 17, [0, 1]⟩, gbox l x.n), (⟨0, 2, [0]⟩, .box [.own 9 [] none, .own 8 [] none])], x.g⟩)
      (fun k x => x.ps.length = k ∧ x.n ≤ n0 + k * 257 ∧ 6 ≤ x.g.length ∧ ¬ x.g <:+ (0 :: t)) (fun k x r => (gpages l fs (c + 1) r.length x.ps x.n).1)
      (fun (o : List Page) (q : Out) (S : St) => q = .exit 3 ∧ ∃ u g n, (6 ≤ g.length ∧ ¬ g <:+ (0 :: t)) ∧ Sub ⟨[(2, .ptr ⟨0, 2, [0]⟩ 0), (4, .ptr ⟨0, 4, [0, 1, 1]⟩ 0), (5, .ptr ⟨0, 5, [0, 1, 1, 1, 1]⟩ 0)],
        tokP 0 125 (o.length * 8) u ++ [(⟨0, 70, 0 :: t⟩, fbox fs), (⟨0, 5, [0, 1, 1, 1, 1]⟩, .box [.d (.int .i64 r0.kind), .d (.int .i64 r0.a), .d (.int .i64 r0.b), .d (.str r0.text)]), (⟨0, 4, [0, 1, 1]⟩, .box [.arr ⟨0, 70, 0 :: t⟩ 0 fs.length 9, .own 8 (o.map Page.dv) (tokD 0 125 u)]), (⟨0, 17, [0, 1]⟩, gbox l n), (⟨0, 2, [0]⟩, .box [.own 9 [] none, .own 8 [] none])], g⟩ S)
      ⟨[], none, n0, g⟩ kp14_18 (fun r => up_pg) ⟨rfl, by simp only; omega, h3, h4⟩ (by simp only [List.length_replicate]; omega) (by simp only [List.length_replicate]; omega) ?_ ?_ ?_ ?_
    · rintro i ⟨ps, u, n, g⟩ _ x rest hi hget hd ⟨h1, h2, h3, h5⟩ hb w1
      simp only [List.length_replicate] at hi hb
      simp only at h1 h2 h3 h5
      subst h1
      have hn0 : ¬ g <:+ [0, 1] := fun k => by have := k.length_le; simp at this; omega
      have hrest : rest.length = c - ps.length := by rw [← hd]; simp
      have hG : gpages l fs (c + 1) (() :: rest).length ps n = gpages l fs (c + 1) rest.length (ps ++ [(gpage l fs (c + 1) ps.length n).1]) (gpage l fs (c + 1) ps.length n).2 := by
        rw [List.length_cons]; rfl
      have hga := gat_le l n
      obtain ⟨b, hb1, hb2⟩ := pick_nat hr n 2 (by decide) (by decide) (fun r => r.kind) (fun r h => h.kind)
      have pB := fun (S : St) (d dst : Nat) => ca_picked (d := d) (dst := dst) (S := S) (gnext l n).kind 2 (by decide)
      have hb1' : pick (gnext l n).kind 2 = b := hb1
      rw [hb1'] at pB
      have fN := fun (T : Tm) (g : List Nat) (H : Heap) (dst : Nat) (q : List Nat) => fn T g H dst n (by omega) q
      have hfb : fbox fs = .box (flatD (fs.map Field.dv)) := rfl
      have wI : IntKind.i64.wrap (49 + (ps.length : Int)) = 49 + (ps.length : Int) := wrap_in (by omega) (by omega)
      have wU : IntKind.u8.wrap (49 + (ps.length : Int)) = 49 + (ps.length : Int) := by rw [IntKind.wrap_u8]; omega
      have hstr : strD [DV.int .u8 (49 + (ps.length : Int))] = some [UInt8.ofNat (49 + ps.length)] := by
        unfold strD
        rw [if_pos (by omega), show (49 + (ps.length : Int)).toNat = 49 + ps.length by omega]
        rfl
      have hf : gpage l fs (c + 1) ps.length n = (⟨[112, UInt8.ofNat (49 + ps.length)], pnames (c + 1) ps.length 0 fs, (gskip l fs (gnext l n) (gat l n)).1⟩, (gskip l fs (gnext l n) (gat l n)).2) := rfl
      have hA : ((ps.length + 1) * 120 ≤ 140737488355328) = True := eq_true (by omega)
      have hB : ((fs.length + 1) * 16 ≤ 140737488355328) = True := eq_true (by omega)
      have wN : IntKind.i64.wrap (((c + 1 : Nat) : Int) + 1) = ((c + 2 : Nat) : Int) := by rw [wrap_in (by omega) (by omega)]; omega
      have zN : (((c + 2 : Nat) : Int) = 0) = False := eq_false (by omega)
      have fE := fun (T : Tm) (g : List Nat) (H : Heap) (dst : Nat) (hx : ((0 :: g) <:+ [0, 1]) = False) (hx1 : ((0 :: g) <:+ (0 :: t)) = False) (hS : Heap.get H ⟨0, 17, [0, 1]⟩ = some (gbox l (gat l n))) (hF : Heap.get H ⟨0, 70, 0 :: t⟩ = some (fbox fs)) => ca_exprHA (expr_okA 1 (by decide)) (d := 0) (dst := dst) (S := ⟨T, H, g⟩) 0 17 [0, 1] 70 (0 :: t) (by decide) (Nat.le_refl _) 2 fs (by omega) l (gat l n) (by omega) hl hr hx hx1 hS hF
      have hcd : ((1 : Nat) : Int) = 1 := rfl
      rw [hcd] at fE
      simp only [hfb] at fE
      have hat := gexpr_at fs l 1 2 (gat l n)
      have hgs : gskip l fs (gnext l n) (gat l n) = if (b : Int) = 0 then gexpr fs l 1 2 (gat l n) else (Exp.zero, gat l n) := by unfold gskip; rw [hb1']
      rw [hgs] at hf
      simp only [Exp.dv_eq (gexpr fs l 1 2 (gat l n)).1] at fE
      generalize gexpr fs l 1 2 (gat l n) = y at *
      rcases u with _ | u
      · simp only [amr, amc, amp, if_true, if_false, ne_eq, gt_iff_lt, Option.getD, argsT, Option.bind, Option.map, List.headD, List.tail, opnsL, List.replicate, lendsL, seval, ty_FmF_14, fN, hb, w1, wI, wU, hstr, hfb, tokD, tokP, nt_arr, ac_arr, suf1 hn0, suf2 hn0, suf3 hn0, suf4 hn0, Raw.dv, pB, upd, Option.getD_some, Option.getD_none]
        refine good_range fs (fun k (x : NS) _ => ⟨[(2, .ptr ⟨0, 2, [0]⟩ 0), (3, .ptr ⟨0, 17, [0, 1]⟩ 0), (4, .ptr ⟨0, 4, [0, 1, 1]⟩ 0), (5, .ptr ⟨0, 5, [0, 1, 1, 1, 1]⟩ 0), (9, .d (.int .i64 ((c + 1 : Nat) : Int))), (10, .d (.int .i64 (ps.length : Nat))), (11, .ptr ⟨0, 11, 0 :: 1 :: g⟩ 0), (12, .ptr ⟨0, 12, 0 :: 1 :: 1 :: g⟩ 0), (77, .d (.int .i64 ((c + 1 : Nat) : Int))), (78, .d (.int .i64 (ps.length : Nat))), (91, .arr ⟨0, 70, 0 :: t⟩ 0 fs.length 9), (92, .d (.int .i64 fs.length)), (93, .d (.int .i64 (k : Nat)))],
            tokP 0 109 (x.acc.length * 1) x.w ++ [(⟨0, 12, 0 :: 1 :: 1 :: g⟩, .box [.d (.str [112, UInt8.ofNat (49 + ps.length)]), .own 1 (x.acc.map DV.str) (tokD 0 109 x.w), .d (.int .i64 0), .d (.int .i64 0), .d (.int .i64 0), .d (.str []), .d (.str []), .own 6 [] none]), (⟨0, 11, 0 :: 1 :: g⟩, .box [.d (.int .i64 (gnext l n).kind), .d (.int .i64 (gnext l n).a), .d (.int .i64 (gnext l n).b), .d (.str (gnext l n).text)]), (⟨0, 70, 0 :: t⟩, .box (flatD (fs.map Field.dv))), (⟨0, 5, [0, 1, 1, 1, 1]⟩, .box [.d (.int .i64 r0.kind), .d (.int .i64 r0.a), .d (.int .i64 r0.b), .d (.str r0.text)]), (⟨0, 4, [0, 1, 1]⟩, .box [.arr ⟨0, 70, 0 :: t⟩ 0 fs.length 9, .own 8 (ps.map Page.dv) none]), (⟨0, 17, [0, 1]⟩, gbox l (gat l n)), (⟨0, 2, [0]⟩, .box [.own 9 [] none, .own 8 [] none])], x.g⟩)
          (fun k x => x.acc.length ≤ k ∧ 6 ≤ x.g.length ∧ ¬ x.g <:+ (0 :: t)) (fun k x r => x.acc ++ pnames (c + 1) ps.length k r)
          (fun (o : List Str) (q : Out) (S : St) => q = .exit 5 ∧ ∃ w g', (6 ≤ g'.length ∧ ¬ g' <:+ (0 :: t)) ∧ Sub ⟨[(2, .ptr ⟨0, 2, [0]⟩ 0), (3, .ptr ⟨0, 17, [0, 1]⟩ 0), (4, .ptr ⟨0, 4, [0, 1, 1]⟩ 0), (5, .ptr ⟨0, 5, [0, 1, 1, 1, 1]⟩ 0), (9, .d (.int .i64 ((c + 1 : Nat) : Int))), (11, .ptr ⟨0, 11, 0 :: 1 :: g⟩ 0), (12, .ptr ⟨0, 12, 0 :: 1 :: 1 :: g⟩ 0), (77, .d (.int .i64 ((c + 1 : Nat) : Int))), (78, .d (.int .i64 (ps.length : Nat)))], tokP 0 109 (o.length * 1) w ++ [(⟨0, 12, 0 :: 1 :: 1 :: g⟩, .box [.d (.str [112, UInt8.ofNat (49 + ps.length)]), .own 1 (o.map DV.str) (tokD 0 109 w), .d (.int .i64 0), .d (.int .i64 0), .d (.int .i64 0), .d (.str []), .d (.str []), .own 6 [] none]), (⟨0, 11, 0 :: 1 :: g⟩, .box [.d (.int .i64 (gnext l n).kind), .d (.int .i64 (gnext l n).a), .d (.int .i64 (gnext l n).b), .d (.str (gnext l n).text)]), (⟨0, 70, 0 :: t⟩, .box (flatD (fs.map Field.dv))), (⟨0, 5, [0, 1, 1, 1, 1]⟩, .box [.d (.int .i64 r0.kind), .d (.int .i64 r0.a), .d (.int .i64 r0.b), .d (.str r0.text)]), (⟨0, 4, [0, 1, 1]⟩, .box [.arr ⟨0, 70, 0 :: t⟩ 0 fs.length 9, .own 8 (ps.map Page.dv) none]), (⟨0, 17, [0, 1]⟩, gbox l (gat l n)), (⟨0, 2, [0]⟩, .box [.own 9 [] none, .own 8 [] none])], g'⟩ S)
          ⟨[], none, 1 :: 1 :: 1 :: g⟩ kp14_23 (fun r => up_fm) ⟨Nat.le_refl _, by simp only [List.length_cons]; omega, apart_cons (apart_cons (apart_cons h5))⟩ (by omega) (by omega) ?_ ?_ ?_ ?_
        · rintro k ⟨acc, w, g'⟩ _ x rest' hk hget' hd' ⟨j1, j2, j3⟩ hb' w1'
          simp only at j1 j2 j3
          obtain ⟨R, hR⟩ := fdrop' hget'
          have hkl : ((k : Int) < (fs.length : Int)) = True := eq_true (by omega)
          have hR9 : (9 ≤ R.length + 1 + 1 + 1 + 1 + 1 + 1 + 1 + 1 + 1) = True := eq_true (by omega)
          have hC : ((acc.length + 1) * 16 ≤ 140737488355328) = True := eq_true (by omega)
          have hm : (k : Int).tmod ((c + 2 : Nat) : Int) = ((k % (c + 2) : Nat) : Int) := rfl
          generalize flatD (fs.map Field.dv) = CC at *
          by_cases hq : k % (c + 2) = ps.length
          · have bq : (((k % (c + 2) : Nat) : Int) == (ps.length : Int)) = true := by rw [hq]; exact beq_self_eq_true _
            have hsp : pnames (c + 1) ps.length k (x :: rest') = x.name :: pnames (c + 1) ps.length (k + 1) rest' := by rw [pnames, if_pos hq]
            rcases w with _ | w
            · simp only [amr, amc, amp, if_true, if_false, ne_eq, gt_iff_lt, Option.getD, argsT, Option.bind, Option.map, List.headD, List.tail, opnsL, List.replicate, lendsL, seval, ty_FmF_14, hb', w1', hR, hkl, hR9, hC, hm, wN, zN, bq, tokD, tokP]
              refine step_nrm (NS.mk (acc ++ [x.name]) (some (1 :: g')) (1 :: 1 :: g')) ⟨by simp only [List.length_append, List.length_cons, List.length_nil]; omega, by simp only [List.length_cons]; omega, apart_cons (apart_cons j3)⟩ (by rw [hsp]; simp) ?_
              (refine ⟨[], ?_⟩; (try simp only [amr, amc, amp, if_true, if_false, ne_eq, gt_iff_lt, Option.getD, argsT, Option.bind, Option.map, List.headD, List.tail, opnsL, List.replicate, lendsL, seval, tokD, tokP]); exact sub_mk (by repeat first | exact subT_nil | refine subT_cons (by first | rfl | simp [Tm.get, *]) ?_))
            · simp only [amr, amc, amp, if_true, if_false, ne_eq, gt_iff_lt, Option.getD, argsT, Option.bind, Option.map, List.headD, List.tail, opnsL, List.replicate, lendsL, seval, ty_FmF_14, hb', w1', hR, hkl, hR9, hC, hm, wN, zN, bq, tokD, tokP]
              refine step_nrm (NS.mk (acc ++ [x.name]) (some w) (1 :: g')) ⟨by simp only [List.length_append, List.length_cons, List.length_nil]; omega, by simp only [List.length_cons]; omega, apart_cons j3⟩ (by rw [hsp]; simp) ?_
              (refine ⟨[], ?_⟩; (try simp only [amr, amc, amp, if_true, if_false, ne_eq, gt_iff_lt, Option.getD, argsT, Option.bind, Option.map, List.headD, List.tail, opnsL, List.replicate, lendsL, seval, tokD, tokP]); exact sub_mk (by repeat first | exact subT_nil | refine subT_cons (by first | rfl | simp [Tm.get, *]) ?_))
          · have bq : (((k % (c + 2) : Nat) : Int) == (ps.length : Int)) = false := beq_eq_false_iff_ne.2 (by omega)
            have hsp : pnames (c + 1) ps.length k (x :: rest') = pnames (c + 1) ps.length (k + 1) rest' := by rw [pnames, if_neg hq]
            rcases w with _ | w
            · simp only [amr, amc, amp, if_true, if_false, ne_eq, gt_iff_lt, Option.getD, argsT, Option.bind, Option.map, List.headD, List.tail, opnsL, List.replicate, lendsL, seval, ty_FmF_14, hb', w1', hR, hkl, hR9, hC, hm, wN, zN, bq, tokD, tokP]
              refine step_nrm (NS.mk acc none (1 :: g')) ⟨by simp only; omega, by simp only [List.length_cons]; omega, apart_cons j3⟩ (by rw [hsp]) ?_
              (refine ⟨[], ?_⟩; (try simp only [amr, amc, amp, if_true, if_false, ne_eq, gt_iff_lt, Option.getD, argsT, Option.bind, Option.map, List.headD, List.tail, opnsL, List.replicate, lendsL, seval, tokD, tokP]); exact sub_mk (by repeat first | exact subT_nil | refine subT_cons (by first | rfl | simp [Tm.get, *]) ?_))
            · simp only [amr, amc, amp, if_true, if_false, ne_eq, gt_iff_lt, Option.getD, argsT, Option.bind, Option.map, List.headD, List.tail, opnsL, List.replicate, lendsL, seval, ty_FmF_14, hb', w1', hR, hkl, hR9, hC, hm, wN, zN, bq, tokD, tokP]
              refine step_nrm (NS.mk acc (some w) (1 :: g')) ⟨by simp only; omega, by simp only [List.length_cons]; omega, apart_cons j3⟩ (by rw [hsp]) ?_
              (refine ⟨[], ?_⟩; (try simp only [amr, amc, amp, if_true, if_false, ne_eq, gt_iff_lt, Option.getD, argsT, Option.bind, Option.map, List.headD, List.tail, opnsL, List.replicate, lendsL, seval, tokD, tokP]); exact sub_mk (by repeat first | exact subT_nil | refine subT_cons (by first | rfl | simp [Tm.get, *]) ?_))
        · rintro ⟨acc, w, g'⟩ _ ⟨j1, j2, j3⟩ hb'
          simp only [amr, amc, amp, if_true, if_false, ne_eq, gt_iff_lt, Option.getD, argsT, Option.bind, Option.map, List.headD, List.tail, opnsL, List.replicate, lendsL, seval, ty_FmF_14, hb']
          refine last_end (by simp) ⟨rfl, w, g', ⟨j2, j3⟩, ?_⟩
          simp only [pnames, List.append_nil]
          exact sub_mk (by repeat first | exact subT_nil | refine subT_cons (by first | rfl | simp [Tm.get, *]) ?_)
        · (refine ⟨[], ?_⟩; (try simp only [amr, amc, amp, if_true, if_false, ne_eq, gt_iff_lt, Option.getD, argsT, Option.bind, Option.map, List.headD, List.tail, opnsL, List.replicate, lendsL, seval, tokD, tokP]); exact sub_mk (by repeat first | exact subT_nil | refine subT_cons (by first | rfl | simp [Tm.get, *]) ?_))
        · rintro o S' ⟨rfl, w, g', ⟨j2, j3⟩, hs'⟩
          refine good_sub_cr (up_pgs (fun r => up_pg)) hs' ?_
          simp only [List.nil_append]
          have hn1 : ¬ g' <:+ [0, 1] := fun k => by have := k.length_le; simp at this; omega
          have hnl := pnames_len (c + 1) ps.length 0 fs
          rw [hf] at hG
          generalize pnames (c + 1) ps.length 0 fs = nms at *
          rcases (show b = 0 ∨ b = 1 by omega) with rfl | rfl
          · rw [if_pos (show ((0 : Nat) : Int) = 0 from rfl)] at hG
            rcases w with _ | w
            · simp only [amr, amc, amp, if_true, if_false, ne_eq, gt_iff_lt, Option.getD, argsT, Option.bind, Option.map, List.headD, List.tail, opnsL, List.replicate, lendsL, seval, ty_FmF_14, pB, hA, fE, w1, el_agg, nt_arr, ac_arr, tokD, tokP, suf1 hn1, suf2 hn1, suf3 hn1, suf4 hn1, suf1 j3, suf2 j3, suf3 j3, suf4 j3, upd, Option.getD_some, Option.getD_none, beq_self_eq_true]
              refine step_nrm (PS.mk (ps ++ [⟨[112, UInt8.ofNat (49 + ps.length)], nms, y.1⟩]) (some (1 :: g')) (y.2) (1 :: 1 :: g')) ⟨by simp, by simp only at *; omega, by simp only [List.length_cons]; omega, apart_cons (apart_cons j3)⟩ (by rw [hG]) ?_
              (refine ⟨[], ?_⟩; (try simp only [amr, amc, amp, if_true, if_false, ne_eq, gt_iff_lt, Option.getD, argsT, Option.bind, Option.map, List.headD, List.tail, opnsL, List.replicate, lendsL, seval, fbox, tokD, tokP, papp, Page.dv, Exp.dv_eq y.1]); exact sub_mk (by repeat first | exact subT_nil | refine subT_cons (by first | rfl | simp [Tm.get, *]) ?_))
            · simp only [amr, amc, amp, if_true, if_false, ne_eq, gt_iff_lt, Option.getD, argsT, Option.bind, Option.map, List.headD, List.tail, opnsL, List.replicate, lendsL, seval, ty_FmF_14, pB, hA, fE, w1, el_agg, nt_arr, ac_arr, tokD, tokP, suf1 hn1, suf2 hn1, suf3 hn1, suf4 hn1, suf1 j3, suf2 j3, suf3 j3, suf4 j3, upd, Option.getD_some, Option.getD_none, beq_self_eq_true]
              refine step_nrm (PS.mk (ps ++ [⟨[112, UInt8.ofNat (49 + ps.length)], nms, y.1⟩]) (some (1 :: g')) (y.2) (1 :: 1 :: g')) ⟨by simp, by simp only at *; omega, by simp only [List.length_cons]; omega, apart_cons (apart_cons j3)⟩ (by rw [hG]) ?_
              (refine ⟨[], ?_⟩; (try simp only [amr, amc, amp, if_true, if_false, ne_eq, gt_iff_lt, Option.getD, argsT, Option.bind, Option.map, List.headD, List.tail, opnsL, List.replicate, lendsL, seval, fbox, tokD, tokP, papp, Page.dv, Exp.dv_eq y.1]); exact sub_mk (by repeat first | exact subT_nil | refine subT_cons (by first | rfl | simp [Tm.get, *]) ?_))
          · rw [if_neg (show ¬ ((1 : Nat) : Int) = 0 by decide)] at hG
            rcases w with _ | w
            · simp only [amr, amc, amp, if_true, if_false, ne_eq, gt_iff_lt, Option.getD, argsT, Option.bind, Option.map, List.headD, List.tail, opnsL, List.replicate, lendsL, seval, ty_FmF_14, pB, hA, fE, w1, el_agg, nt_arr, ac_arr, tokD, tokP, suf1 hn1, suf2 hn1, suf3 hn1, suf4 hn1, suf1 j3, suf2 j3, suf3 j3, suf4 j3, upd, Option.getD_some, Option.getD_none, beq_self_eq_true]
              refine step_nrm (PS.mk (ps ++ [⟨[112, UInt8.ofNat (49 + ps.length)], nms, Exp.zero⟩]) (some (g')) (gat l n) (1 :: g')) ⟨by simp, by simp only at *; omega, by simp only [List.length_cons]; omega, apart_cons j3⟩ (by rw [hG]) ?_
              (refine ⟨[], ?_⟩; (try simp only [amr, amc, amp, if_true, if_false, ne_eq, gt_iff_lt, Option.getD, argsT, Option.bind, Option.map, List.headD, List.tail, opnsL, List.replicate, lendsL, seval, fbox, tokD, tokP, papp, Page.dv, Exp.zero, Exp.op, Exp.v, Exp.name, Exp.args, Val.zero, List.map_nil]); exact sub_mk (by repeat first | exact subT_nil | refine subT_cons (by first | rfl | simp [Tm.get, *]) ?_))
            · simp only [amr, amc, amp, if_true, if_false, ne_eq, gt_iff_lt, Option.getD, argsT, Option.bind, Option.map, List.headD, List.tail, opnsL, List.replicate, lendsL, seval, ty_FmF_14, pB, hA, fE, w1, el_agg, nt_arr, ac_arr, tokD, tokP, suf1 hn1, suf2 hn1, suf3 hn1, suf4 hn1, suf1 j3, suf2 j3, suf3 j3, suf4 j3, upd, Option.getD_some, Option.getD_none, beq_self_eq_true]
              refine step_nrm (PS.mk (ps ++ [⟨[112, UInt8.ofNat (49 + ps.length)], nms, Exp.zero⟩]) (some (g')) (gat l n) (1 :: g')) ⟨by simp, by simp only at *; omega, by simp only [List.length_cons]; omega, apart_cons j3⟩ (by rw [hG]) ?_
              (refine ⟨[], ?_⟩; (try simp only [amr, amc, amp, if_true, if_false, ne_eq, gt_iff_lt, Option.getD, argsT, Option.bind, Option.map, List.headD, List.tail, opnsL, List.replicate, lendsL, seval, fbox, tokD, tokP, papp, Page.dv, Exp.zero, Exp.op, Exp.v, Exp.name, Exp.args, Val.zero, List.map_nil]); exact sub_mk (by repeat first | exact subT_nil | refine subT_cons (by first | rfl | simp [Tm.get, *]) ?_))
      · simp only [amr, amc, amp, if_true, if_false, ne_eq, gt_iff_lt, Option.getD, argsT, Option.bind, Option.map, List.headD, List.tail, opnsL, List.replicate, lendsL, seval, ty_FmF_14, fN, hb, w1, wI, wU, hstr, hfb, tokD, tokP, nt_arr, ac_arr, suf1 hn0, suf2 hn0, suf3 hn0, suf4 hn0, Raw.dv, pB, upd, Option.getD_some, Option.getD_none]
        refine good_range fs (fun k (x : NS) _ => ⟨[(2, .ptr ⟨0, 2, [0]⟩ 0), (3, .ptr ⟨0, 17, [0, 1]⟩ 0), (4, .ptr ⟨0, 4, [0, 1, 1]⟩ 0), (5, .ptr ⟨0, 5, [0, 1, 1, 1, 1]⟩ 0), (9, .d (.int .i64 ((c + 1 : Nat) : Int))), (10, .d (.int .i64 (ps.length : Nat))), (11, .ptr ⟨0, 11, 0 :: 1 :: g⟩ 0), (12, .ptr ⟨0, 12, 0 :: 1 :: 1 :: g⟩ 0), (77, .d (.int .i64 ((c + 1 : Nat) : Int))), (78, .d (.int .i64 (ps.length : Nat))), (91, .arr ⟨0, 70, 0 :: t⟩ 0 fs.length 9), (92, .d (.int .i64 fs.length)), (93, .d (.int .i64 (k : Nat)))],
            tokP 0 109 (x.acc.length * 1) x.w ++ [(⟨0, 12, 0 :: 1 :: 1 :: g⟩, .box [.d (.str [112, UInt8.ofNat (49 + ps.length)]), .own 1 (x.acc.map DV.str) (tokD 0 109 x.w), .d (.int .i64 0), .d (.int .i64 0), .d (.int .i64 0), .d (.str []), .d (.str []), .own 6 [] none]), (⟨0, 11, 0 :: 1 :: g⟩, .box [.d (.int .i64 (gnext l n).kind), .d (.int .i64 (gnext l n).a), .d (.int .i64 (gnext l n).b), .d (.str (gnext l n).text)]), (⟨0, 125, 0 :: u⟩, .grow (ps.length * 8)), (⟨0, 70, 0 :: t⟩, .box (flatD (fs.map Field.dv))), (⟨0, 5, [0, 1, 1, 1, 1]⟩, .box [.d (.int .i64 r0.kind), .d (.int .i64 r0.a), .d (.int .i64 r0.b), .d (.str r0.text)]), (⟨0, 4, [0, 1, 1]⟩, .box [.arr ⟨0, 70, 0 :: t⟩ 0 fs.length 9, .own 8 (ps.map Page.dv) (some ⟨0, 125, 0 :: u⟩)]), (⟨0, 17, [0, 1]⟩, gbox l (gat l n)), (⟨0, 2, [0]⟩, .box [.own 9 [] none, .own 8 [] none])], x.g⟩)
          (fun k x => x.acc.length ≤ k ∧ 6 ≤ x.g.length ∧ ¬ x.g <:+ (0 :: t)) (fun k x r => x.acc ++ pnames (c + 1) ps.length k r)
          (fun (o : List Str) (q : Out) (S : St) => q = .exit 5 ∧ ∃ w g', (6 ≤ g'.length ∧ ¬ g' <:+ (0 :: t)) ∧ Sub ⟨[(2, .ptr ⟨0, 2, [0]⟩ 0), (3, .ptr ⟨0, 17, [0, 1]⟩ 0), (4, .ptr ⟨0, 4, [0, 1, 1]⟩ 0), (5, .ptr ⟨0, 5, [0, 1, 1, 1, 1]⟩ 0), (9, .d (.int .i64 ((c + 1 : Nat) : Int))), (11, .ptr ⟨0, 11, 0 :: 1 :: g⟩ 0), (12, .ptr ⟨0, 12, 0 :: 1 :: 1 :: g⟩ 0), (77, .d (.int .i64 ((c + 1 : Nat) : Int))), (78, .d (.int .i64 (ps.length : Nat)))], tokP 0 109 (o.length * 1) w ++ [(⟨0, 12, 0 :: 1 :: 1 :: g⟩, .box [.d (.str [112, UInt8.ofNat (49 + ps.length)]), .own 1 (o.map DV.str) (tokD 0 109 w), .d (.int .i64 0), .d (.int .i64 0), .d (.int .i64 0), .d (.str []), .d (.str []), .own 6 [] none]), (⟨0, 11, 0 :: 1 :: g⟩, .box [.d (.int .i64 (gnext l n).kind), .d (.int .i64 (gnext l n).a), .d (.int .i64 (gnext l n).b), .d (.str (gnext l n).text)]), (⟨0, 125, 0 :: u⟩, .grow (ps.length * 8)), (⟨0, 70, 0 :: t⟩, .box (flatD (fs.map Field.dv))), (⟨0, 5, [0, 1, 1, 1, 1]⟩, .box [.d (.int .i64 r0.kind), .d (.int .i64 r0.a), .d (.int .i64 r0.b), .d (.str r0.text)]), (⟨0, 4, [0, 1, 1]⟩, .box [.arr ⟨0, 70, 0 :: t⟩ 0 fs.length 9, .own 8 (ps.map Page.dv) (some ⟨0, 125, 0 :: u⟩)]), (⟨0, 17, [0, 1]⟩, gbox l (gat l n)), (⟨0, 2, [0]⟩, .box [.own 9 [] none, .own 8 [] none])], g'⟩ S)
          ⟨[], none, 1 :: 1 :: 1 :: g⟩ kp14_23 (fun r => up_fm) ⟨Nat.le_refl _, by simp only [List.length_cons]; omega, apart_cons (apart_cons (apart_cons h5))⟩ (by omega) (by omega) ?_ ?_ ?_ ?_
        · rintro k ⟨acc, w, g'⟩ _ x rest' hk hget' hd' ⟨j1, j2, j3⟩ hb' w1'
          simp only at j1 j2 j3
          obtain ⟨R, hR⟩ := fdrop' hget'
          have hkl : ((k : Int) < (fs.length : Int)) = True := eq_true (by omega)
          have hR9 : (9 ≤ R.length + 1 + 1 + 1 + 1 + 1 + 1 + 1 + 1 + 1) = True := eq_true (by omega)
          have hC : ((acc.length + 1) * 16 ≤ 140737488355328) = True := eq_true (by omega)
          have hm : (k : Int).tmod ((c + 2 : Nat) : Int) = ((k % (c + 2) : Nat) : Int) := rfl
          generalize flatD (fs.map Field.dv) = CC at *
          by_cases hq : k % (c + 2) = ps.length
          · have bq : (((k % (c + 2) : Nat) : Int) == (ps.length : Int)) = true := by rw [hq]; exact beq_self_eq_true _
            have hsp : pnames (c + 1) ps.length k (x :: rest') = x.name :: pnames (c + 1) ps.length (k + 1) rest' := by rw [pnames, if_pos hq]
            rcases w with _ | w
            · simp only [amr, amc, amp, if_true, if_false, ne_eq, gt_iff_lt, Option.getD, argsT, Option.bind, Option.map, List.headD, List.tail, opnsL, List.replicate, lendsL, seval, ty_FmF_14, hb', w1', hR, hkl, hR9, hC, hm, wN, zN, bq, tokD, tokP]
              refine step_nrm (NS.mk (acc ++ [x.name]) (some (1 :: g')) (1 :: 1 :: g')) ⟨by simp only [List.length_append, List.length_cons, List.length_nil]; omega, by simp only [List.length_cons]; omega, apart_cons (apart_cons j3)⟩ (by rw [hsp]; simp) ?_
              (refine ⟨[], ?_⟩; (try simp only [amr, amc, amp, if_true, if_false, ne_eq, gt_iff_lt, Option.getD, argsT, Option.bind, Option.map, List.headD, List.tail, opnsL, List.replicate, lendsL, seval, tokD, tokP]); exact sub_mk (by repeat first | exact subT_nil | refine subT_cons (by first | rfl | simp [Tm.get, *]) ?_))
            · simp only [amr, amc, amp, if_true, if_false, ne_eq, gt_iff_lt, Option.getD, argsT, Option.bind, Option.map, List.headD, List.tail, opnsL, List.replicate, lendsL, seval, ty_FmF_14, hb', w1', hR, hkl, hR9, hC, hm, wN, zN, bq, tokD, tokP]
              refine step_nrm (NS.mk (acc ++ [x.name]) (some w) (1 :: g')) ⟨by simp only [List.length_append, List.length_cons, List.length_nil]; omega, by simp only [List.length_cons]; omega, apart_cons j3⟩ (by rw [hsp]; simp) ?_
              (refine ⟨[], ?_⟩; (try simp only [amr, amc, amp, if_true, if_false, ne_eq, gt_iff_lt, Option.getD, argsT, Option.bind, Option.map, List.headD, List.tail, opnsL, List.replicate, lendsL, seval, tokD, tokP]); exact sub_mk (by repeat first | exact subT_nil | refine subT_cons (by first | rfl | simp [Tm.get, *]) ?_))
          · have bq : (((k % (c + 2) : Nat) : Int) == (ps.length : Int)) = false := beq_eq_false_iff_ne.2 (by omega)
            have hsp : pnames (c + 1) ps.length k (x :: rest') = pnames (c + 1) ps.length (k + 1) rest' := by rw [pnames, if_neg hq]
            rcases w with _ | w
            · simp only [amr, amc, amp, if_true, if_false, ne_eq, gt_iff_lt, Option.getD, argsT, Option.bind, Option.map, List.headD, List.tail, opnsL, List.replicate, lendsL, seval, ty_FmF_14, hb', w1', hR, hkl, hR9, hC, hm, wN, zN, bq, tokD, tokP]
              refine step_nrm (NS.mk acc none (1 :: g')) ⟨by simp only; omega, by simp only [List.length_cons]; omega, apart_cons j3⟩ (by rw [hsp]) ?_
              (refine ⟨[], ?_⟩; (try simp only [amr, amc, amp, if_true, if_false, ne_eq, gt_iff_lt, Option.getD, argsT, Option.bind, Option.map, List.headD, List.tail, opnsL, List.replicate, lendsL, seval, tokD, tokP]); exact sub_mk (by repeat first | exact subT_nil | refine subT_cons (by first | rfl | simp [Tm.get, *]) ?_))
            · simp only [amr, amc, amp, if_true, if_false, ne_eq, gt_iff_lt, Option.getD, argsT, Option.bind, Option.map, List.headD, List.tail, opnsL, List.replicate, lendsL, seval, ty_FmF_14, hb', w1', hR, hkl, hR9, hC, hm, wN, zN, bq, tokD, tokP]
              refine step_nrm (NS.mk acc (some w) (1 :: g')) ⟨by simp only; omega, by simp only [List.length_cons]; omega, apart_cons j3⟩ (by rw [hsp]) ?_
              (refine ⟨[], ?_⟩; (try simp only [amr, amc, amp, if_true, if_false, ne_eq, gt_iff_lt, Option.getD, argsT, Option.bind, Option.map, List.headD, List.tail, opnsL, List.replicate, lendsL, seval, tokD, tokP]); exact sub_mk (by repeat first | exact subT_nil | refine subT_cons (by first | rfl | simp [Tm.get, *]) ?_))
        · rintro ⟨acc, w, g'⟩ _ ⟨j1, j2, j3⟩ hb'
          simp only [amr, amc, amp, if_true, if_false, ne_eq, gt_iff_lt, Option.getD, argsT, Option.bind, Option.map, List.headD, List.tail, opnsL, List.replicate, lendsL, seval, ty_FmF_14, hb']
          refine last_end (by simp) ⟨rfl, w, g', ⟨j2, j3⟩, ?_⟩
          simp only [pnames, List.append_nil]
          exact sub_mk (by repeat first | exact subT_nil | refine subT_cons (by first | rfl | simp [Tm.get, *]) ?_)
        · (refine ⟨[], ?_⟩; (try simp only [amr, amc, amp, if_true, if_false, ne_eq, gt_iff_lt, Option.getD, argsT, Option.bind, Option.map, List.headD, List.tail, opnsL, List.replicate, lendsL, seval, tokD, tokP]); exact sub_mk (by repeat first | exact subT_nil | refine subT_cons (by first | rfl | simp [Tm.get, *]) ?_))
        · rintro o S' ⟨rfl, w, g', ⟨j2, j3⟩, hs'⟩
          refine good_sub_cr (up_pgs (fun r => up_pg)) hs' ?_
          simp only [List.nil_append]
          have hn1 : ¬ g' <:+ [0, 1] := fun k => by have := k.length_le; simp at this; omega
          have hnl := pnames_len (c + 1) ps.length 0 fs
          rw [hf] at hG
          generalize pnames (c + 1) ps.length 0 fs = nms at *
          rcases (show b = 0 ∨ b = 1 by omega) with rfl | rfl
          · rw [if_pos (show ((0 : Nat) : Int) = 0 from rfl)] at hG
            rcases w with _ | w
            · simp only [amr, amc, amp, if_true, if_false, ne_eq, gt_iff_lt, Option.getD, argsT, Option.bind, Option.map, List.headD, List.tail, opnsL, List.replicate, lendsL, seval, ty_FmF_14, pB, hA, fE, w1, el_agg, nt_arr, ac_arr, tokD, tokP, suf1 hn1, suf2 hn1, suf3 hn1, suf4 hn1, suf1 j3, suf2 j3, suf3 j3, suf4 j3, upd, Option.getD_some, Option.getD_none, beq_self_eq_true]
              refine step_nrm (PS.mk (ps ++ [⟨[112, UInt8.ofNat (49 + ps.length)], nms, y.1⟩]) (some u) (y.2) (1 :: g')) ⟨by simp, by simp only at *; omega, by simp only [List.length_cons]; omega, apart_cons j3⟩ (by rw [hG]) ?_
              (refine ⟨[], ?_⟩; (try simp only [amr, amc, amp, if_true, if_false, ne_eq, gt_iff_lt, Option.getD, argsT, Option.bind, Option.map, List.headD, List.tail, opnsL, List.replicate, lendsL, seval, fbox, tokD, tokP, papp, Page.dv, Exp.dv_eq y.1]); exact sub_mk (by repeat first | exact subT_nil | refine subT_cons (by first | rfl | simp [Tm.get, *]) ?_))
            · simp only [amr, amc, amp, if_true, if_false, ne_eq, gt_iff_lt, Option.getD, argsT, Option.bind, Option.map, List.headD, List.tail, opnsL, List.replicate, lendsL, seval, ty_FmF_14, pB, hA, fE, w1, el_agg, nt_arr, ac_arr, tokD, tokP, suf1 hn1, suf2 hn1, suf3 hn1, suf4 hn1, suf1 j3, suf2 j3, suf3 j3, suf4 j3, upd, Option.getD_some, Option.getD_none, beq_self_eq_true]
              refine step_nrm (PS.mk (ps ++ [⟨[112, UInt8.ofNat (49 + ps.length)], nms, y.1⟩]) (some u) (y.2) (1 :: g')) ⟨by simp, by simp only at *; omega, by simp only [List.length_cons]; omega, apart_cons j3⟩ (by rw [hG]) ?_
              (refine ⟨[], ?_⟩; (try simp only [amr, amc, amp, if_true, if_false, ne_eq, gt_iff_lt, Option.getD, argsT, Option.bind, Option.map, List.headD, List.tail, opnsL, List.replicate, lendsL, seval, fbox, tokD, tokP, papp, Page.dv, Exp.dv_eq y.1]); exact sub_mk (by repeat first | exact subT_nil | refine subT_cons (by first | rfl | simp [Tm.get, *]) ?_))
          · rw [if_neg (show ¬ ((1 : Nat) : Int) = 0 by decide)] at hG
            rcases w with _ | w
            · simp only [amr, amc, amp, if_true, if_false, ne_eq, gt_iff_lt, Option.getD, argsT, Option.bind, Option.map, List.headD, List.tail, opnsL, List.replicate, lendsL, seval, ty_FmF_14, pB, hA, fE, w1, el_agg, nt_arr, ac_arr, tokD, tokP, suf1 hn1, suf2 hn1, suf3 hn1, suf4 hn1, suf1 j3, suf2 j3, suf3 j3, suf4 j3, upd, Option.getD_some, Option.getD_none, beq_self_eq_true]
              refine step_nrm (PS.mk (ps ++ [⟨[112, UInt8.ofNat (49 + ps.length)], nms, Exp.zero⟩]) (some u) (gat l n) (g')) ⟨by simp, by simp only at *; omega, by simp only [List.length_cons]; omega, j3⟩ (by rw [hG]) ?_
              (refine ⟨[], ?_⟩; (try simp only [amr, amc, amp, if_true, if_false, ne_eq, gt_iff_lt, Option.getD, argsT, Option.bind, Option.map, List.headD, List.tail, opnsL, List.replicate, lendsL, seval, fbox, tokD, tokP, papp, Page.dv, Exp.zero, Exp.op, Exp.v, Exp.name, Exp.args, Val.zero, List.map_nil]); exact sub_mk (by repeat first | exact subT_nil | refine subT_cons (by first | rfl | simp [Tm.get, *]) ?_))
            · simp only [amr, amc, amp, if_true, if_false, ne_eq, gt_iff_lt, Option.getD, argsT, Option.bind, Option.map, List.headD, List.tail, opnsL, List.replicate, lendsL, seval, ty_FmF_14, pB, hA, fE, w1, el_agg, nt_arr, ac_arr, tokD, tokP, suf1 hn1, suf2 hn1, suf3 hn1, suf4 hn1, suf1 j3, suf2 j3, suf3 j3, suf4 j3, upd, Option.getD_some, Option.getD_none, beq_self_eq_true]
              refine step_nrm (PS.mk (ps ++ [⟨[112, UInt8.ofNat (49 + ps.length)], nms, Exp.zero⟩]) (some u) (gat l n) (g')) ⟨by simp, by simp only at *; omega, by simp only [List.length_cons]; omega, j3⟩ (by rw [hG]) ?_
              (refine ⟨[], ?_⟩; (try simp only [amr, amc, amp, if_true, if_false, ne_eq, gt_iff_lt, Option.getD, argsT, Option.bind, Option.map, List.headD, List.tail, opnsL, List.replicate, lendsL, seval, fbox, tokD, tokP, papp, Page.dv, Exp.zero, Exp.op, Exp.v, Exp.name, Exp.args, Val.zero, List.map_nil]); exact sub_mk (by repeat first | exact subT_nil | refine subT_cons (by first | rfl | simp [Tm.get, *]) ?_))
    · rintro ⟨ps, u, n, g'⟩ _ ⟨h1, h2, h3, h5⟩ hb
      simp only [List.length_replicate] at hb h1 h3 h5 ⊢
      simp only [amr, amc, amp, if_true, if_false, ne_eq, gt_iff_lt, Option.getD, argsT, Option.bind, Option.map, List.headD, List.tail, opnsL, List.replicate, lendsL, seval, ty_FmF_14, hb]
      refine last_end (by simp) ⟨rfl, u, g', n, ⟨h3, h5⟩, ?_⟩
      simp only [List.length_nil, gpages]
      exact sub_mk (by repeat first | exact subT_nil | refine subT_cons (by first | rfl | simp [Tm.get, *]) ?_)
    · refine ⟨[], ?_⟩
      simp only [amr, amc, amp, if_true, if_false, ne_eq, gt_iff_lt, Option.getD, argsT, Option.bind, Option.map, List.headD, List.tail, opnsL, List.replicate, lendsL, seval, fbox, tokD, tokP]
      exact sub_mk (by repeat first | exact subT_nil | refine subT_cons (by first | rfl | simp [Tm.get, *]) ?_)
    · rintro o S' ⟨rfl, u, g', n, ⟨h3, h5⟩, hs'⟩
      refine good_sub_cr up_finq hs' ?_
      rw [List.length_replicate]
      simp only
      generalize (gpages l fs (c + 1) (c + 1) [] n0).1 = ps at *
      obtain ⟨b, hb1, hb2⟩ := pick_nat hr 0 2 (by decide) (by decide) (fun r => r.kind) (fun r h => h.kind)
      have pB := fun (S : St) (d dst : Nat) => ca_picked (d := d) (dst := dst) (S := S) (gnext l 0).kind 2 (by decide)
      have hb1' : pick (gnext l 0).kind 2 = b := hb1
      rw [hb1', hr0] at pB
      rw [hr0] at hb1'
      rw [hb1']
      have fz : ∀ (H : Heap) (xs : List Field), H.get ⟨0, 70, 0 :: t⟩ = some (fbox xs) → xs.length = fs.length → frzV H (.arr ⟨0, 70, 0 :: t⟩ 0 fs.length 9) = .d (.sl 9 (xs.map Field.dv)) := fun H xs h hx =>
        frz_list0 (sz := 9) (n := fs.length) (xs := xs.map Field.dv) h (by rw [List.length_map, hx]) (by decide) (elt_fd xs)
      have fr := fun (T : Tm) (g : List Nat) (H : Heap) (dst : Nat) (hS : Heap.get H ⟨0, 70, 0 :: t⟩ = some (fbox fs)) => ca_rev (d := 0) (dst := dst) (S := ⟨T, H, g⟩) 0 70 (0 :: t) (Nat.le_refl _) fs (by omega) (by omega) hS
      unfold Frm.dv
      rcases (show b = 0 ∨ b = 1 by omega) with rfl | rfl
      · rw [if_pos (show ((0 : Nat) : Int) = 0 from rfl)]
        rcases u with _ | u
        · simp only [amr, amc, amp, if_true, if_false, ne_eq, gt_iff_lt, Option.getD, argsT, Option.bind, Option.map, List.headD, List.tail, opnsL, List.replicate, lendsL, seval, ty_FmF_14, pB, fr, tokD, tokP, nt_arr, ac_arr, plainD_arr, upd, Option.getD_some, Option.getD_none, beq_self_eq_true]
          rw [fz _ fs.reverse (by simp [Heap.get]) (by simp)]
          rfl
        · simp only [amr, amc, amp, if_true, if_false, ne_eq, gt_iff_lt, Option.getD, argsT, Option.bind, Option.map, List.headD, List.tail, opnsL, List.replicate, lendsL, seval, ty_FmF_14, pB, fr, tokD, tokP, nt_arr, ac_arr, plainD_arr, upd, Option.getD_some, Option.getD_none, beq_self_eq_true]
          rw [fz _ fs.reverse (by simp [Heap.get]) (by simp)]
          rfl
      · rw [if_neg (show ¬ ((1 : Nat) : Int) = 0 by decide)]
        rcases u with _ | u
        · simp only [amr, amc, amp, if_true, if_false, ne_eq, gt_iff_lt, Option.getD, argsT, Option.bind, Option.map, List.headD, List.tail, opnsL, List.replicate, lendsL, seval, ty_FmF_14, pB, fr, tokD, tokP, nt_arr, ac_arr, plainD_arr, upd, Option.getD_some, Option.getD_none, beq_self_eq_true]
          rw [fz _ fs (by simp [Heap.get]) (by simp)]
          rfl
        · simp only [amr, amc, amp, if_true, if_false, ne_eq, gt_iff_lt, Option.getD, argsT, Option.bind, Option.map, List.headD, List.tail, opnsL, List.replicate, lendsL, seval, ty_FmF_14, pB, fr, tokD, tokP, nt_arr, ac_arr, plainD_arr, upd, Option.getD_some, Option.getD_none, beq_self_eq_true]
          rw [fz _ fs (by simp [Heap.get]) (by simp)]
          rfl
theorem ca_Form {d dst : Nat} {S : St} (l : List Raw) (hl : l.length ≤ 9223372036854775807) (hr : ∀ r ∈ l, r.ok) : callA tab (callR tab) d dst 14 [.d (.sl 4 (l.map Raw.dv))] S = some (.d (mkForm l).dv, S) :=
  ca_retD (ds := [.sl 4 (l.map Raw.dv)]) (ret_Form l hl hr) rfl (tab_opn (by kernel_rfl)) (tab_res (by kernel_rfl))
end Go.Proofs.Ytnombkkfijlkfaa.Am
