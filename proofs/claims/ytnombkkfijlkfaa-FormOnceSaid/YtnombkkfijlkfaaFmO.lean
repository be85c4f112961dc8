/- FormOnce, walked. -/
import Derived.Test.YtnombkkfijlkfaaFmS
set_option linter.unusedVariables false
set_option linter.unusedSimpArgs false
namespace Go.Proofs.Ytnombkkfijlkfaa.Am
open Go Go.RowKit
theorem ty_FmO_5 : type_of% (ai (ai (ai (ai (ai (ai (ai @rs5 @lv5_0) (ai @lv5_1 @lv5_2)) (ai (ai @lv5_3 @lv5_4) (ai @lv5_5 @lv5_6))) (ai (ai (ai @dr5_7 @lv5_7) (ai @mu46_39 @und1)) (ai (ai @sz1 @ag1) (ai @inf1 @und3)))) (ai (ai (ai (ai @sz3 @ag3) (ai @lv3 @inf3)) (ai (ai @und4 @sz4) (ai @ag4 @lv4))) (ai (ai (ai @inf4 @und9) (ai @sz9 @ag9)) (ai (ai @lv9 @inf9) (ai @und22 @sz22))))) (ai (ai (ai (ai (ai @ag22 @pT22) (ai @inf22 @und23)) (ai (ai @sz23 @ag23) (ai @pT23 @inf23))) (ai (ai (ai @und24 @sz24) (ai @ag24 @pT24)) (ai (ai @inf24 @und26) (ai @sz26 @ag26)))) (ai (ai (ai (ai @fo26 @bA26) (ai @pT26_0 @pT26_1)) (ai (ai @inf26 @und29) (ai @sz29 @ag29))) (ai (ai (ai @fo29 @bA29) (ai @pT29_0 @pT29_1)) (ai (ai @pT29_2 @lv29) (ai @inf29 (ai @und30 @sz30))))))) (ai (ai (ai (ai (ai (ai @ag30 @pT30) (ai @inf30 @und32)) (ai (ai @sz32 @ag32) (ai @fo32 @bA32))) (ai (ai (ai @pT32_0 @pT32_1) (ai @pT32_2 @pT32_3)) (ai (ai @inf32 @und34) (ai @sz34 @ag34)))) (ai (ai (ai (ai @fo34 @bA34) (ai @pT34_0 @pT34_1)) (ai (ai @pT34_2 @pT34_3) (ai @inf34 @und35))) (ai (ai (ai @sz35 @ag35) (ai @lv35 @inf35)) (ai (ai @und41 @sz41) (ai @ag41 (ai @fo41 @bA41)))))) (ai (ai (ai (ai (ai @pT41_0 @pT41_1) (ai @pT41_2 @pT41_3)) (ai (ai @inf41 @und46) (ai @sz46 @ag46))) (ai (ai (ai @pT46 @inf46) (ai @und50 @sz50)) (ai (ai @ag50 @fo50) (ai @bA50 @pT50_0)))) (ai (ai (ai (ai @pT50_1 @pT50_2) (ai @inf50 @und56)) (ai (ai @sz56 @ag56) (ai @pT56 @inf56))) (ai (ai (ai @und58 @sz58) (ai @ag58 @fo58)) (ai (ai @bA58 @pT58_0) (ai @pT58_1 (ai @pT58_2 @inf58)))))))) := (ai (ai (ai (ai (ai (ai (ai @rs5 @lv5_0) (ai @lv5_1 @lv5_2)) (ai (ai @lv5_3 @lv5_4) (ai @lv5_5 @lv5_6))) (ai (ai (ai @dr5_7 @lv5_7) (ai @mu46_39 @und1)) (ai (ai @sz1 @ag1) (ai @inf1 @und3)))) (ai (ai (ai (ai @sz3 @ag3) (ai @lv3 @inf3)) (ai (ai @und4 @sz4) (ai @ag4 @lv4))) (ai (ai (ai @inf4 @und9) (ai @sz9 @ag9)) (ai (ai @lv9 @inf9) (ai @und22 @sz22))))) (ai (ai (ai (ai (ai @ag22 @pT22) (ai @inf22 @und23)) (ai (ai @sz23 @ag23) (ai @pT23 @inf23))) (ai (ai (ai @und24 @sz24) (ai @ag24 @pT24)) (ai (ai @inf24 @und26) (ai @sz26 @ag26)))) (ai (ai (ai (ai @fo26 @bA26) (ai @pT26_0 @pT26_1)) (ai (ai @inf26 @und29) (ai @sz29 @ag29))) (ai (ai (ai @fo29 @bA29) (ai @pT29_0 @pT29_1)) (ai (ai @pT29_2 @lv29) (ai @inf29 (ai @und30 @sz30))))))) (ai (ai (ai (ai (ai (ai @ag30 @pT30) (ai @inf30 @und32)) (ai (ai @sz32 @ag32) (ai @fo32 @bA32))) (ai (ai (ai @pT32_0 @pT32_1) (ai @pT32_2 @pT32_3)) (ai (ai @inf32 @und34) (ai @sz34 @ag34)))) (ai (ai (ai (ai @fo34 @bA34) (ai @pT34_0 @pT34_1)) (ai (ai @pT34_2 @pT34_3) (ai @inf34 @und35))) (ai (ai (ai @sz35 @ag35) (ai @lv35 @inf35)) (ai (ai @und41 @sz41) (ai @ag41 (ai @fo41 @bA41)))))) (ai (ai (ai (ai (ai @pT41_0 @pT41_1) (ai @pT41_2 @pT41_3)) (ai (ai @inf41 @und46) (ai @sz46 @ag46))) (ai (ai (ai @pT46 @inf46) (ai @und50 @sz50)) (ai (ai @ag50 @fo50) (ai @bA50 @pT50_0)))) (ai (ai (ai (ai @pT50_1 @pT50_2) (ai @inf50 @und56)) (ai (ai @sz56 @ag56) (ai @pT56 @inf56))) (ai (ai (ai @und58 @sz58) (ai @ag58 @fo58)) (ai (ai @bA58 @pT58_0) (ai @pT58_1 (ai @pT58_2 @inf58))))))))
set_option maxRecDepth 100000
set_option maxHeartbeats 40000000





/-- Facts that may be told. -/
structure InOK (fs : List Field) (L : List Fact) : Prop where
  told : ∀ x ∈ L, ftold fs x.name x.has = 0
  key : ∀ x ∈ L, keyZ x.key = true
  nd : (L.map Fact.name).Nodup
theorem any_take {L : List Fact} (hn : (L.map Fact.name).Nodup) {i : Nat} {x : Fact} (hx : L[i]? = some x) : (L.take i).any (fun y => y.name == x.name) = false := by
  rw [List.any_eq_false]
  intro y hy
  obtain ⟨j, hj, he2⟩ := List.getElem_of_mem hy
  rw [List.length_take] at hj
  rw [List.getElem_take] at he2
  obtain ⟨h1, h1'⟩ := List.getElem?_eq_some_iff.1 hx
  intro he
  exact (List.pairwise_iff_getElem.1 hn) j i (by simp; omega) (by simpa using h1) (by omega) (by simpa [h1', he2] using he)
theorem sfacts_ok {fs : List Field} {L : List Fact} (h : InOK fs L) : ∀ (rest : List Fact) (i : Nat), L.drop i = rest → sfacts fs L i rest = 0
  | [], i, _ => rfl
  | x :: r, i, hd => by
    have hx : L[i]? = some x := by
      have := congrArg List.head? hd
      rwa [List.head?_drop, List.head?_cons] at this
    have hm : x ∈ L := List.mem_of_getElem? hx
    have hd2 : L.drop (i + 1) = r := by
      have := congrArg List.tail hd
      rwa [List.tail_drop, List.tail_cons] at this
    unfold sfacts
    rw [if_pos (h.told x hm), if_pos (h.key x hm), any_take h.nd hx, if_neg (by decide), sfacts_ok h r (i + 1) hd2]
theorem sfacts_dup {fs : List Field} {L : List Fact} (h : InOK fs L) {z : Fact} (hz : z ∈ L) : ∀ (rest : List Fact) (i : Nat), i ≤ L.length → L.drop i = rest → sfacts fs (L ++ [z]) i (rest ++ [z]) = 6
  | [], i, hi, hd => by
    have hi2 : i = L.length := by
      have := congrArg List.length hd
      rw [List.length_drop, List.length_nil] at this
      omega
    have ha : ((L ++ [z]).take i).any (fun y => y.name == z.name) = true := by
      rw [hi2, List.take_left, List.any_eq_true]
      exact ⟨z, hz, by simp⟩
    show sfacts fs (L ++ [z]) i [z] = 6
    unfold sfacts
    rw [if_pos (h.told z hz), if_pos (h.key z hz), if_pos ha]
  | x :: r, i, hi, hd => by
    have hx : L[i]? = some x := by
      have := congrArg List.head? hd
      rwa [List.head?_drop, List.head?_cons] at this
    have hlt : i < L.length := (List.getElem?_eq_some_iff.1 hx).1
    have hm : x ∈ L := List.mem_of_getElem? hx
    have hd2 : L.drop (i + 1) = r := by
      have := congrArg List.tail hd
      rwa [List.tail_drop, List.tail_cons] at this
    show sfacts fs (L ++ [z]) i (x :: (r ++ [z])) = 6
    unfold sfacts
    rw [if_pos (h.told x hm), if_pos (h.key x hm), List.take_append_of_le_length hi, any_take h.nd hx, if_neg (by decide)]
    exact sfacts_dup h hz r (i + 1) hlt hd2
theorem finputs_mem {m : List Raw} (hr : ∀ r ∈ m, r.ok) : ∀ (fs : List Field) (k : Nat), ∀ x ∈ finputs m fs k, ∃ f ∈ fs, ∃ r : Raw, r.ok ∧ x = ⟨f.name, Val.zero, mkVal f.ty r⟩ ∧ f.kind = 1
  | [], k, x, h => by cases h
  | f :: r, k, x, h => by
    unfold finputs at h
    split at h
    · rename_i hk
      split at h
      · rcases List.mem_cons.1 h with rfl | h
        · exact ⟨f, by simp, _, gnext_ok hr k, rfl, hk⟩
        · obtain ⟨g, hg, w⟩ := finputs_mem hr r _ x h
          exact ⟨g, by simp [hg], w⟩
      · obtain ⟨g, hg, w⟩ := finputs_mem hr r _ x h
        exact ⟨g, by simp [hg], w⟩
    · obtain ⟨g, hg, w⟩ := finputs_mem hr r _ x h
      exact ⟨g, by simp [hg], w⟩
theorem finputs_sub (m : List Raw) : ∀ (fs : List Field) (k : Nat), List.Sublist ((finputs m fs k).map Fact.name) (fs.map Field.name)
  | [], k => by simp [finputs]
  | f :: r, k => by
    unfold finputs
    split
    · split
      · simp only [List.map_cons]
        exact (finputs_sub m r _).cons_cons _
      · exact (finputs_sub m r _).cons _
    · exact (finputs_sub m r _).cons _
theorem finputs_len (m : List Raw) (fs : List Field) (k : Nat) : (finputs m fs k).length ≤ fs.length := by
  have := (finputs_sub m fs k).length_le
  simpa using this
theorem finputs_ok {m : List Raw} (hr : ∀ r ∈ m, r.ok) {fs : List Field} (hn : (fs.map Field.name).Nodup) (ht : ∀ f ∈ fs, f.ty = 1 ∨ f.ty = 2 ∨ f.ty = 3) : InOK fs (finputs m fs 0) := by
  refine ⟨fun x hx => ?_, fun x hx => ?_, (finputs_sub m fs 0).nodup hn⟩
  · obtain ⟨f, hf, r, hrr, rfl, hk⟩ := finputs_mem hr fs 0 x hx
    obtain ⟨j, hj, he⟩ := List.getElem_of_mem hf
    have hx2 : fs[j]? = some f := by rw [List.getElem?_eq_getElem hj, he]
    unfold ftold
    simp only
    rw [ffind_at hn hx2, if_pos rfl]
    simp only [Int.toNat_natCast, hx2]
    unfold toldX
    rw [if_pos hk, if_pos (mkVal_known _ _ hrr (ht f hf)), if_pos (mkVal_kind _ _ (ht f hf))]
  · obtain ⟨f, hf, r, hrr, rfl, hk⟩ := finputs_mem hr fs 0 x hx
    rfl
theorem ffields_ty {l : List Raw} (hr : ∀ r ∈ l, r.ok) : ∀ f ∈ (mkForm l).fields, f.ty = 1 ∨ f.ty = 2 ∨ f.ty = 3 := by
  intro f hf
  have hff := (fields_perm l f).1 hf
  have h : ∀ (m : Nat) (fs : List Field) (k : Nat), (∀ f ∈ fs, f.ty = 1 ∨ f.ty = 2 ∨ f.ty = 3) → ∀ f ∈ (gfields l m fs k).1, f.ty = 1 ∨ f.ty = 2 ∨ f.ty = 3 := by
    intro m
    induction m with
    | zero => intro fs k h; exact h
    | succ m ih =>
      intro fs k h
      unfold gfields
      refine ih _ _ (fun f hf => ?_)
      rcases List.mem_append.1 hf with hf | hf
      · exact h f hf
      · rw [List.mem_singleton] at hf
        subst hf
        obtain ⟨j, h1, h2⟩ := pick_nat hr k 3 (by decide) (by decide) (fun r => r.b) (fun r h => h.b)
        have h1' : pick (gnext l k).b 3 = j := h1
        have h3 : (gfield l fs fs.length k).1.ty = 1 + pick (gnext l k).b 3 := rfl
        rw [h3, h1']
        omega
  exact h _ _ _ (by simp) f hff
theorem ret_FormOnce (l m : List Raw) (i : Int) (hl : l.length ≤ 9223372036854775807) (hr : ∀ r ∈ l, r.ok) (hm : m.length ≤ 9223372036854775807) (hs : ∀ r ∈ m, r.ok) (hi : -9223372036854775808 ≤ i ∧ i ≤ 9223372036854775807) : Ret tab 5 [.d (.sl 4 (l.map Raw.dv)), .d (.sl 4 (m.map Raw.dv)), .d (.int .i64 i)] (.d (.bool true)) := by
  have fF := fun (S : St) (d dst : Nat) => ca_Form (d := d) (dst := dst) (S := S) l hl hr
  have hlen := fields_len hr
  have hin := finputs_ok hs (fields_nodup hr) (ffields_ty hr)
  have hil := finputs_len m (mkForm l).fields 0
  have fI := fun (S : St) (d dst : Nat) => ca_Inputs (d := d) (dst := dst) (S := S) (mkForm l) m (by omega) hm hs
  have fC := fun (L : List Fact) (hL : L.length ≤ 1048576) (S : St) (d dst : Nat) => ca_Facts (d := d) (dst := dst) (S := S) (mkForm l) L (by omega) hL
  simp only [Frm.dv] at fF
  generalize (mkForm l).fields = fs at *
  generalize (mkForm l).pages = ps at *
  generalize finputs m fs 0 = L at *
  have hlL : L.length ≤ 10 := by omega
  have own1 : ∀ (G : List Fact) (tok : Option Id) (hG : G.length ≤ 1048576) (S : St) (d dst : Nat), callA tab (callR tab) d dst 21 [.d (.agg [.sl 9 (fs.map Field.dv), .sl 8 (ps.map Page.dv)]), .own 7 (G.map Fact.dv) tok] S = some (.d (.int .i64 (sfacts fs G 0 G)), S) := fun G tok hG S d dst =>
    ca_ret (ds := [(⟨fs, ps⟩ : Frm).dv, .sl 7 (G.map Fact.dv)]) (ret_Facts ⟨fs, ps⟩ G (by simp only; omega) hG) rfl (tab_opn (by kernel_rfl)) (tab_res (by kernel_rfl))
  have f1 := fun (tok : Option Id) => own1 L tok (by omega)
  rw [sfacts_ok hin L 0 rfl] at f1
  have f2 : ∀ (S : St) (d dst : Nat), callA tab (callR tab) d dst 21 [.d smallF.dv, .own 7 [.agg [.str [98], .int .i64 0, .int .i64 0, .str [], .int .i64 1, .int .i64 0, .str []]] none] S = some (.d (.int .i64 2), S) := fun S d dst =>
    ca_ret (ds := [smallF.dv, .sl 7 ([(⟨[98], Val.zero, ⟨1, 0, []⟩⟩ : Fact)].map Fact.dv)]) (ret_Facts smallF [⟨[98], Val.zero, ⟨1, 0, []⟩⟩] (by decide) (by decide)) rfl (tab_opn (by kernel_rfl)) (tab_res (by kernel_rfl))
  have fS := fun (S : St) (d dst : Nat) => ca_small (d := d) (dst := dst) (S := S)
  generalize smallF.dv = sd at *
  by_cases h0 : L = []
  · subst h0
    refine ret_of 1 fn5 rfl rfl ?_
    simp only [List.map_nil] at f1
    simp only [amr, amc, amp, if_true, if_false, ne_eq, gt_iff_lt, Option.getD, argsT, Option.bind, Option.map, List.headD, List.tail, opnsL, List.replicate, lendsL, seval, ty_FmO_5, fF, fI, f1, f2, fS, el_agg, bne_self_eq_false, beq_self_eq_true]
  · have hpos : 0 < L.length := List.length_pos_iff.2 h0
    have b0 : ((L.length : Int) == 0) = false := beq_eq_false_iff_ne.2 (by omega)
    have hp := pick_range i (L.length : Int) hi.1 hi.2 (by omega)
    have fp := fun (S : St) (d dst : Nat) => ca_picked (d := d) (dst := dst) (S := S) i (L.length : Int) (by omega)
    generalize pick i (L.length : Int) = q at *
    obtain ⟨j, rfl⟩ : ∃ j : Nat, q = j := ⟨q.toNat, by omega⟩
    have hj : j < L.length := by omega
    have hget : L[j]? = some L[j] := List.getElem?_eq_getElem hj
    have hmem : L[j] ∈ L := List.getElem_mem hj
    generalize L[j] = x at *
    have hget' : (L.map Fact.dv)[j]? = some x.dv := by rw [List.getElem?_map, hget]; rfl
    have f3 := fun (tok : Option Id) => own1 (L ++ [x]) tok (by simp; omega)
    rw [sfacts_dup hin hmem L 0 (Nat.zero_le _) rfl, List.map_append, List.map_cons, List.map_nil] at f3
    have hA : ((L.length + 1) * 80 ≤ 140737488355328) = True := eq_true (by omega)
    simp only [Fact.dv] at hget' f3
    refine ret_of 1 fn5 rfl rfl ?_
    simp only [amr, amc, amp, if_true, if_false, ne_eq, gt_iff_lt, Option.getD, argsT, Option.bind, Option.map, List.headD, List.tail, opnsL, List.replicate, lendsL, seval, ty_FmO_5, fF, fI, f1, f2, f3, fS, fp, b0, hget', hA, el_agg, bne_self_eq_false, beq_self_eq_true]
end Go.Proofs.Ytnombkkfijlkfaa.Am
