/- What is told of a form: made, and checked. -/
import Derived.Test.YtnombkkfijlkfaaFmT
set_option linter.unusedVariables false
set_option linter.unusedSimpArgs false
namespace Go.Proofs.Ytnombkkfijlkfaa.Am
open Go Go.RowKit
theorem ty_FmS_82 : type_of% (ai (ai (ai (ai (ai @rs82 (ai @lv82_0 @lv82_1)) (ai @lv82_2 (ai @lv82_3 @lv82_4))) (ai (ai @lv82_5 (ai @lv82_6 @lv82_7)) (ai (ai @kp82_2 @und3) (ai @sz3 @ag3)))) (ai (ai (ai @lv3 (ai @inf3 @und4)) (ai @sz4 (ai @ag4 @lv4))) (ai (ai @inf4 (ai @und9 @sz9)) (ai (ai @ag9 @lv9) (ai @inf9 @und29))))) (ai (ai (ai (ai @sz29 (ai @ag29 @fo29)) (ai @bA29 (ai @pT29_0 @pT29_1))) (ai (ai @pT29_2 (ai @lv29 @inf29)) (ai (ai @und46 @sz46) (ai @ag46 @pT46)))) (ai (ai (ai @inf46 (ai @und50 @sz50)) (ai (ai @ag50 @fo50) (ai @bA50 @pT50_0))) (ai (ai @pT50_1 (ai @pT50_2 @inf50)) (ai (ai @und91 @sz91) (ai @ag91 @inf91)))))) := (ai (ai (ai (ai (ai @rs82 (ai @lv82_0 @lv82_1)) (ai @lv82_2 (ai @lv82_3 @lv82_4))) (ai (ai @lv82_5 (ai @lv82_6 @lv82_7)) (ai (ai @kp82_2 @und3) (ai @sz3 @ag3)))) (ai (ai (ai @lv3 (ai @inf3 @und4)) (ai @sz4 (ai @ag4 @lv4))) (ai (ai @inf4 (ai @und9 @sz9)) (ai (ai @ag9 @lv9) (ai @inf9 @und29))))) (ai (ai (ai (ai @sz29 (ai @ag29 @fo29)) (ai @bA29 (ai @pT29_0 @pT29_1))) (ai (ai @pT29_2 (ai @lv29 @inf29)) (ai (ai @und46 @sz46) (ai @ag46 @pT46)))) (ai (ai (ai @inf46 (ai @und50 @sz50)) (ai (ai @ag50 @fo50) (ai @bA50 @pT50_0))) (ai (ai @pT50_1 (ai @pT50_2 @inf50)) (ai (ai @und91 @sz91) (ai @ag91 @inf91))))))
theorem ty_FmS_49 : type_of% (ai (ai (ai (ai (ai @rs49 @lv49_0) (ai @lv49_1 (ai @und3 @sz3))) (ai (ai @ag3 (ai @lv3 @inf3)) (ai @und4 (ai @sz4 @ag4)))) (ai (ai (ai @lv4 (ai @inf4 @und9)) (ai @sz9 (ai @ag9 @lv9))) (ai (ai @inf9 (ai @und29 @sz29)) (ai @ag29 (ai @fo29 @bA29))))) (ai (ai (ai (ai @pT29_0 @pT29_1) (ai @pT29_2 (ai @lv29 @inf29))) (ai (ai @und46 (ai @sz46 @ag46)) (ai @pT46 (ai @inf46 @und50)))) (ai (ai (ai @sz50 (ai @ag50 @fo50)) (ai @bA50 (ai @pT50_0 @pT50_1))) (ai (ai @pT50_2 (ai @inf50 @und91)) (ai @sz91 (ai @ag91 @inf91)))))) := (ai (ai (ai (ai (ai @rs49 @lv49_0) (ai @lv49_1 (ai @und3 @sz3))) (ai (ai @ag3 (ai @lv3 @inf3)) (ai @und4 (ai @sz4 @ag4)))) (ai (ai (ai @lv4 (ai @inf4 @und9)) (ai @sz9 (ai @ag9 @lv9))) (ai (ai @inf9 (ai @und29 @sz29)) (ai @ag29 (ai @fo29 @bA29))))) (ai (ai (ai (ai @pT29_0 @pT29_1) (ai @pT29_2 (ai @lv29 @inf29))) (ai (ai @und46 (ai @sz46 @ag46)) (ai @pT46 (ai @inf46 @und50)))) (ai (ai (ai @sz50 (ai @ag50 @fo50)) (ai @bA50 (ai @pT50_0 @pT50_1))) (ai (ai @pT50_2 (ai @inf50 @und91)) (ai @sz91 (ai @ag91 @inf91))))))
theorem ty_FmS_50 : type_of% (ai (ai (ai (ai (ai @rs50 @lv50_0) (ai @ro50_2_sheet_go_63 @lv50_1)) (ai (ai @und3 @sz3) (ai @ag3 (ai @lv3 @inf3)))) (ai (ai (ai @und4 @sz4) (ai @ag4 (ai @lv4 @inf4))) (ai (ai @und9 @sz9) (ai @ag9 (ai @lv9 @inf9))))) (ai (ai (ai (ai @und29 @sz29) (ai @ag29 @fo29)) (ai (ai @bA29 @pT29_0) (ai @pT29_1 (ai @pT29_2 @lv29)))) (ai (ai (ai @inf29 @und50) (ai @sz50 (ai @ag50 @fo50))) (ai (ai @bA50 @pT50_0) (ai @pT50_1 (ai @pT50_2 @inf50)))))) := (ai (ai (ai (ai (ai @rs50 @lv50_0) (ai @ro50_2_sheet_go_63 @lv50_1)) (ai (ai @und3 @sz3) (ai @ag3 (ai @lv3 @inf3)))) (ai (ai (ai @und4 @sz4) (ai @ag4 (ai @lv4 @inf4))) (ai (ai @und9 @sz9) (ai @ag9 (ai @lv9 @inf9))))) (ai (ai (ai (ai @und29 @sz29) (ai @ag29 @fo29)) (ai (ai @bA29 @pT29_0) (ai @pT29_1 (ai @pT29_2 @lv29)))) (ai (ai (ai @inf29 @und50) (ai @sz50 (ai @ag50 @fo50))) (ai (ai @bA50 @pT50_0) (ai @pT50_1 (ai @pT50_2 @inf50))))))
theorem ty_FmS_21 : type_of% (ai (ai (ai (ai (ai (ai (ai @rs21 @lv21_0) (ai @ro26_2_sheet_go_55 @lv21_1)) (ai (ai @lv21_2 @lv21_3) (ai @lv21_4 @lv21_5))) (ai (ai (ai @lv21_6 @lv21_7) (ai @lv21_8 @lv21_9)) (ai (ai @mu46_31 @lv21_10) (ai @lv21_11 @lv21_12)))) (ai (ai (ai (ai @kp21_2 @und1) (ai @sz1 @ag1)) (ai (ai @inf1 @und2) (ai @sz2 @ag2))) (ai (ai (ai @lv2 @inf2) (ai @und3 @sz3)) (ai (ai @ag3 @lv3) (ai @inf3 @und4))))) (ai (ai (ai (ai (ai @sz4 @ag4) (ai @lv4 @inf4)) (ai (ai @und9 @sz9) (ai @ag9 @lv9))) (ai (ai (ai @inf9 @und23) (ai @sz23 @ag23)) (ai (ai @pT23 @inf23) (ai @und24 @sz24)))) (ai (ai (ai (ai @ag24 @pT24) (ai @inf24 @und26)) (ai (ai @sz26 @ag26) (ai @fo26 @bA26))) (ai (ai (ai @pT26_0 @pT26_1) (ai @inf26 @und29)) (ai (ai @sz29 @ag29) (ai @fo29 (ai @bA29 @pT29_0))))))) (ai (ai (ai (ai (ai (ai @pT29_1 @pT29_2) (ai @lv29 @inf29)) (ai (ai @und30 @sz30) (ai @ag30 @pT30))) (ai (ai (ai @inf30 @und32) (ai @sz32 @ag32)) (ai (ai @fo32 @bA32) (ai @pT32_0 @pT32_1)))) (ai (ai (ai (ai @pT32_2 @pT32_3) (ai @inf32 @und34)) (ai (ai @sz34 @ag34) (ai @fo34 @bA34))) (ai (ai (ai @pT34_0 @pT34_1) (ai @pT34_2 @pT34_3)) (ai (ai @inf34 @und35) (ai @sz35 (ai @ag35 @lv35)))))) (ai (ai (ai (ai (ai @inf35 @und46) (ai @sz46 @ag46)) (ai (ai @pT46 @inf46) (ai @und50 @sz50))) (ai (ai (ai @ag50 @fo50) (ai @bA50 @pT50_0)) (ai (ai @pT50_1 @pT50_2) (ai @inf50 @und56)))) (ai (ai (ai (ai @sz56 @ag56) (ai @pT56 @inf56)) (ai (ai @und58 @sz58) (ai @ag58 @fo58))) (ai (ai (ai @bA58 @pT58_0) (ai @pT58_1 @pT58_2)) (ai (ai @inf58 @und91) (ai @sz91 (ai @ag91 @inf91)))))))) := (ai (ai (ai (ai (ai (ai (ai @rs21 @lv21_0) (ai @ro26_2_sheet_go_55 @lv21_1)) (ai (ai @lv21_2 @lv21_3) (ai @lv21_4 @lv21_5))) (ai (ai (ai @lv21_6 @lv21_7) (ai @lv21_8 @lv21_9)) (ai (ai @mu46_31 @lv21_10) (ai @lv21_11 @lv21_12)))) (ai (ai (ai (ai @kp21_2 @und1) (ai @sz1 @ag1)) (ai (ai @inf1 @und2) (ai @sz2 @ag2))) (ai (ai (ai @lv2 @inf2) (ai @und3 @sz3)) (ai (ai @ag3 @lv3) (ai @inf3 @und4))))) (ai (ai (ai (ai (ai @sz4 @ag4) (ai @lv4 @inf4)) (ai (ai @und9 @sz9) (ai @ag9 @lv9))) (ai (ai (ai @inf9 @und23) (ai @sz23 @ag23)) (ai (ai @pT23 @inf23) (ai @und24 @sz24)))) (ai (ai (ai (ai @ag24 @pT24) (ai @inf24 @und26)) (ai (ai @sz26 @ag26) (ai @fo26 @bA26))) (ai (ai (ai @pT26_0 @pT26_1) (ai @inf26 @und29)) (ai (ai @sz29 @ag29) (ai @fo29 (ai @bA29 @pT29_0))))))) (ai (ai (ai (ai (ai (ai @pT29_1 @pT29_2) (ai @lv29 @inf29)) (ai (ai @und30 @sz30) (ai @ag30 @pT30))) (ai (ai (ai @inf30 @und32) (ai @sz32 @ag32)) (ai (ai @fo32 @bA32) (ai @pT32_0 @pT32_1)))) (ai (ai (ai (ai @pT32_2 @pT32_3) (ai @inf32 @und34)) (ai (ai @sz34 @ag34) (ai @fo34 @bA34))) (ai (ai (ai @pT34_0 @pT34_1) (ai @pT34_2 @pT34_3)) (ai (ai @inf34 @und35) (ai @sz35 (ai @ag35 @lv35)))))) (ai (ai (ai (ai (ai @inf35 @und46) (ai @sz46 @ag46)) (ai (ai @pT46 @inf46) (ai @und50 @sz50))) (ai (ai (ai @ag50 @fo50) (ai @bA50 @pT50_0)) (ai (ai @pT50_1 @pT50_2) (ai @inf50 @und56)))) (ai (ai (ai (ai @sz56 @ag56) (ai @pT56 @inf56)) (ai (ai @und58 @sz58) (ai @ag58 @fo58))) (ai (ai (ai @bA58 @pT58_0) (ai @pT58_1 @pT58_2)) (ai (ai @inf58 @und91) (ai @sz91 (ai @ag91 @inf91))))))))
theorem ty_FmS_20 : type_of% (ai (ai (ai (ai (ai (ai (ai @rs20 @lv20_0) (ai @ro26_2_raw_go_183 @lv20_1)) (ai (ai @ro80_12_raw_go_184 @lv20_2) (ai @lv20_3 (ai @lv20_4 @lv20_5)))) (ai (ai (ai @lv20_6 @lv20_7) (ai @dr20_8 @lv20_8)) (ai (ai @mu46_40 @lv20_9) (ai @lv20_10 (ai @kp20_4 @und1))))) (ai (ai (ai (ai @sz1 @ag1) (ai @inf1 @und2)) (ai (ai @sz2 @ag2) (ai @lv2 (ai @inf2 @und3)))) (ai (ai (ai @sz3 @ag3) (ai @lv3 (ai @inf3 @und4))) (ai (ai @sz4 @ag4) (ai @lv4 (ai @inf4 @und9)))))) (ai (ai (ai (ai (ai @sz9 @ag9) (ai @lv9 @inf9)) (ai (ai @und22 @sz22) (ai @ag22 (ai @pT22 @inf22)))) (ai (ai (ai @und23 @sz23) (ai @ag23 @pT23)) (ai (ai @inf23 @und24) (ai @sz24 (ai @ag24 @pT24))))) (ai (ai (ai (ai @inf24 @und26) (ai @sz26 @ag26)) (ai (ai @fo26 @bA26) (ai @pT26_0 (ai @pT26_1 @inf26)))) (ai (ai (ai @und29 @sz29) (ai @ag29 (ai @fo29 @bA29))) (ai (ai @pT29_0 @pT29_1) (ai @pT29_2 (ai @lv29 @inf29))))))) (ai (ai (ai (ai (ai (ai @und30 @sz30) (ai @ag30 @pT30)) (ai (ai @inf30 @und32) (ai @sz32 (ai @ag32 @fo32)))) (ai (ai (ai @bA32 @pT32_0) (ai @pT32_1 @pT32_2)) (ai (ai @pT32_3 @inf32) (ai @und34 (ai @sz34 @ag34))))) (ai (ai (ai (ai @fo34 @bA34) (ai @pT34_0 @pT34_1)) (ai (ai @pT34_2 @pT34_3) (ai @inf34 (ai @und41 @sz41)))) (ai (ai (ai @ag41 @fo41) (ai @bA41 (ai @pT41_0 @pT41_1))) (ai (ai @pT41_2 @pT41_3) (ai @inf41 (ai @und46 @sz46)))))) (ai (ai (ai (ai (ai @ag46 @pT46) (ai @inf46 @und50)) (ai (ai @sz50 @ag50) (ai @fo50 (ai @bA50 @pT50_0)))) (ai (ai (ai @pT50_1 @pT50_2) (ai @inf50 (ai @und56 @sz56))) (ai (ai @ag56 @pT56) (ai @inf56 (ai @und58 @sz58))))) (ai (ai (ai (ai @ag58 @fo58) (ai @bA58 @pT58_0)) (ai (ai @pT58_1 @pT58_2) (ai @inf58 (ai @und78 @sz78)))) (ai (ai (ai @ag78 @inf78) (ai @und80 (ai @sz80 @ag80))) (ai (ai @fo80 @bA80) (ai @pT80_0 (ai @pT80_1 @inf80)))))))) := (ai (ai (ai (ai (ai (ai (ai @rs20 @lv20_0) (ai @ro26_2_raw_go_183 @lv20_1)) (ai (ai @ro80_12_raw_go_184 @lv20_2) (ai @lv20_3 (ai @lv20_4 @lv20_5)))) (ai (ai (ai @lv20_6 @lv20_7) (ai @dr20_8 @lv20_8)) (ai (ai @mu46_40 @lv20_9) (ai @lv20_10 (ai @kp20_4 @und1))))) (ai (ai (ai (ai @sz1 @ag1) (ai @inf1 @und2)) (ai (ai @sz2 @ag2) (ai @lv2 (ai @inf2 @und3)))) (ai (ai (ai @sz3 @ag3) (ai @lv3 (ai @inf3 @und4))) (ai (ai @sz4 @ag4) (ai @lv4 (ai @inf4 @und9)))))) (ai (ai (ai (ai (ai @sz9 @ag9) (ai @lv9 @inf9)) (ai (ai @und22 @sz22) (ai @ag22 (ai @pT22 @inf22)))) (ai (ai (ai @und23 @sz23) (ai @ag23 @pT23)) (ai (ai @inf23 @und24) (ai @sz24 (ai @ag24 @pT24))))) (ai (ai (ai (ai @inf24 @und26) (ai @sz26 @ag26)) (ai (ai @fo26 @bA26) (ai @pT26_0 (ai @pT26_1 @inf26)))) (ai (ai (ai @und29 @sz29) (ai @ag29 (ai @fo29 @bA29))) (ai (ai @pT29_0 @pT29_1) (ai @pT29_2 (ai @lv29 @inf29))))))) (ai (ai (ai (ai (ai (ai @und30 @sz30) (ai @ag30 @pT30)) (ai (ai @inf30 @und32) (ai @sz32 (ai @ag32 @fo32)))) (ai (ai (ai @bA32 @pT32_0) (ai @pT32_1 @pT32_2)) (ai (ai @pT32_3 @inf32) (ai @und34 (ai @sz34 @ag34))))) (ai (ai (ai (ai @fo34 @bA34) (ai @pT34_0 @pT34_1)) (ai (ai @pT34_2 @pT34_3) (ai @inf34 (ai @und41 @sz41)))) (ai (ai (ai @ag41 @fo41) (ai @bA41 (ai @pT41_0 @pT41_1))) (ai (ai @pT41_2 @pT41_3) (ai @inf41 (ai @und46 @sz46)))))) (ai (ai (ai (ai (ai @ag46 @pT46) (ai @inf46 @und50)) (ai (ai @sz50 @ag50) (ai @fo50 (ai @bA50 @pT50_0)))) (ai (ai (ai @pT50_1 @pT50_2) (ai @inf50 (ai @und56 @sz56))) (ai (ai @ag56 @pT56) (ai @inf56 (ai @und58 @sz58))))) (ai (ai (ai (ai @ag58 @fo58) (ai @bA58 @pT58_0)) (ai (ai @pT58_1 @pT58_2) (ai @inf58 (ai @und78 @sz78)))) (ai (ai (ai @ag78 @inf78) (ai @und80 (ai @sz80 @ag80))) (ai (ai @fo80 @bA80) (ai @pT80_0 (ai @pT80_1 @inf80))))))))
set_option maxRecDepth 100000
set_option maxHeartbeats 40000000





section
variable {d : Nat} {g : List Nat} {id : Id} {cs : List AV} {f : Nat}
theorem run_idxVA (hd : id.d < d) (p : Fact → Bool) (hp : ∀ (T : Tm) (g : List Nat) (dst : Nat) (t : Fact), callA tab (callR tab) d dst f [.d (Fact.dv t), .ptr id 0] ⟨T, [(id, .box cs)], g⟩ = some (.d (.bool (p t)), ⟨T, [(id, .box cs)], 1 :: g⟩))
    (l : List Fact) (hl : l.length ≤ 9223372036854775807) :
    ∃ H', callR tab d 82 [.d (.sl 7 (l.map Fact.dv)), .fn f [.ptr id 0]] [(id, .box cs)] g = some (.d (.int .i64 (fidx p l 0)), H') ∧ H'.get id = some (.box cs) := by
  refine ret_good rfl (l.length + 1) fn82 rfl rfl ?_
  have hd1 : decide (id.d < d) = true := decide_eq_true hd
  simp only [Fact.dv] at hp
  simp only [amr, amc, amp, if_true, if_false, ne_eq, gt_iff_lt, Option.getD, argsT, Option.bind, Option.map, List.headD, List.tail, opnsL, List.replicate, lendsL, seval, ty_FmS_82]
  refine good_range l (fun k (_ : Unit) g => ⟨[(0, .d (.sl 7 (l.map Fact.dv))), (1, .fn f [.ptr id 0]), (7, .d (.int .i64 l.length)), (8, .d (.int .i64 (k : Nat)))], [(id, .box cs)], g⟩) (fun _ _ => True) (fun k _ r => (if fidx p r k = -1 then .inr () else .inl (fidx p r k) : Sum Int Unit))
    (QO .ret (fun e g => ⟨[(4, .d (.int .i64 e))], [(id, .box cs)], g⟩) (.exit 0) (fun _ g => ⟨[], [(id, .box cs)], g⟩)) () kp82_2 up_qo trivial (by omega) (by omega) ?_ ?_ ?_ ?_
  · rintro k a g x rest hk hget hdr _ hb w1
    have hget' : (l.map Fact.dv)[k]? = some (Fact.dv x) := by rw [List.getElem?_map, hget]; rfl
    cases hq : p x with
    | true =>
      simp only [amr, amc, amp, if_true, if_false, ne_eq, gt_iff_lt, Option.getD, argsT, Option.bind, Option.map, List.headD, List.tail, opnsL, List.replicate, lendsL, seval, ty_FmS_82, Fact.dv, hb, hget', hp, hq, w1, hd1]
      refine step_end (r := .inl (k : Int)) (by simp) ?_ ⟨rfl, ?_⟩
      · simp only [fidx, hq, if_true]; rw [if_neg (by omega)]
      · (apply Exists.intro; (try simp only [amr, amc, amp, if_true, if_false, ne_eq, gt_iff_lt, Option.getD, argsT, Option.bind, Option.map, List.headD, List.tail, opnsL, List.replicate, lendsL, seval, hd1]); exact sub_mk (by repeat first | exact subT_nil | refine subT_cons (by first | rfl | simp [Tm.get, *]) ?_))
    | false =>
      simp only [amr, amc, amp, if_true, if_false, ne_eq, gt_iff_lt, Option.getD, argsT, Option.bind, Option.map, List.headD, List.tail, opnsL, List.replicate, lendsL, seval, ty_FmS_82, Fact.dv, hb, hget', hp, hq, w1, hd1]
      refine step_nrm () trivial ?_ ?_
      · simp only [fidx, hq, Bool.false_eq_true, if_false]
      · (apply Exists.intro; (try simp only [amr, amc, amp, if_true, if_false, ne_eq, gt_iff_lt, Option.getD, argsT, Option.bind, Option.map, List.headD, List.tail, opnsL, List.replicate, lendsL, seval, hd1]); exact sub_mk (by repeat first | exact subT_nil | refine subT_cons (by first | rfl | simp [Tm.get, *]) ?_))
  · intro a g _ hb
    simp only [amr, amc, amp, if_true, if_false, ne_eq, gt_iff_lt, Option.getD, argsT, Option.bind, Option.map, List.headD, List.tail, opnsL, List.replicate, lendsL, seval, ty_FmS_82, hb]
    refine last_end (by simp) ?_
    simp only [fidx, if_true]
    refine ⟨rfl, ?_⟩
    (apply Exists.intro; (try simp only [amr, amc, amp, if_true, if_false, ne_eq, gt_iff_lt, Option.getD, argsT, Option.bind, Option.map, List.headD, List.tail, opnsL, List.replicate, lendsL, seval, hd1]); exact sub_mk (by repeat first | exact subT_nil | refine subT_cons (by first | rfl | simp [Tm.get, *]) ?_))
  · (apply Exists.intro; (try simp only [amr, amc, amp, if_true, if_false, ne_eq, gt_iff_lt, Option.getD, argsT, Option.bind, Option.map, List.headD, List.tail, opnsL, List.replicate, lendsL, seval, hd1]); exact sub_mk (by repeat first | exact subT_nil | refine subT_cons (by first | rfl | simp [Tm.get, *]) ?_))
  · intro o S' hq
    by_cases hz : fidx p l 0 = -1
    · rw [if_pos hz] at hq
      obtain ⟨rfl, g, hs⟩ := hq
      refine good_sub_cr up_fin hs ?_
      rw [hz]
      simp only [amr, amc, amp, if_true, if_false, ne_eq, gt_iff_lt, Option.getD, argsT, Option.bind, Option.map, List.headD, List.tail, opnsL, List.replicate, lendsL, seval, ty_FmS_82]
    · rw [if_neg hz] at hq
      obtain ⟨rfl, g, hs⟩ := hq
      refine good_sub_cr up_fin hs ?_
      simp only [amr, amc, amp, if_true, if_false, ne_eq, gt_iff_lt, Option.getD, argsT, Option.bind, Option.map, List.headD, List.tail, opnsL, List.replicate, lendsL, seval, ty_FmS_82]
theorem run_conVA (hd : id.d < d) (hcs : idsL cs = []) (p : Fact → Bool) (hp : ∀ (T : Tm) (g : List Nat) (dst : Nat) (t : Fact), callA tab (callR tab) (d + 1) dst f [.d (Fact.dv t), .ptr id 0] ⟨T, [(id, .box cs)], g⟩ = some (.d (.bool (p t)), ⟨T, [(id, .box cs)], 1 :: g⟩))
    (l : List Fact) (hl : l.length ≤ 9223372036854775807) :
    ∃ H', callR tab d 49 [.d (.sl 7 (l.map Fact.dv)), .fn f [.ptr id 0]] [(id, .box cs)] g = some (.d (.bool (l.any p)), H') ∧ H'.get id = some (.box cs) := by
  refine ret_good rfl 1 fn49 rfl rfl ?_
  have f1 : ∀ (T : Tm) (g : List Nat) (dst : Nat), callA tab (callR tab) d dst 82 [.d (.sl 7 (l.map Fact.dv)), .fn f [.ptr id 0]] ⟨T, [(id, .box cs)], g⟩ = some (.d (.int .i64 (fidx p l 0)), ⟨T, [(id, .box cs)], 1 :: g⟩) := fun T g dst => by
    obtain ⟨H', h1, h2⟩ := run_idxVA (g := 0 :: g) (Nat.lt_succ_of_lt hd) p hp l hl
    have h := ca_open1 (d := d) (dst := dst) (S := ⟨T, [(id, .box cs)], g⟩) (id := id) (cs := cs) (cs' := cs) (by split <;> rfl) (lent_off (tab_lend (by kernel_rfl))) rfl hcs hcs ⟨_, H', h1, soft_d, h2⟩ rfl (by simp only [Heap.get, if_true])
    rw [h]
    simp only [upd, Heap.get, if_true, Option.getD_some]
  have hz := fidx_any p l 0
  simp only [amr, amc, amp, if_true, if_false, ne_eq, gt_iff_lt, Option.getD, argsT, Option.bind, Option.map, List.headD, List.tail, opnsL, List.replicate, lendsL, seval, ty_FmS_49, f1, ge_iff_le] at hz ⊢
  simp only [hz]
end
theorem ffind_or (l : List Field) (s : Str) : ffind l s = (0, 5) ∨ ∃ (j : Nat) (x : Field), ffind l s = ((j : Int), 0) ∧ l[j]? = some x := by
  have h := fidx_lt (fun f : Field => f.name == s) l 0
  unfold ffind
  by_cases c : fidx (fun f => f.name == s) l 0 < 0
  · exact .inl (if_pos c)
  · refine .inr ?_
    rw [if_neg c]
    obtain ⟨j, hj⟩ : ∃ j : Nat, fidx (fun f => f.name == s) l 0 = j := ⟨(fidx (fun f => f.name == s) l 0).toNat, by omega⟩
    rw [hj] at h ⊢
    exact ⟨j, l[j]'(by omega), rfl, List.getElem?_eq_getElem _⟩
def ftold (l : List Field) (s : Str) (v : Val) : Int := if (ffind l s).2 = 0 then (match l[(ffind l s).1.toNat]? with
  | some x => toldX x v
  | none => 0) else 5
theorem ca_Told {d dst : Nat} {S : St} (l : List Field) (s : Str) (v : Val) (hl : l.length ≤ 1048576) : callA tab (callR tab) d dst 19 [.d (.sl 9 (l.map Field.dv)), .d (.str s), .d (.agg [.int .i64 v.kind, .int .i64 v.n, .str v.s])] S = some (.d (.int .i64 (ftold l s v)), S) := by
  unfold ftold
  rcases ffind_or l s with h | ⟨j, x, h, hx⟩
  · rw [h, if_neg (by decide)]
    exact ca_ToldNo l s v hl h
  · rw [h, if_pos rfl]
    simp only [Int.toNat_natCast, hx]
    exact ca_ToldAt l s v j x hl hx h
/-- One fact, as a variable. -/
def xbox (x : Fact) : List AV := [.d (.str x.name), .d (.int .i64 x.key.kind), .d (.int .i64 x.key.n), .d (.str x.key.s), .d (.int .i64 x.has.kind), .d (.int .i64 x.has.n), .d (.str x.has.s)]
theorem ca_ft {d dst : Nat} {T : Tm} {g : List Nat} (id : Id) (h : id.d ≤ d) (x y : Fact) : callA tab (callR tab) d dst 50 [.d y.dv, .ptr id 0] ⟨T, [(id, .box (xbox x))], g⟩ = some (.d (.bool (y.name == x.name)), ⟨T, [(id, .box (xbox x))], 1 :: g⟩) := by
  have hr : ∃ H', callR tab (d + 1) 50 [.d y.dv, .ptr id 0] [(id, .box (xbox x))] (0 :: g) = some (.d (.bool (y.name == x.name)), H') ∧ H'.get id = some (.box (xbox x)) := by
    refine ret_good rfl 1 fn50 rfl rfl ?_
    obtain ⟨i0, i1, i2⟩ := id
    have e1 : (i0 = d + 1) = False := eq_false (by simp only at h; omega)
    have e2 : (d + 1 = i0) = False := eq_false (by simp only at h; omega)
    simp only [amr, amc, amp, if_true, if_false, ne_eq, gt_iff_lt, Option.getD, argsT, Option.bind, Option.map, List.headD, List.tail, opnsL, List.replicate, lendsL, seval, ty_FmS_50, Fact.dv, xbox, e1, e2]
  obtain ⟨H', h1, h2⟩ := hr
  have h3 := ca_open1 (d := d) (dst := dst) (S := ⟨T, [(id, .box (xbox x))], g⟩) (id := id) (cs := xbox x) (cs' := xbox x) (by split <;> rfl) (lent_off (tab_lend (by kernel_rfl))) rfl rfl rfl ⟨_, H', h1, soft_d, h2⟩ rfl (by simp only [Heap.get, if_true])
  rw [h3]
  simp only [upd, Heap.get, if_true, Option.getD_some]
theorem ca_any {dst : Nat} {S : St} (q : List Nat) (x : Fact) (L : List Fact) (hl : L.length ≤ 1048576) (hS : S.H.get ⟨0, 6, q⟩ = some (.box (xbox x))) : callA tab (callR tab) 0 dst 49 [.d (.sl 7 (L.map Fact.dv)), .fn 50 [.ptr ⟨0, 6, q⟩ 0]] S =
    some (.d (.bool (L.any fun y => y.name == x.name)), ⟨S.T, upd [(⟨0, 6, q⟩, .box (xbox x))] S.H, 1 :: S.g⟩) := by
  obtain ⟨H', h1, h2⟩ := run_conVA (d := 1) (g := 0 :: S.g) (id := ⟨0, 6, q⟩) (cs := xbox x) (f := 50) (show 0 < 1 by decide) rfl (fun y => y.name == x.name) (fun T g dst t => ca_ft ⟨0, 6, q⟩ (by simp) x t) L (by omega)
  exact ca_open1 (by split <;> rfl) (lent_off (tab_lend (by kernel_rfl))) rfl rfl rfl ⟨_, H', h1, soft_d, h2⟩ rfl hS
def keyZ (v : Val) : Bool := v.kind == 0 && (v.n == 0 && v.s == [])
/-- What is told, checked from a place on. -/
def sfacts (fs : List Field) (L : List Fact) : Nat → List Fact → Int
  | _, [] => 0
  | i, x :: r => if ftold fs x.name x.has = 0 then (if keyZ x.key = true then (if (L.take i).any (fun y => y.name == x.name) = true then 6 else sfacts fs L (i + 1) r) else 3) else ftold fs x.name x.has
theorem ret_Facts (f : Frm) (L : List Fact) (hf : f.fields.length ≤ 1048576) (hL : L.length ≤ 1048576) : Ret tab 21 [.d f.dv, .d (.sl 7 (L.map Fact.dv))] (.d (.int .i64 (sfacts f.fields L 0 L))) := by
  unfold Frm.dv
  generalize f.pages = ps at *
  generalize f.fields = fs at *
  have f0 := fun (s : Str) (v : Val) (S : St) (d dst : Nat) => ca_Told (d := d) (dst := dst) (S := S) fs s v hf
  refine ret_of (L.length + 1) fn21 rfl rfl ?_
  simp only [amr, amc, amp, if_true, if_false, ne_eq, gt_iff_lt, Option.getD, argsT, Option.bind, Option.map, List.headD, List.tail, opnsL, List.replicate, lendsL, seval, ty_FmS_21]
  refine good_range L (fun k (_ : Unit) g => ⟨[(1, .d (.sl 7 (L.map Fact.dv))), (2, .d (.rp [.sl 9 (fs.map Field.dv), .sl 8 (ps.map Page.dv)])), (8, .d (.sl 7 (L.map Fact.dv))), (9, .d (.int .i64 L.length)), (10, .d (.int .i64 (k : Nat)))], [], g⟩) (fun _ _ => True)
    (fun k _ r => (if sfacts fs L k r = 0 then .inr () else .inl (sfacts fs L k r) : Sum Int Unit)) (QO' (fun e => [(4, .d (.int .i64 e))]) (.exit 0) []) () kp21_2 up_qo' trivial (by omega) (by omega) ?_ ?_ ?_ ?_
  · rintro k a g x rest hk hget hdr _ hb w1
    have hget' : (L.map Fact.dv)[k]? = some x.dv := by rw [List.getElem?_map, hget]; rfl
    have hkl : ((k : Int) ≤ (L.length : Int)) = True := eq_true (by omega)
    have htk : List.take k (L.map Fact.dv) = (L.take k).map Fact.dv := List.map_take.symm
    have f1 := f0 x.name x.has
    have f2 := fun (T : Tm) (q p : List Nat) (H : Heap) (dst : Nat) (hS : Heap.get H ⟨0, 6, q⟩ = some (.box (xbox x))) => ca_any (dst := dst) (S := ⟨T, H, p⟩) q x (L.take k) (by rw [List.length_take]; omega) hS
    simp only [xbox] at f2
    have hsp : sfacts fs L k (x :: rest) = if ftold fs x.name x.has = 0 then (if keyZ x.key = true then (if (L.take k).any (fun y => y.name == x.name) = true then 6 else sfacts fs L (k + 1) rest) else 3) else ftold fs x.name x.has := rfl
    generalize ftold fs x.name x.has = e at *
    generalize (L.take k).any (fun y => y.name == x.name) = an at *
    by_cases c1 : e = 0
    · have b1 : (e != 0) = false := by simp [c1]
      rw [if_pos c1] at hsp
      cases c2 : keyZ x.key with
      | true =>
        rw [if_pos c2] at hsp
        have b2 : (x.key.kind == 0 && (x.key.n == 0 && x.key.s == [])) = true := c2
        cases an with
        | true =>
          rw [if_pos rfl] at hsp
          simp only [amr, amc, amp, if_true, if_false, ne_eq, gt_iff_lt, Option.getD, argsT, Option.bind, Option.map, List.headD, List.tail, opnsL, List.replicate, lendsL, seval, ty_FmS_21, Fact.dv, hb, hget', hkl, htk, f1, f2, b1, b2, upd, Option.getD_some]
          refine step_end (r := .inl 6) (by simp) (by rw [hsp]; rfl) ⟨rfl, ?_⟩
          (apply Exists.intro; apply Exists.intro; (try simp only [amr, amc, amp, if_true, if_false, ne_eq, gt_iff_lt, Option.getD, argsT, Option.bind, Option.map, List.headD, List.tail, opnsL, List.replicate, lendsL, seval]); exact sub_mk (by repeat first | exact subT_nil | refine subT_cons (by first | rfl | simp [Tm.get, *]) ?_))
        | false =>
          rw [if_neg (by decide)] at hsp
          simp only [amr, amc, amp, if_true, if_false, ne_eq, gt_iff_lt, Option.getD, argsT, Option.bind, Option.map, List.headD, List.tail, opnsL, List.replicate, lendsL, seval, ty_FmS_21, Fact.dv, hb, hget', hkl, htk, f1, f2, b1, b2, w1, upd, Option.getD_some]
          refine step_nrm () trivial (by rw [hsp]) ?_
          (apply Exists.intro; (try simp only [amr, amc, amp, if_true, if_false, ne_eq, gt_iff_lt, Option.getD, argsT, Option.bind, Option.map, List.headD, List.tail, opnsL, List.replicate, lendsL, seval]); exact sub_mk (by repeat first | exact subT_nil | refine subT_cons (by first | rfl | simp [Tm.get, *]) ?_))
      | false =>
        rw [if_neg (by rw [c2]; decide)] at hsp
        have b2 : (x.key.kind == 0 && (x.key.n == 0 && x.key.s == [])) = false := c2
        simp only [amr, amc, amp, if_true, if_false, ne_eq, gt_iff_lt, Option.getD, argsT, Option.bind, Option.map, List.headD, List.tail, opnsL, List.replicate, lendsL, seval, ty_FmS_21, Fact.dv, hb, hget', f1, b1, b2]
        refine step_end (r := .inl 3) (by simp) (by rw [hsp]; rfl) ⟨rfl, ?_⟩
        (apply Exists.intro; apply Exists.intro; (try simp only [amr, amc, amp, if_true, if_false, ne_eq, gt_iff_lt, Option.getD, argsT, Option.bind, Option.map, List.headD, List.tail, opnsL, List.replicate, lendsL, seval]); exact sub_mk (by repeat first | exact subT_nil | refine subT_cons (by first | rfl | simp [Tm.get, *]) ?_))
    · have b1 : (e != 0) = true := by simp [c1]
      rw [if_neg c1] at hsp
      simp only [amr, amc, amp, if_true, if_false, ne_eq, gt_iff_lt, Option.getD, argsT, Option.bind, Option.map, List.headD, List.tail, opnsL, List.replicate, lendsL, seval, ty_FmS_21, Fact.dv, hb, hget', f1, b1]
      refine step_end (r := .inl e) (by simp) (by rw [hsp, if_neg c1]) ⟨rfl, ?_⟩
      (apply Exists.intro; apply Exists.intro; (try simp only [amr, amc, amp, if_true, if_false, ne_eq, gt_iff_lt, Option.getD, argsT, Option.bind, Option.map, List.headD, List.tail, opnsL, List.replicate, lendsL, seval]); exact sub_mk (by repeat first | exact subT_nil | refine subT_cons (by first | rfl | simp [Tm.get, *]) ?_))
  · intro a g _ hb
    simp only [amr, amc, amp, if_true, if_false, ne_eq, gt_iff_lt, Option.getD, argsT, Option.bind, Option.map, List.headD, List.tail, opnsL, List.replicate, lendsL, seval, ty_FmS_21, hb]
    refine last_end (by simp) ?_
    simp only [sfacts, if_true]
    refine ⟨rfl, ?_⟩
    (apply Exists.intro; (try simp only [amr, amc, amp, if_true, if_false, ne_eq, gt_iff_lt, Option.getD, argsT, Option.bind, Option.map, List.headD, List.tail, opnsL, List.replicate, lendsL, seval]); exact sub_mk (by repeat first | exact subT_nil | refine subT_cons (by first | rfl | simp [Tm.get, *]) ?_))
  · (apply Exists.intro; (try simp only [amr, amc, amp, if_true, if_false, ne_eq, gt_iff_lt, Option.getD, argsT, Option.bind, Option.map, List.headD, List.tail, opnsL, List.replicate, lendsL, seval]); exact sub_mk (by repeat first | exact subT_nil | refine subT_cons (by first | rfl | simp [Tm.get, *]) ?_))
  · intro o S' hq
    by_cases hz : sfacts fs L 0 L = 0
    · rw [if_pos hz] at hq
      obtain ⟨rfl, g, hs⟩ := hq
      refine good_sub_cr up_fin hs ?_
      rw [hz]
      simp only [amr, amc, amp, if_true, if_false, ne_eq, gt_iff_lt, Option.getD, argsT, Option.bind, Option.map, List.headD, List.tail, opnsL, List.replicate, lendsL, seval, ty_FmS_21]
    · rw [if_neg hz] at hq
      obtain ⟨rfl, H, g, hs⟩ := hq
      refine good_sub_cr up_fin hs ?_
      simp only [amr, amc, amp, if_true, if_false, ne_eq, gt_iff_lt, Option.getD, argsT, Option.bind, Option.map, List.headD, List.tail, opnsL, List.replicate, lendsL, seval, ty_FmS_21]
theorem ca_Facts {d dst : Nat} {S : St} (f : Frm) (L : List Fact) (hf : f.fields.length ≤ 1048576) (hL : L.length ≤ 1048576) : callA tab (callR tab) d dst 21 [.d (.agg [.sl 9 (f.fields.map Field.dv), .sl 8 (f.pages.map Page.dv)]), .d (.sl 7 (L.map Fact.dv))] S = some (.d (.int .i64 (sfacts f.fields L 0 L)), S) :=
  ca_ret (ds := [f.dv, .sl 7 (L.map Fact.dv)]) (ret_Facts f L hf hL) rfl (tab_opn (by kernel_rfl)) (tab_res (by kernel_rfl))
/-- What is told of inputs. -/
def finputs (m : List Raw) : List Field → Nat → List Fact
  | [], _ => []
  | x :: r, k => if x.kind = 1 then (if pick (gnext m k).kind 4 > 0 then ⟨x.name, Val.zero, mkVal x.ty (gnext m k)⟩ :: finputs m r (gat m k) else finputs m r (gat m k)) else finputs m r (gat m k)
structure IS where
  acc : List Fact
  t : Option (List Nat)
  n : Nat
  g : List Nat
theorem up_tok3 {k : Out} {α : Type} {mk : α → List Nat → Nat → St} : Up (fun q S => q = k ∧ ∃ t g n, Sub (mk t g n) S) := fun o S S' h ⟨h1, t, g, n, h2⟩ => ⟨h1, t, g, n, h2.trans h⟩
theorem run_Inputs (f : Frm) (m : List Raw) (hf : f.fields.length ≤ 1048576) (hm : m.length ≤ 9223372036854775807) (hr : ∀ r ∈ m, r.ok) : ∃ x H', callR tab 0 20 [.d f.dv, .d (.sl 4 (m.map Raw.dv))] [] [] = some (x, H') ∧ ∃ tok, x = .own 7 ((finputs m f.fields 0).map Fact.dv) tok ∧ tokLive H' ((finputs m f.fields 0).length * 7) tok = true := by
  unfold Frm.dv
  generalize f.pages = ps at *
  generalize f.fields = fs at *
  have hgb : gbox m 0 = .box [.d (.sl 4 (m.map Raw.dv)), .d (.int .i64 0)] := rfl
  have fn := fun (T : Tm) (g : List Nat) (H : Heap) (dst : Nat) (k : Nat) (hk : k ≤ 4611686018427387904) (q : List Nat) (hx : ((0 :: g) <:+ q) = False) (hS : Heap.get H ⟨0, 12, q⟩ = some (gbox m k)) => ca_next (d := 0) (dst := dst) (S := ⟨T, H, g⟩) 0 12 q m k hk hm (Nat.le_refl _) hx hS
  refine retq_good (fs.length + 1) fn20 rfl rfl ?_
  simp only [amr, amc, amp, if_true, if_false, ne_eq, gt_iff_lt, Option.getD, argsT, Option.bind, Option.map, List.headD, List.tail, opnsL, List.replicate, lendsL, seval, ty_FmS_20]
  refine good_range fs (fun k (x : IS) _ => ⟨[(5, .ptr ⟨0, 12, [0, 1]⟩ 0), (6, .own 7 (x.acc.map Fact.dv) (tokD 0 40 x.t)), (14, .d (.sl 9 (fs.map Field.dv))), (15, .d (.int .i64 fs.length)), (16, .d (.int .i64 (k : Nat)))], tokP 0 40 (x.acc.length * 7) x.t ++ [(⟨0, 12, [0, 1]⟩, gbox m x.n), (⟨0, 2, [0]⟩, .box [.d (.sl 9 (fs.map Field.dv)), .d (.sl 8 (ps.map Page.dv))])], x.g⟩)
    (fun k x => x.acc.length ≤ k ∧ x.n ≤ k ∧ ¬ x.g <:+ [0, 1]) (fun k x r => x.acc ++ finputs m r x.n)
    (fun (o : List Fact) (q : Out) (S : St) => q = .exit 0 ∧ ∃ t g n, Sub ⟨[(6, .own 7 (o.map Fact.dv) (tokD 0 40 t))], tokP 0 40 (o.length * 7) t ++ [(⟨0, 12, [0, 1]⟩, gbox m n), (⟨0, 2, [0]⟩, .box [.d (.sl 9 (fs.map Field.dv)), .d (.sl 8 (ps.map Page.dv))])], g⟩ S) ⟨[], none, 0, [1, 1]⟩ kp20_4 (fun _ => up_tok3) ⟨Nat.le_refl _, Nat.le_refl _, by decide⟩ (by omega) (by omega) ?_ ?_ ?_ ?_
  · rintro k ⟨acc, t, n, g⟩ _ x rest hk hget hd ⟨h1, h2, h3⟩ hb w1
    simp only at h1 h2 h3
    have hget' : (fs.map Field.dv)[k]? = some x.dv := by rw [List.getElem?_map, hget]; rfl
    have hn0 : ¬ g <:+ [0, 1] := h3
    have hga := gat_le m n
    have hrk := gnext_ok hr n
    have fN := fun (T : Tm) (g : List Nat) (H : Heap) (dst : Nat) (q : List Nat) => fn T g H dst n (by omega) q
    have hA : ((acc.length + 1) * 80 ≤ 140737488355328) = True := eq_true (by omega)
    have hsp : finputs m (x :: rest) n = if x.kind = 1 then (if pick (gnext m n).kind 4 > 0 then ⟨x.name, Val.zero, mkVal x.ty (gnext m n)⟩ :: finputs m rest (gat m n) else finputs m rest (gat m n)) else finputs m rest (gat m n) := rfl
    have pK := fun (S : St) (d dst : Nat) => ca_picked (d := d) (dst := dst) (S := S) (gnext m n).kind 4 (by decide)
    have fV := fun (S : St) (d dst : Nat) => cf_Value (d := d) (dst := dst) (S := S) x.ty (gnext m n) hrk.text
    simp only [Raw.dv, Val.dv] at fV
    generalize mkVal x.ty (gnext m n) = v at *
    generalize gnext m n = r at *
    have hsx : ∀ (m : Nat), (List.drop m (0 :: g) = 8 :: 1 :: 1 :: 1 :: g) = False := fun m => eq_false (fun h => by have := congrArg List.length h; simp only [List.length_drop, List.length_cons] at this; omega)
    by_cases c1 : x.kind = 1
    · have b1 : (x.kind == 1) = true := beq_iff_eq.2 c1
      rw [if_pos c1] at hsp
      by_cases c2 : pick r.kind 4 > 0
      · have b2 : decide (pick r.kind 4 > 0) = true := decide_eq_true c2
        have b3 : decide (0 < pick r.kind 4) = true := b2
        rw [if_pos c2] at hsp
        rcases t with _ | t
        · simp only [amr, amc, amp, if_true, if_false, ne_eq, gt_iff_lt, Option.getD, argsT, Option.bind, Option.map, List.headD, List.tail, opnsL, List.replicate, lendsL, seval, ty_FmS_20, Field.dv, Raw.dv, hb, hget', w1, fN, pK, fV, b1, b2, b3, hA, tokD, tokP, suf1 hn0, suf2 hn0, suf3 hn0, suf4 hn0, suf5 hn0, sx1, sx2, hsx, el_agg, upd, Option.getD_some, Option.getD_none]
          refine step_nrm (IS.mk (acc ++ [⟨x.name, Val.zero, v⟩]) (some (11 :: 1 :: 1 :: 1 :: g)) (gat m n) (1 :: 1 :: 1 :: 1 :: g)) ⟨by simp only [List.length_append, List.length_cons, List.length_nil]; omega, by simp only; omega, apart_cons (apart_cons (apart_cons (apart_cons h3)))⟩ (by rw [hsp]; simp) ?_
          (refine ⟨[], ?_⟩; (try simp only [amr, amc, amp, if_true, if_false, ne_eq, gt_iff_lt, Option.getD, argsT, Option.bind, Option.map, List.headD, List.tail, opnsL, List.replicate, lendsL, seval, tokD, tokP, Fact.dv, Val.zero]); exact sub_mk (by repeat first | exact subT_nil | refine subT_cons (by first | rfl | simp [Tm.get, *]) ?_))
        · simp only [amr, amc, amp, if_true, if_false, ne_eq, gt_iff_lt, Option.getD, argsT, Option.bind, Option.map, List.headD, List.tail, opnsL, List.replicate, lendsL, seval, ty_FmS_20, Field.dv, Raw.dv, hb, hget', w1, fN, pK, fV, b1, b2, b3, hA, tokD, tokP, suf1 hn0, suf2 hn0, suf3 hn0, suf4 hn0, suf5 hn0, sx1, sx2, hsx, el_agg, upd, Option.getD_some, Option.getD_none]
          refine step_nrm (IS.mk (acc ++ [⟨x.name, Val.zero, v⟩]) (some t) (gat m n) (1 :: 1 :: 1 :: 1 :: g)) ⟨by simp only [List.length_append, List.length_cons, List.length_nil]; omega, by simp only; omega, apart_cons (apart_cons (apart_cons (apart_cons h3)))⟩ (by rw [hsp]; simp) ?_
          (refine ⟨[], ?_⟩; (try simp only [amr, amc, amp, if_true, if_false, ne_eq, gt_iff_lt, Option.getD, argsT, Option.bind, Option.map, List.headD, List.tail, opnsL, List.replicate, lendsL, seval, tokD, tokP, Fact.dv, Val.zero]); exact sub_mk (by repeat first | exact subT_nil | refine subT_cons (by first | rfl | simp [Tm.get, *]) ?_))
      · have b2 : decide (pick r.kind 4 > 0) = false := decide_eq_false c2
        have b3 : decide (0 < pick r.kind 4) = false := b2
        rw [if_neg c2] at hsp
        rcases t with _ | t
        · simp only [amr, amc, amp, if_true, if_false, ne_eq, gt_iff_lt, Option.getD, argsT, Option.bind, Option.map, List.headD, List.tail, opnsL, List.replicate, lendsL, seval, ty_FmS_20, Field.dv, Raw.dv, hb, hget', w1, fN, pK, b1, b2, b3, tokD, tokP, suf1 hn0, suf2 hn0, suf3 hn0, suf4 hn0, suf5 hn0, sx1, sx2, hsx, el_agg, upd, Option.getD_some, Option.getD_none]
          refine step_nrm (IS.mk acc none (gat m n) (1 :: 1 :: 1 :: g)) ⟨by simp only; omega, by simp only; omega, apart_cons (apart_cons (apart_cons h3))⟩ (by rw [hsp]) ?_
          (refine ⟨[], ?_⟩; (try simp only [amr, amc, amp, if_true, if_false, ne_eq, gt_iff_lt, Option.getD, argsT, Option.bind, Option.map, List.headD, List.tail, opnsL, List.replicate, lendsL, seval, tokD, tokP, Fact.dv, Val.zero]); exact sub_mk (by repeat first | exact subT_nil | refine subT_cons (by first | rfl | simp [Tm.get, *]) ?_))
        · simp only [amr, amc, amp, if_true, if_false, ne_eq, gt_iff_lt, Option.getD, argsT, Option.bind, Option.map, List.headD, List.tail, opnsL, List.replicate, lendsL, seval, ty_FmS_20, Field.dv, Raw.dv, hb, hget', w1, fN, pK, b1, b2, b3, tokD, tokP, suf1 hn0, suf2 hn0, suf3 hn0, suf4 hn0, suf5 hn0, sx1, sx2, hsx, el_agg, upd, Option.getD_some, Option.getD_none]
          refine step_nrm (IS.mk acc (some t) (gat m n) (1 :: 1 :: 1 :: g)) ⟨by simp only; omega, by simp only; omega, apart_cons (apart_cons (apart_cons h3))⟩ (by rw [hsp]) ?_
          (refine ⟨[], ?_⟩; (try simp only [amr, amc, amp, if_true, if_false, ne_eq, gt_iff_lt, Option.getD, argsT, Option.bind, Option.map, List.headD, List.tail, opnsL, List.replicate, lendsL, seval, tokD, tokP, Fact.dv, Val.zero]); exact sub_mk (by repeat first | exact subT_nil | refine subT_cons (by first | rfl | simp [Tm.get, *]) ?_))
    · have b1 : (x.kind == 1) = false := beq_eq_false_iff_ne.2 c1
      rw [if_neg c1] at hsp
      rcases t with _ | t
      · simp only [amr, amc, amp, if_true, if_false, ne_eq, gt_iff_lt, Option.getD, argsT, Option.bind, Option.map, List.headD, List.tail, opnsL, List.replicate, lendsL, seval, ty_FmS_20, Field.dv, Raw.dv, hb, hget', w1, fN, b1, tokD, tokP, suf1 hn0, suf2 hn0, suf3 hn0, suf4 hn0, suf5 hn0, sx1, sx2, hsx, el_agg, upd, Option.getD_some, Option.getD_none]
        refine step_nrm (IS.mk acc none (gat m n) (1 :: 1 :: 1 :: g)) ⟨by simp only; omega, by simp only; omega, apart_cons (apart_cons (apart_cons h3))⟩ (by rw [hsp]) ?_
        (refine ⟨[], ?_⟩; (try simp only [amr, amc, amp, if_true, if_false, ne_eq, gt_iff_lt, Option.getD, argsT, Option.bind, Option.map, List.headD, List.tail, opnsL, List.replicate, lendsL, seval, tokD, tokP, Fact.dv, Val.zero]); exact sub_mk (by repeat first | exact subT_nil | refine subT_cons (by first | rfl | simp [Tm.get, *]) ?_))
      · simp only [amr, amc, amp, if_true, if_false, ne_eq, gt_iff_lt, Option.getD, argsT, Option.bind, Option.map, List.headD, List.tail, opnsL, List.replicate, lendsL, seval, ty_FmS_20, Field.dv, Raw.dv, hb, hget', w1, fN, b1, tokD, tokP, suf1 hn0, suf2 hn0, suf3 hn0, suf4 hn0, suf5 hn0, sx1, sx2, hsx, el_agg, upd, Option.getD_some, Option.getD_none]
        refine step_nrm (IS.mk acc (some t) (gat m n) (1 :: 1 :: 1 :: g)) ⟨by simp only; omega, by simp only; omega, apart_cons (apart_cons (apart_cons h3))⟩ (by rw [hsp]) ?_
        (refine ⟨[], ?_⟩; (try simp only [amr, amc, amp, if_true, if_false, ne_eq, gt_iff_lt, Option.getD, argsT, Option.bind, Option.map, List.headD, List.tail, opnsL, List.replicate, lendsL, seval, tokD, tokP, Fact.dv, Val.zero]); exact sub_mk (by repeat first | exact subT_nil | refine subT_cons (by first | rfl | simp [Tm.get, *]) ?_))
  · rintro ⟨acc, t, n, g⟩ _ _ hb
    simp only [amr, amc, amp, if_true, if_false, ne_eq, gt_iff_lt, Option.getD, argsT, Option.bind, Option.map, List.headD, List.tail, opnsL, List.replicate, lendsL, seval, ty_FmS_20, hb]
    refine last_end (by simp) ⟨rfl, t, g, n, ?_⟩
    simp only [finputs, List.append_nil]
    exact sub_mk (by repeat first | exact subT_nil | refine subT_cons (by first | rfl | simp [Tm.get, *]) ?_)
  · refine ⟨[], ?_⟩
    simp only [amr, amc, amp, if_true, if_false, ne_eq, gt_iff_lt, Option.getD, argsT, Option.bind, Option.map, List.headD, List.tail, opnsL, List.replicate, lendsL, seval, hgb, tokD, tokP]
    exact sub_mk (by repeat first | exact subT_nil | refine subT_cons (by first | rfl | simp [Tm.get, *]) ?_)
  · rintro o S' ⟨rfl, t, g, n, hs⟩
    refine good_sub_cr up_finq hs ?_
    simp only [List.nil_append]
    rcases t with _ | t
    · simp only [amr, amc, amp, if_true, if_false, ne_eq, gt_iff_lt, Option.getD, argsT, Option.bind, Option.map, List.headD, List.tail, opnsL, List.replicate, lendsL, seval, ty_FmS_20, tokD, tokP]
      exact ⟨none, rfl, rfl⟩
    · simp only [amr, amc, amp, if_true, if_false, ne_eq, gt_iff_lt, Option.getD, argsT, Option.bind, Option.map, List.headD, List.tail, opnsL, List.replicate, lendsL, seval, ty_FmS_20, tokD, tokP]
      exact ⟨_, rfl, by simp [tokLive, Heap.get]⟩
theorem ca_Inputs {d dst : Nat} {S : St} (f : Frm) (m : List Raw) (hf : f.fields.length ≤ 1048576) (hm : m.length ≤ 9223372036854775807) (hr : ∀ r ∈ m, r.ok) : callA tab (callR tab) d dst 20 [.d (.agg [.sl 9 (f.fields.map Field.dv), .sl 8 (f.pages.map Page.dv)]), .d (.sl 4 (m.map Raw.dv))] S =
    some (.own 7 ((finputs m f.fields 0).map Fact.dv) (some ⟨d, dst, 0 :: S.g⟩), ⟨S.T, (⟨d, dst, 0 :: S.g⟩, .grow ((finputs m f.fields 0).length * 7)) :: S.H, 1 :: S.g⟩) := by
  obtain ⟨x, H', h, tok, rfl, ht⟩ := run_Inputs f m hf hm hr
  have hlen : ((finputs m f.fields 0).map Fact.dv).length = (finputs m f.fields 0).length := List.length_map _
  have := call_own (d := d) (dst' := dst) (S := S) (args := [.d f.dv, .d (.sl 4 (m.map Raw.dv))]) (ds := [f.dv, .sl 4 (m.map Raw.dv)]) h rfl rfl (tab_opn (by kernel_rfl)) (tab_thaw (by kernel_rfl)) (j := 0) (by kernel_rfl) (by decide) (by rw [hlen]; exact ht)
  rw [hlen] at this
  exact this
end Go.Proofs.Ytnombkkfijlkfaa.Am
