/- Timers in order: plain facts. -/
import Derived.Test.YtghjhlngaigdiaaTadd
set_option linter.unusedVariables false
set_option linter.unusedSimpArgs false
namespace Go.Proofs.Ytghjhlngaigdiaa.Am
open Go Go.RowKit
set_option maxRecDepth 100000
set_option maxHeartbeats 4000000
/-- The earlier one, of one time that of the less number. -/
def tlt (a b : Timer) : Prop := a.at_ < b.at_ ∨ a.at_ = b.at_ ∧ a.id < b.id
theorem tcmp_neg {a b : Timer} : tcmp a b < 0 ↔ tlt a b := by
  unfold tcmp cmpI tlt
  repeat' split
  all_goals omega
theorem tcmp_pos {a b : Timer} : tcmp a b > 0 ↔ tlt b a := by
  unfold tcmp cmpI tlt
  repeat' split
  all_goals omega
theorem tlt_trans {a b c : Timer} (h1 : tlt a b) (h2 : tlt b c) : tlt a c := by
  unfold tlt at *
  omega
theorem tlt_or {a b : Timer} (h : a.id ≠ b.id) : tlt a b ∨ tlt b a := by
  unfold tlt
  omega
theorem tlt_irr {a b : Timer} (h1 : tlt a b) : ¬ tlt b a := by
  unfold tlt at *
  omega
/-- What a search by halves finds where all that is true stands ahead. -/
theorem bsf_mono (p : Nat → Bool) : ∀ k i j n, j - i ≤ k → i ≤ j → j ≤ n → (∀ a b, a < b → b < n → p b = true → p a = true) → (∀ a, a < i → p a = true) → (∀ a, j ≤ a → a < n → p a = false) →
    (∀ a, a < bsf p k i j → p a = true) ∧ (∀ a, bsf p k i j ≤ a → a < n → p a = false)
  | 0, i, j, n, hk, hij, hj, hm, h1, h2 => by
    unfold bsf
    exact ⟨h1, fun a ha => h2 a (by omega)⟩
  | k + 1, i, j, n, hk, hij, hj, hm, h1, h2 => by
    unfold bsf
    split
    · split
      · rename_i hlt hp
        refine bsf_mono p k _ _ n (by omega) (by omega) hj hm (fun a ha => ?_) h2
        by_cases ha2 : a = (i + j) / 2
        · rw [ha2]; exact hp
        · exact hm a ((i + j) / 2) (by omega) (by omega) hp
      · rename_i hlt hp
        refine bsf_mono p k _ _ n (by omega) (by omega) (by omega) hm h1 (fun a ha han => ?_)
        by_cases ha2 : a = (i + j) / 2
        · rw [ha2]; exact Bool.eq_false_iff.2 hp
        · cases hpa : p a with
          | false => rfl
          | true => exact absurd (hm ((i + j) / 2) a (by omega) han hpa) hp
    · rename_i hlt
      exact ⟨h1, fun a ha => h2 a (by omega)⟩
theorem tidx_none {n : Int} : ∀ {l : List Timer}, (∀ t ∈ l, t.id ≠ n) → tidxI n l = -1 := by
  intro l h
  unfold tidxI
  rw [tidx_ge n l l.length (Nat.le_refl _) (by simpa using h)]
  simp [tidx]
theorem tidx_at {n : Int} {l : List Timer} {k : Nat} {t : Timer} (h : ∀ t ∈ l.take k, t.id ≠ n) (hk : l[k]? = some t) (ht : t.id = n) : tidxI n l = k := by
  obtain ⟨hk1, hk2⟩ := List.getElem?_eq_some_iff.1 hk
  unfold tidxI
  rw [tidx_ge n l k (by omega) h, List.drop_eq_getElem_cons hk1, tidx, hk2, if_pos ht]
  simp
/-- Timers that may be: few, in order, of numbers of their own. -/
structure TOk (l : List Timer) : Prop where
  len : l.length ≤ 20
  rng : ∀ t ∈ l, 1 ≤ t.id ∧ 0 ≤ t.at_ ∧ t.at_ ≤ 1073741824
  ord : l.Pairwise tlt
  ids : l.Pairwise (fun a b => a.id ≠ b.id)
theorem TOk.chk {l : List Timer} (h : TOk l) : tchk l = 0 := by
  unfold tchk
  rw [if_neg (by have := h.len; omega)]
  refine scan_zero _ _ fun k hk => ?_
  unfold tchkAt
  rw [List.getElem?_eq_getElem hk]
  simp only
  unfold tchkOf
  have hr := h.rng l[k] (List.getElem_mem hk)
  rw [if_neg (by omega)]
  have hi : tidxI l[k].id (l.take k) = -1 := tidx_none fun t ht => by
    obtain ⟨j, hj, rfl⟩ := List.getElem_of_mem ht
    rw [List.getElem_take]
    have hj2 : j < k := by rw [List.length_take] at hj; omega
    exact List.pairwise_iff_getElem.1 h.ids j k (by omega) hk hj2
  rw [if_neg (by omega)]
  cases k with
  | zero => rfl
  | succ j =>
    simp only [tchkPr]
    rw [List.getElem?_eq_getElem (show j < l.length by omega)]
    simp only
    rw [if_neg]
    intro hc
    exact tlt_irr (List.pairwise_iff_getElem.1 h.ord j (j + 1) (by omega) hk (by omega)) (tcmp_pos.1 hc)
/-- The place of a new one among what is in order. -/
theorem tplace_spec {l : List Timer} (h : l.Pairwise tlt) (t : Timer) : (∀ u ∈ l.take (tplace l t), tlt u t) ∧ (∀ u ∈ l.drop (tplace l t), ¬ tlt u t) := by
  have hb := bsf_mono (tless l t) l.length 0 l.length l.length (by omega) (by omega) (Nat.le_refl _) (fun a b hab hbn hp => ?_) (fun a ha => absurd ha (by omega)) (fun a h1 h2 => absurd h2 (by omega))
  · obtain ⟨h1, h2⟩ := hb
    have hle := (bsf_le (tless l t) l.length 0 l.length (Nat.zero_le _)).2
    change ∀ a, a < tplace l t → _ at h1
    change ∀ a, tplace l t ≤ a → _ at h2
    change tplace l t ≤ _ at hle
    constructor
    · intro u hu
      obtain ⟨j, hj, rfl⟩ := List.getElem_of_mem hu
      rw [List.length_take] at hj
      rw [List.getElem_take]
      have := h1 j (by omega)
      unfold tless at this
      rw [List.getElem?_eq_getElem (by omega)] at this
      exact tcmp_neg.1 (of_decide_eq_true this)
    · intro u hu
      obtain ⟨j, hj, rfl⟩ := List.getElem_of_mem hu
      rw [List.length_drop] at hj
      rw [List.getElem_drop]
      have := h2 (tplace l t + j) (by omega) (by omega)
      unfold tless at this
      rw [List.getElem?_eq_getElem (by omega)] at this
      exact fun hc => of_decide_eq_false this (tcmp_neg.2 hc)
  · unfold tless at hp ⊢
    rw [List.getElem?_eq_getElem hbn] at hp
    rw [List.getElem?_eq_getElem (by omega)]
    exact decide_eq_true (tcmp_neg.2 (tlt_trans (List.pairwise_iff_getElem.1 h a b (by omega) hbn hab) (tcmp_neg.1 (of_decide_eq_true hp))))
theorem tins_perm (l : List Timer) (t : Timer) : (tins l t).Perm (t :: l) := by
  unfold tins
  have h : (l.take (tplace l t) ++ t :: l.drop (tplace l t)).Perm (t :: (l.take (tplace l t) ++ l.drop (tplace l t))) := List.perm_middle
  rwa [List.take_append_drop] at h
theorem tins_mem {l : List Timer} {t u : Timer} : u ∈ tins l t ↔ u = t ∨ u ∈ l := by
  rw [(tins_perm l t).mem_iff, List.mem_cons]
theorem tins_len (l : List Timer) (t : Timer) : (tins l t).length = l.length + 1 := by
  rw [(tins_perm l t).length_eq, List.length_cons]
theorem tins_ord {l : List Timer} {t : Timer} (h : l.Pairwise tlt) (hn : ∀ u ∈ l, u.id ≠ t.id) : (tins l t).Pairwise tlt := by
  obtain ⟨h1, h2⟩ := tplace_spec h t
  have ha : (l.take (tplace l t) ++ l.drop (tplace l t)).Pairwise tlt := by rw [List.take_append_drop]; exact h
  rw [List.pairwise_append] at ha
  unfold tins
  rw [List.pairwise_append, List.pairwise_cons]
  have hd : ∀ u ∈ l.drop (tplace l t), tlt t u := fun u hu => (tlt_or (hn u (List.mem_of_mem_drop hu))).resolve_left (h2 u hu)
  refine ⟨ha.1, ⟨hd, ha.2.1⟩, fun a h3 b h4 => ?_⟩
  rcases List.mem_cons.1 h4 with rfl | h4
  · exact h1 a h3
  · exact ha.2.2 a h3 b h4
theorem TOk.ins {l : List Timer} {t : Timer} (h : TOk l) (hl : l.length ≤ 19) (ht : 1 ≤ t.id ∧ 0 ≤ t.at_ ∧ t.at_ ≤ 1073741824) (hn : ∀ u ∈ l, u.id ≠ t.id) : TOk (tins l t) where
  len := by rw [tins_len]; omega
  rng := fun u hu => by
    rcases tins_mem.1 hu with rfl | hu
    · exact ht
    · exact h.rng u hu
  ord := tins_ord h.ord hn
  ids := by
    have : (t :: l).Pairwise (fun a b : Timer => a.id ≠ b.id) := List.pairwise_cons.2 ⟨fun u hu e => hn u hu e.symm, h.ids⟩
    exact ((tins_perm l t).pairwise_iff (fun {a b} hab e => hab e.symm)).2 this
theorem TOk.add {l : List Timer} {t : Timer} (h : TOk l) (hl : l.length ≤ 19) (ht : 1 ≤ t.id ∧ 0 ≤ t.at_ ∧ t.at_ ≤ 1073741824) (hn : ∀ u ∈ l, u.id ≠ t.id) : tadd l t = (tins l t, 0) := by
  unfold tadd
  rw [if_neg (by rw [h.chk]; simp), if_neg (by rw [(h.ins hl ht hn).chk]; simp)]
theorem TOk.nil : TOk [] := ⟨by simp, by simp, List.Pairwise.nil, List.Pairwise.nil⟩
/-- The timer of a thing. -/
def tmk (i : Nat) (r : Raw) : Timer := ⟨(i : Int) + 1, pick r.a 30⟩
def tmsF : List Raw → Nat → List Timer → List Timer
  | [], _, out => out
  | r :: rest, i, out => if i < 12 then tmsF rest (i + 1) (tins out (tmk i r)) else tmsF rest (i + 1) out
def tms (l : List Raw) : List Timer := tmsF l 0 []
structure TInv (i : Nat) (out : List Timer) : Prop where
  ok : TOk out
  len : out.length = min i 12
  ids : ∀ t ∈ out, t.id ≤ i
  ids2 : ∀ t ∈ out, t.id ≤ 12
theorem TInv.nil : TInv 0 [] := ⟨TOk.nil, rfl, by simp, by simp⟩
theorem TInv.add {i : Nat} {out : List Timer} {r : Raw} (h : TInv i out) (hi : i < 12) (hr : 0 ≤ pick r.a 30 ∧ pick r.a 30 < 30) : tadd out (tmk i r) = (tins out (tmk i r), 0) ∧ TInv (i + 1) (tins out (tmk i r)) := by
  have hl := h.len
  have hn : ∀ u ∈ out, u.id ≠ (tmk i r).id := fun u hu e => by
    have := h.ids u hu
    rw [e] at this
    simp only [tmk] at this
    omega
  have ht : 1 ≤ (tmk i r).id ∧ 0 ≤ (tmk i r).at_ ∧ (tmk i r).at_ ≤ 1073741824 := by simp only [tmk]; omega
  refine ⟨h.ok.add (by omega) ht hn, h.ok.ins (by omega) ht hn, by rw [tins_len]; omega, fun t hm => ?_, fun t hm => ?_⟩
  · rcases tins_mem.1 hm with rfl | hm
    · simp only [tmk]; omega
    · have := h.ids t hm; omega
  · rcases tins_mem.1 hm with rfl | hm
    · simp only [tmk]; omega
    · exact h.ids2 t hm
theorem TInv.more {i : Nat} {out : List Timer} (h : TInv i out) (hi : ¬ i < 12) : TInv (i + 1) out :=
  ⟨h.ok, by rw [h.len]; omega, fun t ht => by have := h.ids t ht; omega, h.ids2⟩
end Go.Proofs.Ytghjhlngaigdiaa.Am
