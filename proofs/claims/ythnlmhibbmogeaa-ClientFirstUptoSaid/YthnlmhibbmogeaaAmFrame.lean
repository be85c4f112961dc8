/- What an operation looks at and changes. -/
import Derived.Test.YthnlmhibbmogeaaAmSound
set_option linter.unusedVariables false
set_option linter.unusedSimpArgs false
namespace Go.Proofs.Ythnlmhibbmogeaa.Am
open Go Go.RowKit

def Foot.acc (F : Foot) (g : List Nat) (id : Id) : Prop := id ∈ F.rd ∨ id ∈ F.wr ∨ (F.al = true ∧ g <:+ id.g)
def Foot.wrt (F : Foot) (g : List Nat) (id : Id) : Prop := id ∈ F.wr ∨ (F.al = true ∧ g <:+ id.g)
theorem Foot.wrt_acc {F : Foot} {g : List Nat} {id : Id} (h : F.wrt g id) : F.acc g id := h.elim (fun h => .inr (.inl h)) fun h => .inr (.inr h)

/-- The same, elsewhere. -/
def Fr3 (F : Foot) (S S1 S2 S3 : St) : Prop := S3.T = S2.T ∧ S1.T = S.T ∧ (∀ id, F.wrt S.g id → S3.H.get id = S1.H.get id) ∧ ∀ id, ¬ F.wrt S.g id → S3.H.get id = S2.H.get id ∧ S1.H.get id = S.H.get id

section
variable {T : Tab} {S S1 S2 : St} {call : Call} {F : Foot}

theorem Fr3.quiet (hH : ∀ id, F.acc S.g id → S2.H.get id = S.H.get id) : Fr3 F S S S2 S2 :=
  ⟨rfl, rfl, fun id h => hH id (Foot.wrt_acc h), fun id _ => ⟨rfl, rfl⟩⟩
theorem Fr3.new (hH : ∀ id, F.acc S.g id → S2.H.get id = S.H.get id) (ha : F.al = true) (d t : Nat) (p : Place) (g1 g2 : List Nat) :
    Fr3 F S { S with H := (⟨d, t, 0 :: S.g⟩, p) :: S.H, g := g1 } S2 { S2 with H := (⟨d, t, 0 :: S.g⟩, p) :: S2.H, g := g2 } := by
  refine ⟨rfl, rfl, fun id h => ?_, fun id h => ?_⟩
  · simp only [Heap.get]
    split
    · rfl
    · exact hH id (Foot.wrt_acc h)
  · have hne : ¬ (⟨d, t, 0 :: S.g⟩ : Id) = id := fun e => h (.inr ⟨ha, by rw [← e]; exact List.suffix_cons _ _⟩)
    simp [Heap.get, hne]
theorem Fr3.put (hH : ∀ id, F.acc S.g id → S2.H.get id = S.H.get id) {id : Id} (hid : id ∈ F.wr) (p : Place) : Fr3 F S { S with H := S.H.put id p } S2 { S2 with H := S2.H.put id p } := by
  refine ⟨rfl, rfl, fun i h => ?_, fun i h => ?_⟩
  · simp only [get_put, hH id (.inr (.inl hid)), hH i (Foot.wrt_acc h)]
  · have hne : ¬ id = i := fun e => h (.inl (e ▸ hid))
    simp only [get_put, if_neg hne]
    exact ⟨trivial, trivial⟩

theorem ev_congr {y : Operand} (h : ∀ t, y = .tmp t → S2.T.get t = S.T.get t) (t : Nat) : ev T S2 t y = ev T S t y := by
  cases y with
  | tmp i => exact h i rfl
  | _ => rfl
theorem evs_congr : ∀ (ys : List Operand) (ts : List Nat), (∀ y ∈ ys, ∀ t, ev T S2 t y = ev T S t y) → evs T S2 ys ts = evs T S ys ts
  | [], ts, h => rfl
  | y :: r, ts, h => by simp only [evs, h y (by simp), evs_congr r ts.tail fun z hz => h z (by simp [hz])]
theorem parts_congr (ty : Nat → Nat) : ∀ (ps : List (Nat × Operand)), (∀ p ∈ ps, ∀ t, ev T S2 t p.2 = ev T S t p.2) → partsA T S2 ty ps = partsA T S ty ps
  | [], h => rfl
  | (i, y) :: r, h => by simp only [partsA, h (i, y) (by simp), parts_congr ty r fun z hz => h z (by simp [hz])]
theorem evO_congr (y : Option Operand) (h : ∀ z, y = some z → ∀ t, ev T S2 t z = ev T S t z) : evO T S2 y = evO T S y := by
  cases y with
  | none => rfl
  | some z => simp only [evO, h z rfl]
theorem behind_congr {p : AV} (h : ∀ id ∈ ids1 p, S2.H.get id = S.H.get id) : behind S2 p = behind S p := by
  cases p with
  | ptr id off => simp only [behind, h id (by simp [ids1])]
  | d x => cases x <;> rfl
  | _ => rfl
theorem lenA_congr {t : Nat} {x : AV} (h : ∀ id ∈ ids1 x, S2.H.get id = S.H.get id) : lenA T S2 t x = lenA T S t x := by
  cases x with
  | arr id off n sz => simp only [lenA, h id (by simp [ids1])]
  | d x => cases x <;> (unfold lenA; cases T.und t with | none => rfl | some d => cases d <;> rfl)
  | _ => unfold lenA; cases T.und t with | none => rfl | some d => cases d <;> rfl
theorem within_congr {H H2 : Heap} : ∀ (l : List Id), (∀ id ∈ l, H2.get id = H.get id) → within l H2 = within l H
  | [], h => rfl
  | i :: r, h => by simp only [within, h i (by simp), within_congr r fun j hj => h j (by simp [hj])]
theorem reach_congr {H H2 : Heap} : ∀ (k : Nat) (l : List Id), (∀ id ∈ reach H k l, H2.get id = H.get id) → reach H2 k l = reach H k l
  | 0, l, h => rfl
  | k + 1, l, h => by
    have hw : within l H2 = within l H := within_congr l fun id hid => h id (sub_reach H (k + 1) l id hid)
    unfold reach at h ⊢
    rw [hw]
    split
    · rfl
    · rename_i hc
      rw [if_neg hc] at h
      exact reach_congr k _ h

theorem adopt_frame (hg : S2.g = S.g) (hH : ∀ id, F.acc S.g id → S2.H.get id = S.H.get id) (ha : F.al = true) {f d dst : Nat} {H : Heap} {r x : AV} (h : adopt T f d dst H S r = some (x, S1)) :
    ∃ S3, adopt T f d dst H S2 r = some (x, S3) ∧ Fr3 F S S1 S2 S3 := by
  unfold adopt at h ⊢
  cases hres : T.res f with
  | none =>
    rw [hres] at h
    simp only at h ⊢
    split at h
    · rename_i xs
      cases hd : toDs xs with
      | none => rw [hd] at h; cases h
      | some ds =>
        rw [hd] at h
        simp only [Option.some.injEq, Prod.mk.injEq] at h
        obtain ⟨rfl, rfl⟩ := h
        exact ⟨S2, by simp only [hd], Fr3.quiet hH⟩
    · cases hd : toD r with
      | none => rw [hd] at h; cases h
      | some y =>
        rw [hd] at h
        simp only [Option.some.injEq, Prod.mk.injEq] at h
        obtain ⟨rfl, rfl⟩ := h
        exact ⟨S2, by simp only [hd], Fr3.quiet hH⟩
  | some j =>
    rw [hres] at h
    simp only at h ⊢
    split at h
    · rename_i sz xs tok
      split at h
      · rename_i hc
        simp only [Option.some.injEq, Prod.mk.injEq] at h
        obtain ⟨rfl, rfl⟩ := h
        simp only [if_pos hc, hg]
        exact ⟨_, rfl, Fr3.new hH ha _ _ _ _ _⟩
      · cases h
    · rename_i ys
      split at h
      · rename_i sz xs tok ds hj hds
        split at h
        · rename_i hc
          simp only [Option.some.injEq, Prod.mk.injEq] at h
          obtain ⟨rfl, rfl⟩ := h
          simp only [hj, hds, if_pos hc, hg]
          exact ⟨_, rfl, Fr3.new hH ha _ _ _ _ _⟩
        · cases h
      · cases h
    · cases h

theorem sfx_iff (q g : List Nat) : sfx q g = true ↔ q <:+ g := by
  unfold sfx
  rw [List.suffix_iff_eq_drop, beq_iff_eq]
  exact eq_comm

theorem callA_frame (hg : S2.g = S.g) {d dst f : Nat} {args : List AV} (hH : ∀ id, (footC T f args S).acc S.g id → S2.H.get id = S.H.get id) {x : AV} (h : callA T call d dst f args S = some (x, S1)) :
    ∃ S3, callA T call d dst f args S2 = some (x, S3) ∧ Fr3 (footC T f args S) S S1 S2 S3 := by
  unfold callA at h ⊢
  unfold footC at hH ⊢
  cases hds : (if T.opn f then none else toDs args) with
  | some ds =>
    rw [hds] at h hH
    simp only at h hH ⊢
    split at h
    · rename_i p hp
      split at h
      · rename_i r H1 hr
        exact adopt_frame hg hH rfl h
      · cases h
    · split at h
      · rename_i r H1 hr
        exact adopt_frame hg hH rfl h
      · cases h
  | none =>
    rw [hds] at h hH
    simp only at h hH ⊢
    have hR : reach S2.H 8 (addIds [] (idsL args)) = reach S.H 8 (addIds [] (idsL args)) := reach_congr 8 _ fun id hid => hH id (.inr (.inl hid))
    rw [hR]
    generalize reach S.H 8 (addIds [] (idsL args)) = R at h hH ⊢
    have hW : within R S2.H = within R S.H := within_congr R fun id hid => hH id (.inr (.inl hid))
    rw [hW, hg]
    split at h
    · rename_i hcl
      rw [if_pos hcl]
      split at h
      · rename_i r H' hcall
        simp only [Option.some.injEq, Prod.mk.injEq] at h
        obtain ⟨rfl, rfl⟩ := h
        refine ⟨_, rfl, rfl, rfl, fun id hw => ?_, fun id hw => ?_⟩
        · rw [get_weaveH, get_weaveH, get_append, get_append, get_without, get_without]
          split
          · rfl
          · split
            · rfl
            · exact hH id (Foot.wrt_acc hw)
        · have h1 : ¬ id ∈ R := fun h => hw (.inl h)
          have h2 : ¬ S.g <:+ id.g := fun h => hw (.inr ⟨rfl, h⟩)
          have h3 : Heap.get ((within (reach H' 8 (addIds R (idsA (soft T f r)))) H').filter fun e => R.contains e.1 || sfx (0 :: S.g) e.1.g) id = none := by
            rw [get_filter (fun i => R.contains i || sfx (0 :: S.g) i.g), if_neg]
            intro h
            rcases Bool.or_eq_true _ _ ▸ h with h | h
            · exact h1 (by simpa using h)
            · exact h2 ((List.suffix_cons 0 S.g).trans ((sfx_iff _ _).1 h))
          simp only [get_weaveH, get_append, h3, get_without, if_neg h1]
          exact ⟨trivial, trivial⟩
      · cases h
    · cases h

theorem append_frame (hg : S2.g = S.g) {d dst : Nat} {ts : List Nat} {s x y : AV} (ha : F.al = true) (hs : ∀ id ∈ ids1 s, id ∈ F.wr) (hH : ∀ id, F.acc S.g id → S2.H.get id = S.H.get id)
    (h : appendA T d dst S ts s x = some (y, S1)) : ∃ S3, appendA T d dst S2 ts s x = some (y, S3) ∧ Fr3 F S S1 S2 S3 := by
  unfold appendA at h ⊢
  split at h
  case h_2 => cases h
  rename_i t0 t1
  split at h
  case h_2 => cases h
  rename_i e e' hu0 hu1
  split at h
  case h_2 => cases h
  split at h
  case isFalse => cases h
  rename_i hc
  rw [if_pos hc]
  split at h
  · simp only [Option.some.injEq, Prod.mk.injEq] at h
    obtain ⟨rfl, rfl⟩ := h
    simp only [hg]
    exact ⟨_, rfl, Fr3.new hH ha _ _ _ _ _⟩
  · rename_i id
    have hid : id ∈ F.wr := hs id (by simp [ids1])
    split at h
    · rename_i fr hfr
      split at h
      · rename_i hfe
        simp only [Option.some.injEq, Prod.mk.injEq] at h
        obtain ⟨rfl, rfl⟩ := h
        simp only [hH id (.inr (.inl hid)), hfr, if_pos hfe]
        exact ⟨_, rfl, Fr3.put hH hid _⟩
      · cases h
    · cases h

theorem v_frame (hH : ∀ id, F.acc S.g id → S2.H.get id = S.H.get id) {y : Option AV} {x : Option AV} (h : (match y with | some y => some (some y, S) | none => none) = some (x, S1)) :
    ∃ S3, (match y with | some y => some (some y, S2) | none => none) = some (x, S3) ∧ Fr3 F S S1 S2 S3 := by
  cases y with
  | none => cases h
  | some y =>
    simp only [Option.some.injEq, Prod.mk.injEq] at h
    obtain ⟨rfl, rfl⟩ := h
    exact ⟨S2, rfl, Fr3.quiet hH⟩
theorem c_frame (hH : ∀ id, F.acc S.g id → S2.H.get id = S.H.get id) {y : AV} {x : Option AV} (h : some (some y, S) = some (x, S1)) :
    ∃ S3, some (some y, S2) = some (x, S3) ∧ Fr3 F S S1 S2 S3 := by
  simp only [Option.some.injEq, Prod.mk.injEq] at h
  obtain ⟨rfl, rfl⟩ := h
  exact ⟨S2, rfl, Fr3.quiet hH⟩

theorem strA_congr {y : AV} (h : ∀ id ∈ ids1 y, S2.H.get id = S.H.get id) : strA S2 y = strA S y := by
  cases y with
  | arr id off n sz => simp only [strA, h id (by simp [ids1])]
  | _ => rfl
theorem opA_frame {d : Nat} {o : Oper} {x : Option AV} (hT : ∀ t, .tmp t ∈ o.op.operands → S2.T.get t = S.T.get t) (hg : S2.g = S.g) (hH : ∀ id, (footA T o S).acc S.g id → S2.H.get id = S.H.get id) (h : opA T call d o S = some (x, S1)) :
    ∃ S3, opA T call d o S2 = some (x, S3) ∧ Fr3 (footA T o S) S S1 S2 S3 := by
  have hev : ∀ y ∈ o.op.operands, ∀ t, ev T S2 t y = ev T S t y := fun y hy t => ev_congr (fun i hi => hT i (hi ▸ hy)) t
  clear hT
  unfold opA at h ⊢
  cases ho : o.op <;> simp only [ho] at h hev ⊢
  case move y => rw [hev y (by simp [Op.operands])]; exact v_frame hH h
  case assign y => rw [hev y (by simp [Op.operands])]; exact v_frame hH h
  case pick c y z =>
    simp only [hev c (by simp [Op.operands]), hev y (by simp [Op.operands]), hev z (by simp [Op.operands])]
    split at h
    · split at h
      · rename_i hc
        rw [if_pos hc]
        exact v_frame hH h
      · rename_i hc
        rw [if_neg hc]
        exact v_frame hH h
    · cases h
  case alloc e =>
    split at h
    · simp only [newBox, Option.some.injEq, Prod.mk.injEq] at h ⊢
      obtain ⟨rfl, rfl⟩ := h
      simp only [hg]
      exact ⟨_, ⟨trivial, rfl⟩, Fr3.new hH (by simp only [footA, ho]) _ _ _ _ _⟩
    · cases h
  case box e y =>
    simp only [hev y (by simp [Op.operands])]
    split at h
    · split at h
      · simp only [newBox, Option.some.injEq, Prod.mk.injEq] at h ⊢
        obtain ⟨rfl, rfl⟩ := h
        rename_i hc
        simp only [if_pos hc, hg, Option.some.injEq, Prod.mk.injEq]
        exact ⟨_, ⟨trivial, rfl⟩, Fr3.new hH (by simp only [footA, ho]) _ _ _ _ _⟩
      · cases h
    · cases h
  case build t parts =>
    rw [parts_congr (S := S) (S2 := S2) _ _ fun p hp => hev p.2 (by simp [Op.operands]; exact ⟨p.1, by simpa using hp⟩)]
    split at h
    · split at h
      · rename_i hc
        rw [if_pos hc]
        exact v_frame hH h
      · cases h
    · cases h
  case buildSlice t len parts =>
    rw [parts_congr (S := S) (S2 := S2) _ _ fun p hp => hev p.2 (by simp [Op.operands]; exact ⟨p.1, by simpa using hp⟩)]
    split at h
    · split at h
      · split at h
        · rename_i hc
          rw [if_pos hc]
          split at h
          · split at h
            · exact c_frame hH h
            · cases h
          · cases h
        · cases h
      · cases h
    · cases h
  case load t y =>
    simp only [hev y (by simp [Op.operands])]
    cases hy : ev T S 0 y with
    | none => rw [hy] at h; cases h
    | some p =>
      rw [hy] at h
      simp only at h ⊢
      rw [behind_congr (S := S) (S2 := S2) fun id hid => hH id (.inl (by simpa only [footA, ho, hy, footV] using hid))]
      split at h
      · exact v_frame hH h
      · cases h
  case store t y z =>
    simp only [hev y (by simp [Op.operands]), hev z (by simp [Op.operands])]
    split at h
    · rename_i id off v n hy hz hn
      have hid : id ∈ (footA T o S).wr := by simp [footA, ho, hy, footV, ids1]
      simp only [hH id (.inr (.inl hid))]
      split at h
      · split at h
        · rename_i hc
          rw [if_pos hc]
          simp only [Option.some.injEq, Prod.mk.injEq] at h ⊢
          obtain ⟨rfl, rfl⟩ := h
          exact ⟨_, ⟨rfl, rfl⟩, Fr3.put hH hid _⟩
        · cases h
      · cases h
    · cases h
  case nilCheck y =>
    simp only [hev y (by simp [Op.operands])]
    split at h
    · rename_i id off hy
      simp only [hH id (.inl (by simp [footA, ho, hy, footV, ids1]))]
      split at h
      · exact c_frame hH h
      · cases h
    · exact c_frame hH h
    · cases h
  case fieldAddr t y i =>
    simp only [hev y (by simp [Op.operands])]
    split at h
    · rename_i id off fs hy hfs
      simp only [hH id (.inl (by simp [footA, ho, hy, footV, ids1]))]
      split at h
      · split at h
        · split at h
          · cases h
          · rename_i hc
            rw [if_neg hc]
            exact c_frame hH h
        · cases h
      · cases h
    · split at h
      · split at h
        · split at h
          · cases h
          · rename_i hc
            rw [if_neg hc]
            exact c_frame hH h
        · cases h
      · cases h
    · cases h
  case indexAddr t y z =>
    simp only [hev y (by simp [Op.operands]), hev z (by simp [Op.operands])]
    split at h
    · rename_i e p k i hu hy hz
      split at h
      · rename_i id off n sz
        simp only [hH id (.inl (by simp [footA, ho, hy, footV, ids1]))]
        split at h
        · split at h
          · rename_i hc
            rw [if_pos hc]
            exact c_frame hH h
          · cases h
        · cases h
      · split at h
        · split at h
          · rename_i hc
            rw [if_pos hc]
            split at h
            · exact c_frame hH h
            · cases h
          · cases h
        · cases h
    · rename_i n e p k i hu hy hz
      split at h
      · split at h
        · rename_i hc
          rw [if_pos hc]
          split at h
          · rename_i id off
            simp only [hH id (.inl (by simp [footA, ho, hy, footV, ids1]))]
            split at h
            · exact c_frame hH h
            · cases h
          · exact c_frame hH h
          · cases h
        · cases h
      · cases h
    · cases h
  case index t y z =>
    simp only [hev y (by simp [Op.operands]), hev z (by simp [Op.operands])]
    split at h
    · split at h
      · rename_i hc
        rw [if_pos hc]
        split at h
        · exact c_frame hH h
        · cases h
      · cases h
    · split at h
      · split at h
        · split at h
          · rename_i hc
            rw [if_pos hc]
            exact v_frame hH h
          · cases h
        · cases h
      · cases h
    · cases h
  case field t y i =>
    simp only [hev y (by simp [Op.operands])]
    split at h
    · split at h
      · exact v_frame hH h
      · cases h
    · cases h
  case binOp op t y z t' =>
    simp only [hev y (by simp [Op.operands]), hev z (by simp [Op.operands])]
    split at h
    · exact v_frame hH h
    · cases h
  case unOp op t y =>
    simp only [hev y (by simp [Op.operands])]
    split at h
    · exact c_frame hH h
    · exact c_frame hH h
    · cases h
  case convert s t y =>
    simp only [hev y (by simp [Op.operands])]
    split at h
    · exact c_frame hH h
    · exact c_frame hH h
    · rename_i e x hs1 ht hy
      unfold convS at h ⊢
      split at h
      · rename_i q hq
        split at hq
        · split at hq
          · rename_i hlen
            injection hq with hq
            simp only [newArr, Prod.mk.injEq] at hq
            obtain ⟨rfl, rfl⟩ := hq
            simp only [Option.some.injEq, Prod.mk.injEq] at h ⊢
            obtain ⟨rfl, rfl⟩ := h
            simp only [if_pos hlen, hg, newArr]
            exact ⟨_, rfl, Fr3.new hH (by simp only [footA, ho, hs1, ht]) _ _ _ _ _⟩
          · cases hq
        · cases hq
      · cases h
    · rename_i e x hs1 ht hy
      have hst : strA S2 x = strA S x := strA_congr fun id hid => hH id (.inl (by simpa only [footA, ho, hs1, ht, hy, footV] using hid))
      have hcb : convB T S2 e x = convB T S e x := by simp only [convB, hst]
      rw [hcb]
      exact v_frame hH h
    · cases h
  case makeSlice t y z =>
    simp only [hev y (by simp [Op.operands]), hev z (by simp [Op.operands])]
    split at h
    · unfold makeA at h ⊢
      split at h
      · rename_i q hq
        split at hq
        · split at hq
          · split at hq
            · rename_i hc
              injection hq with hq
              simp only [newArr, Prod.mk.injEq] at hq
              obtain ⟨rfl, rfl⟩ := hq
              simp only [Option.some.injEq, Prod.mk.injEq] at h ⊢
              obtain ⟨rfl, rfl⟩ := h
              simp only [if_pos hc, hg, newArr]
              exact ⟨_, rfl, Fr3.new hH (by simp only [footA, ho]) _ _ _ _ _⟩
            · cases hq
          · cases hq
        · cases hq
      · cases h
    · cases h
  case makeFunc fn first caps =>
    cases fn with
    | func f =>
      simp only at h ⊢
      rw [evs_congr (S := S) (S2 := S2) _ _ fun y hy => hev y (by simp [Op.operands]; exact .inr (by simpa using hy))]
      split at h
      · rename_i hc
        rw [if_pos hc]
        split at h
        · split at h
          · rename_i hc
            rw [if_pos hc]
            exact c_frame hH h
          · cases h
        · cases h
      · cases h
    | _ => cases h
  case slice t y lo hi mx =>
    rw [evO_congr (S := S) (S2 := S2) lo fun z hz => hev z (by simp [Op.operands, hz]), evO_congr (S := S) (S2 := S2) hi fun z hz => hev z (by simp [Op.operands, hz])]
    simp only [hev y (by simp [Op.operands])]
    cases mx with
    | none =>
      split at h
      · split at h
        · exact c_frame hH h
        · cases h
      · split at h
        · split at h
          · rename_i hc
            rw [if_pos hc]
            split at h
            · exact c_frame hH h
            · cases h
          · cases h
        · cases h
      · simp_all
      · cases h
    | some mx =>
      have hm : ev T S2 0 mx = ev T S 0 mx := hev mx (by simp [Op.operands]) 0
      split at h
      · simp_all
      · simp_all
      · rename_i m' _ _ _ _ _ hmx _ _ _ _
        injection hmx with hmx
        subst hmx
        simp only [hm]
        split at h
        · split at h
          · rename_i hc
            simp only [if_pos hc]
            split at h
            · exact c_frame hH h
            · cases h
          · cases h
        · cases h
      · cases h
  case extract y i =>
    simp only [hev y (by simp [Op.operands])]
    split at h
    · exact v_frame hH h
    · cases h
  case call c =>
    obtain ⟨callee, args, ts⟩ := c
    have hargs : evs T S2 args.toList ts.toList = evs T S args.toList ts.toList := evs_congr _ _ fun y hy => hev y (by simp [Op.operands, Call.operands]; exact .inr (by simpa using hy))
    simp only at h ⊢
    rw [hargs]
    split at h
    · rename_i b xs hxs
      cases hb : builtinA T d (o.dst.getD 0) S b ts.toList xs with
      | none => rw [hb] at h; cases h
      | some q =>
        obtain ⟨y, S4⟩ := q
        rw [hb] at h
        simp only [Option.some.injEq, Prod.mk.injEq] at h
        obtain ⟨rfl, rfl⟩ := h
        suffices hk : ∃ S3, builtinA T d (o.dst.getD 0) S2 b ts.toList xs = some (y, S3) ∧ Fr3 (footA T o S) S S4 S2 S3 by
          obtain ⟨S3, h1, h2⟩ := hk
          exact ⟨S3, by rw [h1], h2⟩
        unfold builtinA at hb ⊢
        split at hb
        · rename_i x'
          split at hb
          · rename_i t hts
            have hl : lenA T S2 t x' = lenA T S t x' := lenA_congr fun id hid => hH id (.inl (by simp [footA, ho, hxs, hid]))
            simp only [hl]
            split at hb
            · simp only [Option.some.injEq, Prod.mk.injEq] at hb
              obtain ⟨rfl, rfl⟩ := hb
              exact ⟨S2, rfl, Fr3.quiet hH⟩
            · cases hb
          · cases hb
        · split at hb
          · simp only [Option.some.injEq, Prod.mk.injEq] at hb
            obtain ⟨rfl, rfl⟩ := hb
            exact ⟨S2, rfl, Fr3.quiet hH⟩
          · cases hb
        · split at hb
          · simp only [Option.some.injEq, Prod.mk.injEq] at hb
            obtain ⟨rfl, rfl⟩ := hb
            exact ⟨S2, rfl, Fr3.quiet hH⟩
          · cases hb
        · exact append_frame hg (by simp [footA, ho, hxs]) (fun id hid => by simp [footA, ho, hxs, hid]) hH hb
        · cases hb
    · rename_i f0 xs hxs
      simp only [hev f0 (by simp [Op.operands, Call.operands])]
      split at h
      · rename_i f caps hf
        have hF : footA T o S = footC T f (xs ++ caps.map .d) S := by simp [footA, ho, hxs, hf]
        rw [hF] at hH ⊢
        split at h
        · rename_i y S4 hca
          injection h with h
          injection h with h1 h2
          subst h1; subst h2
          obtain ⟨S3, h3, h4⟩ := callA_frame hg hH hca
          exact ⟨S3, by rw [h3], h4⟩
        · cases h
      · rename_i f caps hf
        have hF : footA T o S = footC T f (xs ++ caps) S := by simp [footA, ho, hxs, hf]
        rw [hF] at hH ⊢
        split at h
        · rename_i y S4 hca
          injection h with h
          injection h with h1 h2
          subst h1; subst h2
          obtain ⟨S3, h3, h4⟩ := callA_frame hg hH hca
          exact ⟨S3, by rw [h3], h4⟩
        · cases h
      · cases h
    · cases h
  all_goals cases h
end
end Go.Proofs.Ythnlmhibbmogeaa.Am
