/- names.Of beside the evaluator: a call to it is answered by what OfA shows. -/
import Derived.Test.YtfcfifohflgboaaOfA
import Derived.Test.YtfcfifohflgboaaFmV
set_option linter.unusedVariables false
set_option linter.unusedSimpArgs false
namespace Go.Proofs.Ytfcfifohflgboaa.Am
open Go Go.RowKit Go.Shelf Go.Proofs Go.Maps
set_option maxRecDepth 100000
set_option maxHeartbeats 40000000

def namesR (X : Ex) : List (List UInt8) := (strKeys (revD X.refs)).mergeSort (fun x y => decide (x ≤ y))
def OfOk (X : Ex) : Prop := (∀ s ∈ X.refs, s.length ≤ 1000) ∧ X.refs.length ≤ 1048576 ∧ Ret tab 59 [.d X.dv] (.d (.int .i64 0))
open Classical in
noncomputable def ofS (x : DV) : Option (AV × Heap) :=
  if h : ∃ X : Ex, x = X.dv ∧ OfOk X then some (.tup [.d (.sl 1 ((namesR h.choose).map DV.str)), .d (.int .i64 0)], []) else none
theorem ofS_eq (X : Ex) (hX : OfOk X) : ofS X.dv = some (.tup [.d (.sl 1 ((namesR X).map DV.str)), .d (.int .i64 0)], []) := by
  have h : ∃ Y : Ex, X.dv = Y.dv ∧ OfOk Y := ⟨X, rfl, hX⟩
  have hs := h.choose_spec
  unfold ofS
  rw [dif_pos h]
  generalize h.choose = q at hs ⊢
  rw [Ex.dv_inj X q hs.1]
noncomputable def callX : Call := fun d f args H g => if f = 29 then (match args, H with
  | [.d x], [] => (match ofS x with
    | some r => some r
    | none => callR tab d f args H g)
  | _, _ => none) else callR tab d f args H g
theorem ca_X {f d dst : Nat} {args : List AV} {S : St} (hne : f ≠ 29) : callA tab callX d dst f args S = callA tab (callR tab) d dst f args S := by
  unfold callA callO callX
  simp only [if_neg hne]
theorem ca_OfN {d dst : Nat} {S : St} (X : Ex) (hX : OfOk X) : callA tab callX d dst 29 [.d X.dv] S = some (.tup [.d (.sl 1 ((namesR X).map DV.str)), .d (.int .i64 0)], S) := by
  have hp : Plain 29 := tab_res (by kernel_rfl)
  rw [callA_deep (ds := [X.dv]) rfl (tab_opn (by kernel_rfl)) hp.2.2]
  have h : callX 0 29 ([X.dv].map AV.d) [] [] = some (.tup [.d (.sl 1 ((namesR X).map DV.str)), .d (.int .i64 0)], []) := by
    unfold callX
    rw [if_pos rfl]
    show (match ofS X.dv with
      | some r => some r
      | none => callR tab 0 29 [.d X.dv] [] []) = _
    rw [ofS_eq X hX]
  rw [h]
  simp only [adopt, hp.1, hp.2.1, frz, adoptO]
  rfl
theorem runsOf {x : DV} {r : AV} {H1 : Heap} (h : ofS x = some (r, H1)) (p : List Nat) : RunsOk Try.prog tab 29 [.d x] [] p r H1 := by
  unfold ofS at h
  split at h
  · rename_i hX
    have hs := hX.choose_spec
    generalize hX.choose = X at hs h
    obtain ⟨rfl, h1, h2, H0, h3⟩ := hs
    simp only [Option.some.injEq, Prod.mk.injEq] at h
    obtain ⟨rfl, rfl⟩ := h
    refine ⟨⟨_, fn29⟩, fun C w G U vs hr hfr hl hv => ?_⟩
    obtain ⟨v, e0, r0⟩ := hv 0 _ rfl
    obtain ⟨l⟩ := vs
    simp only [List.size_toArray, List.length_cons, List.length_nil] at hl
    rcases l with _ | ⟨u0, _ | ⟨u1, l⟩⟩ <;> simp at hl
    obtain rfl : u0 = v := by simpa using e0
    have hin := of_in X u0 w (repd_lt r0.dinv) h1 h2 (fun W hW => by
      refine (closed_ok tab_ok prim_ok (ds := [X.dv]) (F := fun b _ => b < W.heap.size) h3 rfl (fun i x hx => ?_)).mono fun e W' ⟨v, F', he, hb, hv⟩ => ?_
      · match i, hx with
        | 0, hx => simp at hx; subst hx; exact ⟨_, rfl, hW⟩
      · cases hv
        exact ⟨he, hb⟩)
    refine (callsIn_wide (n := 6)).1 (hin.mono ?_)
    rintro e w' ⟨u, ss, rfl, hS, hrow, hb⟩
    have hnm : ss.mergeSort (fun x y => decide (x ≤ y)) = namesR X := mergeSort_of_perm hS
    rw [hnm] at hrow
    have hlen : (namesR X).length = ss.length := by rw [← hnm, List.length_mergeSort]
    have hfz : ∀ b o, w.heap.size ≤ b → Fz C G [] b o := fun b o hb => ⟨.inr (Nat.le_trans hr.base hb), fun he => by have := hr.exlt b (hr.exb b o he); omega, fun id p hp => by simp [Heap.get] at hp⟩
    refine ⟨_, G, U, rfl, Ext.grown hr hb, hr.grown hb, .tup _ _ rfl (fun i x hx => ?_) (fun i v x hv hx => ?_), fun i hi => .inl hi⟩
    · match i, hx with
      | 0, hx => simp at hx; subst hx; rfl
      | 1, hx => simp at hx; subst hx; rfl
    · match i, hv, hx with
      | 0, hv, hx =>
        simp at hv hx
        subst hv hx
        refine .d _ _ ?_
        rcases hrow.2 with ⟨rfl, hz⟩ | ⟨g, cap, cur, rfl, k1, k2, k3, k4, k5, k6⟩
        · have : namesR X = [] := List.eq_nil_of_length_eq_zero (by omega)
          rw [this]
          exact .sl none 0 0 1 [] (fun _ => undef) rfl (Nat.le_refl _) (by omega) (fun i x h => by simp at h) (fun i x h => by simp at h)
        · refine .sl _ _ _ 1 _ (fun i => encStr ((namesR X).getD i [])) (by rw [List.length_map, hlen]) k3 (by simp only [maxLen] at k4; omega) (fun i x hx => ?_) (fun i x hx => ?_)
          · simp only [List.getElem?_map, Option.map_eq_some_iff] at hx
            obtain ⟨s, hs, rfl⟩ := hx
            refine ⟨rfl, g, 0, rfl, fun j u hu => ?_⟩
            have hsz : j = 0 := by
              have := (Array.getElem?_eq_some_iff.1 hu).1
              simp [encStr, Value.cells] at this
              omega
            subst hsz
            have hu' : u = encStr s := by
              rw [List.getD_eq_getElem?_getD, hs] at hu
              simp [encStr, Value.cells] at hu
              simp [encStr, hu]
            subst hu'
            have hi : i < ss.length := by rw [← hlen]; exact (List.getElem?_eq_some_iff.1 hs).1
            have hcur : cur.toList[i]? = some (encStr s) := by
              have h4 : (cur.toList.take (ss.length * 1))[i]? = ((namesR X).map encStr)[i]? := by rw [k6]
              rw [List.getElem?_take_of_lt (by omega), List.getElem?_map, hs] at h4
              exact h4
            refine ⟨?_, hfz _ _ k1⟩
            unfold World.cell?
            simp only [Nat.mul_one, Nat.zero_add, Nat.add_zero]
            rw [k2]
            simpa using hcur
          · simp only [List.getElem?_map, Option.map_eq_some_iff] at hx
            obtain ⟨s, hs, rfl⟩ := hx
            rw [List.getD_eq_getElem?_getD, hs]
            exact .str _
      | 1, hv, hx =>
        simp at hv hx
        subst hv hx
        exact .d _ _ (.int _ _)
  · cases h
theorem ok_X : CallOk Try.prog tab callX := fun d f args H p r H' h => by
  unfold callX at h
  split at h
  · rename_i hf
    subst hf
    split at h
    · split at h
      · rename_i hq
        cases h
        exact runsOf hq p
      · exact runs_ok tab_ok prim_ok (callR_runs h)
    · cases h
  · exact runs_ok tab_ok prim_ok (callR_runs h)
end Go.Proofs.Ytfcfifohflgboaa.Am
