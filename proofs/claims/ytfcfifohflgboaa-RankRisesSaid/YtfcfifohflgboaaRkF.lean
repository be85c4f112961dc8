/- The small form's ranks. -/
import Derived.Test.YtfcfifohflgboaaRkE
set_option linter.unusedVariables false
set_option linter.unusedSimpArgs false
namespace Go.Proofs.Ytfcfifohflgboaa.Am
open Go Go.RowKit
theorem ty_RkF_23 : type_of% (ai (ai (ai (ai @rs23 @lw23) (ai @tt1 @tt2)) (ai (ai @tt3 @tt4) (ai @tt9 (ai @tt23 @tt24)))) (ai (ai (ai @tt26 @tt28) (ai @tt31 @tt33)) (ai (ai @tt34 @tt36) (ai @tt38 (ai @tt48 @tt50))))) := (ai (ai (ai (ai @rs23 @lw23) (ai @tt1 @tt2)) (ai (ai @tt3 @tt4) (ai @tt9 (ai @tt23 @tt24)))) (ai (ai (ai @tt26 @tt28) (ai @tt31 @tt33)) (ai (ai @tt34 @tt36) (ai @tt38 (ai @tt48 @tt50)))))
set_option maxRecDepth 100000
set_option maxHeartbeats 40000000





theorem names_one {X : Ex} {s : List UInt8} (h : X.refs = [s]) : namesR X = [s] := by
  obtain ⟨p1, p2⟩ := names_perm X
  rw [h] at p2
  generalize namesR X = L at *
  match L, p1, p2 with
  | [], _, p2 => exact absurd ((p2 s).2 (by simp)) (by simp)
  | [a], _, p2 => rw [List.mem_singleton.1 ((p2 a).1 (by simp))]
  | a :: b :: r, p1, p2 =>
    have h1 := List.mem_singleton.1 ((p2 a).1 (by simp))
    have h2 := List.mem_singleton.1 ((p2 b).1 (by simp))
    subst h1
    subst h2
    simp at p1
def srcB : Exp := .mk 8 Val.zero [] [.mk 2 Val.zero [97] [], .mk 1 ⟨1, 1, []⟩ [] []]
def srcC : Exp := .mk 2 Val.zero [98] []
theorem small_eq : smallF.fields = [⟨[98], 2, 1, srcB⟩, ⟨[97], 1, 1, Exp.zero⟩, ⟨[99], 3, 3, srcC⟩] := rfl
theorem wfB : srcB.wf := ⟨⟨by decide, by decide, rfl, by rw [if_neg (by decide), if_neg (by decide)]; exact ⟨rfl, rfl⟩⟩, ⟨⟨by decide, by decide, rfl, by rw [if_neg (by decide), if_pos rfl]; exact ⟨by kernel_rfl, rfl⟩⟩, trivial⟩, ⟨⟨by decide, by decide, rfl, by rw [if_pos rfl]; exact ⟨rfl, rfl, by decide⟩⟩, trivial⟩, trivial⟩
theorem wfC : srcC.wf := ⟨⟨by decide, by decide, rfl, by rw [if_neg (by decide), if_pos rfl]; exact ⟨by kernel_rfl, rfl⟩⟩, trivial⟩
theorem small_ok : RkFs smallF.fields := by
  have hm : ∀ f, f ∈ smallF.fields → f = ⟨[98], 2, 1, srcB⟩ ∨ f = ⟨[97], 1, 1, Exp.zero⟩ ∨ f = ⟨[99], 3, 3, srcC⟩ := fun f hf => by
    rw [small_eq] at hf
    simpa using hf
  have rB : srcB.refs = [[97]] := rfl
  have rC : srcC.refs = [[98]] := rfl
  have rZ : Exp.zero.refs = [] := rfl
  refine ⟨⟨by decide, by decide, fun f hf => ?_⟩, by decide, fun f hf s hs => ?_, fun f hf => ?_, ⟨fun i => match i with | 0 => 1 | 1 => 0 | _ => 2, fun i x hi k g hg hk => ?_, fun i hi => ?_⟩⟩
  · rcases hm f hf with rfl | rfl | rfl
    · exact ⟨by kernel_rfl, .inr (.inl rfl), .inl rfl, fun h => absurd h (by decide), fun _ => ⟨wfB, by decide, by decide⟩, fun _ => by kernel_rfl, fun h => absurd h (by decide)⟩
    · exact ⟨by kernel_rfl, .inl rfl, .inl rfl, fun _ => rfl, fun h => absurd rfl h, fun h => absurd h (by decide), fun h => absurd h (by decide)⟩
    · exact ⟨by kernel_rfl, .inr (.inr rfl), .inr (.inr rfl), fun h => absurd h (by decide), fun _ => ⟨wfC, by decide, by decide⟩, fun h => absurd h (by decide), fun _ => by
        have : Exp.ty (tmap smallF.fields) srcC = 1 := by kernel_rfl
        simp only
        rw [this]
        decide⟩
  · rw [small_eq]
    rcases hm f hf with rfl | rfl | rfl
    · simp only [rB, List.mem_singleton] at hs
      exact ⟨⟨[97], 1, 1, Exp.zero⟩, by simp, hs.symm⟩
    · simp [rZ] at hs
    · simp only [rC, List.mem_singleton] at hs
      exact ⟨⟨[98], 2, 1, srcB⟩, by simp, hs.symm⟩
  · rcases hm f hf with rfl | rfl | rfl <;> decide
  · rw [small_eq] at hi hg
    match i, hi with
    | 0, hi =>
      obtain rfl : _ = x := by simpa using hi
      simp only [rB, List.mem_singleton] at hk
      match k, hg with
      | 0, hg => obtain rfl : _ = g := by simpa using hg
                 simp at hk
      | 1, hg => decide
      | 2, hg => obtain rfl : _ = g := by simpa using hg
                 simp at hk
      | k + 3, hg => simp at hg
    | 1, hi =>
      obtain rfl : _ = x := by simpa using hi
      simp [rZ] at hk
    | 2, hi =>
      obtain rfl : _ = x := by simpa using hi
      simp only [rC, List.mem_singleton] at hk
      match k, hg with
      | 0, hg => decide
      | 1, hg => decide
      | 2, hg => obtain rfl : _ = g := by simpa using hg
                 simp at hk
      | k + 3, hg => simp at hg
    | i + 3, hi => simp at hi
  · match i, hi with
    | 0, _ => decide
    | 1, _ => decide
    | 2, _ => decide
    | i + 3, hi => have : smallF.fields.length = 3 := rfl
                   omega
theorem small_rk : rkF smallF.fields = [1, 0, 2] := by
  have nB : namesR srcB.ex = [[97]] := names_one (by rw [ex_refs]; rfl)
  have nC : namesR srcC.ex = [[98]] := names_one (by rw [ex_refs]; rfl)
  have e : smallF.fields.map (needR smallF.fields) = [[1], [], [0]] := by
    conv => lhs; arg 2; rw [small_eq]
    simp only [List.map_cons, List.map_nil, needR, nB, nC]
    kernel_rfl
  have e2 : ranksL [[1], [], [0]] = [1, 0, 2] := by decide
  unfold rkF
  rw [e, e2]
theorem ret_ranked (k : Nat) : RetZ zR 64 (k + 3) 23 [] (.bool true) := by
  have f0 := fun (S : St) (d dst : Nat) => (ca_Z (Z := zR) (N := 64) (k := k + 3) (by decide) (by decide)).trans (ca_small (d := d) (dst := dst) (S := S))
  have f1 := fun (S : St) (d dst : Nat) => ca_retZT (d := d) (dst := dst) (S := S) (args := [.d (.sl 9 (smallF.fields.map Field.dv))]) (ds := [.sl 9 (smallF.fields.map Field.dv)]) (by decide) (ret_OfR k smallF.fields small_ok) rfl (tab_opn (by kernel_rfl)) (tab_res (by kernel_rfl))
  have f2 := fun (S : St) (d dst : Nat) => (ca_Z (Z := zR) (N := 64) (k := k + 3) (by decide) (by decide)).trans (ca_eq3 (d := d) (dst := dst) (S := S))
  rw [small_rk] at f1
  simp only [Frm.dv] at f0
  simp only [intD, List.map_cons, List.map_nil] at f1
  generalize smallF.fields.map Field.dv = fd at *
  generalize smallF.pages.map Page.dv = pd at *
  refine stepq_good fn23 rfl rfl ?_
  simp only [amr, amc, amp, amz, seval, ty_RkF_23, f0, f1, f2, beq_self_eq_true]
end Go.Proofs.Ytfcfifohflgboaa.Am
