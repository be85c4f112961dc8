/- The small form's ranks. -/
import Derived.Test.YtfcfifohflgboaaRkE
set_option linter.unusedVariables false
set_option linter.unusedSimpArgs false
namespace Go.Proofs.Ytfcfifohflgboaa.Am
open Go Go.RowKit
set_option maxRecDepth 100000
set_option maxHeartbeats 40000000





def srcB : Exp := .mk 8 Val.zero [] [.mk 2 Val.zero [97] [], .mk 1 ⟨1, 1, []⟩ [] []]
def srcC : Exp := .mk 2 Val.zero [98] []
theorem small_eq : smallF.fields = [⟨[98], 2, 1, srcB⟩, ⟨[97], 1, 1, Exp.zero⟩, ⟨[99], 3, 3, srcC⟩] := rfl
theorem wfB : srcB.wf := ⟨⟨by decide, by decide, rfl, by rw [if_neg (by decide), if_neg (by decide)]; exact ⟨rfl, rfl⟩⟩, ⟨⟨by decide, by decide, rfl, by rw [if_neg (by decide), if_pos rfl]; exact ⟨by kernel_rfl, rfl⟩⟩, trivial⟩, ⟨⟨by decide, by decide, rfl, by rw [if_pos rfl]; exact ⟨rfl, rfl, by decide⟩⟩, trivial⟩, trivial⟩
theorem wfC : srcC.wf := ⟨⟨by decide, by decide, rfl, by rw [if_neg (by decide), if_pos rfl]; exact ⟨by kernel_rfl, rfl⟩⟩, trivial⟩
theorem small_ok : RkFs smallF.fields := by
  have hm : ∀ f, f ∈ smallF.fields → f = ⟨[98], 2, 1, srcB⟩ ∨ f = ⟨[97], 1, 1, Exp.zero⟩ ∨ f = ⟨[99], 3, 3, srcC⟩ := fun f hf => by
    rw [small_eq] at hf
    simpa using hf
  have rB : srcB.refs = [[97]] := rfl
  have rC : srcC.refs = [[98]] := rfl
  have rZ : Exp.zero.refs = [] := rfl
  refine ⟨⟨by decide, by decide, fun f hf => ?_⟩, by decide, fun f hf s hs => ?_, fun f hf => ?_, ⟨fun i => match i with | 0 => 1 | 1 => 0 | _ => 2, fun i x hi k g hg hk => ?_, fun i hi => ?_⟩⟩
  · rcases hm f hf with rfl | rfl | rfl
    · exact ⟨by kernel_rfl, .inr (.inl rfl), .inl rfl, fun h => absurd h (by decide), fun _ => ⟨wfB, by decide, by decide⟩, fun _ => by kernel_rfl, fun h => absurd h (by decide)⟩
    · exact ⟨by kernel_rfl, .inl rfl, .inl rfl, fun _ => rfl, fun h => absurd rfl h, fun h => absurd h (by decide), fun h => absurd h (by decide)⟩
    · exact ⟨by kernel_rfl, .inr (.inr rfl), .inr (.inr rfl), fun h => absurd h (by decide), fun _ => ⟨wfC, by decide, by decide⟩, fun h => absurd h (by decide), fun _ => by
        have : Exp.ty (tmap smallF.fields) srcC = 1 := by kernel_rfl
        simp only
        rw [this]
        decide⟩
  · rw [small_eq]
    rcases hm f hf with rfl | rfl | rfl
    · simp only [rB, List.mem_singleton] at hs
      exact ⟨⟨[97], 1, 1, Exp.zero⟩, by simp, hs.symm⟩
    · simp [rZ] at hs
    · simp only [rC, List.mem_singleton] at hs
      exact ⟨⟨[98], 2, 1, srcB⟩, by simp, hs.symm⟩
  · rcases hm f hf with rfl | rfl | rfl <;> decide
  · rw [small_eq] at hi hg
    match i, hi with
    | 0, hi =>
      obtain rfl : _ = x := by simpa using hi
      simp only [rB, List.mem_singleton] at hk
      match k, hg with
      | 0, hg => obtain rfl : _ = g := by simpa using hg
                 simp at hk
      | 1, hg => decide
      | 2, hg => obtain rfl : _ = g := by simpa using hg
                 simp at hk
      | k + 3, hg => simp at hg
    | 1, hi =>
      obtain rfl : _ = x := by simpa using hi
      simp [rZ] at hk
    | 2, hi =>
      obtain rfl : _ = x := by simpa using hi
      simp only [rC, List.mem_singleton] at hk
      match k, hg with
      | 0, hg => decide
      | 1, hg => decide
      | 2, hg => obtain rfl : _ = g := by simpa using hg
                 simp at hk
      | k + 3, hg => simp at hg
    | i + 3, hi => simp at hi
  · match i, hi with
    | 0, _ => decide
    | 1, _ => decide
    | 2, _ => decide
    | i + 3, hi => have : smallF.fields.length = 3 := rfl
                   omega
end Go.Proofs.Ytfcfifohflgboaa.Am
