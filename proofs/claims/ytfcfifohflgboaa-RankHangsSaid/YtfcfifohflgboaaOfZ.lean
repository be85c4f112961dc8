/- Functions that reach names.Of, however deep: calls by levels. -/
import Derived.Test.YtfcfifohflgboaaOfB
set_option linter.unusedVariables false
set_option linter.unusedSimpArgs false
namespace Go.Proofs.Ytfcfifohflgboaa.Am
open Go Go.RowKit
set_option maxRecDepth 100000
set_option maxHeartbeats 4000000
noncomputable def callZ (Z : Nat → Bool) (N : Nat) : Nat → Call
  | 0 => callX
  | k + 1 => fun d f args H g => if Z f = true then stepA tab (callZ Z N k) N d f args H g else callX d f args H g
variable {Z : Nat → Bool} {N : Nat}
theorem ok_Z : ∀ k, CallOk Try.prog tab (callZ Z N k)
  | 0 => ok_X
  | k + 1 => fun d f args H p r H' h => by
    unfold callZ at h
    split at h
    · exact step_ok tab_ok prim_ok (ok_Z k) N _ _ _ _ _ _ _ h
    · exact ok_X _ _ _ _ _ _ _ h
theorem callZ_other {f : Nat} (hz : Z f = false) (k d : Nat) (args : List AV) (H : Heap) (g : List Nat) : callZ Z N k d f args H g = callX d f args H g := by
  cases k with
  | zero => rfl
  | succ k => unfold callZ; rw [if_neg (by rw [hz]; decide)]
theorem callA_f {call call' : Call} {f : Nat} (h : ∀ d args H g, call d f args H g = call' d f args H g) {d dst : Nat} {args : List AV} {S : St} : callA tab call d dst f args S = callA tab call' d dst f args S := by
  unfold callA callO
  simp only [h]
theorem ca_Z {f d dst k : Nat} {args : List AV} {S : St} (hz : Z f = false) (hne : f ≠ 29) : callA tab (callZ Z N k) d dst f args S = callA tab (callR tab) d dst f args S :=
  (callA_f (callZ_other hz k)).trans (ca_X hne)
theorem ca_OfZ {d dst k : Nat} {S : St} (hz : Z 29 = false) (X : Ex) (hX : OfOk X) : callA tab (callZ Z N k) d dst 29 [.d X.dv] S = some (.tup [.d (.sl 1 ((namesR X).map DV.str)), .d (.int .i64 0)], S) :=
  (callA_f (callZ_other hz k)).trans (ca_OfN X hX)
def RetZ (Z : Nat → Bool) (N k f : Nat) (args : List AV) (y : DV) : Prop := ∃ x H, stepA tab (callZ Z N k) N 0 f args [] [] = some (x, H) ∧ Deep y x H
def RetZT (Z : Nat → Bool) (N k f : Nat) (args : List AV) (ys : List DV) : Prop := ∃ x H, stepA tab (callZ Z N k) N 0 f args [] [] = some (x, H) ∧ DeepT ys x H
theorem ca_retZ {d dst k f : Nat} {S : St} {args : List AV} {ds : List DV} {y : DV} (hz : Z f = true) (h : RetZ Z N k f (ds.map .d) y) (ha : toDs args = some ds) (ho : tab.opn f = false) (hr : Plain f) : callA tab (callZ Z N (k + 1)) d dst f args S = some (.d y, S) := by
  obtain ⟨x, H, h, ht, hx⟩ := h
  have hc : callZ Z N (k + 1) 0 f (ds.map .d) [] [] = some (x, H) := by unfold callZ; rw [if_pos hz]; exact h
  rw [callA_deep ha ho hr.2.2, hc]
  simp only [adopt, hr.1, hr.2.1]
  exact adoptO_plain hr.1 (frz_ntup ht) hx
theorem ca_retZT {d dst k f : Nat} {S : St} {args : List AV} {ds ys : List DV} (hz : Z f = true) (h : RetZT Z N k f (ds.map .d) ys) (ha : toDs args = some ds) (ho : tab.opn f = false) (hr : Plain f) : callA tab (callZ Z N (k + 1)) d dst f args S = some (.tup (ys.map .d), S) := by
  obtain ⟨x, H, h, hx⟩ := h
  cases x with
  | tup xs =>
    have hc : callZ Z N (k + 1) 0 f (ds.map .d) [] [] = some (.tup xs, H) := by unfold callZ; rw [if_pos hz]; exact h
    rw [callA_deep ha ho hr.2.2, hc]
    have hx' : toDs (xs.map (frzB H)) = some ys := hx
    simp only [adopt, hr.1, hr.2.1, frz, adoptO, hx']
  | _ => exact hx.elim
theorem stepq_good {call : Call} {n d f : Nat} {args : List AV} {H : Heap} {g : List Nat} {F : Func} {c : Code} {Pr : AV → Heap → Prop} (h : tab.fn f = some F) (hb : F.body = some c) (hl : args.length = F.params.size + F.nfree)
    (hg : Gd (FinQ tab F.results.toList Pr) (cx tab call n f d [] c ⟨argsT 0 args, H, g⟩)) : ∃ x H', stepA tab call n d f args H g = some (x, H') ∧ Pr x H' := by
  cases hc : cx tab call n f d [] c ⟨argsT 0 args, H, g⟩ with
  | none => rw [hc] at hg; exact hg.elim
  | some q =>
    obtain ⟨o, S⟩ := q
    rw [hc] at hg
    obtain ⟨h1, x, H', h2, h3⟩ := hg
    refine ⟨x, H', ?_, h3⟩
    rw [step_eq h hb hl, hc]
    cases o with
    | exit i => exact (h1 i rfl).elim
    | nrm => exact h2
    | ret => exact h2
theorem closed_Z {w : World} {k f : Nat} {ds : List DV} {y : DV} {H' : Heap} (h : stepA tab (callZ Z N k) N 0 f (ds.map .d) [] [] = some (.d y, H')) {vs : Array Value} {F : Nat → Nat → Prop} (hl : vs.size = ds.length)
    (hv : ∀ (i : Nat) x, ds[i]? = some x → ∃ v, vs[i]? = some v ∧ RepD w F v x) : Calls Try.prog f vs w fun e w' => ∃ v F', e = .returned v ∧ Below w.heap.size w w' ∧ RepD w' F' v y := by
  obtain ⟨h1, h2⟩ := step_ok tab_ok prim_ok (ok_Z k) N _ _ _ _ _ _ _ h
  have h3 := h2 ⟨w.heap.size, F, fun _ _ => False, fun _ => False⟩ w (fun _ => none) (fun _ => False) vs
    ⟨Nat.le_refl _, fun k h => h.elim, fun k o h => h, fun id p b h _ => by simp [Heap.get] at h, fun id p h => by simp [Heap.get] at h, fun id cs h => by simp [Heap.get] at h, fun id n b h _ => by simp [Heap.get] at h, fun id id' p p' b h _ _ _ => by simp [Heap.get] at h, fun id es h => by simp [Heap.get] at h⟩
    (fun i h _ => h) (by simpa using hl) (fun i q hq => by
      simp only [List.getElem?_map, Option.map_eq_some_iff] at hq
      obtain ⟨z, hz, rfl⟩ := hq
      obtain ⟨v, h5, h6⟩ := hv i z hz
      exact ⟨v, h5, .d _ _ (h6.weak fun b o hf => ⟨.inl hf, fun h => h, fun id p hp _ => by simp [Heap.get] at hp⟩)⟩)
  exact h3.mono fun e w' ⟨v, G', U', he, hext, _, hrep, _⟩ => ⟨v, _, he, ⟨hext.keep.os, hext.keep.tape, hext.keep.output, hext.keep.size, fun k hk => hext.keep.block k (.inl hk)⟩, hrep.dinv⟩
end Go.Proofs.Ytfcfifohflgboaa.Am
