/- Which names a formula asks for: the walk of its parts, by the model's own steps. -/
import Derived.RangeFuncFrom
import Derived.RangeFuncWrites
import Derived.RangeFuncBound
import Derived.RangeFuncLeaves
import Derived.Shelf.Abstract
import Derived.WalkKit
import Derived.OwnWalkIn
import Derived.TacticsInMore
import Derived.LoopNIn
import Derived.LoopIn
import Derived.Test.YtfcfifohflgboaaAmOpZ
import Derived.Test.YtfcfifohflgboaaProg
import Derived.Laws.EntriesVeiled
import Derived.WideLaws
import Derived.RangeFuncNested
import Derived.Maps.OwnIn
import Derived.Test.YtfcfifohflgboaaAmOpM
import Derived.Orders
import Derived.Tactics
set_option linter.unusedVariables false
set_option linter.unusedSimpArgs false
namespace Go.Proofs.Ytfcfifohflgboaa.Am
open Go Go.RowKit Go.Shelf Go.Proofs
attribute [local go_sem] Oper.semAt_some

inductive Ex where
  | mk (op vk vn : Int) (vs nm : List UInt8) (args : List Ex)
mutual
def Ex.dv : Ex → DV
  | .mk op vk vn vs nm args => .agg [.int .i64 op, .int .i64 vk, .int .i64 vn, .str vs, .str nm, .sl 6 (Ex.dvs args)]
def Ex.dvs : List Ex → List DV
  | [] => []
  | x :: r => x.dv :: Ex.dvs r
end
mutual
/-- The names that it asks for, from the left. -/
def Ex.refs : Ex → List (List UInt8)
  | .mk op vk vn vs nm args => (if op = 2 then [nm] else []) ++ Ex.refsL args
def Ex.refsL : List Ex → List (List UInt8)
  | [] => []
  | x :: r => x.refs ++ Ex.refsL r
end
theorem Ex.dvs_map : ∀ l : List Ex, Ex.dvs l = l.map Ex.dv
  | [] => by simp [Ex.dvs]
  | x :: r => by simp [Ex.dvs, Ex.dvs_map r]

def KC (n₀ : Nat) (W W' : World) : Prop := Below n₀ W W' ∧ ∀ (k : Nat) arr te z, W.heap[k]? = some (.cells arr te z) → W'.heap[k]? = some (.cells arr te z)
theorem KC.refl (n₀ : Nat) (W : World) : KC n₀ W W := ⟨Below.refl _ _, fun _ _ _ _ h => h⟩
theorem KC.trans {n₀ : Nat} {A B C : World} (h : KC n₀ A B) (k : KC n₀ B C) : KC n₀ A C := ⟨h.1.trans k.1, fun _ _ _ _ e => k.2 _ _ _ _ (h.2 _ _ _ _ e)⟩
theorem KC.cell {n₀ : Nat} {A B : World} (h : KC n₀ A B) {p : Addr} {v : Value} (e : A.cell? p = some v) : B.cell? p = some v := by
  unfold World.cell? at e ⊢
  cases hb : A.heap[p.block]? with
  | none => rw [hb] at e; cases e
  | some o =>
    cases o with
    | cells c t z => rw [h.2 _ _ _ _ hb]; rw [hb] at e; exact e
    | _ => rw [hb] at e; cases e
theorem KC.grown {n₀ : Nat} {A B : World} (h : A.grownBy B none) (hn : n₀ ≤ A.heap.size) : KC n₀ A B :=
  ⟨⟨h.os, h.tape, h.output, h.size, fun k hk => h.block k (by omega) (by simp)⟩, fun k arr te z e => (h.block k (Array.getElem?_eq_some_iff.1 e).1 (by simp)).trans e⟩
theorem KC.repd {n₀ : Nat} {A B : World} (h : KC n₀ A B) {v : Value} {x : DV} (e : RepD A (fun b _ => b < n₀) v x) : RepD B (fun b _ => b < n₀) v x :=
  e.mono (fun b o u hf hc => ⟨h.cell hc, hf⟩) (fun b es k hf hb => ⟨(h.1.block b hf).trans hb, hf⟩)
theorem repd_node {W : World} {F : Nat → Nat → Prop} {v : Value} {op vk vn : Int} {vs nm : List UInt8} {args : List Ex} (h : RepD W F v (Ex.mk op vk vn vs nm args).dv) :
    ∃ (A : Option Addr) (c : Nat) (fv : Nat → Value), v = .agg #[.int .i64 op, .int .i64 vk, .int .i64 vn, .string ⟨vs.toArray⟩, .string ⟨nm.toArray⟩, .slice A args.length c] ∧ args.length ≤ c ∧ args.length ≤ 9223372036854775807 ∧
      ∀ (i : Nat) x, args[i]? = some x → (∃ b off, A = some ⟨b, off, none⟩ ∧ ∀ (j : Nat) u, (fv i).cells[j]? = some u → W.cell? ⟨b, off + i * 6 + j, none⟩ = some u ∧ F b (off + i * 6 + j)) ∧ RepD W F (fv i) x.dv := by
  rw [Ex.dv] at h
  generalize hD : DV.agg [DV.int IntKind.i64 op, DV.int IntKind.i64 vk, DV.int IntKind.i64 vn, DV.str vs, DV.str nm, DV.sl 6 (Ex.dvs args)] = D at h
  cases h with
  | agg ws cs hl hf hh =>
    injection hD with hD
    subst hD
    have hs : ws.size = 6 := hl
    obtain ⟨l⟩ := ws
    simp only [List.size_toArray] at hs
    rcases l with _ | ⟨v0, _ | ⟨v1, _ | ⟨v2, _ | ⟨v3, _ | ⟨v4, _ | ⟨v5, _ | ⟨v6, l⟩⟩⟩⟩⟩⟩⟩ <;> simp at hs
    have h0 := hh 0 v0 _ rfl rfl
    have h1 := hh 1 v1 _ rfl rfl
    have h2 := hh 2 v2 _ rfl rfl
    have h3 := hh 3 v3 _ rfl rfl
    have h4 := hh 4 v4 _ rfl rfl
    have h5 := hh 5 v5 _ rfl rfl
    cases h0
    cases h1
    cases h2
    cases h3 with | str s3 =>
    cases h4 with | str s4 =>
    cases h5 with | sl A n c _ _ fv hl hc hm hm2 hx =>
    rw [Ex.dvs_map, List.length_map] at hl
    subst hl
    refine ⟨A, c, fv, by simp, hc, hm, fun i x hi => ?_⟩
    have hi' : (Ex.dvs args)[i]? = some x.dv := by rw [Ex.dvs_map, List.getElem?_map, hi]; rfl
    exact ⟨(hm2 i _ hi').2, hx i _ hi'⟩
  | any => cases hD
  | _ => cases hD
theorem wrap_k {k n : Nat} (h : k < n) (hm : n ≤ 9223372036854775807) : wrap64 ((k : Int) + 1) = (k : Int) + 1 := by unfold wrap64; omega
theorem meas_k {k n : Nat} (h : k < n) : n - (intOf (Value.int IntKind.i64 ((k : Int) + 1))).toNat < n - (intOf (Value.int IntKind.i64 (k : Int))).toNat := by
  simp only [intOf]
  omega
theorem refsL_app : ∀ l m : List Ex, Ex.refsL (l ++ m) = Ex.refsL l ++ Ex.refsL m
  | [], m => by simp [Ex.refsL]
  | x :: r, m => by simp [Ex.refsL, refsL_app r m]
set_option maxRecDepth 100000
set_option maxHeartbeats 4000000
theorem wlk_in {F : Fence} (hd : F.depth = none) (h67 : F.fn 76) (hro : F.round = none) {l n₀ Yb Wb N : Nat} {Gd : List UInt8 → Prop} {J Jx : List (List UInt8) → World → Prop} (hJ : ∀ pre W W', J pre W → W.grownBy W' none → J pre W')
    (hY : ∀ m pre (x : List UInt8) W, Gd x → J pre W → pre.length < N → YieldAt F m Try.prog l #[.string ⟨x.toArray⟩] W fun e W' =>
      (e = .returned (.bool true) ∧ J (pre ++ [x]) W' ∧ KC n₀ W W') ∨ (e = .returned (.bool false) ∧ Jx (pre ++ [x]) W')) :
    ∀ (K : Nat) (X : Ex), SizeOf.sizeOf X ≤ K → (∀ s ∈ X.refs, Gd s) → ∀ (n : Nat) (v : Value) (pre : List (List UInt8)) (W : World), RepD W (fun b _ => b < n₀) v X.dv → n₀ ≤ W.heap.size → W.cell? ⟨Yb, 0, none⟩ = some (.func (.yield l) #[] #[]) →
      W.cell? ⟨Wb, 0, none⟩ = some (.func (.func 76) #[] #[.pointer (some ⟨Yb, 0, none⟩), .pointer (some ⟨Wb, 0, none⟩)]) → J pre W → pre.length + X.refs.length ≤ N →
      CallsIn F n Try.prog 76 #[v, .pointer (some ⟨Yb, 0, none⟩), .pointer (some ⟨Wb, 0, none⟩)] W fun e W' =>
        (e = .returned (.bool true) ∧ J (pre ++ X.refs) W' ∧ KC n₀ W W') ∨ (e = .returned (.bool false) ∧ ∃ q, q <+: X.refs ∧ Jx (pre ++ q) W') := by
  intro K
  induction K with
  | zero => intro X hX; cases X; simp at hX
  | succ K ih =>
    rintro ⟨op, vk, vn, vs, nm, args⟩ hX hGd n v pre W hv hn hYb hWb hJ0 hN
    obtain ⟨A, c, fv, rfl, hc, hm, hargs⟩ := repd_node hv
    have hdd : ∀ k : Nat, (F.depth.isSome = true → 1 ≤ k) := fun k h => by rw [hd] at h; cases h
    by_cases hop : op = 2
    · subst hop
      obtain ⟨B, hB⟩ : ∃ B, W.alloc (.cells #[.int .i64 2, .int .i64 vk, .int .i64 vn, .string ⟨vs.toArray⟩, .string ⟨nm.toArray⟩, .slice A args.length c] 36) = B := ⟨_, rfl⟩
      have hgB : W.grownBy B none := by rw [← hB]; exact World.grownBy_alloc W _ none
      have hb5 : B.cell? ⟨W.heap.size, 5, none⟩ = some (.slice A args.length c) := by rw [← hB]; unfold World.cell?; rw [World.alloc_heap_new]; rfl
      obtain ⟨fn, tmps, assign, body, hy, hR⟩ := hY (n - 1) pre nm B (hGd nm (by rw [Ex.refs, if_pos rfl]; simp)) (hJ _ _ _ hJ0 hgB) (by rw [Ex.refs, if_pos rfl] at hN; simp only [List.length_append, List.length_cons, List.length_nil] at hN; omega)
      have hR' := hR.mono (R' := fun e W1 => (e = .returned (.bool true) ∧ J (pre ++ [nm]) W1 ∧ KC n₀ W W1 ∧ W1.cell? ⟨W.heap.size, 5, none⟩ = some (.slice A args.length c)) ∨ (e = .returned (.bool false) ∧ Jx (pre ++ [nm]) W1)) (fun e W1 h => h.elim (fun ⟨h1, h2, h3⟩ => .inl ⟨h1, h2, (KC.grown hgB hn).trans h3, h3.cell hb5⟩) .inr)
      clear hR hgB hb5
      have hYbA : ∀ o, (W.alloc o).cell? ⟨Yb, 0, none⟩ = some (.func (.yield l) #[] #[]) := fun o => (World.grownBy_alloc W o none).cell hYb (by simp)
      refine callsIn_of_wp Try.func76 rfl h67 ?_ hro
      simp only [Try.f76, List.size_toArray, List.length_cons, List.length_nil, Nat.reduceAdd, Nat.reduceSub, Array.replicate_succ, Array.replicate_zero, List.push_toArray, List.append_toArray, List.nil_append, List.cons_append]
      subst hB
      gi_wp2_with ((try refine ⟨hdd _, ?_⟩); refine hR'.mono ?_; clear hR'; rintro e W1 (⟨rfl, hJA, hkA, hb5⟩ | ⟨rfl, hx1⟩))
      · skip
        gi_loopw [20] (fun p wr => ∃ k : Nat, p = .int .i64 k ∧ k ≤ args.length ∧ J (pre ++ [nm] ++ Ex.refsL (args.take k)) wr ∧ KC n₀ W wr)
          (fun p _ => args.length - (intOf p).toNat)
        case atStart =>
          exact ⟨0, rfl, Nat.zero_le _, by simpa [Ex.refsL] using hJA, hkA⟩
        case round =>
          obtain ⟨k, rfl, hk, hJk, hkc⟩ := hrel
          have hYb' := hkc.cell hYb
          have hWb' := hkc.cell hWb
          by_cases hlt : k < args.length
          · obtain ⟨⟨op', vk', vn', vs', nm', args'⟩, hx⟩ : ∃ x, args[k]? = some x := ⟨args[k], List.getElem?_eq_getElem hlt⟩
            obtain ⟨⟨b, off, rfl, hcs⟩, hxr⟩ := hargs k _ hx
            obtain ⟨A', c', fv', hfv, hc', hm', _⟩ := repd_node hxr
            rw [hfv] at hcs hxr
            have c0 : wr.cell? ⟨b, off + k * 6, none⟩ = some (.int .i64 op') := hkc.cell (hcs 0 _ rfl).1
            have c1 := hkc.cell (hcs 1 _ rfl).1
            have c2 := hkc.cell (hcs 2 _ rfl).1
            have c3 := hkc.cell (hcs 3 _ rfl).1
            have c4 := hkc.cell (hcs 4 _ rfl).1
            have c5 := hkc.cell (hcs 5 _ rfl).1
            have w1 : wrap64 ((k : Int) + 1) = (k : Int) + 1 := wrap_k hlt hm
            have hWb2 : ∀ o, (wr.alloc o).cell? ⟨Wb, 0, none⟩ = some (.func (.func 76) #[] #[.pointer (some ⟨Yb, 0, none⟩), .pointer (some ⟨Wb, 0, none⟩)]) := fun o => (World.grownBy_alloc wr o none).cell hWb' (by simp)
            have hYb2 : ∀ o, (wr.alloc o).cell? ⟨Yb, 0, none⟩ = some (.func (.yield l) #[] #[]) := fun o => (World.grownBy_alloc wr o none).cell hYb' (by simp)
            have hsz : SizeOf.sizeOf (Ex.mk op' vk' vn' vs' nm' args') ≤ K := by
              have h1 := List.sizeOf_lt_of_mem (List.mem_of_getElem? hx)
              simp only [Ex.mk.sizeOf_spec] at hX h1 ⊢
              omega
            have hsplit : args = args.take k ++ Ex.mk op' vk' vn' vs' nm' args' :: args.drop (k + 1) := by
              have h2 : args[k] = Ex.mk op' vk' vn' vs' nm' args' := by have := List.getElem?_eq_getElem hlt; rw [hx] at this; exact (Option.some.inj this).symm
              rw [← h2, ← List.drop_eq_getElem_cons hlt, List.take_append_drop]
            have hrf : (Ex.mk 2 vk vn vs nm args).refs = [nm] ++ (Ex.refsL (args.take k) ++ ((Ex.mk op' vk' vn' vs' nm' args').refs ++ Ex.refsL (args.drop (k + 1)))) := by
              rw [Ex.refs, if_pos rfl]
              conv => lhs; rw [hsplit]
              rw [refsL_app, Ex.refsL]
            have hk1 : Ex.refsL (args.take (k + 1)) = Ex.refsL (args.take k) ++ (Ex.mk op' vk' vn' vs' nm' args').refs := by
              rw [List.take_add_one, hx, refsL_app]
              simp [Ex.refsL]
            have hcall : ∀ o n, CallsIn F n Try.prog 76 #[.agg #[.int .i64 op', .int .i64 vk', .int .i64 vn', .string ⟨vs'.toArray⟩, .string ⟨nm'.toArray⟩, .slice A' args'.length c'], .pointer (some ⟨Yb, 0, none⟩), .pointer (some ⟨Wb, 0, none⟩)] (wr.alloc o) fun e W' =>
                (e = .returned (.bool true) ∧ J (pre ++ [nm] ++ Ex.refsL (args.take (k + 1))) W' ∧ KC n₀ W W') ∨ (e = .returned (.bool false) ∧ ∃ q, q <+: (Ex.mk 2 vk vn vs nm args).refs ∧ Jx (pre ++ q) W') := fun o n => by
              have ho := KC.grown (World.grownBy_alloc wr o none) (Nat.le_trans hn hkc.1.size)
              refine (ih _ hsz (fun s h => hGd s (by rw [hrf]; simp [h])) n _ _ _ ((hkc.trans ho).repd hxr) (Nat.le_trans (Nat.le_trans hn hkc.1.size) ho.1.size) (hYb2 o) (hWb2 o) (hJ _ _ _ hJk (World.grownBy_alloc wr o none)) ?_).mono ?_
              · rw [hrf] at hN
                simp only [List.length_append, List.length_cons, List.length_nil] at hN ⊢
                omega
              · rintro e W' (⟨rfl, h1, h2⟩ | ⟨rfl, q, ⟨r, hq⟩, hj⟩)
                · exact .inl ⟨rfl, by rw [hk1, ← List.append_assoc]; exact h1, (hkc.trans ho).trans h2⟩
                · exact .inr ⟨rfl, [nm] ++ (Ex.refsL (args.take k) ++ q), ⟨r ++ Ex.refsL (args.drop (k + 1)), by rw [hrf, ← hq]; simp⟩, by rw [← List.append_assoc, ← List.append_assoc]; exact hj⟩
            clear hsplit hrf hk1 hargs hcs hxr hfv hsz ih hY hJ hJk hv hN hX hYb2 hx
            gi_wp2_with ((try refine ⟨hdd _, ?_⟩); gi_at_call 76; refine (hcall _ _).mono ?_; clear hcall; rintro e W1 (⟨rfl, hJ1, hk1'⟩ | ⟨rfl, q, hq, hx1⟩))
            · exact ⟨⟨k + 1, rfl, hlt, hJ1, hk1'⟩, meas_k hlt⟩
            · go_ret
              exact .inr ⟨rfl, q, hq, hx1⟩
          · obtain rfl : k = args.length := by omega
            gi_wp2
            go_ret
            have hr0 : (Ex.mk 2 vk vn vs nm args).refs = [nm] ++ Ex.refsL args := by rw [Ex.refs, if_pos rfl]
            refine .inl ⟨rfl, ?_, hkc⟩
            rw [hr0]
            simpa using hJk
      · go_ret
        exact .inr ⟨rfl, [nm], ⟨Ex.refsL args, by rw [Ex.refs, if_pos rfl]⟩, hx1⟩
    · refine callsIn_of_wp Try.func76 rfl h67 ?_ hro
      simp only [Try.f76, List.size_toArray, List.length_cons, List.length_nil, Nat.reduceAdd, Nat.reduceSub, Array.replicate_succ, Array.replicate_zero, List.push_toArray, List.append_toArray, List.nil_append, List.cons_append]
      gi_wp2
      refine ⟨fun _ h => (by cases h), ?_⟩
      gi_wp2
      gi_loopw [20] (fun p wr => ∃ k : Nat, p = .int .i64 k ∧ k ≤ args.length ∧ J (pre ++ Ex.refsL (args.take k)) wr ∧ KC n₀ W wr)
        (fun p _ => args.length - (intOf p).toNat)
      case atStart =>
        exact ⟨0, rfl, Nat.zero_le _, by simpa [Ex.refsL] using hJ _ _ _ hJ0 (World.grownBy_alloc W _ none), KC.grown (World.grownBy_alloc W _ none) hn⟩
      case round =>
        obtain ⟨k, rfl, hk, hJk, hkc⟩ := hrel
        have hYb' := hkc.cell hYb
        have hWb' := hkc.cell hWb
        by_cases hlt : k < args.length
        · obtain ⟨⟨op', vk', vn', vs', nm', args'⟩, hx⟩ : ∃ x, args[k]? = some x := ⟨args[k], List.getElem?_eq_getElem hlt⟩
          obtain ⟨⟨b, off, rfl, hcs⟩, hxr⟩ := hargs k _ hx
          obtain ⟨A', c', fv', hfv, hc', hm', _⟩ := repd_node hxr
          rw [hfv] at hcs hxr
          have c0 : wr.cell? ⟨b, off + k * 6, none⟩ = some (.int .i64 op') := hkc.cell (hcs 0 _ rfl).1
          have c1 := hkc.cell (hcs 1 _ rfl).1
          have c2 := hkc.cell (hcs 2 _ rfl).1
          have c3 := hkc.cell (hcs 3 _ rfl).1
          have c4 := hkc.cell (hcs 4 _ rfl).1
          have c5 := hkc.cell (hcs 5 _ rfl).1
          have w1 : wrap64 ((k : Int) + 1) = (k : Int) + 1 := wrap_k hlt hm
          have hWb2 : ∀ o, (wr.alloc o).cell? ⟨Wb, 0, none⟩ = some (.func (.func 76) #[] #[.pointer (some ⟨Yb, 0, none⟩), .pointer (some ⟨Wb, 0, none⟩)]) := fun o => (World.grownBy_alloc wr o none).cell hWb' (by simp)
          have hYb2 : ∀ o, (wr.alloc o).cell? ⟨Yb, 0, none⟩ = some (.func (.yield l) #[] #[]) := fun o => (World.grownBy_alloc wr o none).cell hYb' (by simp)
          have hsz : SizeOf.sizeOf (Ex.mk op' vk' vn' vs' nm' args') ≤ K := by
            have h1 := List.sizeOf_lt_of_mem (List.mem_of_getElem? hx)
            simp only [Ex.mk.sizeOf_spec] at hX h1 ⊢
            omega
          have hsplit : args = args.take k ++ Ex.mk op' vk' vn' vs' nm' args' :: args.drop (k + 1) := by
            have h2 : args[k] = Ex.mk op' vk' vn' vs' nm' args' := by have := List.getElem?_eq_getElem hlt; rw [hx] at this; exact (Option.some.inj this).symm
            rw [← h2, ← List.drop_eq_getElem_cons hlt, List.take_append_drop]
          have hrf : (Ex.mk op vk vn vs nm args).refs = Ex.refsL (args.take k) ++ ((Ex.mk op' vk' vn' vs' nm' args').refs ++ Ex.refsL (args.drop (k + 1))) := by
            rw [Ex.refs, if_neg hop, List.nil_append]
            conv => lhs; rw [hsplit]
            rw [refsL_app, Ex.refsL]
          have hk1 : Ex.refsL (args.take (k + 1)) = Ex.refsL (args.take k) ++ (Ex.mk op' vk' vn' vs' nm' args').refs := by
            rw [List.take_add_one, hx, refsL_app]
            simp [Ex.refsL]
          have hcall : ∀ o n, CallsIn F n Try.prog 76 #[.agg #[.int .i64 op', .int .i64 vk', .int .i64 vn', .string ⟨vs'.toArray⟩, .string ⟨nm'.toArray⟩, .slice A' args'.length c'], .pointer (some ⟨Yb, 0, none⟩), .pointer (some ⟨Wb, 0, none⟩)] (wr.alloc o) fun e W' =>
              (e = .returned (.bool true) ∧ J (pre ++ Ex.refsL (args.take (k + 1))) W' ∧ KC n₀ W W') ∨ (e = .returned (.bool false) ∧ ∃ q, q <+: (Ex.mk op vk vn vs nm args).refs ∧ Jx (pre ++ q) W') := fun o n => by
            have ho := KC.grown (World.grownBy_alloc wr o none) (Nat.le_trans hn hkc.1.size)
            refine (ih _ hsz (fun s h => hGd s (by rw [hrf]; simp [h])) n _ _ _ ((hkc.trans ho).repd hxr) (Nat.le_trans (Nat.le_trans hn hkc.1.size) ho.1.size) (hYb2 o) (hWb2 o) (hJ _ _ _ hJk (World.grownBy_alloc wr o none)) ?_).mono ?_
            · rw [hrf] at hN
              simp only [List.length_append] at hN ⊢
              omega
            · rintro e W' (⟨rfl, h1, h2⟩ | ⟨rfl, q, ⟨r, hq⟩, hj⟩)
              · exact .inl ⟨rfl, by rw [hk1, ← List.append_assoc]; exact h1, (hkc.trans ho).trans h2⟩
              · exact .inr ⟨rfl, Ex.refsL (args.take k) ++ q, ⟨r ++ Ex.refsL (args.drop (k + 1)), by rw [hrf, ← hq]; simp⟩, by rw [← List.append_assoc]; exact hj⟩
          clear hsplit hrf hk1 hargs hcs hxr hfv hsz ih hY hJ hJk hv hN hX hYb2 hx
          gi_wp2_with ((try refine ⟨hdd _, ?_⟩); gi_at_call 76; refine (hcall _ _).mono ?_; clear hcall; rintro e W1 (⟨rfl, hJ1, hk1'⟩ | ⟨rfl, q, hq, hx1⟩))
          · exact ⟨⟨k + 1, rfl, hlt, hJ1, hk1'⟩, meas_k hlt⟩
          · go_ret
            exact .inr ⟨rfl, q, hq, hx1⟩
        · obtain rfl : k = args.length := by omega
          gi_wp2
          go_ret
          have hr0 : (Ex.mk op vk vn vs nm args).refs = Ex.refsL args := by rw [Ex.refs, if_neg hop]; rfl
          refine .inl ⟨rfl, ?_, hkc⟩
          rw [hr0]
          simpa using hJk
end Go.Proofs.Ytfcfifohflgboaa.Am
/- Does a formula ask for a name: the walk, and what it is to the evaluator. -/
set_option linter.unusedVariables false
set_option linter.unusedSimpArgs false
namespace Go.Proofs.Ytfcfifohflgboaa.Am
open Go Go.RowKit Go.Shelf Go.Proofs
attribute [local go_sem] Oper.semAt_some
set_option maxRecDepth 100000
set_option maxHeartbeats 4000000
theorem room_of_none' {F : Fence} (hd : F.depth = none) (k : Nat) : F.room k := fun d h => by rw [hd] at h; cases h
theorem RoundIn.anyDepth' {F : Fence} (hd : F.depth = none) {m m' : Nat} {P : Program} {l : Nat} {f : FuncId} {tmps : Array Value} {assign body : Code} {w : World} {R : Ending → World → Prop}
    (h : RoundIn F m P l f tmps assign body w R) : RoundIn F m' P l f tmps assign body w R := ⟨h.1, fun c cs _ => h.2 c cs (room_of_none' hd _)⟩
theorem YieldAt.anyDepth' {F : Fence} (hd : F.depth = none) {m : Nat} (m' : Nat) {P : Program} {l : Nat} {args : Array Value} {W : World} {R : Ending → World → Prop} (h : YieldAt F m P l args W R) : YieldAt F m' P l args W R := by
  obtain ⟨fn, tmps, assign, body, hy, hR⟩ := h
  exact ⟨fn, tmps, assign, body, hy, RoundIn.anyDepth' hd hR⟩
theorem KC.put {n₀ : Nat} {w : World} (hn : n₀ ≤ w.heap.size) (W : World) (l : Nat) (o o' : Obj) (hl : w.heap.size ≤ l) (h : W.heap[l]? = some o) (hc : o.isCells = false) (hw : o.isWalk = false) : KC n₀ W (W.putObj l o') :=
  ⟨belowK_b hn W l o o' hl h hc hw, fun k arr te z e => ((grownBy_putObj' W l o').block k (Array.getElem?_eq_some_iff.1 e).1 (by
    intro he
    injection he with he
    subst he
    rw [h] at e
    injection e with e
    subst e
    simp [Obj.isCells] at hc)).trans e⟩
theorem grown_set {W W2 : World} (h : W.grownBy W2 none) {b : Nat} (o : Nat) (v : Value) (hb : W.heap.size ≤ b) : W.grownBy (W2.setCell ⟨b, o, none⟩ v) none := by
  have k := (Below.refl W.heap.size W2).setCell (p := ⟨b, o, none⟩) hb v
  exact ⟨k.os.trans h.os, k.tape.trans h.tape, k.output.trans h.output, Nat.le_trans h.size k.size, fun i hi _ => (k.block i hi).trans (h.block i hi (by simp))⟩
theorem grown_two (W : World) (o o' : Obj) : W.grownBy ((W.alloc o).alloc o') none := by
  have h := World.grownBy_alloc W o none
  have k := World.grownBy_alloc (W.alloc o) o' none
  exact ⟨k.os.trans h.os, k.tape.trans h.tape, k.output.trans h.output, Nat.le_trans h.size k.size, fun i hi hn => (k.block i (Nat.lt_of_lt_of_le hi h.size) hn).trans (h.block i hi hn)⟩
theorem new_cell (W : World) (v : Value) (t : TypeId) : (W.alloc (.cells #[v] t)).cell? ⟨W.heap.size, 0, none⟩ = some v ∧ (W.alloc (.cells #[v] t)).frozen? ⟨W.heap.size, 0, none⟩ = false := by
  have h := World.alloc_heap_new W (.cells #[v] t)
  constructor
  · unfold World.cell?; rw [h]; rfl
  · unfold World.frozen?; rw [h]; rfl
theorem refs1_in {F : Fence} (hd : F.depth = none) (h66 : F.fn 75) (h67 : F.fn 76) (hro : F.round = none) (n : Nat) {l n₀ Bx : Nat} {Gd : List UInt8 → Prop} {J Jx : List (List UInt8) → World → Prop} (hJ : ∀ pre W W', J pre W → W.grownBy W' none → J pre W')
    (X : Ex) (v : Value) (hGd : ∀ s ∈ X.refs, Gd s)
    (hY : ∀ pre (x : List UInt8) W, Gd x → J pre W → pre.length < X.refs.length → YieldAt F (n - 1) Try.prog l #[.string ⟨x.toArray⟩] W fun e W' =>
      (e = .returned (.bool true) ∧ J (pre ++ [x]) W' ∧ KC n₀ W W') ∨ (e = .returned (.bool false) ∧ Jx (pre ++ [x]) W'))
    (W : World) (hBx : ∀ (j : Nat) u, v.cells[j]? = some u → W.cell? ⟨Bx, j, none⟩ = some u) (hv : RepD W (fun b _ => b < n₀) v X.dv) (hn : n₀ ≤ W.heap.size) (h0 : J [] W) :
    CallsIn F n Try.prog 75 #[.func (.yield l) #[] #[], .pointer (some ⟨Bx, 0, none⟩)] W fun e W' => (∃ v, e = .returned v) ∧
      ((∃ ys, ys = X.refs ∧ J ys W') ∨ (∃ pre, pre <+: X.refs ∧ Jx pre W')) := by
  have hdd : ∀ k : Nat, (F.depth.isSome = true → 1 ≤ k) := fun k h => by rw [hd] at h; cases h
  obtain ⟨op, vk, vn, vs, nm, args⟩ := X
  obtain ⟨A, c, fv, rfl, hc, hm, hargs⟩ := repd_node hv
  have c0 := hBx 0 _ rfl
  have c1 := hBx 1 _ rfl
  have c2 := hBx 2 _ rfl
  have c3 := hBx 3 _ rfl
  have c4 := hBx 4 _ rfl
  have c5 := hBx 5 _ rfl
  have hp := fun (W1 : World) (hg : W.grownBy W1 none) (hY1 : W1.cell? ⟨W.heap.size, 0, none⟩ = some (.func (.yield l) #[] #[])) (hW1 : W1.cell? ⟨W.heap.size + 1, 0, none⟩ = some (.func (.func 76) #[] #[.pointer (some ⟨W.heap.size, 0, none⟩), .pointer (some ⟨W.heap.size + 1, 0, none⟩)])) =>
    wlk_in hd h67 hro (N := (Ex.mk op vk vn vs nm args).refs.length) hJ (fun m pre x W hg hj hl => YieldAt.anyDepth' hd m (hY pre x W hg hj hl)) _ (Ex.mk op vk vn vs nm args) (Nat.le_refl _) hGd (n - 1) _ [] W1 ((KC.grown hg hn).repd hv) (Nat.le_trans hn hg.size) hY1 hW1 (hJ _ _ _ h0 hg) (by simp)
  obtain ⟨W2, hW2⟩ : ∃ W2, (W.alloc (.cells #[.func (.yield l) #[] #[]] 107)).alloc (.cells #[.nilFunc] 112) = W2 := ⟨_, rfl⟩
  have hg2 : W.grownBy W2 none := by rw [← hW2]; exact grown_two W _ _
  have hN := new_cell (W.alloc (.cells #[.func (.yield l) #[] #[]] 107)) .nilFunc 112
  rw [World.size_alloc, hW2] at hN
  obtain ⟨hN1, hN2⟩ := hN
  have hY2 : W2.cell? ⟨W.heap.size, 0, none⟩ = some (.func (.yield l) #[] #[]) := by rw [← hW2]; exact (World.grownBy_alloc _ _ none).cell (new_cell W _ _).1 (by simp)
  obtain ⟨W3, hW3⟩ : ∃ W3, W2.setCell ⟨W.heap.size + 1, 0, none⟩ (.func (.func 76) #[] #[.pointer (some ⟨W.heap.size, 0, none⟩), .pointer (some ⟨W.heap.size + 1, 0, none⟩)]) = W3 := ⟨_, rfl⟩
  have hg3 : W.grownBy W3 none := by rw [← hW3]; exact grown_set hg2 _ _ (by omega)
  have hK3 : W3.cell? ⟨W.heap.size + 1, 0, none⟩ = some (.func (.func 76) #[] #[.pointer (some ⟨W.heap.size, 0, none⟩), .pointer (some ⟨W.heap.size + 1, 0, none⟩)]) := by rw [← hW3]; exact World.cell?_setCell_same' _ _ _ (by rw [hN1]; rfl)
  have hY3 : W3.cell? ⟨W.heap.size, 0, none⟩ = some (.func (.yield l) #[] #[]) := by
    rw [← hW3]
    exact ((Below.refl (W.heap.size + 1) W2).setCell (p := ⟨W.heap.size + 1, 0, none⟩) (Nat.le_refl _) _).cell (p := ⟨W.heap.size, 0, none⟩) (by simp) |>.trans hY2
  have hp := hp W3 hg3 hY3 hK3
  have d0 := hg3.cell c0 (by simp)
  have d1 := hg3.cell c1 (by simp)
  have d2 := hg3.cell c2 (by simp)
  have d3 := hg3.cell c3 (by simp)
  have d4 := hg3.cell c4 (by simp)
  have d5 := hg3.cell c5 (by simp)
  refine callsIn_of_wp Try.func75 rfl h66 ?_ hro
  simp only [Try.f75, List.size_toArray, List.length_cons, List.length_nil, Nat.reduceAdd, Nat.reduceSub, Array.replicate_succ, Array.replicate_zero, List.push_toArray, List.append_toArray, List.nil_append, List.cons_append]
  clear hY hargs
  clear hg2 hY2 hg3 hY3
  gi_wp2_with ((try refine ⟨hdd _, ?_⟩); gi_at_call 76; refine hp.mono ?_; clear hp; rintro e W1 (⟨rfl, hJ1, _⟩ | ⟨rfl, q, hq, hx⟩))
  · go_end0
    exact ⟨⟨_, rfl⟩, .inl ⟨_, rfl, by simpa using hJ1⟩⟩
  · go_end0
    exact ⟨⟨_, rfl⟩, .inr ⟨q, hq, by simpa using hx⟩⟩
theorem refs_stops {F : Fence} (hd : F.depth = none) (h66 : F.fn 75) (h67 : F.fn 76) (hro : F.round = none) (n : Nat) {n₀ Bx : Nat} (X : Ex) (v : Value) (w : World) (hB : Bx < w.heap.size)
    (hBx : ∀ (j : Nat) u, v.cells[j]? = some u → w.cell? ⟨Bx, j, none⟩ = some u) (hv : RepD w (fun b _ => b < n₀) v X.dv) (hn : n₀ ≤ w.heap.size) :
    SeqStopsK F n Try.prog 75 #[.pointer (some ⟨Bx, 0, none⟩)] (fun x : List UInt8 => #[Value.string ⟨x.toArray⟩]) (KC n₀) (fun ys => ys = X.refs) (fun pre => pre <+: X.refs) X.refs.length w := fun l J Jx W hW hJ hJx hY h0 =>
  refs1_in (Gd := fun _ => True) hd h66 h67 hro n (fun pre A B h g => hJ pre A B none h g (fun r e => by cases e)) X v (fun _ _ => trivial) (fun pre x W _ => hY pre x W) W (fun j u hu => (hW.cell (p := ⟨Bx, j, none⟩) hB).trans (hBx j u hu))
    (hv.mono (fun b o u hf hc => ⟨(hW.cell (p := ⟨b, o, none⟩) (Nat.lt_of_lt_of_le hf hn)).trans hc, hf⟩) (fun b es k hf hb => ⟨(hW.block b (Nat.lt_of_lt_of_le hf hn)).trans hb, hf⟩)) (Nat.le_trans hn hW.size) h0
theorem refs_stopsG {F : Fence} (hd : F.depth = none) (h66 : F.fn 75) (h67 : F.fn 76) (hro : F.round = none) (n : Nat) {n₀ Bx : Nat} (X : Ex) (v : Value) (w : World) (hB : Bx < w.heap.size)
    (hBx : ∀ (j : Nat) u, v.cells[j]? = some u → w.cell? ⟨Bx, j, none⟩ = some u) (hv : RepD w (fun b _ => b < n₀) v X.dv) (hn : n₀ ≤ w.heap.size) (Gd : List UInt8 → Prop) (hGd : ∀ s ∈ X.refs, Gd s) :
    SeqStopsK F n Try.prog 75 #[.pointer (some ⟨Bx, 0, none⟩)] (fun x : { s : List UInt8 // Gd s } => #[Value.string ⟨x.1.toArray⟩]) (KC n₀) (fun ys => ys.map Subtype.val = X.refs) (fun pre => pre.map Subtype.val <+: X.refs) X.refs.length w := fun l J Jx W hW hJ hJx hY h0 => by
  refine (refs1_in (Gd := Gd) (J := fun ys W => ∃ zs : List { s : List UInt8 // Gd s }, zs.map Subtype.val = ys ∧ J zs W) (Jx := fun ys W => ∃ zs : List { s : List UInt8 // Gd s }, zs.map Subtype.val = ys ∧ Jx zs W) hd h66 h67 hro n
    (fun pre A B ⟨zs, h1, h⟩ g => ⟨zs, h1, hJ zs A B none h g (fun r e => by cases e)⟩) X v hGd (fun pre x W hg ⟨zs, h1, hj⟩ hl => ?_) W (fun j u hu => (hW.cell (p := ⟨Bx, j, none⟩) hB).trans (hBx j u hu))
    (hv.mono (fun b o u hf hc => ⟨(hW.cell (p := ⟨b, o, none⟩) (Nat.lt_of_lt_of_le hf hn)).trans hc, hf⟩) (fun b es k hf hb => ⟨(hW.block b (Nat.lt_of_lt_of_le hf hn)).trans hb, hf⟩)) (Nat.le_trans hn hW.size) ⟨[], rfl, h0⟩).mono ?_
  · obtain ⟨fn, tmps, assign, body, hy, hR⟩ := hY zs ⟨x, hg⟩ W hj (by rw [← h1, List.length_map] at hl; exact hl)
    refine ⟨fn, tmps, assign, body, hy, hR.mono ?_⟩
    rintro e W' (⟨rfl, h2, h3⟩ | ⟨rfl, h2⟩)
    · exact .inl ⟨rfl, ⟨_, by simp [h1], h2⟩, h3⟩
    · exact .inr ⟨rfl, _, by simp [h1], h2⟩
  · rintro e W' ⟨h1, ⟨ys, h2, zs, h3, h4⟩ | ⟨pre, h2, zs, h3, h4⟩⟩
    · exact ⟨h1, .inl ⟨zs, h3.trans h2, h4⟩⟩
    · exact ⟨h1, .inr ⟨zs, (show zs.map Subtype.val <+: X.refs by rw [h3]; exact h2), h4⟩⟩
theorem refs_in {F : Fence} (h44 : F.fn 53) (hro : F.round = none) (n : Nat) (v0 v1 v2 v3 v4 v5 : Value) (w : World) :
    CallsIn F n Try.prog 53 #[.agg #[v0, v1, v2, v3, v4, v5]] w fun e w' => e = .returned (.func (.func 75) #[] #[.pointer (some ⟨w.heap.size, 0, none⟩)]) ∧ w' = w.alloc (.cells #[v0, v1, v2, v3, v4, v5] 36) := by
  refine callsIn_of_wp Try.func53 rfl h44 ?_ hro
  simp only [Try.f53, List.size_toArray, List.length_cons, List.length_nil, Nat.reduceAdd, Nat.reduceSub, Array.replicate_succ, Array.replicate_zero, List.push_toArray, List.append_toArray, List.nil_append, List.cons_append]
  gi_wp2
  go_ret
  exact ⟨rfl, rfl⟩
theorem has_in {F : Fence} (hd : F.depth = none) (h22 : F.fn 24) (h44 : F.fn 53) (h66 : F.fn 75) (h67 : F.fn 76) (hro : F.round = none) (n : Nat) (hn : 3 ≤ n) (X : Ex) (v : Value) (s : List UInt8) (w : World)
    (hv : RepD w (fun b _ => b < w.heap.size) v X.dv) :
    CallsIn F n Try.prog 24 #[v, .string ⟨s.toArray⟩] w fun e w' => e = .returned (.bool (decide (s ∈ X.refs))) ∧ Below w.heap.size w w' := by
  have h1 : 1 ≤ n := by omega
  obtain ⟨op, vk, vn, vs, nm, args⟩ := X
  obtain ⟨A, c, fv, rfl, hc, hm, hargs⟩ := repd_node hv
  clear hargs
  generalize hX : Ex.mk op vk vn vs nm args = X at *
  generalize hx : (Value.agg #[.int .i64 op, .int .i64 vk, .int .i64 vn, .string ⟨vs.toArray⟩, .string ⟨nm.toArray⟩, .slice A args.length c] : Value) = x at *
  refine callsIn_of_wp_marks Try.func24 rfl h22 ?_ hro
  simp only [Try.f24, List.size_toArray, List.length_cons, List.length_nil, Nat.reduceAdd, Nat.reduceSub, Array.replicate_succ, Array.replicate_zero, List.push_toArray, List.append_toArray, List.nil_append, List.cons_append]
  subst hx
  gi_wp2_with (gi_at_call 53; refine (refs_in h44 hro (n - 1) _ _ _ _ _ _ _).mono ?_; rintro e w' ⟨rfl, rfl⟩)
  obtain ⟨W0, hW0⟩ : ∃ W0, (((w.alloc (.cells #[.int .i64 op, .int .i64 vk, .int .i64 vn, .string ⟨vs.toArray⟩, .string ⟨nm.toArray⟩, .slice A args.length c] 36)).alloc (.cells #[.string ⟨s.toArray⟩] 9)).alloc (.cells #[.bool false] 4)).alloc (.cells #[.int .i64 op, .int .i64 vk, .int .i64 vn, .string ⟨vs.toArray⟩, .string ⟨nm.toArray⟩, .slice A args.length c] 36) = W0 := ⟨_, rfl⟩
  have hs0 : W0.heap.size = w.heap.size + 4 := by rw [← hW0]; simp
  have hB0 : Below w.heap.size w W0 := by rw [← hW0]; exact ((((Below.refl _ w).alloc (Nat.le_refl _) _).alloc (by simp) _).alloc (by simp; omega) _).alloc (by simp; omega) _
  have c1 : W0.cell? ⟨w.heap.size + 1, 0, none⟩ = some (.string ⟨s.toArray⟩) := by
    have h := (new_cell (w.alloc (.cells #[.int .i64 op, .int .i64 vk, .int .i64 vn, .string ⟨vs.toArray⟩, .string ⟨nm.toArray⟩, .slice A args.length c] 36)) (.string ⟨s.toArray⟩) 9).1
    rw [World.size_alloc] at h
    rw [← hW0]
    exact (grown_two _ _ _).cell h (by simp)
  have c2 : W0.cell? ⟨w.heap.size + 1 + 1, 0, none⟩ = some (.bool false) ∧ W0.frozen? ⟨w.heap.size + 1 + 1, 0, none⟩ = false := by
    have h := new_cell ((w.alloc (.cells #[.int .i64 op, .int .i64 vk, .int .i64 vn, .string ⟨vs.toArray⟩, .string ⟨nm.toArray⟩, .slice A args.length c] 36)).alloc (.cells #[.string ⟨s.toArray⟩] 9)) (.bool false) 4
    rw [World.size_alloc, World.size_alloc] at h
    rw [← hW0]
    exact ⟨(World.grownBy_alloc _ _ none).cell h.1 (by simp), (frozen_kept h.1 (World.grownBy_alloc _ _ none) (fun r e => by cases e)).trans h.2⟩
  have cx : ∀ (j : Nat) u, (Value.agg #[.int .i64 op, .int .i64 vk, .int .i64 vn, .string ⟨vs.toArray⟩, .string ⟨nm.toArray⟩, .slice A args.length c]).cells[j]? = some u → W0.cell? ⟨w.heap.size + 1 + 1 + 1, j, none⟩ = some u := by
    intro j u hu
    have h := World.alloc_heap_new (((w.alloc (.cells #[.int .i64 op, .int .i64 vk, .int .i64 vn, .string ⟨vs.toArray⟩, .string ⟨nm.toArray⟩, .slice A args.length c] 36)).alloc (.cells #[.string ⟨s.toArray⟩] 9)).alloc (.cells #[.bool false] 4)) (.cells #[.int .i64 op, .int .i64 vk, .int .i64 vn, .string ⟨vs.toArray⟩, .string ⟨nm.toArray⟩, .slice A args.length c] 36)
    rw [World.size_alloc, World.size_alloc, World.size_alloc, hW0] at h
    unfold World.cell?
    rw [h]
    exact hu
  have hv0 : RepD W0 (fun b _ => b < w.heap.size) (Value.agg #[.int .i64 op, .int .i64 vk, .int .i64 vn, .string ⟨vs.toArray⟩, .string ⟨nm.toArray⟩, .slice A args.length c]) X.dv :=
    hv.mono (fun b o u hf hc => ⟨(hB0.cell (p := ⟨b, o, none⟩) hf).trans hc, hf⟩) (fun b es k hf hb => ⟨(hB0.block b hf).trans hb, hf⟩)
  rw [hW0]
  refine wpIn_rangeFunc_ownF hro h1 (gf := 75) (lb := #[.pointer (some ⟨w.heap.size + 1 + 1 + 1, 0, none⟩)]) rfl h66 (enters_of Try.func75 (by kernel_rfl) rfl)
    (refs_stops hd h66 h67 hro (n - 1) X _ W0 (by omega) cx hv0 (by omega)) KC.trans (KC.put (by omega)) (Below.refl _ _) (fun _ => rfl)
    (fun pre W => ((∀ y ∈ pre, y ≠ s) ∧ W.cell? ⟨w.heap.size + 1, 0, none⟩ = some (.string ⟨s.toArray⟩) ∧ W.cell? ⟨w.heap.size + 1 + 1, 0, none⟩ = some (.bool false) ∧ W.frozen? ⟨w.heap.size + 1 + 1, 0, none⟩ = false) ∧ Below w.heap.size w W)
    (fun c pre W => (c = .ret ∧ s ∈ pre ∧ W.cell? ⟨w.heap.size + 1 + 1, 0, none⟩ = some (.bool true)) ∧ Below w.heap.size w W)
    (OwnFrom.and (Own.from (fun s A B row hs hg hr => ⟨hs.1, cell_kept hs.2.1 hg hr, cell_kept hs.2.2.1 hg hr, (frozen_kept hs.2.2.1 hg hr).trans hs.2.2.2⟩) _) (ownFrom_below (Nat.le_refl _) (by omega)))
    (fun c => OwnFrom.and (Own.from (fun s A B row hs hg hr => ⟨hs.1, hs.2.1, cell_kept hs.2.2 hg hr⟩) _) (ownFrom_below (Nat.le_refl _) (by omega)))
    ⟨⟨by simp, c1, c2.1, c2.2⟩, hB0⟩
    (fun y => { tmps := #[.agg #[.int .i64 op, .int .i64 vk, .int .i64 vn, .string ⟨vs.toArray⟩, .string ⟨nm.toArray⟩, .slice A args.length c], .string ⟨s.toArray⟩, .pointer (some ⟨w.heap.size, 0, none⟩), .pointer (some ⟨w.heap.size + 1, 0, none⟩), .pointer (some ⟨w.heap.size + 1 + 1, 0, none⟩), .string ⟨y.toArray⟩, .agg #[.int .i64 op, .int .i64 vk, .int .i64 vn, .string ⟨vs.toArray⟩, .string ⟨nm.toArray⟩, .slice A args.length c], .func (.func 75) #[] #[.pointer (some ⟨w.heap.size + 1 + 1 + 1, 0, none⟩)], .string ⟨y.toArray⟩, undef, undef, undef], defers := [] }) ?assign ?body ?done ?stop
  case assign =>
    intro l x W K hK
    gi_wp2
    exact hK
  case body =>
    rintro l pre x W ⟨⟨hp, hcw, hcr, hfr⟩, hB⟩ _
    gi_wp2
    · rename_i hx
      obtain rfl : x = s := eq_of_beq hx
      exact ⟨KeepsOthers.setCell _ _ _, ⟨rfl, List.mem_append.2 (.inr (by simp)), World.cell?_setCell_same' _ _ _ (by rw [hcr]; rfl)⟩, hB.setCell (p := ⟨w.heap.size + 1 + 1, 0, none⟩) (by simp; omega) _⟩
    · rename_i hx
      exact ⟨KeepsOthers.refl _, KC.refl _ _, ⟨fun y hy => (List.mem_append.1 hy).elim (hp y) (fun e e' => by simp at e; subst e; subst e'; simp at hx), hcw, hcr, hfr⟩, hB⟩
  case done =>
    rintro D ys W hD rfl ⟨⟨hne, _, hcr, hfr⟩, hB⟩ hK
    gi_wp2
    have hK' := (KeepsOthers.setCell W ⟨w.heap.size + 1 + 1, 0, none⟩ (.bool false)).same D _ hK rfl
    refine ⟨by simp, .inl ⟨_, _, rfl, run_takeDeferred hK', ?_⟩⟩
    have hc5 := cell_kept (World.cell?_setCell_same' W ⟨w.heap.size + 1 + 1, 0, none⟩ (.bool false) (by rw [hcr]; rfl)) (grownBy_putObj' _ D (.deferred none)) (fun r e => by cases e; exact ⟨_, hK', rfl⟩)
    refine ⟨.bool false, ?_, by rw [decide_eq_false (fun h => hne s h rfl)], (hB.setCell (p := ⟨w.heap.size + 1 + 1, 0, none⟩) (by simp; omega) _).trans (belowK_b (w := w) (Nat.le_refl _) _ D _ _ (by omega) hK' rfl rfl)⟩
    simp [results, Try.f24, go_sem, hc5]
  case stop =>
    rintro D c pre W hD hpre ⟨⟨rfl, hin, hcr⟩, hB⟩ hK
    gi_wp2
    refine ⟨by simp, .inl ⟨_, _, rfl, run_takeDeferred hK, ?_⟩⟩
    have hc5 := cell_kept hcr (grownBy_putObj' _ D (.deferred none)) (fun r e => by cases e; exact ⟨_, hK, rfl⟩)
    refine ⟨.bool true, ?_, by rw [decide_eq_true (hpre.subset hin)], hB.trans (belowK_b (w := w) (Nat.le_refl _) W D _ _ (by omega) hK rfl rfl)⟩
    simp [results, Try.f24, go_sem, hc5]
open Classical in
noncomputable def hasP (ds : List DV) : Option (AV × Heap) :=
  if h : ∃ p : Ex × List UInt8, ds = [p.1.dv, .str p.2] then some (.d (.bool (decide (h.choose.2 ∈ h.choose.1.refs))), []) else none
def OneOk (P : Program) (f : Nat) (p : List DV → Option (AV × Heap)) : Prop := ∀ ds r H1, p ds = some (r, H1) → ∀ (fz0 : Nat → Nat → Prop) (w : World) (vs : Array Value), vs.size = ds.length →
  (∀ (i : Nat) y, ds[i]? = some y → ∃ v, vs[i]? = some v ∧ RepD w fz0 v y) →
  Calls P f vs w fun e w' => ∃ v G1 U1, e = .returned v ∧ Below w.heap.size w w' ∧ HeapRel ⟨w.heap.size, fz0, fun _ _ => False, fun _ => False⟩ w' G1 H1 U1 ∧
    Rep ⟨w.heap.size, fz0, fun _ _ => False, fun _ => False⟩ w' G1 H1 U1 v r
theorem heap_none {C : Ctx} {w : World} (hb : C.base ≤ w.heap.size) (hx : ∀ k, ¬ C.exb k) (he : ∀ k o, ¬ C.ex k o) : HeapRel C w (fun _ => none) [] (fun _ => False) where
  base := hb
  exlt := fun k h => (hx k h).elim
  exb := fun k o h => (he k o h).elim
  exo := fun id p b h _ => by simp [Heap.get] at h
  keys := fun id p h => by simp [Heap.get] at h
  box := fun id cs h => by simp [Heap.get] at h
  grow := fun id n b h _ => by simp [Heap.get] at h
  sep := fun id id' p p' b h _ _ _ => by simp [Heap.get] at h
  mpl := fun id es h => by simp [Heap.get] at h
theorem repd_lt {w : World} {F : Nat → Nat → Prop} {v : Value} {x : DV} (h : RepD w F v x) : RepD w (fun b _ => b < w.heap.size) v x :=
  h.mono (fun b o u _ hc => ⟨hc, cell_lt hc⟩) (fun b es k _ hb => ⟨hb, (Array.getElem?_eq_some_iff.1 hb).1⟩)
theorem repd_str {w : World} {F : Nat → Nat → Prop} {v : Value} {s : List UInt8} (h : RepD w F v (.str s)) : v = .string ⟨s.toArray⟩ := by
  cases h with
  | str s => simp
theorem has_one : OneOk Try.prog 24 hasP := by
  intro ds r H1 hp fz0 w vs hl hv
  unfold hasP at hp
  split at hp
  · rename_i h
    have hs := h.choose_spec
    generalize h.choose = q at hs hp
    obtain ⟨X, s⟩ := q
    simp only [Option.some.injEq, Prod.mk.injEq] at hp
    obtain ⟨rfl, rfl⟩ := hp
    subst hs
    obtain ⟨v0, e0, r0⟩ := hv 0 _ rfl
    obtain ⟨v1, e1, r1⟩ := hv 1 _ rfl
    obtain ⟨l⟩ := vs
    simp only [List.size_toArray, List.length_cons, List.length_nil] at hl
    rcases l with _ | ⟨u0, _ | ⟨u1, _ | ⟨u2, l⟩⟩⟩ <;> simp at hl
    obtain rfl : u0 = v0 := by simpa using e0
    obtain rfl : u1 = v1 := by simpa using e1
    obtain rfl := repd_str r1
    refine (callsIn_wide (n := 3)).1 ((has_in (F := Fence.wide) rfl trivial trivial trivial trivial rfl 3 (Nat.le_refl _) X u0 s w (repd_lt r0)).mono ?_)
    rintro e w' ⟨rfl, hb⟩
    exact ⟨_, fun _ => none, fun _ => False, rfl, hb, heap_none hb.size (fun _ h => h) (fun _ _ h => h), .d _ _ (.bool _)⟩
  · cases hp
mutual
theorem Ex.dv_inj : ∀ (x y : Ex), x.dv = y.dv → x = y
  | .mk op vk vn vs nm args, .mk op' vk' vn' vs' nm' args', h => by
    simp only [Ex.dv, DV.agg.injEq, List.cons.injEq, DV.int.injEq, DV.str.injEq, DV.sl.injEq, true_and, and_true] at h
    obtain ⟨h1, h2, h3, h4, h5, h6⟩ := h
    rw [h1, h2, h3, h4, h5, Ex.dvs_inj args args' h6]
theorem Ex.dvs_inj : ∀ (l m : List Ex), Ex.dvs l = Ex.dvs m → l = m
  | [], [], _ => rfl
  | [], y :: m, h => by simp [Ex.dvs] at h
  | x :: l, [], h => by simp [Ex.dvs] at h
  | x :: l, y :: m, h => by
    simp only [Ex.dvs, List.cons.injEq] at h
    rw [Ex.dv_inj x y h.1, Ex.dvs_inj l m h.2]
end
theorem hasP_eq (X : Ex) (s : List UInt8) : hasP [X.dv, .str s] = some (.d (.bool (decide (s ∈ X.refs))), []) := by
  have h : ∃ p : Ex × List UInt8, [X.dv, .str s] = [p.1.dv, .str p.2] := ⟨(X, s), rfl⟩
  have hs := h.choose_spec
  unfold hasP
  rw [dif_pos h]
  generalize h.choose = q at hs ⊢
  obtain ⟨Y, t⟩ := q
  have a : X.dv = Y.dv := (List.cons.inj hs).1
  have b : s = t := DV.str.inj (List.cons.inj (List.cons.inj hs).2).1
  rw [Ex.dv_inj X Y a, b]
end Go.Proofs.Ytfcfifohflgboaa.Am
/- slices.Backward over fields, by the model's own steps; a map whose keys are names. -/
set_option linter.unusedVariables false
set_option linter.unusedSimpArgs false
namespace Go.Proofs.Ytfcfifohflgboaa.Am
open Go Go.RowKit Go.Shelf Go.Proofs
attribute [local go_sem] Oper.semAt_some
set_option maxRecDepth 100000
set_option maxHeartbeats 4000000
structure FV where
  i : Nat
  nm : List UInt8
  kind : Int
  ty : Int
  op : Int
  vk : Int
  vn : Int
  vs : List UInt8
  rn : List UInt8
  A : Option Addr
  n : Nat
  c : Nat
def FV.cs (x : FV) : Array Value := #[.string ⟨x.nm.toArray⟩, .int .i64 x.kind, .int .i64 x.ty, .int .i64 x.op, .int .i64 x.vk, .int .i64 x.vn, .string ⟨x.vs.toArray⟩, .string ⟨x.rn.toArray⟩, .slice x.A x.n x.c]
def backL (g : Nat → FV) (len : Nat) : Nat → List FV
  | 0 => []
  | k + 1 => backL g len k ++ [g (len - 1 - k)]
theorem backL_len (g : Nat → FV) (len : Nat) : ∀ k, (backL g len k).length = k
  | 0 => rfl
  | k + 1 => by rw [backL, List.length_append, backL_len g len k]; rfl
theorem wrap_d {k : Nat} (hm : k ≤ 9223372036854775807) : wrap64 ((k : Int) - 1) = (k : Int) - 1 := by unfold wrap64; omega
theorem back1_in {F : Fence} (h87 : F.fn 112) (hro : F.round = none) (n : Nat) (hn1 : 1 ≤ n) {l n₀ Bs len cap : Nat} {A : Option Addr} {J Jx : List FV → World → Prop}
    (g : Nat → FV) (hgi : ∀ j, (g j).i = j) (hm : len ≤ 9223372036854775807)
    (hY : ∀ pre (x : FV) W, J pre W → pre.length < len → YieldAt F (n - 1) Try.prog l #[.int .i64 (x.i : Int), .agg x.cs] W fun e W' =>
      (e = .returned (.bool true) ∧ J (pre ++ [x]) W' ∧ KC n₀ W W') ∨ (e = .returned (.bool false) ∧ Jx (pre ++ [x]) W'))
    (W : World) (hBs : W.cell? ⟨Bs, 0, none⟩ = some (.slice A len cap)) (hc : ∀ j, j < len → ∃ b off, A = some ⟨b, off, none⟩ ∧ ∀ (t : Nat) u, (g j).cs[t]? = some u → W.cell? ⟨b, off + j * 9 + t, none⟩ = some u) (hcap : len ≤ cap) (h0 : J [] W) :
    CallsIn F n Try.prog 112 #[.func (.yield l) #[] #[], .pointer (some ⟨Bs, 0, none⟩)] W fun e W' => (∃ v, e = .returned v) ∧
      ((∃ ys, ys = backL g len len ∧ J ys W') ∨ (∃ pre, (∃ k, k ≤ len ∧ pre = backL g len k) ∧ Jx pre W')) := by
  have w0 := wrap_d hm
  refine callsIn_of_wp Try.func112 rfl h87 ?_ hro
  simp only [Try.f112, List.size_toArray, List.length_cons, List.length_nil, Nat.reduceAdd, Nat.reduceSub, Array.replicate_succ, Array.replicate_zero, List.push_toArray, List.append_toArray, List.nil_append, List.cons_append]
  gi_wp2
  gi_loopw [3] (fun p wr => ∃ j : Nat, j ≤ len ∧ p = .int .i64 ((j : Int) - 1) ∧ J (backL g len (len - j)) wr ∧ KC n₀ W wr)
    (fun p _ => (intOf p + 1).toNat)
  case atStart =>
    exact ⟨len, Nat.le_refl _, rfl, by rw [Nat.sub_self]; exact h0, KC.refl _ _⟩
  case round =>
    obtain ⟨j, hj, rfl, hJs, hkc⟩ := hrel
    cases j with
    | zero =>
      rw [Nat.sub_zero] at hJs
      gi_wp2
      go_end0
      exact ⟨⟨_, rfl⟩, .inl ⟨_, rfl, hJs⟩⟩
    | succ j =>
      have he : ((j + 1 : Nat) : Int) - 1 = (j : Int) := by omega
      rw [he]
      obtain ⟨fn, tmps, assign, body, hy, hR⟩ := hY _ (g j) wr hJs (by rw [backL_len]; omega)
      obtain ⟨b, off, rfl, hcs⟩ := hc j (by omega)
      rw [hgi] at hy
      have hBs' := hkc.cell hBs
      have hbk : backL g len (len - j) = backL g len (len - (j + 1)) ++ [g j] := by
        have h1 : len - j = (len - (j + 1)) + 1 := by omega
        rw [h1, backL]
        have h2 : len - 1 - (len - (j + 1)) = j := by omega
        rw [h2]
      have c0 : wr.cell? ⟨b, off + j * 9, none⟩ = some (.string ⟨(g j).nm.toArray⟩) := hkc.cell (hcs 0 _ rfl)
      have c1 : wr.cell? ⟨b, off + j * 9 + 1, none⟩ = some (.int .i64 (g j).kind) := hkc.cell (hcs 1 _ rfl)
      have c2 : wr.cell? ⟨b, off + j * 9 + 2, none⟩ = some (.int .i64 (g j).ty) := hkc.cell (hcs 2 _ rfl)
      have c3 : wr.cell? ⟨b, off + j * 9 + 3, none⟩ = some (.int .i64 (g j).op) := hkc.cell (hcs 3 _ rfl)
      have c4 : wr.cell? ⟨b, off + j * 9 + 4, none⟩ = some (.int .i64 (g j).vk) := hkc.cell (hcs 4 _ rfl)
      have c5 : wr.cell? ⟨b, off + j * 9 + 5, none⟩ = some (.int .i64 (g j).vn) := hkc.cell (hcs 5 _ rfl)
      have c6 : wr.cell? ⟨b, off + j * 9 + 6, none⟩ = some (.string ⟨(g j).vs.toArray⟩) := hkc.cell (hcs 6 _ rfl)
      have c7 : wr.cell? ⟨b, off + j * 9 + 7, none⟩ = some (.string ⟨(g j).rn.toArray⟩) := hkc.cell (hcs 7 _ rfl)
      have c8 : wr.cell? ⟨b, off + j * 9 + 8, none⟩ = some (.slice (g j).A (g j).n (g j).c) := hkc.cell (hcs 8 _ rfl)
      simp only [FV.cs] at hy
      rw [← hbk] at hR
      clear hcs hc hY hBs hJs hbk
      gi_wp2
      refine hR.mono ?_
      rintro e W3 (⟨rfl, hJ3, hk3⟩ | ⟨rfl, hJx3⟩)
      · gi_wp2
        exact ⟨⟨j, by omega, rfl, hJ3, hkc.trans hk3⟩, by simp only [intOf]; omega⟩
      · gi_wp2
        refine bodyPost_ret (results_none rfl _ _ _) rfl ?_
        exact ⟨⟨_, rfl⟩, .inr ⟨_, ⟨len - j, by omega, rfl⟩, hJx3⟩⟩
theorem back_stops {F : Fence} (h87 : F.fn 112) (hro : F.round = none) (n : Nat) (hn1 : 1 ≤ n) {n₀ Bs len cap : Nat} {A : Option Addr}
    (g : Nat → FV) (hgi : ∀ j, (g j).i = j) (hm : len ≤ 9223372036854775807) (hcap : len ≤ cap) (w : World) (hB : Bs < w.heap.size) (hn : n₀ ≤ w.heap.size)
    (hBs : w.cell? ⟨Bs, 0, none⟩ = some (.slice A len cap)) (hc : ∀ j, j < len → ∃ b off, A = some ⟨b, off, none⟩ ∧ ∀ (t : Nat) u, (g j).cs[t]? = some u → b < w.heap.size ∧ w.cell? ⟨b, off + j * 9 + t, none⟩ = some u) :
    SeqStopsK F n Try.prog 112 #[.pointer (some ⟨Bs, 0, none⟩)] (fun x : FV => #[Value.int .i64 (x.i : Int), Value.agg x.cs]) (KC n₀) (fun ys => ys = backL g len len) (fun pre => ∃ k, k ≤ len ∧ pre = backL g len k) len w := fun l J Jx W hW hJ hJx hY h0 =>
  back1_in h87 hro n hn1 g hgi hm hY W ((hW.cell (p := ⟨Bs, 0, none⟩) hB).trans hBs) (fun j hj => by
    obtain ⟨b, off, e, h⟩ := hc j hj
    exact ⟨b, off, e, fun t u hu => (hW.cell (p := ⟨b, off + j * 9 + t, none⟩) (h t u hu).1).trans (h t u hu).2⟩) hcap h0
theorem back_in {F : Fence} (h73 : F.fn 96) (hro : F.round = none) (n : Nat) (A : Option Addr) (len cap : Nat) (w : World) :
    CallsIn F n Try.prog 96 #[.slice A len cap] w fun e w' => e = .returned (.func (.func 112) #[] #[.pointer (some ⟨w.heap.size, 0, none⟩)]) ∧ w' = w.alloc (.cells #[.slice A len cap] 23) := by
  refine callsIn_of_wp Try.func96 rfl h73 ?_ hro
  simp only [Try.f96, List.size_toArray, List.length_cons, List.length_nil, Nat.reduceAdd, Nat.reduceSub, Array.replicate_succ, Array.replicate_zero, List.push_toArray, List.append_toArray, List.nil_append, List.cons_append]
  gi_wp2
  go_ret
  exact ⟨rfl, rfl⟩
def MapAt (W : World) (r : Nat) (m : List (List UInt8 × Int)) : Prop := ∃ (ents : Array MapEntry) (clock : Nat), W.heap[r]? = some (.map ents clock) ∧ ents.size = m.length ∧
  ∀ (i : Nat) e p, ents[i]? = some e → m[i]? = some p → e.key = .string ⟨p.1.toArray⟩ ∧ e.val = .int .i64 p.2
def setI (k : List UInt8) (v : Int) : List (List UInt8 × Int) → List (List UInt8 × Int)
  | [] => [(k, v)]
  | (q, y) :: r => if k == q then (k, v) :: r else (q, y) :: setI k v r
def mdvI (m : List (List UInt8 × Int)) : List (DV × DV) := m.map fun p => (DV.str p.1, DV.int .i64 p.2)
theorem setK_I (k : List UInt8) (v : Int) : ∀ m, setK .string (.str k) (.int .i64 v) (mdvI m) = mdvI (setI k v m)
  | [] => rfl
  | (q, y) :: r => by
    have ih := setK_I k v r
    simp only [mdvI, List.map_cons] at ih ⊢
    unfold setI setK
    simp only [sameK, Option.some.injEq]
    split <;> simp_all [mdvI]
theorem findK_I (k : List UInt8) : ∀ m, ∃ r, findK .string (.str k) (mdvI m) = some r
  | [] => ⟨_, rfl⟩
  | (q, y) :: r => by
    obtain ⟨x, hx⟩ := findK_I k r
    simp only [mdvI, List.map_cons] at hx ⊢
    unfold findK
    simp only [sameK]
    cases (k == q) with
    | true => exact ⟨_, rfl⟩
    | false => exact ⟨x, hx⟩
theorem repd_s (W : World) (F : Nat → Nat → Prop) (s : List UInt8) : RepD W F (.string ⟨s.toArray⟩) (.str s) := by
  have h := RepD.str (w := W) (F := F) ⟨s.toArray⟩
  simpa using h
theorem mdvI_inj : ∀ l m : List (List UInt8 × Int), mdvI l = mdvI m → l = m
  | [], [], _ => rfl
  | [], _ :: _, h => by simp [mdvI] at h
  | _ :: _, [], h => by simp [mdvI] at h
  | (a, b) :: l, (c, d) :: m, h => by
    simp only [mdvI, List.map_cons, List.cons.injEq, Prod.mk.injEq, DV.str.injEq, DV.int.injEq, true_and] at h
    obtain ⟨⟨h1, h2⟩, h3⟩ := h
    rw [h1, h2, mdvI_inj l m h3]
theorem mapAt_put {W : World} {r : Nat} {m : List (List UInt8 × Int)} {ents ents' : Array MapEntry} {clock clock' : Nat} (hb : W.heap[r]? = some (.map ents clock)) (hl : ents'.size = m.length)
    (h : ∀ (i : Nat) e p, ents'[i]? = some e → m[i]? = some p → e.key = .string ⟨p.1.toArray⟩ ∧ e.val = .int .i64 p.2) :
    MapAt (W.putObj r (.map ents' clock')) r m ∧ W.grownBy (W.putObj r (.map ents' clock')) (some r) := by
  have hlt : r < W.heap.size := (Array.getElem?_eq_some_iff.1 hb).1
  refine ⟨⟨ents', clock', ?_, hl, h⟩, grownBy_putObj' _ _ _⟩
  simp [World.putObj, hlt]
theorem update_at {W : World} {r : Nat} {m : List (List UInt8 × Int)} (h : MapAt W r m) (k : List UInt8) (v : Int) :
    ∃ W', (Instr.mapUpdate 119 (.map (some r)) (.string ⟨k.toArray⟩) (.int .i64 v)).run Try.prog W = .ok () W' ∧ MapAt W' r (setI k v m) ∧ W.grownBy W' (some r) := by
  obtain ⟨ents, clock, hb, hl, hm⟩ := h
  have hrep : ∀ (j : Nat) e p, ents[j]? = some e → (mdvI m)[j]? = some p → RepD W (fun _ _ => True) e.key p.1 ∧ RepD W (fun _ _ => True) e.val p.2 := fun j e p he hp => by
    simp only [mdvI, List.getElem?_map, Option.map_eq_some_iff] at hp
    obtain ⟨q, hq, rfl⟩ := hp
    obtain ⟨h1, h2⟩ := hm j e q he hq
    rw [h1, h2]
    exact ⟨repd_s _ _ _, .int _ _⟩
  have hkr := repd_s W (fun _ _ => True) k
  have hs1 : sameK .string (.str k) (.str k) = some true := by simp [sameK]
  have hund := Try.underlying9
  have hget := MapKept.run_getObj_map (P := Try.prog) hb
  have hck := key_ok (P := Try.prog) (w := W) hund (v := .string ⟨k.toArray⟩) hs1 false 9999
  have hset := fun o => MapKept.run_setObj_map (P := Try.prog) o hb
  obtain ⟨x, hf⟩ := findK_I k m
  have hml : (mdvI m).length = m.length := by simp [mdvI]
  have hset' := setK_I k v m
  cases x with
  | none =>
    obtain ⟨h3, _⟩ := find_ok hkr ents.toList (mdvI m) 0 (by simp [hl, hml]) (fun j e p he hp => hrep j e p (by simpa using he) hp)
    obtain ⟨h4, h5⟩ := h3 hf
    have hfk := find_run (P := Try.prog) (w := W) hund h4
    rw [h5] at hset'
    have hms : setI k v m = m ++ [(k, v)] := by
      refine (mdvI_inj _ _ ?_).symm
      rw [← hset']
      simp [mdvI]
    rw [hms]
    refine ⟨W.putObj r (.map (ents.push { key := .string ⟨k.toArray⟩, val := .int .i64 v, born := clock }) (clock + 1)), ?_, mapAt_put hb (by simp [hl]) fun i e p he hp => ?_⟩
    · simp [Instr.mapUpdate, run_underlying Try.underlying88, hget, hck, hfk, hset]
      rfl
    · by_cases hj : i < m.length
      · rw [List.getElem?_append_left hj] at hp
        rw [Array.getElem?_push, if_neg (by omega)] at he
        exact hm i e p he hp
      · rw [List.getElem?_append_right (by omega)] at hp
        have hj0 : i - m.length = 0 := by
          have := (List.getElem?_eq_some_iff.1 hp).1
          simp at this; omega
        rw [hj0] at hp
        rw [Array.getElem?_push, if_pos (by omega)] at he
        simp at hp he
        subst hp; subst he
        exact ⟨rfl, rfl⟩
  | some x0 =>
    obtain ⟨_, h3⟩ := find_ok hkr ents.toList (mdvI m) 0 (by simp [hl, hml]) (fun j e p he hp => hrep j e p (by simpa using he) hp)
    obtain ⟨j, e, p, h4, h5, h6, h7, h8, h9⟩ := h3 x0 hf
    have hfk := find_run (P := Try.prog) (w := W) hund h4
    simp only [Nat.zero_add] at hfk
    rw [h9] at hset'
    have h5' : ents[j]? = some e := by simpa using h5
    have hjl : j < ents.size := (Array.getElem?_eq_some_iff.1 h5').1
    have hms : setI k v m = m.set j (k, v) := by
      refine (mdvI_inj _ _ ?_).symm
      rw [← hset']
      simp [mdvI, List.map_set]
    rw [hms]
    have hsb := sameBits_self hkr hs1
    refine ⟨W.putObj r (.map (ents.modify j fun e => { e with key := .string ⟨k.toArray⟩, val := .int .i64 v }) clock), ?_, mapAt_put hb (by simp [hl]) fun i e' p he hp => ?_⟩
    · simp [Instr.mapUpdate, run_underlying Try.underlying88, hget, hck, hfk, h5', h8, Instr.keyThatStays, hsb, hset]
      rfl
    · rw [Array.getElem?_modify] at he
      rw [List.getElem?_set] at hp
      by_cases hij : j = i
      · subst hij
        rw [if_pos rfl] at he
        rw [if_pos rfl, if_pos (by omega)] at hp
        rw [h5'] at he
        simp at he hp
        subst he; subst hp
        exact ⟨rfl, rfl⟩
      · rw [if_neg hij] at he
        rw [if_neg hij] at hp
        exact hm i e' p he hp
theorem wpListIn_update {F : Fence} {nF : Nat} (w : World) {ops : Array Oper} {rest : List Oper} {o : Oper} {a : Act} {Q : Exit → Act → World → Prop}
    (hg : o.guard = none) (m x v : Operand) (hop : o.op = Op.mapUpdate 119 m x v) (r : Nat) (d : List (List UInt8 × Int))
    (hm : a.eval m = .map (some r)) (hown : MapAt w r d) (k : List UInt8) (n : Int) (hx : a.eval x = .string ⟨k.toArray⟩) (hv : a.eval v = .int .i64 n)
    (hK : ∀ w', MapAt w' r (setI k n d) → w.grownBy w' (some r) → wpListIn F nF Try.prog ops Q rest (a.put o.dst undef) w') :
    wpListIn F nF Try.prog ops Q (o :: rest) a w := by
  refine wpListIn_plain hg fun K' hK' => ?_
  obtain ⟨w', hrun, r1, r2⟩ := update_at hown k n
  unfold Oper.wpIn
  refine ⟨by simp [Oper.about, hop], ?_⟩
  rw [Oper.semAt_plain F _ _ (by rw [hop]; intro c hc'; cases hc')]
  simp [execOp, hop, hm, hx, hv, hrun, Result.andThen]
  exact hK' _ _ (hK w' r1 r2)
end Go.Proofs.Ytfcfifohflgboaa.Am
/- typing.types, and what it is to the evaluator. -/
set_option linter.unusedVariables false
set_option linter.unusedSimpArgs false
namespace Go.Proofs.Ytfcfifohflgboaa.Am
open Go Go.RowKit Go.Shelf Go.Proofs
attribute [local go_sem] Oper.semAt_some
set_option maxRecDepth 100000
set_option maxHeartbeats 4000000
def putM (m : List (List UInt8 × Int)) : List FV → List (List UInt8 × Int)
  | [] => m
  | x :: r => putM (setI x.nm x.ty m) r
theorem putM_end (x : FV) : ∀ (l : List FV) (m : List (List UInt8 × Int)), putM m (l ++ [x]) = setI x.nm x.ty (putM m l)
  | [], m => rfl
  | y :: r, m => by rw [List.cons_append, putM, putM, putM_end x r]
theorem mapAt_kept {W W' : World} {row : Option Nat} {r : Nat} {m : List (List UInt8 × Int)} (h : MapAt W r m) (hg : W.grownBy W' row) (hne : row ≠ some r) : MapAt W' r m := by
  obtain ⟨ents, clock, hb, h1, h2⟩ := h
  exact ⟨ents, clock, (hg.block r (Array.getElem?_eq_some_iff.1 hb).1 (fun e => hne e.symm)).trans hb, h1, h2⟩
theorem types_in {F : Fence} (h50 : F.fn 86) (h73 : F.fn 96) (h87 : F.fn 112) (hro : F.round = none) (n : Nat) (hn : 3 ≤ n) {len cap : Nat} {A : Option Addr}
    (g : Nat → FV) (hgi : ∀ j, (g j).i = j) (hm : len ≤ 9223372036854775807) (hcap : len ≤ cap) (w : World)
    (hc : ∀ j, j < len → ∃ b off, A = some ⟨b, off, none⟩ ∧ ∀ (t : Nat) u, (g j).cs[t]? = some u → w.cell? ⟨b, off + j * 9 + t, none⟩ = some u) :
    CallsIn F n Try.prog 86 #[.slice A len cap] w fun e w' => e = .returned (.map (some w.heap.size)) ∧ MapAt w' w.heap.size (putM [] (backL g len len)) ∧ Below w.heap.size w w' := by
  have h1 : 1 ≤ n := by omega
  have hmm := @run_makeMap Try.prog
  refine callsIn_of_wp_marks Try.func86 rfl h50 ?_ hro
  simp only [Try.f86, List.size_toArray, List.length_cons, List.length_nil, Nat.reduceAdd, Nat.reduceSub, Array.replicate_succ, Array.replicate_zero, List.push_toArray, List.append_toArray, List.nil_append, List.cons_append]
  gi_wp2_with (gi_at_call 96; refine (back_in h73 hro (n - 1) _ _ _ _).mono ?_; rintro e w' ⟨rfl, rfl⟩)
  obtain ⟨W0, hW0⟩ : ∃ W0, (((w.alloc (.map #[] 0)).alloc (.cells #[.map (some w.heap.size)] 119)).alloc (.cells #[.slice A len cap] 23)) = W0 := ⟨_, rfl⟩
  have hs0 : W0.heap.size = w.heap.size + 3 := by rw [← hW0]; simp
  have hB0 : Below w.heap.size w W0 := by rw [← hW0]; exact (((Below.refl _ w).alloc (Nat.le_refl _) _).alloc (by simp) _).alloc (by simp; omega) _
  have hm0 : MapAt W0 w.heap.size [] := by
    refine mapAt_kept (W := w.alloc (.map #[] 0)) (row := none) ⟨#[], 0, World.alloc_heap_new w _, rfl, fun i e p h => by simp at h⟩ ?_ (by simp)
    rw [← hW0]
    exact grown_two _ _ _
  have c1 : W0.cell? ⟨w.heap.size + 1, 0, none⟩ = some (.map (some w.heap.size)) := by
    have h := (new_cell (w.alloc (.map #[] 0)) (.map (some w.heap.size)) 119).1
    rw [World.size_alloc] at h
    rw [← hW0]
    exact (World.grownBy_alloc _ _ none).cell h (by simp)
  have c2 : W0.cell? ⟨w.heap.size + 1 + 1, 0, none⟩ = some (.slice A len cap) := by
    have h := (new_cell ((w.alloc (.map #[] 0)).alloc (.cells #[.map (some w.heap.size)] 119)) (.slice A len cap) 23).1
    rw [World.size_alloc, World.size_alloc] at h
    rw [← hW0]
    exact h
  have hc0 : ∀ j, j < len → ∃ b off, A = some ⟨b, off, none⟩ ∧ ∀ (t : Nat) u, (g j).cs[t]? = some u → b < W0.heap.size ∧ W0.cell? ⟨b, off + j * 9 + t, none⟩ = some u := fun j hj => by
    obtain ⟨b, off, e, h⟩ := hc j hj
    exact ⟨b, off, e, fun t u hu => by
      have h1 := h t u hu
      have h2 := cell_lt h1
      exact ⟨by omega, (hB0.cell (p := ⟨b, off + j * 9 + t, none⟩) h2).trans h1⟩⟩
  rw [hW0]
  clear hc hW0
  refine wpIn_rangeFunc_ownH hro h1 (gf := 112) (lb := #[.pointer (some ⟨w.heap.size + 1 + 1, 0, none⟩)]) rfl h87 (enters_of Try.func112 (by kernel_rfl) rfl)
    (back_stops (n₀ := w.heap.size) h87 hro (n - 1) (by omega) g hgi hm hcap W0 (by omega) (by omega) c2 hc0) KC.trans (KC.put (by omega)) (Below.refl _ _) (fun _ => rfl)
    (fun pre W => (W.cell? ⟨w.heap.size + 1, 0, none⟩ = some (.map (some w.heap.size)) ∧ MapAt W w.heap.size (putM [] pre)) ∧ Below w.heap.size w W)
    (fun _ _ _ => False)
    (OwnFrom.and (fun s A B row hs hg hr => ⟨cell_kept hs.1 hg (fun r e => (hr r e).2), mapAt_kept hs.2 hg (fun e => by have := (hr _ e).1; omega)⟩) (ownFrom_below (Nat.le_refl _) (by omega)))
    (fun _ _ _ _ _ hs _ _ => hs)
    ⟨⟨c1, hm0⟩, hB0⟩
    (fun x a' W => ∃ Bx, w.heap.size + 1 < Bx ∧ W.heap[Bx]? = some (.cells x.cs 48 (0, 0)) ∧ a' = { tmps := #[.slice A len cap, undef, .map none, .pointer (some ⟨w.heap.size + 1, 0, none⟩), undef, .pointer (some ⟨Bx, 0, none⟩), .map (some w.heap.size), .slice A len cap, .func (.func 112) #[] #[.pointer (some ⟨w.heap.size + 1 + 1, 0, none⟩)], .int .i64 (x.i : Int), .agg x.cs, undef, undef, undef, undef, undef, undef], defers := [] })
    (fun x a' _ X Y row hs hg hr => by
      obtain ⟨Bx, h1, h2, h3⟩ := hs
      refine ⟨Bx, h1, (hg.block Bx (Array.getElem?_eq_some_iff.1 h2).1 (fun e => ?_)).trans h2, h3⟩
      obtain ⟨o, ho, hc⟩ := (hr Bx e.symm).2
      rw [h2] at ho
      injection ho with ho
      subst ho
      simp [Obj.isCells] at hc)
    ?assign ?body ?done ?stop
  case assign =>
    rintro l pre x W K ⟨⟨b1, b2⟩, b3⟩ hK
    simp only [FV.cs] at hK ⊢
    gi_wp2
    exact hK _ _ ((KeepsOthers.alloc _ _).from _) (KC.grown (World.grownBy_alloc W _ none) b3.size) ⟨⟨(World.grownBy_alloc W _ none).cell b1 (by simp), mapAt_kept b2 (World.grownBy_alloc W _ none) (by simp)⟩, b3.alloc b3.size _⟩ ⟨W.heap.size, World.block_lt_of_cell? W _ b1, World.alloc_heap_new W _, rfl⟩
  case body =>
    rintro l pre x a' W hl ⟨r, hr⟩ ⟨⟨b1, b2⟩, b3⟩ ⟨Bx, hBx, bX, rfl⟩ hlt
    have d0 : W.cell? ⟨Bx, 0, none⟩ = some (.string ⟨x.nm.toArray⟩) := by unfold World.cell?; rw [bX]; rfl
    have d2 : W.cell? ⟨Bx, 2, none⟩ = some (.int .i64 x.ty) := by unfold World.cell?; rw [bX]; rfl
    gi_wp2_with (gi_at_mapUpdate; refine wpListIn_update _ rfl _ _ _ rfl w.heap.size (putM [] pre) rfl b2 x.nm x.ty rfl rfl ?_; intro w1 hown1 hgrow1)
    have hg1 : KC w.heap.size W w1 := ⟨(Below.refl _ W).grown hgrow1 b3.size (fun k e => by cases e; exact Nat.le_refl _), fun k arr te z e => (hgrow1.block k (Array.getElem?_eq_some_iff.1 e).1 (fun e' => by
      injection e' with e'
      subst e'
      obtain ⟨ents, clock, hb, _⟩ := b2
      rw [hb] at e
      cases e)).trans e⟩
    exact ⟨KeepsFrom.of_grownBy hgrow1 (fun j e => by cases e; omega), hg1, ⟨hg1.cell b1, by rw [putM_end]; exact hown1⟩, b3.trans hg1.1⟩
  case done =>
    rintro D ys W hD rfl ⟨⟨b1, b2⟩, b3⟩ hK
    gi_wp2
    refine ⟨by simp, .inl ⟨_, _, rfl, run_takeDeferred hK, ?_⟩⟩
    exact ⟨_, results_tmp rfl _ _ _, rfl, mapAt_kept b2 (grownBy_putObj' _ D _) (fun e => by cases e; omega), b3.trans (belowK_b (w := w) (Nat.le_refl _) W D _ _ (by omega) hK rfl rfl)⟩
  case stop =>
    rintro D c pre W _ _ h _
    exact h.elim
structure Fl where
  name : List UInt8
  kind : Int
  ty : Int
  src : Ex
def Ex.cells : Ex → List DV
  | .mk op vk vn vs nm args => [.int .i64 op, .int .i64 vk, .int .i64 vn, .str vs, .str nm, .sl 6 (Ex.dvs args)]
def Fl.dv (f : Fl) : DV := .agg (.str f.name :: .int .i64 f.kind :: .int .i64 f.ty :: f.src.cells)
def typesL : List Fl → List (List UInt8 × Int)
  | [] => []
  | f :: r => setI f.name f.ty (typesL r)
theorem typesL_inj : ∀ l m : List Fl, l.map Fl.dv = m.map Fl.dv → typesL l = typesL m
  | [], [], _ => rfl
  | [], _ :: _, h => by simp at h
  | _ :: _, [], h => by simp at h
  | a :: l, b :: m, h => by
    simp only [List.map_cons, List.cons.injEq, Fl.dv, DV.agg.injEq, DV.str.injEq, DV.int.injEq, true_and] at h
    obtain ⟨⟨h1, h2, h3, _⟩, h4⟩ := h
    rw [typesL, typesL, h1, h3, typesL_inj l m h4]
theorem repd_field {W : World} {F : Nat → Nat → Prop} {v : Value} {f : Fl} (h : RepD W F v f.dv) (i : Nat) : ∃ x : FV, x.i = i ∧ v = .agg x.cs ∧ x.nm = f.name ∧ x.ty = f.ty := by
  obtain ⟨name, kind, ty, ⟨op, vk, vn, vs, nm, args⟩⟩ := f
  simp only [Fl.dv, Ex.cells] at h
  generalize hD : DV.agg [DV.str name, DV.int IntKind.i64 kind, DV.int IntKind.i64 ty, DV.int IntKind.i64 op, DV.int IntKind.i64 vk, DV.int IntKind.i64 vn, DV.str vs, DV.str nm, DV.sl 6 (Ex.dvs args)] = D at h
  cases h with
  | agg ws cs hl hf hh =>
    injection hD with hD
    subst hD
    have hs : ws.size = 9 := hl
    obtain ⟨l⟩ := ws
    simp only [List.size_toArray] at hs
    rcases l with _ | ⟨v0, _ | ⟨v1, _ | ⟨v2, _ | ⟨v3, _ | ⟨v4, _ | ⟨v5, _ | ⟨v6, _ | ⟨v7, _ | ⟨v8, _ | ⟨v9, l⟩⟩⟩⟩⟩⟩⟩⟩⟩⟩ <;> simp at hs
    have h0 := repd_str (hh 0 v0 _ rfl rfl)
    have h1 := hh 1 v1 _ rfl rfl
    have h2 := hh 2 v2 _ rfl rfl
    have h3 := hh 3 v3 _ rfl rfl
    have h4 := hh 4 v4 _ rfl rfl
    have h5 := hh 5 v5 _ rfl rfl
    have h6 := repd_str (hh 6 v6 _ rfl rfl)
    have h7 := repd_str (hh 7 v7 _ rfl rfl)
    have h8 := hh 8 v8 _ rfl rfl
    cases h1
    cases h2
    cases h3
    cases h4
    cases h5
    cases h8 with | sl A n c _ _ fv hl hc hm hm2 hx =>
    subst h0 h6 h7
    exact ⟨⟨i, name, kind, ty, op, vk, vn, vs, nm, A, n, c⟩, rfl, rfl, rfl, rfl⟩
  | any => cases hD
  | _ => cases hD
theorem putM_types (g : Nat → FV) (L : List Fl) (hg : ∀ j f, L[j]? = some f → (g j).nm = f.name ∧ (g j).ty = f.ty) : ∀ k, k ≤ L.length → putM [] (backL g L.length k) = typesL (L.drop (L.length - k))
  | 0, _ => by simp [backL, putM, typesL]
  | k + 1, hk => by
    have ih := putM_types g L hg k (by omega)
    have hlt : L.length - 1 - k < L.length := by omega
    have h1 : L.drop (L.length - (k + 1)) = L[L.length - 1 - k] :: L.drop (L.length - k) := by
      have h2 := List.drop_eq_getElem_cons hlt
      rw [show L.length - 1 - k + 1 = L.length - k by omega] at h2
      rw [← h2, show L.length - 1 - k = L.length - (k + 1) by omega]
    obtain ⟨h2, h3⟩ := hg _ _ (List.getElem?_eq_getElem hlt)
    rw [backL, putM_end, ih, h1, typesL, h2, h3]
open Classical in
noncomputable def typP (ds : List DV) : Option (AV × Heap) :=
  if h : ∃ L : List Fl, ds = [.sl 9 (L.map Fl.dv)] then some (.d (.mp (mdvI (typesL h.choose))), []) else none
theorem typP_eq (L : List Fl) : typP [.sl 9 (L.map Fl.dv)] = some (.d (.mp (mdvI (typesL L))), []) := by
  have h : ∃ M : List Fl, [DV.sl 9 (L.map Fl.dv)] = [.sl 9 (M.map Fl.dv)] := ⟨L, rfl⟩
  have hs := h.choose_spec
  unfold typP
  rw [dif_pos h]
  generalize h.choose = q at hs ⊢
  have a : L.map Fl.dv = q.map Fl.dv := by
    have := (List.cons.inj hs).1
    injection this
  rw [typesL_inj _ _ a]
theorem types_one : OneOk Try.prog 86 typP := by
  intro ds r H1 hp fz0 w vs hl hv
  unfold typP at hp
  split at hp
  · rename_i h
    have hs := h.choose_spec
    generalize h.choose = L at hs hp
    simp only [Option.some.injEq, Prod.mk.injEq] at hp
    obtain ⟨rfl, rfl⟩ := hp
    subst hs
    obtain ⟨v0, e0, r0⟩ := hv 0 _ rfl
    obtain ⟨l⟩ := vs
    simp only [List.size_toArray, List.length_cons, List.length_nil] at hl
    rcases l with _ | ⟨u0, _ | ⟨u1, l⟩⟩ <;> simp at hl
    obtain rfl : u0 = v0 := by simpa using e0
    cases r0 with | sl A n c _ _ fv hl hc hm hm2 hx =>
    rw [List.length_map] at hl
    subst hl
    have hex : ∀ j, ∃ x : FV, x.i = j ∧ ∀ f, L[j]? = some f → fv j = .agg x.cs ∧ x.nm = f.name ∧ x.ty = f.ty := fun j => by
      cases hj : L[j]? with
      | none => exact ⟨⟨j, [], 0, 0, 0, 0, 0, [], [], none, 0, 0⟩, rfl, fun f h => by cases h⟩
      | some f =>
        obtain ⟨x, h1, h2, h3, h4⟩ := repd_field (hx j f.dv (by rw [List.getElem?_map, hj]; rfl)) j
        exact ⟨x, h1, fun f' h => by injection h with h; subst h; exact ⟨h2, h3, h4⟩⟩
    have hin := types_in (F := Fence.wide) trivial trivial trivial rfl 3 (Nat.le_refl _) (len := L.length) (cap := c) (A := A) (fun j => (hex j).choose) (fun j => (hex j).choose_spec.1) hm hc w (fun j hj => by
      have hj' := List.getElem?_eq_getElem hj
      obtain ⟨b, off, hA, h2⟩ := (hm2 j (L[j]).dv (by rw [List.getElem?_map, hj']; rfl)).2
      refine ⟨b, off, hA, fun t u hu => (h2 t u ?_).1⟩
      rw [((hex j).choose_spec.2 _ hj').1]
      exact hu)
    rw [putM_types _ L (fun j f h => ((hex j).choose_spec.2 f h).2) _ (Nat.le_refl _), Nat.sub_self, List.drop_zero] at hin
    refine (callsIn_wide (n := 3)).1 (hin.mono ?_)
    rintro e w' ⟨rfl, ⟨ents, clock, hb, hl, hme⟩, hbl⟩
    refine ⟨_, fun _ => none, fun _ => False, rfl, hbl, heap_none hbl.size (fun _ h => h) (fun _ _ h => h), .d _ _ (.mp _ ents clock _ hb ⟨.inr (Nat.le_refl _), fun h => h, fun id p h => by simp [Heap.get] at h⟩ (by simp [mdvI, hl]) ?_ ?_)⟩
    · intro i e p he hp
      simp only [mdvI, List.getElem?_map, Option.map_eq_some_iff] at hp
      obtain ⟨q, hq, rfl⟩ := hp
      rw [(hme i e q he hq).1]
      exact repd_s _ _ _
    · intro i e p he hp
      simp only [mdvI, List.getElem?_map, Option.map_eq_some_iff] at hp
      obtain ⟨q, hq, rfl⟩ := hp
      rw [(hme i e q he hq).2]
      exact .int _ _
  · cases hp
end Go.Proofs.Ytfcfifohflgboaa.Am
/- typing.rules: a map that is put together in whatever order. -/
set_option linter.unusedVariables false
set_option linter.unusedSimpArgs false
namespace Go.Proofs.Ytfcfifohflgboaa.Am
open Go Go.RowKit Go.Shelf Go.Proofs
set_option maxRecDepth 100000
set_option maxHeartbeats 4000000
theorem unlisted_ready' {ops : Array Oper} (hback : ∀ j o, ops[j]? = some o → ∀ e ∈ o.after.toList, Region.binds .any e = true → e.on < j) {listed : Array Bool} (hr : Region.ready .any ops listed = []) :
    ∀ j, j < ops.size → listed.getD j true = true ∨ ops.size ≤ j := by
  intro j
  induction j using Nat.strongRecOn with
  | _ j ih =>
    intro hj
    left
    refine Classical.byContradiction fun hc => ?_
    have hmem : j ∈ Region.ready .any ops listed := mem_ready.2 ⟨by simpa using hc, ops[j], Array.getElem?_eq_getElem hj, fun e he hb => by
      have hlt := hback j ops[j] (Array.getElem?_eq_getElem hj) e (by simpa using he) hb
      rcases ih e.on hlt (by omega) with h | h
      · rw [Array.getD_eq_getD_getElem?] at h ⊢
        cases hl : listed[e.on]? with
        | some b => rw [hl] at h; simpa using h
        | none =>
          exfalso
          have h1 : listed.getD j true = true := by
            have : listed.size ≤ e.on := Array.getElem?_eq_none_iff.1 hl
            rw [Array.getD_eq_getD_getElem?, Array.getElem?_eq_none (by omega)]; rfl
          exact hc h1
      · omega⟩
    rw [hr] at hmem
    cases hmem
theorem count_set' {l : Array Bool} {i : Nat} (hi : i < l.size) (h : l.getD i true = false) : (l.setIfInBounds i true).toList.countP (· == false) + 1 = l.toList.countP (· == false) := by
  have hi' : i < l.toList.length := by simpa using hi
  have hl : l.toList[i] = false := by
    rw [Array.getD_eq_getD_getElem?, Array.getElem?_eq_getElem hi] at h
    simpa using h
  rw [Array.toList_setIfInBounds, List.countP_set hi']
  simp only [hl]
  have : 0 < l.toList.countP (· == false) := List.countP_pos_iff.2 ⟨l.toList[i], List.getElem_mem hi', by rw [hl]; rfl⟩
  simp only [beq_self_eq_true, if_true, show (true == false) = false from rfl, Bool.false_eq_true, if_false]
  omega
theorem wpAny_inv {P : Program} {ops : Array Oper} {Q : Exit → Act → World → Prop} (hback : ∀ j o, ops[j]? = some o → ∀ e ∈ o.after.toList, Region.binds .any e = true → e.on < j) (Inv : (Nat → Bool) → Act → World → Prop)
    (step : ∀ L a w i o, Inv L a w → L i = false → ops[i]? = some o → (∀ e ∈ o.after, Region.binds .any e = true → L e.on = true) → ∀ K : Act → World → Prop, (∀ a' w', Inv (fun j => if j = i then true else L j) a' w' → K a' w') → wpOp P ops Q i K a w)
    (fin : ∀ L a w, Inv L a w → (∀ j, j < ops.size → L j = true) → Q .normal a w)
    (hcong : ∀ L L' a w, (∀ j, j < ops.size → L j = L' j) → Inv L a w → Inv L' a w) :
    ∀ (fuel : Nat) (listed : Array Bool) (a : Act) (w : World), listed.size = ops.size → listed.toList.countP (· == false) ≤ fuel → Inv (fun j => listed.getD j false) a w → wpAny P .any ops Q fuel listed a w := by
  have hgd : ∀ (listed : Array Bool) (j : Nat), listed.size = ops.size → j < ops.size → listed.getD j true = listed.getD j false := fun listed j hsz hj => by
    rw [Array.getD_eq_getD_getElem?, Array.getD_eq_getD_getElem?, Array.getElem?_eq_getElem (by omega)]; rfl
  intro fuel
  induction fuel with
  | zero =>
    intro listed a w hs hc hi
    have hall : ∀ j, j < ops.size → listed.getD j false = true := fun j hj => by
      have h0 : listed.toList.countP (· == false) = 0 := by omega
      have h1 := List.countP_eq_zero.1 h0 (listed[j]'(by omega)) (by simp)
      rw [Array.getD_eq_getD_getElem?, Array.getElem?_eq_getElem (by omega)]
      simpa using h1
    refine ⟨?_, fin _ _ _ hi hall⟩
    cases hr : Region.ready .any ops listed with
    | nil => rfl
    | cons j r =>
      have hj : j ∈ Region.ready .any ops listed := by rw [hr]; simp
      obtain ⟨h1, o, ho, _⟩ := mem_ready.1 hj
      have hlt := (Array.getElem?_eq_some_iff.1 ho).1
      rw [hgd listed j hs hlt, hall j hlt] at h1
      cases h1
  | succ fuel ih =>
    intro listed a w hs hc hi
    refine ⟨fun hr => fin _ _ _ hi (fun j hj => ?_), fun i him => ?_⟩
    · rcases unlisted_ready' hback hr j hj with h | h
      · rw [← hgd listed j hs hj]; exact h
      · omega
    obtain ⟨hun, o, ho, hedges⟩ := mem_ready.1 him
    have hil := (Array.getElem?_eq_some_iff.1 ho).1
    have hun' : listed.getD i false = false := by rw [← hgd listed i hs hil]; exact hun
    refine step _ a w i o hi hun' ho hedges _ fun a' w' hi' => ?_
    refine ih _ _ _ (by rw [Array.size_setIfInBounds]; exact hs) ?_ (hcong _ _ _ _ (fun j hj => ?_) hi')
    · have hcount : (listed.setIfInBounds i true).toList.countP (· == false) + 1 = listed.toList.countP (· == false) := count_set' (by omega) hun
      omega
    · by_cases hji : j = i
      · subst hji
        rw [if_pos rfl, Array.getD_eq_getD_getElem?, Array.getElem?_setIfInBounds_self_of_lt (by omega)]
        rfl
      · rw [if_neg hji, Array.getD_eq_getD_getElem?, Array.getD_eq_getD_getElem?, Array.getElem?_setIfInBounds_ne (fun e => hji e.symm)]
theorem t_move (a : Act) (w : World) (src : Nat) (d : Option Tmp) (t p af g) : (execOp a.eval ⟨d, .move (.tmp src), t, p, af, g⟩).run Try.prog w = .ok (.value (a.tmps[src]?.getD undef)) w := by
  simp [go_sem, execOp]
theorem t_asg (a : Act) (w : World) (src : Nat) (d : Option Tmp) (t p af g) : (execOp a.eval ⟨d, .assign (.tmp src), t, p, af, g⟩).run Try.prog w = .ok (.value (a.tmps[src]?.getD undef)) w := by
  simp [go_sem, execOp]
theorem t_slice (a : Act) (w : World) (src : Nat) (d : Option Tmp) (t p af g) (b : Nat) (h : a.tmps[src]?.getD undef = .slice (some ⟨b, 0, none⟩) 2 2) : (execOp a.eval ⟨d, .slice 50 (.tmp src) none (some (.const (.int .i64 1))) none, t, p, af, g⟩).run Try.prog w = .ok (.value (.slice (some ⟨b, 0, none⟩) 1 2)) w := by
  simp [go_sem, execOp, h]
theorem t_build (a : Act) (w : World) (src : Nat) (c : Int) (d : Option Tmp) (t p af g) (A : Option Addr) (n k : Nat) (h : a.tmps[src]?.getD undef = .slice A n k) : (execOp a.eval ⟨d, .build 132 #[(0, .tmp src), (1, .const (.int .i64 c))], t, p, af, g⟩).run Try.prog w = .ok (.value (.agg #[.slice A n k, .int .i64 c])) w := by
  simp [go_sem, execOp, h]
theorem t_make (a : Act) (w : World) (d : Option Tmp) (t p af g) : (execOp a.eval ⟨d, .makeMap 121 none, t, p, af, g⟩).run Try.prog w = .ok (.value (.map (some w.heap.size))) (w.alloc (.map #[] 0)) := by
  have := @run_makeMap Try.prog
  simp [go_sem, execOp, this]
theorem t_ins (a : Act) (w : World) (m x : Nat) (k : Int) (d : Option Tmp) (t p af g) (r : Nat) (v : Value) (ents : Array MapEntry) (clock : Nat) (hm : a.tmps[m]?.getD undef = .map (some r)) (hx : a.tmps[x]?.getD undef = v) (hb : w.heap[r]? = some (.map ents clock))
    (hk : ∀ e ∈ ents.toList, ∃ k', e.key = .int .i64 k' ∧ k' ≠ k) : (execOp a.eval ⟨d,   .insert 121 (.tmp m) (.const (.int .i64 k)) (.tmp x), t, p, af, g⟩).run Try.prog w = .ok .skip (w.putObj r (.map (ents.push { key := .int .i64 k, val := v, born := clock }) (clock + 1))) := by
  have hfind : ∀ (l : List MapEntry) (n : Nat), (∀ e ∈ l, ∃ k', e.key = .int .i64 k' ∧ k' ≠ k) → Instr.findNow (.int .i64) (.int .i64 k) l n = some none := by
    intro l
    induction l with
    | nil => intro n _; rfl
    | cons e r ih =>
      intro n h
      obtain ⟨k', h1, h2⟩ := h e (by simp)
      have h3 : (k == k') = false := beq_eq_false_iff_ne.2 (fun e => h2 e.symm)
      simp [Instr.findNow, Instr.sameNow, h1, h3, ih (n + 1) (fun x hx => h x (by simp [hx]))]
  have hund := Try.underlying3
  have hget := MapKept.run_getObj_map (P := Try.prog) hb
  have hset := fun o => MapKept.run_setObj_map (P := Try.prog) o hb
  have hs1 : sameK (.int .i64) (.int .i64 k) (.int .i64 k) = some true := by simp [sameK]
  have hck := key_ok (P := Try.prog) (w := w) hund (v := .int .i64 k) hs1 false 9999
  have hfk := find_run (P := Try.prog) (w := w) hund (hfind ents.toList 0 hk)
  have hrun : (Instr.mapUpdate 121 (.map (some r)) (.int .i64 k) v).run Try.prog w = .ok () (w.putObj r (.map (ents.push { key := .int .i64 k, val := v, born := clock }) (clock + 1))) := by
    simp [Instr.mapUpdate, run_underlying Try.underlying121, hget, hck, hfk, hset]
    rfl
  simp [go_sem, execOp, hm, hx, hrun]
def sN (b : Nat) : Value := .slice (some ⟨b, 0, none⟩) 2 2
def cN (b : Nat) : Value := .slice (some ⟨b, 0, none⟩) 1 2
def tvR (n : Nat) : Nat → Value
  | 0 => .map (some (n + 3))
  | 7 => .map (some (n + 3))
  | 8 => sN n
  | 9 => cN n
  | 10 => .agg #[cN n, .int .i64 1]
  | 11 => sN (n + 1)
  | 12 => cN (n + 1)
  | 13 => .agg #[cN (n + 1), .int .i64 2]
  | 14 => sN (n + 2)
  | 15 => cN (n + 2)
  | 16 => .agg #[cN (n + 2), .int .i64 1]
  | 17 => sN n
  | 18 => .agg #[sN n, .int .i64 1]
  | 19 => sN n
  | 20 => .agg #[sN n, .int .i64 1]
  | 21 => sN n
  | 22 => .agg #[sN n, .int .i64 1]
  | 23 => sN n
  | 24 => .agg #[sN n, .int .i64 1]
  | 25 => sN n
  | 26 => .agg #[sN n, .int .i64 1]
  | 27 => sN (n + 2)
  | 28 => .agg #[sN (n + 2), .int .i64 3]
  | 29 => sN (n + 1)
  | 30 => .agg #[sN (n + 1), .int .i64 2]
  | 31 => sN (n + 1)
  | 32 => .agg #[sN (n + 1), .int .i64 2]
  | 33 => .map (some (n + 3))
  | _ => undef
def dstL : List (Nat × Nat) := [(0, 7), (1, 8), (2, 9), (3, 10), (5, 11), (6, 12), (7, 13), (9, 14), (10, 15), (11, 16), (13, 17), (14, 18), (16, 19), (17, 20), (19, 21), (20, 22), (22, 23), (23, 24), (25, 25), (26, 26), (28, 27), (29, 28), (31, 29), (32, 30), (34, 31), (35, 32), (37, 33), (38, 0)]
def insL : List (Nat × Int × Nat) := [(4, 3, 10), (8, 4, 13), (12, 18, 16), (15, 5, 18), (18, 6, 20), (21, 7, 22), (24, 8, 24), (27, 9, 26), (30, 10, 28), (33, 15, 30), (36, 16, 32)]
def REnts (n : Nat) (L : Nat → Bool) (ents : Array MapEntry) : Prop :=
  (∀ e ∈ ents.toList, ∃ p ∈ insL, L p.1 = true ∧ e.key = .int .i64 p.2.1 ∧ e.val = tvR n p.2.2) ∧ (∀ p ∈ insL, L p.1 = true → ∃ e ∈ ents.toList, e.key = .int .i64 p.2.1 ∧ e.val = tvR n p.2.2)
structure RInv (n : Nat) (W : World) (L : Nat → Bool) (a : Act) (w : World) : Prop where
  df : a.defers = []
  sz : a.tmps.size = 34
  t1 : a.tmps[1]?.getD undef = sN n
  t2 : a.tmps[2]?.getD undef = sN (n + 1)
  t3 : a.tmps[3]?.getD undef = sN (n + 2)
  tv : ∀ p ∈ dstL, L p.1 = true → a.tmps[p.2]?.getD undef = tvR n p.2
  bl : Below (n + 3) W w
  m0 : L 0 = false → w.heap.size = n + 3 ∧ ∀ p ∈ insL, L p.1 = false
  m1 : L 0 = true → ∃ ents clock, w.heap[n + 3]? = some (.map ents clock) ∧ REnts n L ents
def updL (L : Nat → Bool) (i : Nat) : Nat → Bool := fun j => if j = i then true else L j
theorem upd_true {L : Nat → Bool} {i j : Nat} (h : L j = true) : updL L i j = true := by
  unfold updL
  split
  · rfl
  · exact h
theorem ins_one : ∀ x ∈ insL, ∀ y ∈ insL, x.2.1 = y.2.1 → x.1 = y.1 := by decide
theorem ins_dst : ∀ x ∈ insL, ∀ y ∈ dstL, x.1 ≠ y.1 := by decide
theorem dst_in : ∀ x ∈ dstL, x.2 < 34 ∧ x.2 ≠ 1 ∧ x.2 ≠ 2 ∧ x.2 ≠ 3 := by decide
theorem put_tmp (a : Act) (t s : Nat) (v : Value) (h : t < a.tmps.size) : (a.put (some t) v).tmps[s]?.getD undef = if s = t then v else a.tmps[s]?.getD undef := by
  show (a.tmps.setIfInBounds t v)[s]?.getD undef = _
  rw [Array.getElem?_setIfInBounds]
  by_cases e : t = s
  · subst e; simp [h]
  · rw [if_neg e, if_neg (fun x => e x.symm)]
theorem inv_put {n : Nat} {W w : World} {L : Nat → Bool} {a : Act} (h : RInv n W L a w) {i t : Nat} (hd : (i, t) ∈ dstL) (hi0 : i ≠ 0) : RInv n W (updL L i) (a.put (some t) (tvR n t)) w := by
  have hin := dst_in _ hd
  have hp := fun s => put_tmp a t s (tvR n t) (by rw [h.sz]; exact hin.1)
  refine ⟨h.df, ?_, ?_, ?_, ?_, fun p hpm hl => ?_, h.bl, fun hl => ?_, fun hl => ?_⟩
  · show (a.tmps.setIfInBounds t _).size = 34
    rw [Array.size_setIfInBounds]; exact h.sz
  · rw [hp, if_neg (fun e => hin.2.1 e.symm)]; exact h.t1
  · rw [hp, if_neg (fun e => hin.2.2.1 e.symm)]; exact h.t2
  · rw [hp, if_neg (fun e => hin.2.2.2 e.symm)]; exact h.t3
  · rw [hp]
    by_cases e : p.2 = t
    · rw [if_pos e, e]
    · rw [if_neg e]
      refine h.tv p hpm ?_
      unfold updL at hl
      by_cases e1 : p.1 = i
      · exfalso
        obtain ⟨p1, p2⟩ := p
        simp only at e1 e
        subst e1
        have hf : ∀ x ∈ dstL, ∀ y ∈ dstL, x.1 = y.1 → x.2 = y.2 := by decide
        exact e (hf _ hpm _ hd rfl)
      · rw [if_neg e1] at hl; exact hl
  · unfold updL at hl
    rw [if_neg (fun e => hi0 e.symm)] at hl
    obtain ⟨h1, h2⟩ := h.m0 hl
    refine ⟨h1, fun p hpm => ?_⟩
    show (if p.1 = i then true else L p.1) = false
    rw [if_neg (fun e => ins_dst _ hpm _ hd e)]
    exact h2 p hpm
  · unfold updL at hl
    rw [if_neg (fun e => hi0 e.symm)] at hl
    obtain ⟨ents, clock, hb, r1, r2⟩ := h.m1 hl
    refine ⟨ents, clock, hb, fun e he => ?_, fun p hpm hlp => ?_⟩
    · obtain ⟨p, hpm, h1, h2⟩ := r1 e he
      exact ⟨p, hpm, upd_true h1, h2⟩
    · refine r2 p hpm ?_
      unfold updL at hlp
      rw [if_neg (fun e => ins_dst _ hpm _ hd e)] at hlp
      exact hlp
theorem inv_make {n : Nat} {W w : World} {L : Nat → Bool} {a : Act} (h : RInv n W L a w) (hl0 : L 0 = false) : RInv n W (updL L 0) (a.put (some 7) (.map (some w.heap.size))) (w.alloc (.map #[] 0)) := by
  obtain ⟨h1, h2⟩ := h.m0 hl0
  have hd : (0, 7) ∈ dstL := by decide
  have hp := fun s => put_tmp a 7 s (.map (some w.heap.size)) (by rw [h.sz]; decide)
  refine ⟨h.df, ?_, ?_, ?_, ?_, fun p hpm hl => ?_, h.bl.alloc (by omega) _, fun hl => ?_, fun hl => ?_⟩
  · show (a.tmps.setIfInBounds 7 _).size = 34
    rw [Array.size_setIfInBounds]; exact h.sz
  · rw [hp, if_neg (by decide)]; exact h.t1
  · rw [hp, if_neg (by decide)]; exact h.t2
  · rw [hp, if_neg (by decide)]; exact h.t3
  · rw [hp]
    by_cases e : p.2 = 7
    · rw [if_pos e, e, h1]; rfl
    · rw [if_neg e]
      refine h.tv p hpm ?_
      unfold updL at hl
      by_cases e1 : p.1 = 0
      · exfalso
        obtain ⟨p1, p2⟩ := p
        simp only at e1 e
        subst e1
        have hf : ∀ x ∈ dstL, ∀ y ∈ dstL, x.1 = y.1 → x.2 = y.2 := by decide
        exact e (hf _ hpm _ hd rfl)
      · rw [if_neg e1] at hl; exact hl
  · unfold updL at hl; rw [if_pos rfl] at hl; cases hl
  · refine ⟨#[], 0, by rw [← h1]; exact World.alloc_heap_new w _, fun e he => by simp at he, fun p hpm hlp => ?_⟩
    unfold updL at hlp
    have h3 := h2 p hpm
    rw [if_neg (fun e => ins_dst _ hpm _ hd e), h3] at hlp
    cases hlp
theorem inv_ins {n : Nat} {W w : World} {L : Nat → Bool} {a : Act} (h : RInv n W L a w) {i : Nat} {k : Int} {t : Nat} (hi : (i, k, t) ∈ insL) (hli : L i = false) (hl0 : L 0 = true) :
    ∃ ents clock, w.heap[n + 3]? = some (.map ents clock) ∧ (∀ e ∈ ents.toList, ∃ k', e.key = .int .i64 k' ∧ k' ≠ k) ∧ RInv n W (updL L i) (a.put none undef) (w.putObj (n + 3) (.map (ents.push { key := .int .i64 k, val := tvR n t, born := clock }) (clock + 1))) := by
  obtain ⟨ents, clock, hb, r1, r2⟩ := h.m1 hl0
  have hlt : n + 3 < w.heap.size := (Array.getElem?_eq_some_iff.1 hb).1
  refine ⟨ents, clock, hb, fun e he => ?_, ?_⟩
  · obtain ⟨p, hpm, h1, h2, _⟩ := r1 e he
    refine ⟨_, h2, fun e' => ?_⟩
    have := ins_one _ hpm _ hi e'
    rw [this, hli] at h1
    cases h1
  · have hd0 : (0, 7) ∈ dstL := by decide
    refine ⟨h.df, h.sz, h.t1, h.t2, h.t3, fun p hpm hl => h.tv p hpm ?_, h.bl.trans ((Below.refl _ w).grown (grownBy_putObj' w (n + 3) _) (by omega) (fun k e => by cases e; exact Nat.le_refl _)), fun hl => ?_, fun hl => ?_⟩
    · unfold updL at hl
      rw [if_neg (fun e => ins_dst _ hi _ hpm e.symm)] at hl
      exact hl
    · unfold updL at hl
      split at hl
      · cases hl
      · rw [hl0] at hl; cases hl
    · refine ⟨_, _, by simp [World.putObj, hlt]; exact ⟨rfl, rfl⟩, fun e he => ?_, fun p hpm hlp => ?_⟩
      · rw [Array.toList_push, List.mem_append, List.mem_singleton] at he
        rcases he with he | rfl
        · obtain ⟨p, hpm, h1, h2⟩ := r1 e he
          exact ⟨p, hpm, upd_true h1, h2⟩
        · exact ⟨_, hi, by unfold updL; rw [if_pos rfl], rfl, rfl⟩
      · unfold updL at hlp
        by_cases e1 : p.1 = i
        · have hf : ∀ x ∈ insL, ∀ y ∈ insL, x.1 = y.1 → x = y := by decide
          have := hf _ hpm _ hi e1
          subst this
          exact ⟨{ key := .int .i64 k, val := tvR n t, born := clock }, by rw [Array.toList_push]; simp, rfl, rfl⟩
        · rw [if_neg e1] at hlp
          obtain ⟨e, he, h3⟩ := r2 p hpm hlp
          exact ⟨e, by rw [Array.toList_push]; exact List.mem_append_left _ he, h3⟩
def backB (ops : Array Oper) : Bool := (List.range ops.size).all fun j => match ops[j]? with
  | some o => o.after.toList.all fun e => decide (e.on < j)
  | none => true
theorem back_of {ops : Array Oper} (h : backB ops = true) : ∀ j o, ops[j]? = some o → ∀ e ∈ o.after.toList, Region.binds .any e = true → e.on < j := fun j o ho e he _ => by
  have h1 := List.all_eq_true.1 h j (List.mem_range.2 (Array.getElem?_eq_some_iff.1 ho).1)
  rw [ho] at h1
  simpa using List.all_eq_true.1 h1 e he
theorem wpOp_of {P : Program} {ops : Array Oper} {Q : Exit → Act → World → Prop} {K : Act → World → Prop} {a : Act} {w : World} {i : Nat} {o : Oper} (ho : ops[i]? = some o) (hg : o.guard = none) (h : o.wp P a w K Q) : wpOp P ops Q i K a w := by
  unfold wpOp
  rw [ho]
  simp only
  rw [if_pos (by unfold Region.wanted; rw [hg])]
  exact .inl h
theorem wp_val {P : Program} {Q : Exit → Act → World → Prop} {K : Act → World → Prop} {a : Act} {w w' : World} {o : Oper} {v : Value} (h : (execOp a.eval o).run P w = .ok (.value v) w') (hK : K (a.put o.dst v) w') : o.wp P a w K Q := by
  unfold Oper.wp
  rw [h]
  exact hK
theorem wp_skip {P : Program} {Q : Exit → Act → World → Prop} {K : Act → World → Prop} {a : Act} {w w' : World} {o : Oper} (h : (execOp a.eval o).run P w = .ok .skip w') (hK : K (a.put o.dst undef) w') : o.wp P a w K Q := by
  unfold Oper.wp
  rw [h]
  exact hK
theorem inv_cong {n : Nat} {W : World} (L L' : Nat → Bool) (a : Act) (w : World) (hL : ∀ j, j < 39 → L j = L' j) (h : RInv n W L a w) : RInv n W L' a w := by
  have hd : ∀ p ∈ dstL, p.1 < 39 := by decide
  have hi : ∀ p ∈ insL, p.1 < 39 := by decide
  have h0 := hL 0 (by decide)
  refine ⟨h.df, h.sz, h.t1, h.t2, h.t3, fun p hp hl => h.tv p hp (by rw [hL _ (hd p hp)]; exact hl), h.bl, fun hl => ?_, fun hl => ?_⟩
  · obtain ⟨h1, h2⟩ := h.m0 (by rw [h0]; exact hl)
    exact ⟨h1, fun p hp => by rw [← hL _ (hi p hp)]; exact h2 p hp⟩
  · obtain ⟨ents, clock, hb, r1, r2⟩ := h.m1 (by rw [h0]; exact hl)
    refine ⟨ents, clock, hb, fun e he => ?_, fun p hp hl => r2 p hp (by rw [hL _ (hi p hp)]; exact hl)⟩
    obtain ⟨p, hp, h1, h2⟩ := r1 e he
    exact ⟨p, hp, by rw [← hL _ (hi p hp)]; exact h1, h2⟩
theorem rules_in (w : World) : Calls Try.prog 87 #[] w fun e w' => ∃ ents clock, e = .returned (.map (some (w.heap.size + 3))) ∧ Below w.heap.size w w' ∧ w'.heap[w.heap.size + 3]? = some (.map ents clock) ∧ REnts w.heap.size (fun _ => true) ents ∧
    (∀ j, j < 2 → w'.cell? ⟨w.heap.size, j, none⟩ = some (.int .i64 1)) ∧ (∀ j, j < 2 → w'.cell? ⟨w.heap.size + 1, j, none⟩ = some (.int .i64 2)) ∧ (∀ j, j < 2 → w'.cell? ⟨w.heap.size + 2, j, none⟩ = some (.int .i64 3)) := by
  refine calls_of_wp Try.func87 rfl ?_
  simp only [Try.f87, List.size_toArray, List.length_cons, List.length_nil, Nat.reduceAdd, Nat.reduceSub, Array.replicate_succ, Array.replicate_zero, List.push_toArray, List.append_toArray, List.nil_append, List.cons_append]
  go_wp2
  obtain ⟨W0, hW0⟩ : ∃ W0, ((w.alloc (.cells #[.int .i64 1, .int .i64 1] 3)).alloc (.cells #[.int .i64 2, .int .i64 2] 3)).alloc (.cells #[.int .i64 3, .int .i64 3] 3) = W0 := ⟨_, rfl⟩
  have hs0 : W0.heap.size = w.heap.size + 3 := by rw [← hW0]; simp
  have hB0 : Below w.heap.size w W0 := by rw [← hW0]; exact (((Below.refl _ w).alloc (Nat.le_refl _) _).alloc (by simp) _).alloc (by simp; omega) _
  rw [hW0]
  refine wp_region_any rfl (wpAny_inv ?back (RInv w.heap.size { W0 with drawn := W0.drawn + 1 }) ?step ?fin ?cong _ _ _ _ rfl ?cnt ?start)
  case cong => exact fun L L' a w hL h => inv_cong L L' a w hL h
  case back =>
    exact back_of (by kernel_rfl)
  case cnt => decide
  case start =>
    refine ⟨rfl, rfl, rfl, rfl, rfl, fun p hp hl => ?_, Below.refl _ _, fun _ => ⟨hs0, fun p hp => ?_⟩, fun hl => ?_⟩
    · exfalso
      have h1 : ∀ p ∈ dstL, (Array.replicate 39 false).getD p.1 false = false := by decide
      have h2 : (Array.replicate 39 false).getD p.1 false = true := hl
      rw [h1 p hp] at h2
      cases h2
    · have : ∀ p ∈ insL, (Array.replicate 39 false).getD p.1 false = false := by decide
      exact this p hp
    · exfalso
      have h1 : (Array.replicate 39 false).getD 0 false = false := by decide
      have h2 : (Array.replicate 39 false).getD 0 false = true := hl
      rw [h1] at h2
      cases h2
  case fin =>
    intro L a w1 h hall
    have hr : a.tmps[0]?.getD undef = .map (some (w.heap.size + 3)) := h.tv (38, 0) (by decide) (hall 38 (by decide))
    have hdf := h.df
    have hsz := h.sz
    go_wp2
    refine bodyPost_ret (results_tmp rfl _ _ _) hdf ?_
    obtain ⟨ents, clock, hb, hre⟩ := h.m1 (hall 0 (by decide))
    have hbl : Below (w.heap.size + 3) W0 w1 := ⟨h.bl.os, h.bl.tape, h.bl.output, h.bl.size, h.bl.block⟩
    have hre' : REnts w.heap.size (fun _ => true) ents := by
      refine ⟨fun e he => ?_, fun p hp _ => hre.2 p hp (hall _ ?_)⟩
      · obtain ⟨p, hp, _, h2⟩ := hre.1 e he
        exact ⟨p, hp, rfl, h2⟩
      · have hi : ∀ p ∈ insL, p.1 < 39 := by decide
        exact hi p hp
    have hblk : ∀ k o, k < w.heap.size + 3 → W0.heap[k]? = some o → w1.heap[k]? = some o := fun k o hk ho => (hbl.block k hk).trans ho
    have b1 : W0.heap[w.heap.size]? = some (.cells #[.int .i64 1, .int .i64 1] 3 (0, 0)) := by
      rw [← hW0]
      exact ((Below.heap_alloc _ _ _ (by simp; omega)).trans (Below.heap_alloc _ _ _ (by simp))).trans (World.alloc_heap_new w _)
    have b2 : W0.heap[w.heap.size + 1]? = some (.cells #[.int .i64 2, .int .i64 2] 3 (0, 0)) := by
      have h := World.alloc_heap_new (w.alloc (.cells #[.int .i64 1, .int .i64 1] 3)) (.cells #[.int .i64 2, .int .i64 2] 3)
      rw [World.size_alloc] at h
      rw [← hW0]
      exact (Below.heap_alloc _ _ _ (by simp)).trans h
    have b3 : W0.heap[w.heap.size + 2]? = some (.cells #[.int .i64 3, .int .i64 3] 3 (0, 0)) := by
      have h := World.alloc_heap_new ((w.alloc (.cells #[.int .i64 1, .int .i64 1] 3)).alloc (.cells #[.int .i64 2, .int .i64 2] 3)) (.cells #[.int .i64 3, .int .i64 3] 3)
      rw [World.size_alloc, World.size_alloc] at h
      rw [← hW0]
      exact h
    have hc : ∀ (k : Nat) (x : Int), k < w.heap.size + 3 → W0.heap[k]? = some (.cells #[.int .i64 x, .int .i64 x] 3 (0, 0)) → ∀ j, j < 2 → w1.cell? ⟨k, j, none⟩ = some (.int .i64 x) := fun k x hk hx j hj => by
      have h := hblk k _ hk hx
      unfold World.cell?
      rw [h]
      have : j = 0 ∨ j = 1 := by omega
      rcases this with rfl | rfl <;> rfl
    refine ⟨ents, clock, ?_, hB0.trans (hbl.mono (by omega)), hb, hre', hc _ 1 (by omega) b1, hc _ 2 (by omega) b2, hc _ 3 (by omega) b3⟩
    rw [Array.getD_eq_getD_getElem?, hr]
  case step =>
    intro L a w1 i o h hli ho hdep K hK
    have hsz : i < 39 := (Array.getElem?_eq_some_iff.1 ho).1
    have hcs : i = 0 ∨ i = 1 ∨ i = 2 ∨ i = 3 ∨ i = 4 ∨ i = 5 ∨ i = 6 ∨ i = 7 ∨ i = 8 ∨ i = 9 ∨ i = 10 ∨ i = 11 ∨ i = 12 ∨ i = 13 ∨ i = 14 ∨ i = 15 ∨ i = 16 ∨ i = 17 ∨ i = 18 ∨ i = 19 ∨ i = 20 ∨ i = 21 ∨ i = 22 ∨ i = 23 ∨ i = 24 ∨ i = 25 ∨ i = 26 ∨ i = 27 ∨ i = 28 ∨ i = 29 ∨ i = 30 ∨ i = 31 ∨ i = 32 ∨ i = 33 ∨ i = 34 ∨ i = 35 ∨ i = 36 ∨ i = 37 ∨ i = 38 := by omega
    rcases hcs with rfl | rfl | rfl | rfl | rfl | rfl | rfl | rfl | rfl | rfl | rfl | rfl | rfl | rfl | rfl | rfl | rfl | rfl | rfl | rfl | rfl | rfl | rfl | rfl | rfl | rfl | rfl | rfl | rfl | rfl | rfl | rfl | rfl | rfl | rfl | rfl | rfl | rfl | rfl
    · obtain rfl := Option.some.inj ho
      refine wpOp_of ho rfl ?_
      exact wp_val (t_make ..) (hK _ _ (inv_make h hli))
    · obtain rfl := Option.some.inj ho
      refine wpOp_of ho rfl ?_
      refine wp_val (t_move ..) ?_
      rw [h.t1]
      exact hK _ _ (inv_put h (t := 8) (by decide) (by decide))
    · obtain rfl := Option.some.inj ho
      refine wpOp_of ho rfl ?_
      exact wp_val (t_slice _ _ _ _ _ _ _ _ _ (h.tv (1, 8) (by decide) (hdep ⟨1, .data⟩ (by simp) rfl))) (hK _ _ (inv_put h (t := 9) (by decide) (by decide)))
    · obtain rfl := Option.some.inj ho
      refine wpOp_of ho rfl ?_
      exact wp_val (t_build _ _ _ _ _ _ _ _ _ _ _ _ (h.tv (2, 9) (by decide) (hdep ⟨2, .data⟩ (by simp) rfl))) (hK _ _ (inv_put h (t := 10) (by decide) (by decide)))
    · obtain rfl := Option.some.inj ho
      refine wpOp_of ho rfl ?_
      obtain ⟨ents, clock, hb, hk, hi⟩ := inv_ins h (i := 4) (k := 3) (t := 10) (by decide) hli (hdep ⟨0, .data⟩ (by simp) rfl)
      exact wp_skip (t_ins _ _ _ _ _ _ _ _ _ _ _ _ _ _ (h.tv (0, 7) (by decide) (hdep ⟨0, .data⟩ (by simp) rfl)) (h.tv (3, 10) (by decide) (hdep ⟨3, .data⟩ (by simp) rfl)) hb hk) (hK _ _ hi)
    · obtain rfl := Option.some.inj ho
      refine wpOp_of ho rfl ?_
      refine wp_val (t_move ..) ?_
      rw [h.t2]
      exact hK _ _ (inv_put h (t := 11) (by decide) (by decide))
    · obtain rfl := Option.some.inj ho
      refine wpOp_of ho rfl ?_
      exact wp_val (t_slice _ _ _ _ _ _ _ _ _ (h.tv (5, 11) (by decide) (hdep ⟨5, .data⟩ (by simp) rfl))) (hK _ _ (inv_put h (t := 12) (by decide) (by decide)))
    · obtain rfl := Option.some.inj ho
      refine wpOp_of ho rfl ?_
      exact wp_val (t_build _ _ _ _ _ _ _ _ _ _ _ _ (h.tv (6, 12) (by decide) (hdep ⟨6, .data⟩ (by simp) rfl))) (hK _ _ (inv_put h (t := 13) (by decide) (by decide)))
    · obtain rfl := Option.some.inj ho
      refine wpOp_of ho rfl ?_
      obtain ⟨ents, clock, hb, hk, hi⟩ := inv_ins h (i := 8) (k := 4) (t := 13) (by decide) hli (hdep ⟨0, .data⟩ (by simp) rfl)
      exact wp_skip (t_ins _ _ _ _ _ _ _ _ _ _ _ _ _ _ (h.tv (0, 7) (by decide) (hdep ⟨0, .data⟩ (by simp) rfl)) (h.tv (7, 13) (by decide) (hdep ⟨7, .data⟩ (by simp) rfl)) hb hk) (hK _ _ hi)
    · obtain rfl := Option.some.inj ho
      refine wpOp_of ho rfl ?_
      refine wp_val (t_move ..) ?_
      rw [h.t3]
      exact hK _ _ (inv_put h (t := 14) (by decide) (by decide))
    · obtain rfl := Option.some.inj ho
      refine wpOp_of ho rfl ?_
      exact wp_val (t_slice _ _ _ _ _ _ _ _ _ (h.tv (9, 14) (by decide) (hdep ⟨9, .data⟩ (by simp) rfl))) (hK _ _ (inv_put h (t := 15) (by decide) (by decide)))
    · obtain rfl := Option.some.inj ho
      refine wpOp_of ho rfl ?_
      exact wp_val (t_build _ _ _ _ _ _ _ _ _ _ _ _ (h.tv (10, 15) (by decide) (hdep ⟨10, .data⟩ (by simp) rfl))) (hK _ _ (inv_put h (t := 16) (by decide) (by decide)))
    · obtain rfl := Option.some.inj ho
      refine wpOp_of ho rfl ?_
      obtain ⟨ents, clock, hb, hk, hi⟩ := inv_ins h (i := 12) (k := 18) (t := 16) (by decide) hli (hdep ⟨0, .data⟩ (by simp) rfl)
      exact wp_skip (t_ins _ _ _ _ _ _ _ _ _ _ _ _ _ _ (h.tv (0, 7) (by decide) (hdep ⟨0, .data⟩ (by simp) rfl)) (h.tv (11, 16) (by decide) (hdep ⟨11, .data⟩ (by simp) rfl)) hb hk) (hK _ _ hi)
    · obtain rfl := Option.some.inj ho
      refine wpOp_of ho rfl ?_
      refine wp_val (t_move ..) ?_
      rw [h.t1]
      exact hK _ _ (inv_put h (t := 17) (by decide) (by decide))
    · obtain rfl := Option.some.inj ho
      refine wpOp_of ho rfl ?_
      exact wp_val (t_build _ _ _ _ _ _ _ _ _ _ _ _ (h.tv (13, 17) (by decide) (hdep ⟨13, .data⟩ (by simp) rfl))) (hK _ _ (inv_put h (t := 18) (by decide) (by decide)))
    · obtain rfl := Option.some.inj ho
      refine wpOp_of ho rfl ?_
      obtain ⟨ents, clock, hb, hk, hi⟩ := inv_ins h (i := 15) (k := 5) (t := 18) (by decide) hli (hdep ⟨0, .data⟩ (by simp) rfl)
      exact wp_skip (t_ins _ _ _ _ _ _ _ _ _ _ _ _ _ _ (h.tv (0, 7) (by decide) (hdep ⟨0, .data⟩ (by simp) rfl)) (h.tv (14, 18) (by decide) (hdep ⟨14, .data⟩ (by simp) rfl)) hb hk) (hK _ _ hi)
    · obtain rfl := Option.some.inj ho
      refine wpOp_of ho rfl ?_
      refine wp_val (t_move ..) ?_
      rw [h.t1]
      exact hK _ _ (inv_put h (t := 19) (by decide) (by decide))
    · obtain rfl := Option.some.inj ho
      refine wpOp_of ho rfl ?_
      exact wp_val (t_build _ _ _ _ _ _ _ _ _ _ _ _ (h.tv (16, 19) (by decide) (hdep ⟨16, .data⟩ (by simp) rfl))) (hK _ _ (inv_put h (t := 20) (by decide) (by decide)))
    · obtain rfl := Option.some.inj ho
      refine wpOp_of ho rfl ?_
      obtain ⟨ents, clock, hb, hk, hi⟩ := inv_ins h (i := 18) (k := 6) (t := 20) (by decide) hli (hdep ⟨0, .data⟩ (by simp) rfl)
      exact wp_skip (t_ins _ _ _ _ _ _ _ _ _ _ _ _ _ _ (h.tv (0, 7) (by decide) (hdep ⟨0, .data⟩ (by simp) rfl)) (h.tv (17, 20) (by decide) (hdep ⟨17, .data⟩ (by simp) rfl)) hb hk) (hK _ _ hi)
    · obtain rfl := Option.some.inj ho
      refine wpOp_of ho rfl ?_
      refine wp_val (t_move ..) ?_
      rw [h.t1]
      exact hK _ _ (inv_put h (t := 21) (by decide) (by decide))
    · obtain rfl := Option.some.inj ho
      refine wpOp_of ho rfl ?_
      exact wp_val (t_build _ _ _ _ _ _ _ _ _ _ _ _ (h.tv (19, 21) (by decide) (hdep ⟨19, .data⟩ (by simp) rfl))) (hK _ _ (inv_put h (t := 22) (by decide) (by decide)))
    · obtain rfl := Option.some.inj ho
      refine wpOp_of ho rfl ?_
      obtain ⟨ents, clock, hb, hk, hi⟩ := inv_ins h (i := 21) (k := 7) (t := 22) (by decide) hli (hdep ⟨0, .data⟩ (by simp) rfl)
      exact wp_skip (t_ins _ _ _ _ _ _ _ _ _ _ _ _ _ _ (h.tv (0, 7) (by decide) (hdep ⟨0, .data⟩ (by simp) rfl)) (h.tv (20, 22) (by decide) (hdep ⟨20, .data⟩ (by simp) rfl)) hb hk) (hK _ _ hi)
    · obtain rfl := Option.some.inj ho
      refine wpOp_of ho rfl ?_
      refine wp_val (t_move ..) ?_
      rw [h.t1]
      exact hK _ _ (inv_put h (t := 23) (by decide) (by decide))
    · obtain rfl := Option.some.inj ho
      refine wpOp_of ho rfl ?_
      exact wp_val (t_build _ _ _ _ _ _ _ _ _ _ _ _ (h.tv (22, 23) (by decide) (hdep ⟨22, .data⟩ (by simp) rfl))) (hK _ _ (inv_put h (t := 24) (by decide) (by decide)))
    · obtain rfl := Option.some.inj ho
      refine wpOp_of ho rfl ?_
      obtain ⟨ents, clock, hb, hk, hi⟩ := inv_ins h (i := 24) (k := 8) (t := 24) (by decide) hli (hdep ⟨0, .data⟩ (by simp) rfl)
      exact wp_skip (t_ins _ _ _ _ _ _ _ _ _ _ _ _ _ _ (h.tv (0, 7) (by decide) (hdep ⟨0, .data⟩ (by simp) rfl)) (h.tv (23, 24) (by decide) (hdep ⟨23, .data⟩ (by simp) rfl)) hb hk) (hK _ _ hi)
    · obtain rfl := Option.some.inj ho
      refine wpOp_of ho rfl ?_
      refine wp_val (t_move ..) ?_
      rw [h.t1]
      exact hK _ _ (inv_put h (t := 25) (by decide) (by decide))
    · obtain rfl := Option.some.inj ho
      refine wpOp_of ho rfl ?_
      exact wp_val (t_build _ _ _ _ _ _ _ _ _ _ _ _ (h.tv (25, 25) (by decide) (hdep ⟨25, .data⟩ (by simp) rfl))) (hK _ _ (inv_put h (t := 26) (by decide) (by decide)))
    · obtain rfl := Option.some.inj ho
      refine wpOp_of ho rfl ?_
      obtain ⟨ents, clock, hb, hk, hi⟩ := inv_ins h (i := 27) (k := 9) (t := 26) (by decide) hli (hdep ⟨0, .data⟩ (by simp) rfl)
      exact wp_skip (t_ins _ _ _ _ _ _ _ _ _ _ _ _ _ _ (h.tv (0, 7) (by decide) (hdep ⟨0, .data⟩ (by simp) rfl)) (h.tv (26, 26) (by decide) (hdep ⟨26, .data⟩ (by simp) rfl)) hb hk) (hK _ _ hi)
    · obtain rfl := Option.some.inj ho
      refine wpOp_of ho rfl ?_
      refine wp_val (t_move ..) ?_
      rw [h.t3]
      exact hK _ _ (inv_put h (t := 27) (by decide) (by decide))
    · obtain rfl := Option.some.inj ho
      refine wpOp_of ho rfl ?_
      exact wp_val (t_build _ _ _ _ _ _ _ _ _ _ _ _ (h.tv (28, 27) (by decide) (hdep ⟨28, .data⟩ (by simp) rfl))) (hK _ _ (inv_put h (t := 28) (by decide) (by decide)))
    · obtain rfl := Option.some.inj ho
      refine wpOp_of ho rfl ?_
      obtain ⟨ents, clock, hb, hk, hi⟩ := inv_ins h (i := 30) (k := 10) (t := 28) (by decide) hli (hdep ⟨0, .data⟩ (by simp) rfl)
      exact wp_skip (t_ins _ _ _ _ _ _ _ _ _ _ _ _ _ _ (h.tv (0, 7) (by decide) (hdep ⟨0, .data⟩ (by simp) rfl)) (h.tv (29, 28) (by decide) (hdep ⟨29, .data⟩ (by simp) rfl)) hb hk) (hK _ _ hi)
    · obtain rfl := Option.some.inj ho
      refine wpOp_of ho rfl ?_
      refine wp_val (t_move ..) ?_
      rw [h.t2]
      exact hK _ _ (inv_put h (t := 29) (by decide) (by decide))
    · obtain rfl := Option.some.inj ho
      refine wpOp_of ho rfl ?_
      exact wp_val (t_build _ _ _ _ _ _ _ _ _ _ _ _ (h.tv (31, 29) (by decide) (hdep ⟨31, .data⟩ (by simp) rfl))) (hK _ _ (inv_put h (t := 30) (by decide) (by decide)))
    · obtain rfl := Option.some.inj ho
      refine wpOp_of ho rfl ?_
      obtain ⟨ents, clock, hb, hk, hi⟩ := inv_ins h (i := 33) (k := 15) (t := 30) (by decide) hli (hdep ⟨0, .data⟩ (by simp) rfl)
      exact wp_skip (t_ins _ _ _ _ _ _ _ _ _ _ _ _ _ _ (h.tv (0, 7) (by decide) (hdep ⟨0, .data⟩ (by simp) rfl)) (h.tv (32, 30) (by decide) (hdep ⟨32, .data⟩ (by simp) rfl)) hb hk) (hK _ _ hi)
    · obtain rfl := Option.some.inj ho
      refine wpOp_of ho rfl ?_
      refine wp_val (t_move ..) ?_
      rw [h.t2]
      exact hK _ _ (inv_put h (t := 31) (by decide) (by decide))
    · obtain rfl := Option.some.inj ho
      refine wpOp_of ho rfl ?_
      exact wp_val (t_build _ _ _ _ _ _ _ _ _ _ _ _ (h.tv (34, 31) (by decide) (hdep ⟨34, .data⟩ (by simp) rfl))) (hK _ _ (inv_put h (t := 32) (by decide) (by decide)))
    · obtain rfl := Option.some.inj ho
      refine wpOp_of ho rfl ?_
      obtain ⟨ents, clock, hb, hk, hi⟩ := inv_ins h (i := 36) (k := 16) (t := 32) (by decide) hli (hdep ⟨0, .data⟩ (by simp) rfl)
      exact wp_skip (t_ins _ _ _ _ _ _ _ _ _ _ _ _ _ _ (h.tv (0, 7) (by decide) (hdep ⟨0, .data⟩ (by simp) rfl)) (h.tv (35, 32) (by decide) (hdep ⟨35, .data⟩ (by simp) rfl)) hb hk) (hK _ _ hi)
    · obtain rfl := Option.some.inj ho
      refine wpOp_of ho rfl ?_
      refine wp_val (t_move ..) ?_
      rw [(h.tv (0, 7) (by decide) (hdep ⟨0, .data⟩ (by simp) rfl))]
      exact hK _ _ (inv_put h (t := 33) (by decide) (by decide))
    · obtain rfl := Option.some.inj ho
      refine wpOp_of ho rfl ?_
      refine wp_val (t_asg ..) ?_
      rw [(h.tv (37, 33) (by decide) (hdep ⟨37, .data⟩ (by simp) rfl))]
      exact hK _ _ (inv_put h (t := 0) (by decide) (by decide))
end Go.Proofs.Ytfcfifohflgboaa.Am
/- typing.rules to the evaluator: a map whose entries stand in whatever order. -/
set_option linter.unusedVariables false
set_option linter.unusedSimpArgs false
namespace Go.Proofs.Ytfcfifohflgboaa.Am
open Go Go.RowKit Go.Shelf Go.Proofs
set_option maxRecDepth 100000
set_option maxHeartbeats 4000000
def rl (k : Int) (l : List Int) (own : Int) : DV × DV := (.int .i64 k, .agg [.sl 1 (l.map (fun x => DV.int .i64 x)), .int .i64 own])
def knownL : List (DV × DV) := [rl 3 [1] 1, rl 4 [2] 2, rl 18 [3] 1, rl 5 [1, 1] 1, rl 6 [1, 1] 1, rl 7 [1, 1] 1, rl 8 [1, 1] 1, rl 9 [1, 1] 1, rl 10 [3, 3] 3, rl 15 [2, 2] 2, rl 16 [2, 2] 2]
def dvR (t : Nat) : DV := match t with
  | 10 => .agg [.sl 1 [.int .i64 1], .int .i64 1]
  | 13 => .agg [.sl 1 [.int .i64 2], .int .i64 2]
  | 16 => .agg [.sl 1 [.int .i64 3], .int .i64 1]
  | 18 | 20 | 22 | 24 | 26 => .agg [.sl 1 [.int .i64 1, .int .i64 1], .int .i64 1]
  | 28 => .agg [.sl 1 [.int .i64 3, .int .i64 3], .int .i64 3]
  | _ => .agg [.sl 1 [.int .i64 2, .int .i64 2], .int .i64 2]
theorem known_ins : knownL = insL.map fun p => (DV.int .i64 p.2.1, dvR p.2.2) := rfl
theorem repd_cut {w : World} {F : Nat → Nat → Prop} {b : Nat} {x : Int} (n : Nat) (hn : n ≤ 2) (h : ∀ j, j < 2 → w.cell? ⟨b, j, none⟩ = some (.int .i64 x)) (hF : ∀ o, F b o) (l : List DV) (hl : l = List.replicate n (.int .i64 x)) : RepD w F (.slice (some ⟨b, 0, none⟩) n 2) (.sl 1 l) := by
  subst hl
  refine .sl _ _ _ _ _ (fun _ => .int .i64 x) (by simp) hn (by omega) (fun i y hy => ?_) (fun i y hy => ?_)
  · have h1 := List.getElem?_eq_some_iff.1 hy
    obtain ⟨hlt, rfl⟩ := h1
    simp only [List.length_replicate] at hlt
    refine ⟨by simp [DV.cells], b, 0, rfl, fun j u hu => ?_⟩
    have hj : j = 0 := by
      cases j with
      | zero => rfl
      | succ j => simp [Value.cells] at hu
    subst hj
    have hu' : Value.int .i64 x = u := by simpa [Value.cells] using hu
    subst hu'
    refine ⟨?_, hF _⟩
    have := h i (by omega)
    simpa using this
  · obtain ⟨hlt, rfl⟩ := List.getElem?_eq_some_iff.1 hy
    simp only [List.getElem_replicate]
    exact .int _ _
theorem repd_rule {w : World} {F : Nat → Nat → Prop} {A : Option Addr} {n : Nat} {l : List DV} {c : Int} (h : RepD w F (.slice A n 2) (.sl 1 l)) : RepD w F (.agg #[.slice A n 2, .int .i64 c]) (.agg [.sl 1 l, .int .i64 c]) := by
  refine .agg _ _ rfl (fun i x hx => ?_) (fun i v x hv hx => ?_)
  · match i, hx with
    | 0, hx => simp at hx; subst hx; rfl
    | 1, hx => simp at hx; subst hx; rfl
    | i + 2, hx => simp at hx
  · match i, hv, hx with
    | 0, hv, hx => simp at hv hx; subst hv; subst hx; exact h
    | 1, hv, hx => simp at hv hx; subst hv; subst hx; exact .int _ _
    | i + 2, hv, hx => simp at hx
theorem find_any (es es' : List (DV × DV)) (hne : es ≠ []) (hk : ∀ p ∈ es, ∃ k, p.1 = .int .i64 k) (hk' : ∀ p ∈ es', p ∈ es) (hall : ∀ p ∈ es, p ∈ es') (hone : ∀ p ∈ es, ∀ q ∈ es, p.1 = q.1 → p = q) :
    ∀ kd q x, findK kd q es = some x → findK kd q es' = some x := by
  have key : ∀ (l : List (DV × DV)) (k : IntKind) (a : Int), (∀ p ∈ l, ∃ k, p.1 = .int .i64 k) → k = .i64 → ((∃ v, (DV.int .i64 a, v) ∈ l ∧ ∃ u, (DV.int .i64 a, u) ∈ l ∧ findK (.int k) (.int .i64 a) l = some (some u)) ∨ ((∀ v, (DV.int .i64 a, v) ∉ l) ∧ findK (.int k) (.int .i64 a) l = some none)) := by
    intro l k a hl hki
    subst hki
    induction l with
    | nil => exact .inr ⟨fun v h => by simp at h, rfl⟩
    | cons p r ih =>
      obtain ⟨p1, p2⟩ := p
      obtain ⟨k, hk⟩ := hl _ (List.mem_cons_self ..)
      simp only at hk
      subst hk
      by_cases e : a = k
      · subst e
        exact .inl ⟨p2, by simp, p2, by simp, by simp [findK, sameK]⟩
      · have e' : (a == k) = false := beq_eq_false_iff_ne.2 e
        rcases ih (fun p hp => hl p (by simp [hp])) with ⟨v, h1, u, h2, h3⟩ | ⟨h1, h2⟩
        · exact .inl ⟨v, by simp [h1], u, by simp [h2], by simp [findK, sameK, e', h3]⟩
        · refine .inr ⟨fun v hv => ?_, by simp [findK, sameK, e', h2]⟩
          rcases List.mem_cons.1 hv with hv | hv
          · simp only [Prod.mk.injEq, DV.int.injEq, true_and] at hv
            exact e hv.1
          · exact h1 v hv
  intro kd q x h
  cases es with
  | nil => exact absurd rfl hne
  | cons p r =>
    obtain ⟨p1, p2⟩ := p
    obtain ⟨k, hkk⟩ := hk _ (List.mem_cons_self ..)
    simp only at hkk
    subst hkk
    have hq : (∃ k2, kd = .int k2) ∧ ∃ a, q = .int .i64 a := by
      unfold findK at h
      cases hs : sameK kd q (.int .i64 k) with
      | none => rw [hs] at h; cases h
      | some b =>
        unfold sameK at hs
        split at hs
        · rename_i k1 k2 a k3 b2 heq
          split at hs
          · rename_i hkk
            have hk3 : k3 = .i64 := by injection heq with h1 _; exact h1.symm
            exact ⟨⟨_, rfl⟩, _, by rw [hkk, hk3]⟩
          · cases hs
        · rename_i heq; cases heq
        · rename_i heq; cases heq
        · cases hs
    obtain ⟨⟨k2, rfl⟩, a, rfl⟩ := hq
    have hkd : ∀ (l : List (DV × DV)), findK (.int k2) (.int .i64 a) l = findK (.int .i64) (.int .i64 a) l := fun l => by
      induction l with
      | nil => rfl
      | cons p r ih => obtain ⟨p1, p2⟩ := p; cases p1 <;> simp only [findK, sameK, ih]
    rw [hkd] at h ⊢
    rcases key ((.int .i64 k, p2) :: r) .i64 a hk rfl with ⟨v, h1, u, h2, h3⟩ | ⟨h1, h2⟩
    · rw [h3] at h
      rcases key es' .i64 a (fun p hp => hk p (hk' p hp)) rfl with ⟨v', g1, u', g2, g3⟩ | ⟨g1, _⟩
      · rw [g3, ← h]
        have := hone _ h2 _ (hk' _ g2) rfl
        simp only [Prod.mk.injEq, true_and] at this
        rw [this]
      · exact absurd (hall _ h2) (g1 u)
    · rw [h2] at h
      rcases key es' .i64 a (fun p hp => hk p (hk' p hp)) rfl with ⟨v', g1, _⟩ | ⟨_, g2⟩
      · exact absurd (hk' _ g1) (h1 v')
      · rw [g2, ← h]
def feR (e : MapEntry) : DV × DV := match e.key with
  | .int _ k => ((insL.find? (fun (p : Nat × Int × Nat) => p.2.1 == k)).map (fun (p : Nat × Int × Nat) => (DV.int .i64 p.2.1, dvR p.2.2))).getD (.any, .any)
  | _ => (.any, .any)
def rulesP (ds : List DV) : Option (AV × Heap) := match ds with
  | [] => some (.d (.ump knownL), [])
  | _ => none
theorem rules_one : OneOk Try.prog 87 rulesP := by
  intro ds r H1 hp fz0 w vs hl hv
  unfold rulesP at hp
  split at hp
  · simp only [Option.some.injEq, Prod.mk.injEq] at hp
    obtain ⟨rfl, rfl⟩ := hp
    obtain ⟨l⟩ := vs
    simp only [List.size_toArray, List.length_nil] at hl
    have : l = [] := List.eq_nil_of_length_eq_zero hl
    subst this
    refine (rules_in w).mono ?_
    rintro e w' ⟨ents, clock, rfl, hb, hm, ⟨r1, r2⟩, c1, c2, c3⟩
    have hF : ∀ b o, w.heap.size ≤ b → Fz ⟨w.heap.size, fz0, fun _ _ => False, fun _ => False⟩ (fun _ => none) [] b o := fun b o h => ⟨.inr h, fun h => h, fun id p h => by simp [Heap.get] at h⟩
    have hval : ∀ p ∈ insL, RepD w' (Fz ⟨w.heap.size, fz0, fun _ _ => False, fun _ => False⟩ (fun _ => none) []) (tvR w.heap.size p.2.2) (dvR p.2.2) := by
      intro p hp
      have a1 := fun n hn l hl => repd_cut (F := Fz ⟨w.heap.size, fz0, fun _ _ => False, fun _ => False⟩ (fun _ => none) []) (x := 1) n hn c1 (fun o => hF _ o (Nat.le_refl _)) l hl
      have a2 := fun n hn l hl => repd_cut (F := Fz ⟨w.heap.size, fz0, fun _ _ => False, fun _ => False⟩ (fun _ => none) []) (x := 2) n hn c2 (fun o => hF _ o (by omega)) l hl
      have a3 := fun n hn l hl => repd_cut (F := Fz ⟨w.heap.size, fz0, fun _ _ => False, fun _ => False⟩ (fun _ => none) []) (x := 3) n hn c3 (fun o => hF _ o (by omega)) l hl
      simp only [insL, List.mem_cons, List.not_mem_nil, or_false] at hp
      rcases hp with rfl | rfl | rfl | rfl | rfl | rfl | rfl | rfl | rfl | rfl | rfl
      · exact repd_rule (a1 1 (by decide) _ rfl)
      · exact repd_rule (a2 1 (by decide) _ rfl)
      · exact repd_rule (a3 1 (by decide) _ rfl)
      · exact repd_rule (a1 2 (by decide) _ rfl)
      · exact repd_rule (a1 2 (by decide) _ rfl)
      · exact repd_rule (a1 2 (by decide) _ rfl)
      · exact repd_rule (a1 2 (by decide) _ rfl)
      · exact repd_rule (a1 2 (by decide) _ rfl)
      · exact repd_rule (a3 2 (by decide) _ rfl)
      · exact repd_rule (a2 2 (by decide) _ rfl)
      · exact repd_rule (a2 2 (by decide) _ rfl)
    have hex : ∀ e ∈ ents.toList, ∃ p ∈ insL, e.key = .int .i64 p.2.1 ∧ e.val = tvR w.heap.size p.2.2 := fun e he => by
      obtain ⟨p, hp, _, h⟩ := r1 e he
      exact ⟨p, hp, h⟩
    let fe : MapEntry → DV × DV := feR
    have hfe : ∀ e p, p ∈ insL → e.key = .int .i64 p.2.1 → fe e = (DV.int .i64 p.2.1, dvR p.2.2) := by
      intro e p hp he
      have h1 : ∀ p ∈ insL, insL.find? (fun (q : Nat × Int × Nat) => q.2.1 == p.2.1) = some p := by decide
      show feR e = _
      unfold feR
      rw [he]
      simp only
      rw [h1 p hp]
      rfl
    refine ⟨_, fun _ => none, fun _ => False, rfl, hb, heap_none hb.size (fun _ h => h) (fun _ _ h => h), .d _ _ (.ump _ ents clock knownL (ents.toList.map fe) hm (hF _ _ (by omega)) (by simp) (find_any _ _ (by rw [known_ins]; simp [insL]) ?_ ?_ ?_ ?_) ?_ ?_)⟩
    · intro p hp
      rw [known_ins] at hp
      obtain ⟨q, _, rfl⟩ := List.mem_map.1 hp
      exact ⟨_, rfl⟩
    · intro p hp
      obtain ⟨e, he, rfl⟩ := List.mem_map.1 hp
      obtain ⟨q, hq, h1, h2⟩ := hex e he
      rw [hfe e q hq h1, known_ins]
      exact List.mem_map.2 ⟨q, hq, rfl⟩
    · intro p hp
      rw [known_ins] at hp
      obtain ⟨q, hq, rfl⟩ := List.mem_map.1 hp
      obtain ⟨e, he, h1, h2⟩ := r2 q hq rfl
      exact List.mem_map.2 ⟨e, he, hfe e q hq h1⟩
    · intro p hp q hq h
      rw [known_ins] at hp hq
      obtain ⟨p', hp', rfl⟩ := List.mem_map.1 hp
      obtain ⟨q', hq', rfl⟩ := List.mem_map.1 hq
      simp only [DV.int.injEq, true_and] at h
      have h1 : ∀ x ∈ insL, ∀ y ∈ insL, x.2.1 = y.2.1 → x = y := by decide
      rw [h1 p' hp' q' hq' h]
    · intro i e p he hp
      have he' : ents.toList[i]? = some e := by simpa using he
      rw [List.getElem?_map, he'] at hp
      obtain ⟨q, hq, h1, h2⟩ := hex e (List.mem_of_getElem? he')
      have hpe : fe e = p := by simpa using hp
      rw [← hpe, hfe e q hq h1, h1]
      exact .int _ _
    · intro i e p he hp
      have he' : ents.toList[i]? = some e := by simpa using he
      rw [List.getElem?_map, he'] at hp
      obtain ⟨q, hq, h1, h2⟩ := hex e (List.mem_of_getElem? he')
      have hpe : fe e = p := by simpa using hp
      rw [← hpe, hfe e q hq h1, h2]
      exact hval q hq
  · cases hp
end Go.Proofs.Ytfcfifohflgboaa.Am
