/- Which names a formula asks for: the walk of its parts, by the model's own steps. -/
import Derived.RangeFuncFrom
import Derived.RangeFuncWrites
import Derived.RangeFuncBound
import Derived.RangeFuncLeaves
import Derived.Shelf.Abstract
import Derived.WalkKit
import Derived.OwnWalkIn
import Derived.TacticsInMore
import Derived.LoopNIn
import Derived.LoopIn
import Derived.Test.YthmggkidmcgfoaaAmOpZ
import Derived.Test.YthmggkidmcgfoaaProg
import Derived.Laws.EntriesVeiled
import Derived.WideLaws
set_option linter.unusedVariables false
set_option linter.unusedSimpArgs false
namespace Go.Proofs.Ythmggkidmcgfoaa.Am
open Go Go.RowKit Go.Shelf Go.Proofs
attribute [local go_sem] Oper.semAt_some

/-- A formula. -/
inductive Ex where
  | mk (op vk vn : Int) (vs nm : List UInt8) (args : List Ex)
mutual
def Ex.dv : Ex → DV
  | .mk op vk vn vs nm args => .agg [.int .i64 op, .int .i64 vk, .int .i64 vn, .str vs, .str nm, .sl 6 (Ex.dvs args)]
def Ex.dvs : List Ex → List DV
  | [] => []
  | x :: r => x.dv :: Ex.dvs r
end
mutual
/-- The names that it asks for, from the left. -/
def Ex.refs : Ex → List (List UInt8)
  | .mk op vk vn vs nm args => (if op = 2 then [nm] else []) ++ Ex.refsL args
def Ex.refsL : List Ex → List (List UInt8)
  | [] => []
  | x :: r => x.refs ++ Ex.refsL r
end
theorem Ex.dvs_map : ∀ l : List Ex, Ex.dvs l = l.map Ex.dv
  | [] => by simp [Ex.dvs]
  | x :: r => by simp [Ex.dvs, Ex.dvs_map r]

/-- Blocks of cells lie as they lay. -/
def KC (n₀ : Nat) (W W' : World) : Prop := Below n₀ W W' ∧ ∀ (k : Nat) arr te z, W.heap[k]? = some (.cells arr te z) → W'.heap[k]? = some (.cells arr te z)
theorem KC.refl (n₀ : Nat) (W : World) : KC n₀ W W := ⟨Below.refl _ _, fun _ _ _ _ h => h⟩
theorem KC.trans {n₀ : Nat} {A B C : World} (h : KC n₀ A B) (k : KC n₀ B C) : KC n₀ A C := ⟨h.1.trans k.1, fun _ _ _ _ e => k.2 _ _ _ _ (h.2 _ _ _ _ e)⟩
theorem KC.cell {n₀ : Nat} {A B : World} (h : KC n₀ A B) {p : Addr} {v : Value} (e : A.cell? p = some v) : B.cell? p = some v := by
  unfold World.cell? at e ⊢
  cases hb : A.heap[p.block]? with
  | none => rw [hb] at e; cases e
  | some o =>
    cases o with
    | cells c t z => rw [h.2 _ _ _ _ hb]; rw [hb] at e; exact e
    | _ => rw [hb] at e; cases e
theorem KC.grown {n₀ : Nat} {A B : World} (h : A.grownBy B none) (hn : n₀ ≤ A.heap.size) : KC n₀ A B :=
  ⟨⟨h.os, h.tape, h.output, h.size, fun k hk => h.block k (by omega) (by simp)⟩, fun k arr te z e => (h.block k (Array.getElem?_eq_some_iff.1 e).1 (by simp)).trans e⟩
theorem KC.repd {n₀ : Nat} {A B : World} (h : KC n₀ A B) {v : Value} {x : DV} (e : RepD A (fun b _ => b < n₀) v x) : RepD B (fun b _ => b < n₀) v x :=
  e.mono (fun b o u hf hc => ⟨h.cell hc, hf⟩) (fun b es k hf hb => ⟨(h.1.block b hf).trans hb, hf⟩)
/-- What a formula's value is. -/
theorem repd_node {W : World} {F : Nat → Nat → Prop} {v : Value} {op vk vn : Int} {vs nm : List UInt8} {args : List Ex} (h : RepD W F v (Ex.mk op vk vn vs nm args).dv) :
    ∃ (A : Option Addr) (c : Nat) (fv : Nat → Value), v = .agg #[.int .i64 op, .int .i64 vk, .int .i64 vn, .string ⟨vs.toArray⟩, .string ⟨nm.toArray⟩, .slice A args.length c] ∧ args.length ≤ c ∧ args.length ≤ 9223372036854775807 ∧
      ∀ (i : Nat) x, args[i]? = some x → (∃ b off, A = some ⟨b, off, none⟩ ∧ ∀ (j : Nat) u, (fv i).cells[j]? = some u → W.cell? ⟨b, off + i * 6 + j, none⟩ = some u ∧ F b (off + i * 6 + j)) ∧ RepD W F (fv i) x.dv := by
  rw [Ex.dv] at h
  generalize hD : DV.agg [DV.int IntKind.i64 op, DV.int IntKind.i64 vk, DV.int IntKind.i64 vn, DV.str vs, DV.str nm, DV.sl 6 (Ex.dvs args)] = D at h
  cases h with
  | agg ws cs hl hf hh =>
    injection hD with hD
    subst hD
    have hs : ws.size = 6 := hl
    obtain ⟨l⟩ := ws
    simp only [List.size_toArray] at hs
    rcases l with _ | ⟨v0, _ | ⟨v1, _ | ⟨v2, _ | ⟨v3, _ | ⟨v4, _ | ⟨v5, _ | ⟨v6, l⟩⟩⟩⟩⟩⟩⟩ <;> simp at hs
    have h0 := hh 0 v0 _ rfl rfl
    have h1 := hh 1 v1 _ rfl rfl
    have h2 := hh 2 v2 _ rfl rfl
    have h3 := hh 3 v3 _ rfl rfl
    have h4 := hh 4 v4 _ rfl rfl
    have h5 := hh 5 v5 _ rfl rfl
    cases h0
    cases h1
    cases h2
    cases h3 with | str s3 =>
    cases h4 with | str s4 =>
    cases h5 with | sl A n c _ _ fv hl hc hm hm2 hx =>
    rw [Ex.dvs_map, List.length_map] at hl
    subst hl
    refine ⟨A, c, fv, by simp, hc, hm, fun i x hi => ?_⟩
    have hi' : (Ex.dvs args)[i]? = some x.dv := by rw [Ex.dvs_map, List.getElem?_map, hi]; rfl
    exact ⟨(hm2 i _ hi').2, hx i _ hi'⟩
  | any => cases hD
  | _ => cases hD
theorem wrap_k {k n : Nat} (h : k < n) (hm : n ≤ 9223372036854775807) : wrap64 ((k : Int) + 1) = (k : Int) + 1 := by unfold wrap64; omega
theorem meas_k {k n : Nat} (h : k < n) : n - (intOf (Value.int IntKind.i64 ((k : Int) + 1))).toNat < n - (intOf (Value.int IntKind.i64 (k : Int))).toNat := by
  simp only [intOf]
  omega
theorem refsL_app : ∀ l m : List Ex, Ex.refsL (l ++ m) = Ex.refsL l ++ Ex.refsL m
  | [], m => by simp [Ex.refsL]
  | x :: r, m => by simp [Ex.refsL, refsL_app r m]
set_option maxRecDepth 100000
set_option maxHeartbeats 4000000
theorem wlk_in {F : Fence} (hd : F.depth = none) (h67 : F.fn 39) (hro : F.round = none) {l n₀ Yb Wb N : Nat} {Gd : List UInt8 → Prop} {J Jx : List (List UInt8) → World → Prop} (hJ : ∀ pre W W', J pre W → W.grownBy W' none → J pre W')
    (hY : ∀ m pre (x : List UInt8) W, Gd x → J pre W → pre.length < N → YieldAt F m Try.prog l #[.string ⟨x.toArray⟩] W fun e W' =>
      (e = .returned (.bool true) ∧ J (pre ++ [x]) W' ∧ KC n₀ W W') ∨ (e = .returned (.bool false) ∧ Jx (pre ++ [x]) W')) :
    ∀ (K : Nat) (X : Ex), SizeOf.sizeOf X ≤ K → (∀ s ∈ X.refs, Gd s) → ∀ (n : Nat) (v : Value) (pre : List (List UInt8)) (W : World), RepD W (fun b _ => b < n₀) v X.dv → n₀ ≤ W.heap.size → W.cell? ⟨Yb, 0, none⟩ = some (.func (.yield l) #[] #[]) →
      W.cell? ⟨Wb, 0, none⟩ = some (.func (.func 39) #[] #[.pointer (some ⟨Yb, 0, none⟩), .pointer (some ⟨Wb, 0, none⟩)]) → J pre W → pre.length + X.refs.length ≤ N →
      CallsIn F n Try.prog 39 #[v, .pointer (some ⟨Yb, 0, none⟩), .pointer (some ⟨Wb, 0, none⟩)] W fun e W' =>
        (e = .returned (.bool true) ∧ J (pre ++ X.refs) W' ∧ KC n₀ W W') ∨ (e = .returned (.bool false) ∧ ∃ q, q <+: X.refs ∧ Jx (pre ++ q) W') := by
  intro K
  induction K with
  | zero => intro X hX; cases X; simp at hX
  | succ K ih =>
    rintro ⟨op, vk, vn, vs, nm, args⟩ hX hGd n v pre W hv hn hYb hWb hJ0 hN
    obtain ⟨A, c, fv, rfl, hc, hm, hargs⟩ := repd_node hv
    have hdd : ∀ k : Nat, (F.depth.isSome = true → 1 ≤ k) := fun k h => by rw [hd] at h; cases h
    by_cases hop : op = 2
    · subst hop
      obtain ⟨B, hB⟩ : ∃ B, W.alloc (.cells #[.int .i64 2, .int .i64 vk, .int .i64 vn, .string ⟨vs.toArray⟩, .string ⟨nm.toArray⟩, .slice A args.length c] 27) = B := ⟨_, rfl⟩
      have hgB : W.grownBy B none := by rw [← hB]; exact World.grownBy_alloc W _ none
      have hb5 : B.cell? ⟨W.heap.size, 5, none⟩ = some (.slice A args.length c) := by rw [← hB]; unfold World.cell?; rw [World.alloc_heap_new]; rfl
      obtain ⟨fn, tmps, assign, body, hy, hR⟩ := hY (n - 1) pre nm B (hGd nm (by rw [Ex.refs, if_pos rfl]; simp)) (hJ _ _ _ hJ0 hgB) (by rw [Ex.refs, if_pos rfl] at hN; simp only [List.length_append, List.length_cons, List.length_nil] at hN; omega)
      have hR' := hR.mono (R' := fun e W1 => (e = .returned (.bool true) ∧ J (pre ++ [nm]) W1 ∧ KC n₀ W W1 ∧ W1.cell? ⟨W.heap.size, 5, none⟩ = some (.slice A args.length c)) ∨ (e = .returned (.bool false) ∧ Jx (pre ++ [nm]) W1)) (fun e W1 h => h.elim (fun ⟨h1, h2, h3⟩ => .inl ⟨h1, h2, (KC.grown hgB hn).trans h3, h3.cell hb5⟩) .inr)
      clear hR hgB hb5
      have hYbA : ∀ o, (W.alloc o).cell? ⟨Yb, 0, none⟩ = some (.func (.yield l) #[] #[]) := fun o => (World.grownBy_alloc W o none).cell hYb (by simp)
      refine callsIn_of_wp Try.func39 rfl h67 ?_ hro
      simp only [Try.f39, List.size_toArray, List.length_cons, List.length_nil, Nat.reduceAdd, Nat.reduceSub, Array.replicate_succ, Array.replicate_zero, List.push_toArray, List.append_toArray, List.nil_append, List.cons_append]
      subst hB
      gi_wp2_with ((try refine ⟨hdd _, ?_⟩); refine hR'.mono ?_; clear hR'; rintro e W1 (⟨rfl, hJA, hkA, hb5⟩ | ⟨rfl, hx1⟩))
      · skip
        gi_loopw [20] (fun p wr => ∃ k : Nat, p = .int .i64 k ∧ k ≤ args.length ∧ J (pre ++ [nm] ++ Ex.refsL (args.take k)) wr ∧ KC n₀ W wr)
          (fun p _ => args.length - (intOf p).toNat)
        case atStart =>
          exact ⟨0, rfl, Nat.zero_le _, by simpa [Ex.refsL] using hJA, hkA⟩
        case round =>
          obtain ⟨k, rfl, hk, hJk, hkc⟩ := hrel
          have hYb' := hkc.cell hYb
          have hWb' := hkc.cell hWb
          by_cases hlt : k < args.length
          · obtain ⟨⟨op', vk', vn', vs', nm', args'⟩, hx⟩ : ∃ x, args[k]? = some x := ⟨args[k], List.getElem?_eq_getElem hlt⟩
            obtain ⟨⟨b, off, rfl, hcs⟩, hxr⟩ := hargs k _ hx
            obtain ⟨A', c', fv', hfv, hc', hm', _⟩ := repd_node hxr
            rw [hfv] at hcs hxr
            have c0 : wr.cell? ⟨b, off + k * 6, none⟩ = some (.int .i64 op') := hkc.cell (hcs 0 _ rfl).1
            have c1 := hkc.cell (hcs 1 _ rfl).1
            have c2 := hkc.cell (hcs 2 _ rfl).1
            have c3 := hkc.cell (hcs 3 _ rfl).1
            have c4 := hkc.cell (hcs 4 _ rfl).1
            have c5 := hkc.cell (hcs 5 _ rfl).1
            have w1 : wrap64 ((k : Int) + 1) = (k : Int) + 1 := wrap_k hlt hm
            have hWb2 : ∀ o, (wr.alloc o).cell? ⟨Wb, 0, none⟩ = some (.func (.func 39) #[] #[.pointer (some ⟨Yb, 0, none⟩), .pointer (some ⟨Wb, 0, none⟩)]) := fun o => (World.grownBy_alloc wr o none).cell hWb' (by simp)
            have hYb2 : ∀ o, (wr.alloc o).cell? ⟨Yb, 0, none⟩ = some (.func (.yield l) #[] #[]) := fun o => (World.grownBy_alloc wr o none).cell hYb' (by simp)
            have hsz : SizeOf.sizeOf (Ex.mk op' vk' vn' vs' nm' args') ≤ K := by
              have h1 := List.sizeOf_lt_of_mem (List.mem_of_getElem? hx)
              simp only [Ex.mk.sizeOf_spec] at hX h1 ⊢
              omega
            have hsplit : args = args.take k ++ Ex.mk op' vk' vn' vs' nm' args' :: args.drop (k + 1) := by
              have h2 : args[k] = Ex.mk op' vk' vn' vs' nm' args' := by have := List.getElem?_eq_getElem hlt; rw [hx] at this; exact (Option.some.inj this).symm
              rw [← h2, ← List.drop_eq_getElem_cons hlt, List.take_append_drop]
            have hrf : (Ex.mk 2 vk vn vs nm args).refs = [nm] ++ (Ex.refsL (args.take k) ++ ((Ex.mk op' vk' vn' vs' nm' args').refs ++ Ex.refsL (args.drop (k + 1)))) := by
              rw [Ex.refs, if_pos rfl]
              conv => lhs; rw [hsplit]
              rw [refsL_app, Ex.refsL]
            have hk1 : Ex.refsL (args.take (k + 1)) = Ex.refsL (args.take k) ++ (Ex.mk op' vk' vn' vs' nm' args').refs := by
              rw [List.take_add_one, hx, refsL_app]
              simp [Ex.refsL]
            have hcall : ∀ o n, CallsIn F n Try.prog 39 #[.agg #[.int .i64 op', .int .i64 vk', .int .i64 vn', .string ⟨vs'.toArray⟩, .string ⟨nm'.toArray⟩, .slice A' args'.length c'], .pointer (some ⟨Yb, 0, none⟩), .pointer (some ⟨Wb, 0, none⟩)] (wr.alloc o) fun e W' =>
                (e = .returned (.bool true) ∧ J (pre ++ [nm] ++ Ex.refsL (args.take (k + 1))) W' ∧ KC n₀ W W') ∨ (e = .returned (.bool false) ∧ ∃ q, q <+: (Ex.mk 2 vk vn vs nm args).refs ∧ Jx (pre ++ q) W') := fun o n => by
              have ho := KC.grown (World.grownBy_alloc wr o none) (Nat.le_trans hn hkc.1.size)
              refine (ih _ hsz (fun s h => hGd s (by rw [hrf]; simp [h])) n _ _ _ ((hkc.trans ho).repd hxr) (Nat.le_trans (Nat.le_trans hn hkc.1.size) ho.1.size) (hYb2 o) (hWb2 o) (hJ _ _ _ hJk (World.grownBy_alloc wr o none)) ?_).mono ?_
              · rw [hrf] at hN
                simp only [List.length_append, List.length_cons, List.length_nil] at hN ⊢
                omega
              · rintro e W' (⟨rfl, h1, h2⟩ | ⟨rfl, q, ⟨r, hq⟩, hj⟩)
                · exact .inl ⟨rfl, by rw [hk1, ← List.append_assoc]; exact h1, (hkc.trans ho).trans h2⟩
                · exact .inr ⟨rfl, [nm] ++ (Ex.refsL (args.take k) ++ q), ⟨r ++ Ex.refsL (args.drop (k + 1)), by rw [hrf, ← hq]; simp⟩, by rw [← List.append_assoc, ← List.append_assoc]; exact hj⟩
            clear hsplit hrf hk1 hargs hcs hxr hfv hsz ih hY hJ hJk hv hN hX hYb2 hx
            gi_wp2_with ((try refine ⟨hdd _, ?_⟩); gi_at_call 39; refine (hcall _ _).mono ?_; clear hcall; rintro e W1 (⟨rfl, hJ1, hk1'⟩ | ⟨rfl, q, hq, hx1⟩))
            · exact ⟨⟨k + 1, rfl, hlt, hJ1, hk1'⟩, meas_k hlt⟩
            · go_ret
              exact .inr ⟨rfl, q, hq, hx1⟩
          · obtain rfl : k = args.length := by omega
            gi_wp2
            go_ret
            have hr0 : (Ex.mk 2 vk vn vs nm args).refs = [nm] ++ Ex.refsL args := by rw [Ex.refs, if_pos rfl]
            refine .inl ⟨rfl, ?_, hkc⟩
            rw [hr0]
            simpa using hJk
      · go_ret
        exact .inr ⟨rfl, [nm], ⟨Ex.refsL args, by rw [Ex.refs, if_pos rfl]⟩, hx1⟩
    · refine callsIn_of_wp Try.func39 rfl h67 ?_ hro
      simp only [Try.f39, List.size_toArray, List.length_cons, List.length_nil, Nat.reduceAdd, Nat.reduceSub, Array.replicate_succ, Array.replicate_zero, List.push_toArray, List.append_toArray, List.nil_append, List.cons_append]
      gi_wp2
      refine ⟨fun _ h => (by cases h), ?_⟩
      gi_wp2
      gi_loopw [20] (fun p wr => ∃ k : Nat, p = .int .i64 k ∧ k ≤ args.length ∧ J (pre ++ Ex.refsL (args.take k)) wr ∧ KC n₀ W wr)
        (fun p _ => args.length - (intOf p).toNat)
      case atStart =>
        exact ⟨0, rfl, Nat.zero_le _, by simpa [Ex.refsL] using hJ _ _ _ hJ0 (World.grownBy_alloc W _ none), KC.grown (World.grownBy_alloc W _ none) hn⟩
      case round =>
        obtain ⟨k, rfl, hk, hJk, hkc⟩ := hrel
        have hYb' := hkc.cell hYb
        have hWb' := hkc.cell hWb
        by_cases hlt : k < args.length
        · obtain ⟨⟨op', vk', vn', vs', nm', args'⟩, hx⟩ : ∃ x, args[k]? = some x := ⟨args[k], List.getElem?_eq_getElem hlt⟩
          obtain ⟨⟨b, off, rfl, hcs⟩, hxr⟩ := hargs k _ hx
          obtain ⟨A', c', fv', hfv, hc', hm', _⟩ := repd_node hxr
          rw [hfv] at hcs hxr
          have c0 : wr.cell? ⟨b, off + k * 6, none⟩ = some (.int .i64 op') := hkc.cell (hcs 0 _ rfl).1
          have c1 := hkc.cell (hcs 1 _ rfl).1
          have c2 := hkc.cell (hcs 2 _ rfl).1
          have c3 := hkc.cell (hcs 3 _ rfl).1
          have c4 := hkc.cell (hcs 4 _ rfl).1
          have c5 := hkc.cell (hcs 5 _ rfl).1
          have w1 : wrap64 ((k : Int) + 1) = (k : Int) + 1 := wrap_k hlt hm
          have hWb2 : ∀ o, (wr.alloc o).cell? ⟨Wb, 0, none⟩ = some (.func (.func 39) #[] #[.pointer (some ⟨Yb, 0, none⟩), .pointer (some ⟨Wb, 0, none⟩)]) := fun o => (World.grownBy_alloc wr o none).cell hWb' (by simp)
          have hYb2 : ∀ o, (wr.alloc o).cell? ⟨Yb, 0, none⟩ = some (.func (.yield l) #[] #[]) := fun o => (World.grownBy_alloc wr o none).cell hYb' (by simp)
          have hsz : SizeOf.sizeOf (Ex.mk op' vk' vn' vs' nm' args') ≤ K := by
            have h1 := List.sizeOf_lt_of_mem (List.mem_of_getElem? hx)
            simp only [Ex.mk.sizeOf_spec] at hX h1 ⊢
            omega
          have hsplit : args = args.take k ++ Ex.mk op' vk' vn' vs' nm' args' :: args.drop (k + 1) := by
            have h2 : args[k] = Ex.mk op' vk' vn' vs' nm' args' := by have := List.getElem?_eq_getElem hlt; rw [hx] at this; exact (Option.some.inj this).symm
            rw [← h2, ← List.drop_eq_getElem_cons hlt, List.take_append_drop]
          have hrf : (Ex.mk op vk vn vs nm args).refs = Ex.refsL (args.take k) ++ ((Ex.mk op' vk' vn' vs' nm' args').refs ++ Ex.refsL (args.drop (k + 1))) := by
            rw [Ex.refs, if_neg hop, List.nil_append]
            conv => lhs; rw [hsplit]
            rw [refsL_app, Ex.refsL]
          have hk1 : Ex.refsL (args.take (k + 1)) = Ex.refsL (args.take k) ++ (Ex.mk op' vk' vn' vs' nm' args').refs := by
            rw [List.take_add_one, hx, refsL_app]
            simp [Ex.refsL]
          have hcall : ∀ o n, CallsIn F n Try.prog 39 #[.agg #[.int .i64 op', .int .i64 vk', .int .i64 vn', .string ⟨vs'.toArray⟩, .string ⟨nm'.toArray⟩, .slice A' args'.length c'], .pointer (some ⟨Yb, 0, none⟩), .pointer (some ⟨Wb, 0, none⟩)] (wr.alloc o) fun e W' =>
              (e = .returned (.bool true) ∧ J (pre ++ Ex.refsL (args.take (k + 1))) W' ∧ KC n₀ W W') ∨ (e = .returned (.bool false) ∧ ∃ q, q <+: (Ex.mk op vk vn vs nm args).refs ∧ Jx (pre ++ q) W') := fun o n => by
            have ho := KC.grown (World.grownBy_alloc wr o none) (Nat.le_trans hn hkc.1.size)
            refine (ih _ hsz (fun s h => hGd s (by rw [hrf]; simp [h])) n _ _ _ ((hkc.trans ho).repd hxr) (Nat.le_trans (Nat.le_trans hn hkc.1.size) ho.1.size) (hYb2 o) (hWb2 o) (hJ _ _ _ hJk (World.grownBy_alloc wr o none)) ?_).mono ?_
            · rw [hrf] at hN
              simp only [List.length_append] at hN ⊢
              omega
            · rintro e W' (⟨rfl, h1, h2⟩ | ⟨rfl, q, ⟨r, hq⟩, hj⟩)
              · exact .inl ⟨rfl, by rw [hk1, ← List.append_assoc]; exact h1, (hkc.trans ho).trans h2⟩
              · exact .inr ⟨rfl, Ex.refsL (args.take k) ++ q, ⟨r ++ Ex.refsL (args.drop (k + 1)), by rw [hrf, ← hq]; simp⟩, by rw [← List.append_assoc]; exact hj⟩
          clear hsplit hrf hk1 hargs hcs hxr hfv hsz ih hY hJ hJk hv hN hX hYb2 hx
          gi_wp2_with ((try refine ⟨hdd _, ?_⟩); gi_at_call 39; refine (hcall _ _).mono ?_; clear hcall; rintro e W1 (⟨rfl, hJ1, hk1'⟩ | ⟨rfl, q, hq, hx1⟩))
          · exact ⟨⟨k + 1, rfl, hlt, hJ1, hk1'⟩, meas_k hlt⟩
          · go_ret
            exact .inr ⟨rfl, q, hq, hx1⟩
        · obtain rfl : k = args.length := by omega
          gi_wp2
          go_ret
          have hr0 : (Ex.mk op vk vn vs nm args).refs = Ex.refsL args := by rw [Ex.refs, if_neg hop]; rfl
          refine .inl ⟨rfl, ?_, hkc⟩
          rw [hr0]
          simpa using hJk
end Go.Proofs.Ythmggkidmcgfoaa.Am
/- Does a formula ask for a name: the walk, and what it is to the evaluator. -/
set_option linter.unusedVariables false
set_option linter.unusedSimpArgs false
namespace Go.Proofs.Ythmggkidmcgfoaa.Am
open Go Go.RowKit Go.Shelf Go.Proofs
attribute [local go_sem] Oper.semAt_some
set_option maxRecDepth 100000
set_option maxHeartbeats 4000000
theorem room_of_none' {F : Fence} (hd : F.depth = none) (k : Nat) : F.room k := fun d h => by rw [hd] at h; cases h
theorem RoundIn.anyDepth' {F : Fence} (hd : F.depth = none) {m m' : Nat} {P : Program} {l : Nat} {f : FuncId} {tmps : Array Value} {assign body : Code} {w : World} {R : Ending → World → Prop}
    (h : RoundIn F m P l f tmps assign body w R) : RoundIn F m' P l f tmps assign body w R := ⟨h.1, fun c cs _ => h.2 c cs (room_of_none' hd _)⟩
theorem YieldAt.anyDepth' {F : Fence} (hd : F.depth = none) {m : Nat} (m' : Nat) {P : Program} {l : Nat} {args : Array Value} {W : World} {R : Ending → World → Prop} (h : YieldAt F m P l args W R) : YieldAt F m' P l args W R := by
  obtain ⟨fn, tmps, assign, body, hy, hR⟩ := h
  exact ⟨fn, tmps, assign, body, hy, RoundIn.anyDepth' hd hR⟩
theorem KC.put {n₀ : Nat} {w : World} (hn : n₀ ≤ w.heap.size) (W : World) (l : Nat) (o o' : Obj) (hl : w.heap.size ≤ l) (h : W.heap[l]? = some o) (hc : o.isCells = false) (hw : o.isWalk = false) : KC n₀ W (W.putObj l o') :=
  ⟨belowK_b hn W l o o' hl h hc hw, fun k arr te z e => ((grownBy_putObj' W l o').block k (Array.getElem?_eq_some_iff.1 e).1 (by
    intro he
    injection he with he
    subst he
    rw [h] at e
    injection e with e
    subst e
    simp [Obj.isCells] at hc)).trans e⟩
theorem grown_set {W W2 : World} (h : W.grownBy W2 none) {b : Nat} (o : Nat) (v : Value) (hb : W.heap.size ≤ b) : W.grownBy (W2.setCell ⟨b, o, none⟩ v) none := by
  have k := (Below.refl W.heap.size W2).setCell (p := ⟨b, o, none⟩) hb v
  exact ⟨k.os.trans h.os, k.tape.trans h.tape, k.output.trans h.output, Nat.le_trans h.size k.size, fun i hi _ => (k.block i hi).trans (h.block i hi (by simp))⟩
theorem grown_two (W : World) (o o' : Obj) : W.grownBy ((W.alloc o).alloc o') none := by
  have h := World.grownBy_alloc W o none
  have k := World.grownBy_alloc (W.alloc o) o' none
  exact ⟨k.os.trans h.os, k.tape.trans h.tape, k.output.trans h.output, Nat.le_trans h.size k.size, fun i hi hn => (k.block i (Nat.lt_of_lt_of_le hi h.size) hn).trans (h.block i hi hn)⟩
theorem new_cell (W : World) (v : Value) (t : TypeId) : (W.alloc (.cells #[v] t)).cell? ⟨W.heap.size, 0, none⟩ = some v ∧ (W.alloc (.cells #[v] t)).frozen? ⟨W.heap.size, 0, none⟩ = false := by
  have h := World.alloc_heap_new W (.cells #[v] t)
  constructor
  · unfold World.cell?; rw [h]; rfl
  · unfold World.frozen?; rw [h]; rfl
theorem refs1_in {F : Fence} (hd : F.depth = none) (h66 : F.fn 38) (h67 : F.fn 39) (hro : F.round = none) (n : Nat) {l n₀ Bx : Nat} {Gd : List UInt8 → Prop} {J Jx : List (List UInt8) → World → Prop} (hJ : ∀ pre W W', J pre W → W.grownBy W' none → J pre W')
    (X : Ex) (v : Value) (hGd : ∀ s ∈ X.refs, Gd s)
    (hY : ∀ pre (x : List UInt8) W, Gd x → J pre W → pre.length < X.refs.length → YieldAt F (n - 1) Try.prog l #[.string ⟨x.toArray⟩] W fun e W' =>
      (e = .returned (.bool true) ∧ J (pre ++ [x]) W' ∧ KC n₀ W W') ∨ (e = .returned (.bool false) ∧ Jx (pre ++ [x]) W'))
    (W : World) (hBx : ∀ (j : Nat) u, v.cells[j]? = some u → W.cell? ⟨Bx, j, none⟩ = some u) (hv : RepD W (fun b _ => b < n₀) v X.dv) (hn : n₀ ≤ W.heap.size) (h0 : J [] W) :
    CallsIn F n Try.prog 38 #[.func (.yield l) #[] #[], .pointer (some ⟨Bx, 0, none⟩)] W fun e W' => (∃ v, e = .returned v) ∧
      ((∃ ys, ys = X.refs ∧ J ys W') ∨ (∃ pre, pre <+: X.refs ∧ Jx pre W')) := by
  have hdd : ∀ k : Nat, (F.depth.isSome = true → 1 ≤ k) := fun k h => by rw [hd] at h; cases h
  obtain ⟨op, vk, vn, vs, nm, args⟩ := X
  obtain ⟨A, c, fv, rfl, hc, hm, hargs⟩ := repd_node hv
  have c0 := hBx 0 _ rfl
  have c1 := hBx 1 _ rfl
  have c2 := hBx 2 _ rfl
  have c3 := hBx 3 _ rfl
  have c4 := hBx 4 _ rfl
  have c5 := hBx 5 _ rfl
  have hp := fun (W1 : World) (hg : W.grownBy W1 none) (hY1 : W1.cell? ⟨W.heap.size, 0, none⟩ = some (.func (.yield l) #[] #[])) (hW1 : W1.cell? ⟨W.heap.size + 1, 0, none⟩ = some (.func (.func 39) #[] #[.pointer (some ⟨W.heap.size, 0, none⟩), .pointer (some ⟨W.heap.size + 1, 0, none⟩)])) =>
    wlk_in hd h67 hro (N := (Ex.mk op vk vn vs nm args).refs.length) hJ (fun m pre x W hg hj hl => YieldAt.anyDepth' hd m (hY pre x W hg hj hl)) _ (Ex.mk op vk vn vs nm args) (Nat.le_refl _) hGd (n - 1) _ [] W1 ((KC.grown hg hn).repd hv) (Nat.le_trans hn hg.size) hY1 hW1 (hJ _ _ _ h0 hg) (by simp)
  obtain ⟨W2, hW2⟩ : ∃ W2, (W.alloc (.cells #[.func (.yield l) #[] #[]] 86)).alloc (.cells #[.nilFunc] 65) = W2 := ⟨_, rfl⟩
  have hg2 : W.grownBy W2 none := by rw [← hW2]; exact grown_two W _ _
  have hN := new_cell (W.alloc (.cells #[.func (.yield l) #[] #[]] 86)) .nilFunc 65
  rw [World.size_alloc, hW2] at hN
  obtain ⟨hN1, hN2⟩ := hN
  have hY2 : W2.cell? ⟨W.heap.size, 0, none⟩ = some (.func (.yield l) #[] #[]) := by rw [← hW2]; exact (World.grownBy_alloc _ _ none).cell (new_cell W _ _).1 (by simp)
  obtain ⟨W3, hW3⟩ : ∃ W3, W2.setCell ⟨W.heap.size + 1, 0, none⟩ (.func (.func 39) #[] #[.pointer (some ⟨W.heap.size, 0, none⟩), .pointer (some ⟨W.heap.size + 1, 0, none⟩)]) = W3 := ⟨_, rfl⟩
  have hg3 : W.grownBy W3 none := by rw [← hW3]; exact grown_set hg2 _ _ (by omega)
  have hK3 : W3.cell? ⟨W.heap.size + 1, 0, none⟩ = some (.func (.func 39) #[] #[.pointer (some ⟨W.heap.size, 0, none⟩), .pointer (some ⟨W.heap.size + 1, 0, none⟩)]) := by rw [← hW3]; exact World.cell?_setCell_same' _ _ _ (by rw [hN1]; rfl)
  have hY3 : W3.cell? ⟨W.heap.size, 0, none⟩ = some (.func (.yield l) #[] #[]) := by
    rw [← hW3]
    exact ((Below.refl (W.heap.size + 1) W2).setCell (p := ⟨W.heap.size + 1, 0, none⟩) (Nat.le_refl _) _).cell (p := ⟨W.heap.size, 0, none⟩) (by simp) |>.trans hY2
  have hp := hp W3 hg3 hY3 hK3
  have d0 := hg3.cell c0 (by simp)
  have d1 := hg3.cell c1 (by simp)
  have d2 := hg3.cell c2 (by simp)
  have d3 := hg3.cell c3 (by simp)
  have d4 := hg3.cell c4 (by simp)
  have d5 := hg3.cell c5 (by simp)
  refine callsIn_of_wp Try.func38 rfl h66 ?_ hro
  simp only [Try.f38, List.size_toArray, List.length_cons, List.length_nil, Nat.reduceAdd, Nat.reduceSub, Array.replicate_succ, Array.replicate_zero, List.push_toArray, List.append_toArray, List.nil_append, List.cons_append]
  clear hY hargs
  clear hg2 hY2 hg3 hY3
  gi_wp2_with ((try refine ⟨hdd _, ?_⟩); gi_at_call 39; refine hp.mono ?_; clear hp; rintro e W1 (⟨rfl, hJ1, _⟩ | ⟨rfl, q, hq, hx⟩))
  · go_end0
    exact ⟨⟨_, rfl⟩, .inl ⟨_, rfl, by simpa using hJ1⟩⟩
  · go_end0
    exact ⟨⟨_, rfl⟩, .inr ⟨q, hq, by simpa using hx⟩⟩
/-- What the loop is handed. -/
theorem refs_stops {F : Fence} (hd : F.depth = none) (h66 : F.fn 38) (h67 : F.fn 39) (hro : F.round = none) (n : Nat) {n₀ Bx : Nat} (X : Ex) (v : Value) (w : World) (hB : Bx < w.heap.size)
    (hBx : ∀ (j : Nat) u, v.cells[j]? = some u → w.cell? ⟨Bx, j, none⟩ = some u) (hv : RepD w (fun b _ => b < n₀) v X.dv) (hn : n₀ ≤ w.heap.size) :
    SeqStopsK F n Try.prog 38 #[.pointer (some ⟨Bx, 0, none⟩)] (fun x : List UInt8 => #[Value.string ⟨x.toArray⟩]) (KC n₀) (fun ys => ys = X.refs) (fun pre => pre <+: X.refs) X.refs.length w := fun l J Jx W hW hJ hJx hY h0 =>
  refs1_in (Gd := fun _ => True) hd h66 h67 hro n (fun pre A B h g => hJ pre A B none h g (fun r e => by cases e)) X v (fun _ _ => trivial) (fun pre x W _ => hY pre x W) W (fun j u hu => (hW.cell (p := ⟨Bx, j, none⟩) hB).trans (hBx j u hu))
    (hv.mono (fun b o u hf hc => ⟨(hW.cell (p := ⟨b, o, none⟩) (Nat.lt_of_lt_of_le hf hn)).trans hc, hf⟩) (fun b es k hf hb => ⟨(hW.block b (Nat.lt_of_lt_of_le hf hn)).trans hb, hf⟩)) (Nat.le_trans hn hW.size) h0
/-- .. where all that it hands over is known to be good. -/
theorem refs_stopsG {F : Fence} (hd : F.depth = none) (h66 : F.fn 38) (h67 : F.fn 39) (hro : F.round = none) (n : Nat) {n₀ Bx : Nat} (X : Ex) (v : Value) (w : World) (hB : Bx < w.heap.size)
    (hBx : ∀ (j : Nat) u, v.cells[j]? = some u → w.cell? ⟨Bx, j, none⟩ = some u) (hv : RepD w (fun b _ => b < n₀) v X.dv) (hn : n₀ ≤ w.heap.size) (Gd : List UInt8 → Prop) (hGd : ∀ s ∈ X.refs, Gd s) :
    SeqStopsK F n Try.prog 38 #[.pointer (some ⟨Bx, 0, none⟩)] (fun x : { s : List UInt8 // Gd s } => #[Value.string ⟨x.1.toArray⟩]) (KC n₀) (fun ys => ys.map Subtype.val = X.refs) (fun pre => pre.map Subtype.val <+: X.refs) X.refs.length w := fun l J Jx W hW hJ hJx hY h0 => by
  refine (refs1_in (Gd := Gd) (J := fun ys W => ∃ zs : List { s : List UInt8 // Gd s }, zs.map Subtype.val = ys ∧ J zs W) (Jx := fun ys W => ∃ zs : List { s : List UInt8 // Gd s }, zs.map Subtype.val = ys ∧ Jx zs W) hd h66 h67 hro n
    (fun pre A B ⟨zs, h1, h⟩ g => ⟨zs, h1, hJ zs A B none h g (fun r e => by cases e)⟩) X v hGd (fun pre x W hg ⟨zs, h1, hj⟩ hl => ?_) W (fun j u hu => (hW.cell (p := ⟨Bx, j, none⟩) hB).trans (hBx j u hu))
    (hv.mono (fun b o u hf hc => ⟨(hW.cell (p := ⟨b, o, none⟩) (Nat.lt_of_lt_of_le hf hn)).trans hc, hf⟩) (fun b es k hf hb => ⟨(hW.block b (Nat.lt_of_lt_of_le hf hn)).trans hb, hf⟩)) (Nat.le_trans hn hW.size) ⟨[], rfl, h0⟩).mono ?_
  · obtain ⟨fn, tmps, assign, body, hy, hR⟩ := hY zs ⟨x, hg⟩ W hj (by rw [← h1, List.length_map] at hl; exact hl)
    refine ⟨fn, tmps, assign, body, hy, hR.mono ?_⟩
    rintro e W' (⟨rfl, h2, h3⟩ | ⟨rfl, h2⟩)
    · exact .inl ⟨rfl, ⟨_, by simp [h1], h2⟩, h3⟩
    · exact .inr ⟨rfl, _, by simp [h1], h2⟩
  · rintro e W' ⟨h1, ⟨ys, h2, zs, h3, h4⟩ | ⟨pre, h2, zs, h3, h4⟩⟩
    · exact ⟨h1, .inl ⟨zs, h3.trans h2, h4⟩⟩
    · exact ⟨h1, .inr ⟨zs, (show zs.map Subtype.val <+: X.refs by rw [h3]; exact h2), h4⟩⟩
/-- The formula is put into a variable of the function's. -/
theorem refs_in {F : Fence} (h44 : F.fn 24) (hro : F.round = none) (n : Nat) (v0 v1 v2 v3 v4 v5 : Value) (w : World) :
    CallsIn F n Try.prog 24 #[.agg #[v0, v1, v2, v3, v4, v5]] w fun e w' => e = .returned (.func (.func 38) #[] #[.pointer (some ⟨w.heap.size, 0, none⟩)]) ∧ w' = w.alloc (.cells #[v0, v1, v2, v3, v4, v5] 27) := by
  refine callsIn_of_wp Try.func24 rfl h44 ?_ hro
  simp only [Try.f24, List.size_toArray, List.length_cons, List.length_nil, Nat.reduceAdd, Nat.reduceSub, Array.replicate_succ, Array.replicate_zero, List.push_toArray, List.append_toArray, List.nil_append, List.cons_append]
  gi_wp2
  go_ret
  exact ⟨rfl, rfl⟩
theorem grown_three (W : World) (o o' o'' : Obj) : W.grownBy (((W.alloc o).alloc o').alloc o'') none := by
  have h := grown_two W o o'
  have k := World.grownBy_alloc ((W.alloc o).alloc o') o'' none
  exact ⟨k.os.trans h.os, k.tape.trans h.tape, k.output.trans h.output, Nat.le_trans h.size k.size, fun i hi hn => (k.block i (Nat.lt_of_lt_of_le hi h.size) hn).trans (h.block i hi hn)⟩
theorem has_in {F : Fence} (hd : F.depth = none) (h22 : F.fn 15) (h44 : F.fn 24) (h66 : F.fn 38) (h67 : F.fn 39) (hro : F.round = none) (n : Nat) (hn : 3 ≤ n) (X : Ex) (v : Value) (s : List UInt8) (w : World)
    (hv : RepD w (fun b _ => b < w.heap.size) v X.dv) :
    CallsIn F n Try.prog 15 #[v, .string ⟨s.toArray⟩] w fun e w' => e = .returned (.bool (decide (s ∈ X.refs))) ∧ Below w.heap.size w w' := by
  have h1 : 1 ≤ n := by omega
  obtain ⟨op, vk, vn, vs, nm, args⟩ := X
  obtain ⟨A, c, fv, rfl, hc, hm, hargs⟩ := repd_node hv
  clear hargs
  generalize hX : Ex.mk op vk vn vs nm args = X at *
  generalize hx : (Value.agg #[.int .i64 op, .int .i64 vk, .int .i64 vn, .string ⟨vs.toArray⟩, .string ⟨nm.toArray⟩, .slice A args.length c] : Value) = x at *
  refine callsIn_of_wp_marks Try.func15 rfl h22 ?_ hro
  simp only [Try.f15, List.size_toArray, List.length_cons, List.length_nil, Nat.reduceAdd, Nat.reduceSub, Array.replicate_succ, Array.replicate_zero, List.push_toArray, List.append_toArray, List.nil_append, List.cons_append]
  subst hx
  gi_wp2_with (gi_at_call 24; refine (refs_in h44 hro (n - 1) _ _ _ _ _ _ _).mono ?_; rintro e w' ⟨rfl, rfl⟩)
  obtain ⟨W0, hW0⟩ : ∃ W0, (((w.alloc (.cells #[.int .i64 op, .int .i64 vk, .int .i64 vn, .string ⟨vs.toArray⟩, .string ⟨nm.toArray⟩, .slice A args.length c] 27)).alloc (.cells #[.string ⟨s.toArray⟩] 9)).alloc (.cells #[.bool false] 4)).alloc (.cells #[.int .i64 op, .int .i64 vk, .int .i64 vn, .string ⟨vs.toArray⟩, .string ⟨nm.toArray⟩, .slice A args.length c] 27) = W0 := ⟨_, rfl⟩
  have hs0 : W0.heap.size = w.heap.size + 4 := by rw [← hW0]; simp
  have hB0 : Below w.heap.size w W0 := by rw [← hW0]; exact ((((Below.refl _ w).alloc (Nat.le_refl _) _).alloc (by simp) _).alloc (by simp; omega) _).alloc (by simp; omega) _
  have c1 : W0.cell? ⟨w.heap.size + 1, 0, none⟩ = some (.string ⟨s.toArray⟩) := by
    have h := (new_cell (w.alloc (.cells #[.int .i64 op, .int .i64 vk, .int .i64 vn, .string ⟨vs.toArray⟩, .string ⟨nm.toArray⟩, .slice A args.length c] 27)) (.string ⟨s.toArray⟩) 9).1
    rw [World.size_alloc] at h
    rw [← hW0]
    exact (grown_two _ _ _).cell h (by simp)
  have c2 : W0.cell? ⟨w.heap.size + 1 + 1, 0, none⟩ = some (.bool false) ∧ W0.frozen? ⟨w.heap.size + 1 + 1, 0, none⟩ = false := by
    have h := new_cell ((w.alloc (.cells #[.int .i64 op, .int .i64 vk, .int .i64 vn, .string ⟨vs.toArray⟩, .string ⟨nm.toArray⟩, .slice A args.length c] 27)).alloc (.cells #[.string ⟨s.toArray⟩] 9)) (.bool false) 4
    rw [World.size_alloc, World.size_alloc] at h
    rw [← hW0]
    exact ⟨(World.grownBy_alloc _ _ none).cell h.1 (by simp), (frozen_kept h.1 (World.grownBy_alloc _ _ none) (fun r e => by cases e)).trans h.2⟩
  have cx : ∀ (j : Nat) u, (Value.agg #[.int .i64 op, .int .i64 vk, .int .i64 vn, .string ⟨vs.toArray⟩, .string ⟨nm.toArray⟩, .slice A args.length c]).cells[j]? = some u → W0.cell? ⟨w.heap.size + 1 + 1 + 1, j, none⟩ = some u := by
    intro j u hu
    have h := World.alloc_heap_new (((w.alloc (.cells #[.int .i64 op, .int .i64 vk, .int .i64 vn, .string ⟨vs.toArray⟩, .string ⟨nm.toArray⟩, .slice A args.length c] 27)).alloc (.cells #[.string ⟨s.toArray⟩] 9)).alloc (.cells #[.bool false] 4)) (.cells #[.int .i64 op, .int .i64 vk, .int .i64 vn, .string ⟨vs.toArray⟩, .string ⟨nm.toArray⟩, .slice A args.length c] 27)
    rw [World.size_alloc, World.size_alloc, World.size_alloc, hW0] at h
    unfold World.cell?
    rw [h]
    exact hu
  have hv0 : RepD W0 (fun b _ => b < w.heap.size) (Value.agg #[.int .i64 op, .int .i64 vk, .int .i64 vn, .string ⟨vs.toArray⟩, .string ⟨nm.toArray⟩, .slice A args.length c]) X.dv :=
    hv.mono (fun b o u hf hc => ⟨(hB0.cell (p := ⟨b, o, none⟩) hf).trans hc, hf⟩) (fun b es k hf hb => ⟨(hB0.block b hf).trans hb, hf⟩)
  rw [hW0]
  refine wpIn_rangeFunc_ownF hro h1 (gf := 38) (lb := #[.pointer (some ⟨w.heap.size + 1 + 1 + 1, 0, none⟩)]) rfl h66 (enters_of Try.func38 (by kernel_rfl) rfl)
    (refs_stops hd h66 h67 hro (n - 1) X _ W0 (by omega) cx hv0 (by omega)) KC.trans (KC.put (by omega)) (Below.refl _ _) (fun _ => rfl)
    (fun pre W => ((∀ y ∈ pre, y ≠ s) ∧ W.cell? ⟨w.heap.size + 1, 0, none⟩ = some (.string ⟨s.toArray⟩) ∧ W.cell? ⟨w.heap.size + 1 + 1, 0, none⟩ = some (.bool false) ∧ W.frozen? ⟨w.heap.size + 1 + 1, 0, none⟩ = false) ∧ Below w.heap.size w W)
    (fun c pre W => (c = .ret ∧ s ∈ pre ∧ W.cell? ⟨w.heap.size + 1 + 1, 0, none⟩ = some (.bool true)) ∧ Below w.heap.size w W)
    (OwnFrom.and (Own.from (fun s A B row hs hg hr => ⟨hs.1, cell_kept hs.2.1 hg hr, cell_kept hs.2.2.1 hg hr, (frozen_kept hs.2.2.1 hg hr).trans hs.2.2.2⟩) _) (ownFrom_below (Nat.le_refl _) (by omega)))
    (fun c => OwnFrom.and (Own.from (fun s A B row hs hg hr => ⟨hs.1, hs.2.1, cell_kept hs.2.2 hg hr⟩) _) (ownFrom_below (Nat.le_refl _) (by omega)))
    ⟨⟨by simp, c1, c2.1, c2.2⟩, hB0⟩
    (fun y => { tmps := #[.agg #[.int .i64 op, .int .i64 vk, .int .i64 vn, .string ⟨vs.toArray⟩, .string ⟨nm.toArray⟩, .slice A args.length c], .string ⟨s.toArray⟩, .pointer (some ⟨w.heap.size, 0, none⟩), .pointer (some ⟨w.heap.size + 1, 0, none⟩), .pointer (some ⟨w.heap.size + 1 + 1, 0, none⟩), .string ⟨y.toArray⟩, .agg #[.int .i64 op, .int .i64 vk, .int .i64 vn, .string ⟨vs.toArray⟩, .string ⟨nm.toArray⟩, .slice A args.length c], .func (.func 38) #[] #[.pointer (some ⟨w.heap.size + 1 + 1 + 1, 0, none⟩)], .string ⟨y.toArray⟩, undef, undef, undef], defers := [] }) ?assign ?body ?done ?stop
  case assign =>
    intro l x W K hK
    gi_wp2
    exact hK
  case body =>
    rintro l pre x W ⟨⟨hp, hcw, hcr, hfr⟩, hB⟩ _
    gi_wp2
    · rename_i hx
      obtain rfl : x = s := eq_of_beq hx
      exact ⟨KeepsOthers.setCell _ _ _, ⟨rfl, List.mem_append.2 (.inr (by simp)), World.cell?_setCell_same' _ _ _ (by rw [hcr]; rfl)⟩, hB.setCell (p := ⟨w.heap.size + 1 + 1, 0, none⟩) (by simp; omega) _⟩
    · rename_i hx
      exact ⟨KeepsOthers.refl _, KC.refl _ _, ⟨fun y hy => (List.mem_append.1 hy).elim (hp y) (fun e e' => by simp at e; subst e; subst e'; simp at hx), hcw, hcr, hfr⟩, hB⟩
  case done =>
    rintro D ys W hD rfl ⟨⟨hne, _, hcr, hfr⟩, hB⟩ hK
    gi_wp2
    have hK' := (KeepsOthers.setCell W ⟨w.heap.size + 1 + 1, 0, none⟩ (.bool false)).same D _ hK rfl
    refine ⟨by simp, .inl ⟨_, _, rfl, run_takeDeferred hK', ?_⟩⟩
    have hc5 := cell_kept (World.cell?_setCell_same' W ⟨w.heap.size + 1 + 1, 0, none⟩ (.bool false) (by rw [hcr]; rfl)) (grownBy_putObj' _ D (.deferred none)) (fun r e => by cases e; exact ⟨_, hK', rfl⟩)
    refine ⟨.bool false, ?_, by rw [decide_eq_false (fun h => hne s h rfl)], (hB.setCell (p := ⟨w.heap.size + 1 + 1, 0, none⟩) (by simp; omega) _).trans (belowK_b (w := w) (Nat.le_refl _) _ D _ _ (by omega) hK' rfl rfl)⟩
    simp [results, Try.f15, go_sem, hc5]
  case stop =>
    rintro D c pre W hD hpre ⟨⟨rfl, hin, hcr⟩, hB⟩ hK
    gi_wp2
    refine ⟨by simp, .inl ⟨_, _, rfl, run_takeDeferred hK, ?_⟩⟩
    have hc5 := cell_kept hcr (grownBy_putObj' _ D (.deferred none)) (fun r e => by cases e; exact ⟨_, hK, rfl⟩)
    refine ⟨.bool true, ?_, by rw [decide_eq_true (hpre.subset hin)], hB.trans (belowK_b (w := w) (Nat.le_refl _) W D _ _ (by omega) hK rfl rfl)⟩
    simp [results, Try.f15, go_sem, hc5]
open Classical in
/-- What names.Has is to the evaluator: told by what its arguments are. -/
noncomputable def hasP (ds : List DV) : Option (AV × Heap) :=
  if h : ∃ p : Ex × List UInt8, ds = [p.1.dv, .str p.2] then some (.d (.bool (decide (h.choose.2 ∈ h.choose.1.refs))), []) else none
/-- What a primitive must keep. -/
def OneOk (P : Program) (f : Nat) (p : List DV → Option (AV × Heap)) : Prop := ∀ ds r H1, p ds = some (r, H1) → ∀ (fz0 : Nat → Nat → Prop) (w : World) (vs : Array Value), vs.size = ds.length →
  (∀ (i : Nat) y, ds[i]? = some y → ∃ v, vs[i]? = some v ∧ RepD w fz0 v y) →
  Calls P f vs w fun e w' => ∃ v G1 U1, e = .returned v ∧ Below w.heap.size w w' ∧ HeapRel ⟨w.heap.size, fz0, fun _ _ => False, fun _ => False⟩ w' G1 H1 U1 ∧
    Rep ⟨w.heap.size, fz0, fun _ _ => False, fun _ => False⟩ w' G1 H1 U1 v r
theorem heap_none {C : Ctx} {w : World} (hb : C.base ≤ w.heap.size) (hx : ∀ k, ¬ C.exb k) (he : ∀ k o, ¬ C.ex k o) : HeapRel C w (fun _ => none) [] (fun _ => False) where
  base := hb
  exlt := fun k h => (hx k h).elim
  exb := fun k o h => (he k o h).elim
  exo := fun id p b h _ => by simp [Heap.get] at h
  keys := fun id p h => by simp [Heap.get] at h
  box := fun id cs h => by simp [Heap.get] at h
  grow := fun id n b h _ => by simp [Heap.get] at h
  sep := fun id id' p p' b h _ _ _ => by simp [Heap.get] at h
  mpl := fun id es h => by simp [Heap.get] at h
theorem repd_lt {w : World} {F : Nat → Nat → Prop} {v : Value} {x : DV} (h : RepD w F v x) : RepD w (fun b _ => b < w.heap.size) v x :=
  h.mono (fun b o u _ hc => ⟨hc, cell_lt hc⟩) (fun b es k _ hb => ⟨hb, (Array.getElem?_eq_some_iff.1 hb).1⟩)
theorem repd_str {w : World} {F : Nat → Nat → Prop} {v : Value} {s : List UInt8} (h : RepD w F v (.str s)) : v = .string ⟨s.toArray⟩ := by
  cases h with
  | str s => simp
theorem has_one : OneOk Try.prog 15 hasP := by
  intro ds r H1 hp fz0 w vs hl hv
  unfold hasP at hp
  split at hp
  · rename_i h
    have hs := h.choose_spec
    generalize h.choose = q at hs hp
    obtain ⟨X, s⟩ := q
    simp only [Option.some.injEq, Prod.mk.injEq] at hp
    obtain ⟨rfl, rfl⟩ := hp
    subst hs
    obtain ⟨v0, e0, r0⟩ := hv 0 _ rfl
    obtain ⟨v1, e1, r1⟩ := hv 1 _ rfl
    obtain ⟨l⟩ := vs
    simp only [List.size_toArray, List.length_cons, List.length_nil] at hl
    rcases l with _ | ⟨u0, _ | ⟨u1, _ | ⟨u2, l⟩⟩⟩ <;> simp at hl
    obtain rfl : u0 = v0 := by simpa using e0
    obtain rfl : u1 = v1 := by simpa using e1
    obtain rfl := repd_str r1
    refine (callsIn_wide (n := 3)).1 ((has_in (F := Fence.wide) rfl trivial trivial trivial trivial rfl 3 (Nat.le_refl _) X u0 s w (repd_lt r0)).mono ?_)
    rintro e w' ⟨rfl, hb⟩
    exact ⟨_, fun _ => none, fun _ => False, rfl, hb, heap_none hb.size (fun _ h => h) (fun _ _ h => h), .d _ _ (.bool _)⟩
  · cases hp
mutual
theorem Ex.dv_inj : ∀ (x y : Ex), x.dv = y.dv → x = y
  | .mk op vk vn vs nm args, .mk op' vk' vn' vs' nm' args', h => by
    simp only [Ex.dv, DV.agg.injEq, List.cons.injEq, DV.int.injEq, DV.str.injEq, DV.sl.injEq, true_and, and_true] at h
    obtain ⟨h1, h2, h3, h4, h5, h6⟩ := h
    rw [h1, h2, h3, h4, h5, Ex.dvs_inj args args' h6]
theorem Ex.dvs_inj : ∀ (l m : List Ex), Ex.dvs l = Ex.dvs m → l = m
  | [], [], _ => rfl
  | [], y :: m, h => by simp [Ex.dvs] at h
  | x :: l, [], h => by simp [Ex.dvs] at h
  | x :: l, y :: m, h => by
    simp only [Ex.dvs, List.cons.injEq] at h
    rw [Ex.dv_inj x y h.1, Ex.dvs_inj l m h.2]
end
theorem hasP_eq (X : Ex) (s : List UInt8) : hasP [X.dv, .str s] = some (.d (.bool (decide (s ∈ X.refs))), []) := by
  have h : ∃ p : Ex × List UInt8, [X.dv, .str s] = [p.1.dv, .str p.2] := ⟨(X, s), rfl⟩
  have hs := h.choose_spec
  unfold hasP
  rw [dif_pos h]
  generalize h.choose = q at hs ⊢
  obtain ⟨Y, t⟩ := q
  have a : X.dv = Y.dv := (List.cons.inj hs).1
  have b : s = t := DV.str.inj (List.cons.inj (List.cons.inj hs).2).1
  rw [Ex.dv_inj X Y a, b]
end Go.Proofs.Ythmggkidmcgfoaa.Am
