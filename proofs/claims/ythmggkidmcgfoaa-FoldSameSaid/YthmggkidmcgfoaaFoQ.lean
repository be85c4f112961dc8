/- A folded formula is no greater, asks for nothing new, and may be. -/
import Derived.Test.YthmggkidmcgfoaaFoP
set_option linter.unusedVariables false
set_option linter.unusedSimpArgs false
namespace Go.Proofs.Ythmggkidmcgfoaa.Am
open Go Go.RowKit
set_option maxRecDepth 100000
set_option maxHeartbeats 4000000
structure Less (y x : Exp) : Prop where
  n : y.nodes ≤ x.nodes
  d : y.deep ≤ x.deep
  r : ∀ t ∈ y.refs, t ∈ x.refs
  w : y.wf
structure LessL (m l : List Exp) : Prop where
  len : m.length = l.length
  n : Exp.nodesL m ≤ Exp.nodesL l
  d : Exp.deepL m ≤ Exp.deepL l
  r : ∀ t ∈ Exp.refsL m, t ∈ Exp.refsL l
  w : Exp.wfL m
theorem one_node (x : Exp) : 1 ≤ x.nodes ∧ 1 ≤ x.deep := by
  obtain ⟨op, v, name, args⟩ := x
  exact ⟨by rw [Exp.nodes]; omega, by rw [Exp.deep]; omega⟩
theorem mem_L : ∀ {l : List Exp} {x : Exp}, x ∈ l → x.nodes ≤ Exp.nodesL l ∧ x.deep ≤ Exp.deepL l ∧ (∀ t ∈ x.refs, t ∈ Exp.refsL l) ∧ (Exp.wfL l → x.wf)
  | y :: r, x, h => by
    rcases List.mem_cons.1 h with rfl | h
    · exact ⟨by rw [Exp.nodesL]; omega, by rw [Exp.deepL]; omega, fun t ht => by rw [Exp.refsL]; exact List.mem_append.2 (.inl ht), fun h => h.1⟩
    · obtain ⟨h1, h2, h3, h4⟩ := mem_L h
      exact ⟨by rw [Exp.nodesL]; omega, by rw [Exp.deepL]; omega, fun t ht => by rw [Exp.refsL]; exact List.mem_append.2 (.inr (h3 t ht)), fun h => h4 h.2⟩
theorem wf_const {v : Val} (h : valKnown v = true) (hn : ¬ (v.kind = 1 ∧ v.n < 0)) : (Exp.mk 1 v [] []).wf := ⟨⟨by decide, by decide, rfl, by rw [if_pos rfl]; exact ⟨rfl, h, hn⟩⟩, trivial⟩
theorem less_neg {w : Val} (h : valKnown w = true) (hc : w.kind = 1 ∧ w.n < 0) : (negC w).nodes = 2 ∧ (negC w).deep = 2 ∧ (negC w).refs = [] ∧ (negC w).wf := by
  obtain ⟨h1, h2⟩ := known_int h hc.1
  have hr := chk_range.1 h1
  unfold negC
  rw [if_pos hc]
  refine ⟨by simp only [Exp.nodes, Exp.nodesL], by simp only [Exp.deep, Exp.deepL]; rfl, by simp [Exp.refs, Exp.refsL], ⟨by decide, by decide, rfl, by rw [if_neg (by decide), if_neg (by decide)]; exact ⟨rfl, rfl⟩⟩, wf_const ?_ (by rintro ⟨_, h⟩; simp only at h; omega), trivial⟩
  unfold valKnown valChk
  simp only [hc.1]
  rw [if_pos trivial, if_pos (chk_range.2 (by omega))]
  simp [valTail, h2]
theorem less_pos {w : Val} (h : valKnown w = true) (hc : ¬ (w.kind = 1 ∧ w.n < 0)) : (negC w).nodes = 1 ∧ (negC w).deep = 1 ∧ (negC w).refs = [] ∧ (negC w).wf := by
  unfold negC
  rw [if_neg hc]
  exact ⟨by simp only [Exp.nodes, Exp.nodesL], by simp only [Exp.deep, Exp.deepL] <;> rfl, by simp [Exp.refs, Exp.refsL], wf_const h hc⟩
theorem ar_pos {op : Int} {n : Nat} (h1 : 1 ≤ op) (h18 : op ≤ 18) (h : (n : Int) = arity op) (n1 : op ≠ 1) (n2 : op ≠ 2) : 1 ≤ n := by
  by_cases h3 : op = 17
  · have := arity_3 h h3; omega
  · by_cases h4 : op = 15 ∨ op = 16
    · have := arity_2 h (by omega); omega
    · rcases op_other h1 h18 h n1 n2 h3 h4 with h | h <;> omega
theorem two_nodes {op : Int} {v : Val} {name : Str} {args : List Exp} (h : 1 ≤ args.length) : 2 ≤ (Exp.mk op v name args).nodes ∧ 2 ≤ (Exp.mk op v name args).deep := by
  cases args with
  | nil => simp at h
  | cons a r =>
    have := one_node a
    exact ⟨by rw [Exp.nodes, Exp.nodesL]; omega, by rw [Exp.deep, Exp.deepL]; omega⟩
mutual
theorem fold_less : ∀ x : Exp, x.wf → Less (foldE x) x
  | .mk op v name args, hw => by
    unfold foldE
    split
    · rename_i hc
      obtain ⟨hr, hk⟩ := hc
      by_cases hneg : (evE [] (Exp.mk op v name args)).kind = 1 ∧ (evE [] (Exp.mk op v name args)).n < 0
      · obtain ⟨k1, k2, k3, k4⟩ := less_neg hk hneg
        have h2 : 2 ≤ (Exp.mk op v name args).nodes ∧ 2 ≤ (Exp.mk op v name args).deep := by
          obtain ⟨⟨h1, h18, har, hp⟩, _⟩ := hw
          refine two_nodes (ar_pos h1 h18 har (fun e => ?_) (fun e => ?_))
          · subst e
            rw [if_pos rfl] at hp
            rw [op_val [] rfl] at hneg
            exact hp.2.2 hneg
          · subst e
            simp [Exp.refs] at hr
        exact ⟨by omega, by omega, by rw [k3]; simp, k4⟩
      · obtain ⟨k1, k2, k3, k4⟩ := less_pos hk hneg
        have h1 := one_node (Exp.mk op v name args)
        exact ⟨by omega, by omega, by rw [k3]; simp, k4⟩
    · have ih := fold_lessL args hw.2
      have hp := hw.1
      clear hw
      generalize foldEL args = bs at *
      have hall : Less (.mk op v name bs) (.mk op v name args) := by
        refine ⟨by rw [Exp.nodes, Exp.nodes]; have := ih.n; omega, by rw [Exp.deep, Exp.deep]; have := ih.d; omega, fun t ht => ?_, ⟨?_, ih.w⟩⟩
        · simp only [Exp.refs, List.mem_append] at ht ⊢
          exact ht.imp id (ih.r t)
        · rw [ih.len]; exact hp
      cases bs with
      | nil => exact hall
      | cons a r =>
        rw [pickIf_cons]
        split
        · rename_i hc
          have hm : (a :: r).getD (2 - a.v.n).toNat (.mk 0 Val.zero [] []) ∈ a :: r := by
            have hl := ih.len
            have h3 := arity_3 hp.2.2.1 hc.1
            have hv : VOK a.v := by
              have h := ih.w.1
              obtain ⟨ao, av, an, aa⟩ := a
              have h1 : ao = 1 := hc.2.1
              have h2 := h.1.2.2.2
              rw [if_pos h1] at h2
              exact (known_kind h2.2.1).2
            have hb := vok_bool hv hc.2.2
            have hlt : (2 - a.v.n).toNat < (a :: r).length := by omega
            rw [List.getD_eq_getElem?_getD, List.getElem?_eq_getElem hlt]
            exact List.getElem_mem hlt
          generalize (a :: r).getD (2 - a.v.n).toNat (.mk 0 Val.zero [] []) = y at *
          obtain ⟨k1, k2, k3, k4⟩ := mem_L hm
          exact ⟨by rw [Exp.nodes]; have := ih.n; omega, by rw [Exp.deep]; have := ih.d; omega, fun t ht => by rw [Exp.refs]; exact List.mem_append.2 (.inr (ih.r t (k3 t ht))), k4 ih.w⟩
        · exact hall
theorem fold_lessL : ∀ l : List Exp, Exp.wfL l → LessL (foldEL l) l
  | [], _ => by rw [foldEL]; exact ⟨rfl, Nat.le_refl _, Nat.le_refl _, fun _ h => h, trivial⟩
  | x :: r, h => by
    have h1 := fold_less x h.1
    have h2 := fold_lessL r h.2
    rw [foldEL]
    exact ⟨by simp [h2.len], by rw [Exp.nodesL, Exp.nodesL]; have := h1.n; have := h2.n; omega, by rw [Exp.deepL, Exp.deepL]; have := h1.d; have := h2.d; omega,
      fun t ht => by simp only [Exp.refsL, List.mem_append] at ht ⊢; exact ht.imp (h1.r t) (h2.r t), h1.w, h2.w⟩
end
theorem fold_known {x : Exp} (hr : x.refs = []) (hk : valKnown (evE [] x) = true) : foldE x = negC (evE [] x) := by
  obtain ⟨op, v, name, args⟩ := x
  unfold foldE
  rw [if_pos ⟨hr, hk⟩]
theorem mok_e : MOK [] := fun s v h => by simp [lookV] at h
theorem fold_fault {x : Exp} (hw : x.wf) (hk : (evE [] x).kind = 5) : (foldE x).op ≠ 1 := fun h => by
  have h1 := ev_fold mok_e x hw
  have h2 := (fold_less x hw).w
  rw [op_val [] h] at h1
  generalize foldE x = y at *
  obtain ⟨op, v, name, args⟩ := y
  have h : op = 1 := h
  have h3 := h2.1.2.2.2
  rw [if_pos h] at h3
  have h4 := (known_kind h3.2.1).1
  rw [← h1] at hk
  simp only [Exp.v] at hk
  omega
/-- Where nothing is told nothing is pending. -/
theorem np_num (op a b : Int) : (if (numOp op a b).2 ≠ 0 then fault (numOp op a b).2 else ⟨1, (numOp op a b).1, []⟩ : Val).kind ≠ 4 := by
  split <;> simp [fault]
theorem np_1 (op : Int) (a : Val) : (apply1 op a).kind ≠ 4 := by
  unfold apply1
  split
  · split <;> simp [truthV, fault]
  · split
    · split <;> simp [fault]
    · split
      · exact np_num _ _ _
      · simp [fault]
theorem np_2 (op : Int) (a b : Val) : (apply2 op a b).kind ≠ 4 := by
  unfold apply2
  split
  · split <;> simp [truthV, fault]
  · split
    · split
      · split <;> simp [fault]
      · simp [fault]
    · split
      · exact np_num _ _ _
      · simp [fault]
theorem np_op {op : Int} {vs : List Val} (h : ∀ v ∈ vs, v.kind ≠ 4) (hn : vs.length = 1 ∨ vs.length = 2) : (opV op vs).kind ≠ 4 := by
  rcases hn with hn | hn
  · obtain ⟨a, rfl⟩ := len1 hn
    have h4 := h a (by simp)
    by_cases h5 : a.kind = 5
    · simp [opV, allSV, h5]
    · simp [opV, allSV, h5, h4, Val.zero, applyV, np_1]
  · obtain ⟨a, b, rfl⟩ := len2 hn
    have h4 := h a (by simp)
    have g4 := h b (by simp)
    by_cases h5 : a.kind = 5
    · simp [opV, allSV, h5]
    · by_cases g5 : b.kind = 5
      · simp [opV, allSV, h5, g5]
      · simp [opV, allSV, h5, g5, h4, g4, Val.zero, applyV, np_2]
theorem np_first {a : Val} (h : a.kind ≠ 4) : (firstV a).1.kind ≠ 4 := by
  unfold firstV
  split
  · exact h
  · split
    · rename_i hk; simp at hk; exact absurd hk h
    · split
      · exact h
      · simp [fault]
mutual
theorem np_ev : ∀ x : Exp, x.wf → (evE [] x).kind ≠ 4
  | .mk op v name args, hw => by
    obtain ⟨⟨h1, h18, har, hp⟩, hw⟩ := hw
    have ih := np_evL args hw
    have hlen := evL_len [] args
    unfold evE
    by_cases c1 : op = 1
    · rw [if_pos c1] at hp ⊢
      have := (known_kind hp.2.1).1
      omega
    rw [if_neg c1]
    by_cases c2 : op = 2
    · rw [if_pos c2]
      simp [lookV, fault]
    rw [if_neg c2]
    by_cases c3 : op = 17
    · rw [if_pos c3]
      obtain ⟨a, b, c, he⟩ := len3 (by rw [hlen]; exact arity_3 har c3)
      rw [he] at ih ⊢
      simp only
      unfold ifV
      split
      · exact np_first (ih a (by simp))
      · split
        · exact ih b (by simp)
        · exact ih c (by simp)
    rw [if_neg c3]
    by_cases c4 : op = 15 ∨ op = 16
    · rw [if_pos c4]
      obtain ⟨a, b, he⟩ := len2 (by rw [hlen]; exact arity_2 har (by omega))
      rw [he] at ih ⊢
      simp only
      unfold andV
      split
      · exact np_first (ih a (by simp))
      · split
        · exact np_first (ih a (by simp))
        · unfold boolV
          split
          · simp [fault]
          · split
            · simp [fault]
            · exact ih b (by simp)
    rw [if_neg c4]
    refine np_op ih ?_
    rw [hlen]
    rcases op_other h1 h18 har c1 c2 c3 c4 with h | h
    · exact .inl h.1
    · exact .inr h.1
theorem np_evL : ∀ (l : List Exp), Exp.wfL l → ∀ v ∈ evL [] l, v.kind ≠ 4
  | [], _, v, h => by simp [evL] at h
  | x :: r, hw, v, h => by
    simp only [evL] at h
    rcases List.mem_cons.1 h with rfl | h
    · exact np_ev x hw.1
    · exact np_evL r hw.2 v h
end
end Go.Proofs.Ythmggkidmcgfoaa.Am
