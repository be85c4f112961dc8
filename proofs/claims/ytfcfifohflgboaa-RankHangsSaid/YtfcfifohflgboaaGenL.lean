/- Open calls, as equations: what was reachable is what the callee left of it. -/
import Derived.Test.YtfcfifohflgboaaAmSet
set_option linter.unusedVariables false
set_option linter.unusedSimpArgs false
namespace Go.Proofs.Ytfcfifohflgboaa.Am
open Go Go.RowKit

def upd (W : Heap) : Heap → Heap
  | [] => []
  | (i, p) :: r => (i, (W.get i).getD p) :: upd W r
def keys (H : Heap) : List Id := H.map (·.1)
theorem get_keys : ∀ (W : Heap) i, (W.get i).isSome = (keys W).contains i
  | [], i => rfl
  | (j, p) :: r, i => by
    unfold Heap.get keys
    rw [List.map_cons, List.contains_cons]
    split
    · rename_i h; subst h; simp
    · rename_i h
      rw [get_keys r i]
      have : (i == j) = false := by simp; exact fun e => h e.symm
      rw [this]
      rfl
theorem mem_within {H : Heap} : ∀ (l : List Id) e, e ∈ within l H → e.1 ∈ l ∧ H.get e.1 = some e.2
  | [], e, h => by cases h
  | i :: r, e, h => by
    unfold within at h
    split at h
    · rename_i p hp
      rcases List.mem_cons.1 h with rfl | h
      · exact ⟨by simp, hp⟩
      · obtain ⟨h1, h2⟩ := mem_within r e h; exact ⟨by simp [h1], h2⟩
    · obtain ⟨h1, h2⟩ := mem_within r e h; exact ⟨by simp [h1], h2⟩
theorem within_get {H : Heap} (l : List Id) (i : Id) (h : i ∈ l) : (within l H).get i = H.get i := by rw [get_within, if_pos h]
theorem weave_upd {R : List Id} {W : Heap} : ∀ (H : Heap), (∀ i ∈ R, (W.get i).isSome = true) → (∀ i, i ∉ R → W.get i = none) → weave R W H = upd W H
  | [], _, _ => rfl
  | (i, p) :: r, h, h' => by
    unfold weave upd
    rw [weave_upd r h h']
    by_cases hc : R.contains i = true
    · rw [if_pos hc]
      have := h i (by simpa using hc)
      cases hw : W.get i with
      | none => rw [hw] at this; cases this
      | some q => rfl
    · rw [if_neg hc, h' i (by simpa using hc)]
      rfl
theorem fresh_nil {R : List Id} {H : Heap} : ∀ (H1 : Heap), (∀ e ∈ H1, (H.get e.1).isSome = true ∧ e.1 ∈ R) → fresh R H H1 = []
  | [], _ => rfl
  | (i, p) :: r, h => by
    unfold fresh
    obtain ⟨h1, h2⟩ := h (i, p) (by simp)
    have h3 : ((H.get i).isNone || !R.contains i) = false := by
      cases hg : H.get i with
      | none => rw [hg] at h1; cases h1
      | some q => simp [h2]
    rw [h3]
    simp only [Bool.false_eq_true, if_false]
    exact fresh_nil r fun e he => h e (by simp [he])
theorem weave_congr {R : List Id} {W W' : Heap} : ∀ (H : Heap), (∀ i ∈ R, W.get i = W'.get i) → weave R W H = weave R W' H
  | [], _ => rfl
  | (i, p) :: r, h => by
    unfold weave
    rw [weave_congr r h]
    split
    · rename_i hc
      rw [h i (by simpa using hc)]
    · rfl
theorem ca_open {d dst f : Nat} {args : List AV} {S : St} {W0 W : Heap} {r : AV}
    (hn : (if tab.opn f = true then none else toDs args) = none) (hlt : lentA tab S f args = none)
    (h1 : reach S.H 8 (addIds [] (idsL args)) = keys W0) (h2 : within (keys W0) S.H = W0) (h3 : (idsH W0).all (fun i => (keys W0).contains i) = true)
    (hc : ∃ x H', callR tab (d + 1) f args W0 (0 :: S.g) = some (x, H') ∧ soft tab f x = r ∧ ∀ i ∈ keys W0, H'.get i = W.get i)
    (h4 : addIds (keys W0) (idsA r) = keys W0) (h5 : keys W = keys W0) (h6 : (idsH (within (keys W0) W)).all (fun i => (keys W0).contains i) = true) :
    callA tab (callR tab) d dst f args S = some (r, ⟨S.T, upd W S.H, 1 :: S.g⟩) := by
  obtain ⟨x, H', hc, hs, hW⟩ := hc
  have hR : reach H' 8 (keys W0) = keys W0 := by
    show (if (idsH (within (keys W0) H')).all (fun i => (keys W0).contains i) = true then keys W0 else _) = _
    rw [within_congr (keys W0) hW, if_pos h6]
  unfold callA
  rw [hlt]
  simp only
  unfold callO
  rw [hn]
  simp only [h1, h2]
  rw [if_pos h3, hc]
  simp only [hs, h4, hR]
  have hf : (within (keys W0) H').filter (fun e => (keys W0).contains e.1 || sfx (0 :: S.g) e.1.g) = within (keys W0) H' := by
    rw [List.filter_eq_self]
    intro e he
    have := (mem_within _ e he).1
    simp [this]
  rw [hf]
  congr 2
  congr 1
  unfold weaveH
  rw [fresh_nil (H1 := within (keys W0) H') (fun e he => ⟨?_, (mem_within _ e he).1⟩), List.nil_append]
  · rw [weave_congr (W' := W) _ (fun i hi => by rw [within_get _ i hi, hW i hi])]
    refine weave_upd _ (fun i hi => ?_) (fun i hi => ?_)
    · rw [get_keys, h5]; simpa using hi
    · have := get_keys W i
      rw [h5] at this
      cases hg : W.get i with
      | none => rfl
      | some q => rw [hg] at this; simp at this; exact absurd this hi
  · have hi := (mem_within _ e he).1
    rw [← within_get (keys W0) e.1 hi, h2, get_keys]
    simpa using hi
theorem ca_open1 {d dst f : Nat} {args : List AV} {S : St} {id : Id} {cs cs' : List AV} {r : AV}
    (hn : (if tab.opn f = true then none else toDs args) = none) (hlt : lentA tab S f args = none) (ha : addIds [] (idsL args) = [id]) (hi : idsL cs = []) (hi' : idsL cs' = [])
    (hc : ∃ x H', callR tab (d + 1) f args [(id, .box cs)] (0 :: S.g) = some (x, H') ∧ soft tab f x = r ∧ H'.get id = some (.box cs'))
    (h4 : addIds [id] (idsA r) = [id]) (hS : S.H.get id = some (.box cs)) :
    callA tab (callR tab) d dst f args S = some (r, ⟨S.T, upd [(id, .box cs')] S.H, 1 :: S.g⟩) := by
  obtain ⟨x, H', hc, hs, hW⟩ := hc
  have hw : within [id] S.H = [(id, .box cs)] := by
    unfold within
    rw [hS]
    rfl
  refine ca_open (W0 := [(id, .box cs)]) hn hlt ?_ hw ?_ ⟨x, H', hc, hs, fun i hi => ?_⟩ h4 rfl ?_
  · rw [ha]
    show (if (idsH (within [id] S.H)).all (fun i => [id].contains i) = true then [id] else _) = _
    rw [hw]
    simp only [idsH, idsP, hi, List.nil_append, List.all_nil, if_true]
    rfl
  · simp only [idsH, idsP, hi, List.nil_append, List.all_nil]
  · have : i = id := by simpa [Am.keys] using hi
    subst this
    rw [hW]
    simp [Heap.get]
  · show (idsH (within [id] [(id, .box cs')])).all _ = true
    unfold within
    simp only [Heap.get, if_true, within, idsH, idsP, hi', List.nil_append, List.all_nil]
/- A loop over the places of a list. -/
def StepR {α β ρ : Type} (mk : Nat → β → List Nat → St) (I : Nat → β → Prop) (sp : Nat → β → List α → ρ) (Q : ρ → Out → St → Prop) (d : Nat) (ts hs : List Nat) (k : Nat) (a : β) (x : α) (rest : List α) : Out → St → Prop := fun o S' =>
  (o ≠ .nrm ∧ Q (sp k a (x :: rest)) o S') ∨ (o = .nrm ∧ ∃ a' g', I (k + 1) a' ∧ sp k a (x :: rest) = sp (k + 1) a' rest ∧ Sub (mk (k + 1) a' g') (keepA d (some (ts, hs)) S'))
section
variable {α β ρ : Type} {mk : Nat → β → List Nat → St} {I : Nat → β → Prop} {sp : Nat → β → List α → ρ} {Q : ρ → Out → St → Prop} {d : Nat} {ts hs : List Nat} {k : Nat} {a : β} {x : α} {rest : List α} {S' : St}
theorem step_nrm (a' : β) (hI : I (k + 1) a') (he : sp k a (x :: rest) = sp (k + 1) a' rest) (h : ∃ g', Sub (mk (k + 1) a' g') (keepA d (some (ts, hs)) S')) : Gd (StepR mk I sp Q d ts hs k a x rest) (some (.nrm, S')) := .inr ⟨rfl, a', h.choose, hI, he, h.choose_spec⟩
theorem step_end {o : Out} (ho : o ≠ .nrm) {r : ρ} (he : sp k a (x :: rest) = r) (h : Q r o S') : Gd (StepR mk I sp Q d ts hs k a x rest) (some (o, S')) := .inl ⟨ho, by rw [he]; exact h⟩
def LastR (Q : ρ → Out → St → Prop) (r : ρ) : Out → St → Prop := fun o S' => o ≠ .nrm ∧ Q r o S'
theorem last_end {o : Out} {r : ρ} (ho : o ≠ .nrm) (h : Q r o S') : Gd (LastR Q r) (some (o, S')) := ⟨ho, h⟩
end
theorem good_range {α β ρ : Type} {T : Tab} {call : Call} {n f d : Nat} {K : List It} {S : St} {b : Code} {R : Out → St → Prop} (xs : List α) (mk : Nat → β → List Nat → St) (I : Nat → β → Prop) (sp : Nat → β → List α → ρ) (Q : ρ → Out → St → Prop) (a0 : β) {ts hs : List Nat}
    (hkeep : (nameOf b).bind (T.keep f) = some (ts, hs)) (hQ : ∀ r, Up (Q r)) (hI : I 0 a0) (hn : xs.length < n) (hl : xs.length ≤ 9223372036854775807)
    (hstep : ∀ (k : Nat) (a : β) (g : List Nat) (x : α) (rest : List α), k < xs.length → xs[k]? = some x → xs.drop (k + 1) = rest → I k a → decide ((k : Int) < (xs.length : Int)) = true → IntKind.i64.wrap ((k : Int) + 1) = ((k + 1 : Nat) : Int) → Gd (StepR mk I sp Q d ts hs k a x rest) (cx T call n f d [] b (mk k a g)))
    (hlast : ∀ (a : β) (g : List Nat), I xs.length a → decide ((xs.length : Int) < (xs.length : Int)) = false → Gd (LastR Q (sp xs.length a [])) (cx T call n f d [] b (mk xs.length a g)))
    (hs0 : ∃ g0, Sub (mk 0 a0 g0) (keepA d (some (ts, hs)) S)) (hk : ∀ o S', Q (sp 0 a0 xs) o S' → Gd R (cr T call n f d K (some (o, S')))) : Gd R (cx T call n f d K (.loop b) S) := by
  obtain ⟨g0, hs0⟩ := hs0
  refine good_loopR (α := Nat × β × List Nat) (fun x => x.1 ≤ xs.length ∧ I x.1 x.2.1 ∧ sp x.1 x.2.1 (xs.drop x.1) = sp 0 a0 xs) (fun x => mk x.1 x.2.1 x.2.2) (fun x => xs.length - x.1) (fun _ => Q (sp 0 a0 xs)) (0, a0, g0) hkeep (fun _ => hQ _) ⟨Nat.zero_le _, hI, rfl⟩ (by simpa using hn) ?_ hs0 hk
  rintro ⟨k, a, g⟩ ⟨h1, h2, h3⟩
  simp only at h1 h2 h3
  by_cases hlt : k < xs.length
  · have hd : xs.drop k = xs[k] :: xs.drop (k + 1) := List.drop_eq_getElem_cons hlt
    rw [hd] at h3
    refine good_mono ?_ (hstep k a g xs[k] (xs.drop (k + 1)) hlt (List.getElem?_eq_getElem hlt) rfl h2 (decide_eq_true (by omega)) (by rw [IntKind.wrap_i64]; omega))
    rintro o S' (⟨ho, hq⟩ | ⟨ho, a', g', hi, he, hs⟩)
    · exact .inl ⟨ho, h3 ▸ hq⟩
    · exact .inr ⟨ho, (k + 1, a', g'), ⟨hlt, hi, by rw [← h3, he]⟩, by simp only; omega, hs, fun _ _ h => h⟩
  · have hk' : k = xs.length := by omega
    subst hk'
    rw [List.drop_eq_nil_of_le (Nat.le_refl _)] at h3
    refine good_mono ?_ (hlast a g h2 (decide_eq_false (by omega)))
    rintro o S' ⟨ho, hq⟩
    exact .inl ⟨ho, h3 ▸ hq⟩
def QX {ρ : Type} (k : Out) (mk : ρ → List Nat → St) : ρ → Out → St → Prop := fun r o S => o = k ∧ ∃ g, Sub (mk r g) S
theorem up_qx {ρ : Type} {k : Out} {mk : ρ → List Nat → St} (r : ρ) : Up (QX k mk r) := fun o S S' h ⟨h1, g, h2⟩ => ⟨h1, g, h2.trans h⟩
def QO {ρ σ : Type} (k : Out) (mk : ρ → List Nat → St) (k' : Out) (mk' : σ → List Nat → St) : Sum ρ σ → Out → St → Prop := fun r o S => match r with
  | .inl r => o = k ∧ ∃ g, Sub (mk r g) S
  | .inr r => o = k' ∧ ∃ g, Sub (mk' r g) S
theorem up_qo {ρ σ : Type} {k k' : Out} {mk : ρ → List Nat → St} {mk' : σ → List Nat → St} (r : Sum ρ σ) : Up (QO k mk k' mk' r) := fun o S S' h hq => match r, hq with
  | .inl _, ⟨h1, g, h2⟩ => ⟨h1, g, h2.trans h⟩
  | .inr _, ⟨h1, g, h2⟩ => ⟨h1, g, h2.trans h⟩
def tokD (d dst : Nat) : Option (List Nat) → Option Id
  | none => none
  | some g => some ⟨d, dst, 0 :: g⟩
def tokP (d dst n : Nat) : Option (List Nat) → Heap
  | none => []
  | some g => [(⟨d, dst, 0 :: g⟩, .grow n)]
theorem up_tok {k : Out} {α : Type} {mk : α → List Nat → St} : Up (fun q S => q = k ∧ ∃ t g, Sub (mk t g) S) := fun o S S' h ⟨h1, t, g, h2⟩ => ⟨h1, t, g, h2.trans h⟩
theorem sx1 {n x a b : Nat} {g : List Nat} : (List.drop n [x] = a :: b :: g) = False := by
  refine eq_false fun h => ?_
  have := congrArg List.length h
  simp only [List.length_drop, List.length_cons, List.length_nil] at this
  omega
theorem sx2 {n x a b : Nat} {g : List Nat} : (List.drop n (x :: g) = a :: b :: g) = False := by
  refine eq_false fun h => ?_
  have := congrArg List.length h
  simp only [List.length_drop, List.length_cons] at this
  omega
/- What the functions on numbers come to. -/
theorem ty_Num_121 : type_of% (ai (ai @rs121 @lw121) (ai @tt3 (ai @tt4 @tt28))) := (ai (ai @rs121 @lw121) (ai @tt3 (ai @tt4 @tt28)))
theorem ty_Num_15 : type_of% (ai (ai @rs15 @lw15) (ai @tt3 @tt4)) := (ai (ai @rs15 @lw15) (ai @tt3 @tt4))
set_option maxRecDepth 100000
set_option maxHeartbeats 40000000
def chk (n : Int) : Int := if n < -1099511627776 ∨ n > 1099511627776 then 7 else 0
theorem ret_Check (n : Int) : Ret tab 121 [.d (.int .i64 (n))] (.d (.int .i64 (chk n))) := by
  refine ret_of (1) fn121 rfl rfl ?_
  simp only [amx, seval, ty_Num_121]
  repeat' ((first | refine good_ci (fun h => ?_) (fun h => ?_) | refine good_cgt (fun h => ?_) (fun h => ?_) | refine good_cgf (fun h => ?_) (fun h => ?_) | refine good_cqgt (fun h => ?_) (fun h => ?_) | refine good_cqgf (fun h => ?_) (fun h => ?_)) <;> simp only [amx, seval, ty_Num_121, h])
  all_goals (simp_all [chk])
theorem ca_Check {d dst : Nat} {S : St} (n : Int) : callA tab (callR tab) d dst 121 [.d (.int .i64 (n))] S = some (.d (.int .i64 (chk n)), S) :=
  ca_ret (ds := [.int .i64 (n)]) (ret_Check n) rfl (tab_opn (by kernel_rfl)) (tab_res (by kernel_rfl))
def pick (n many : Int) : Int := (if n < 0 then IntKind.i64.wrap (0 - IntKind.i64.wrap (n + 1)) else n).tmod many
theorem ret_picked (n many : Int) (h0 : many ≠ 0) : Ret tab 15 [.d (.int .i64 (n)), .d (.int .i64 (many))] (.d (.int .i64 (pick n many))) := by
  refine ret_of (1) fn15 rfl rfl ?_
  simp only [amx, seval, ty_Num_15, h0]
  repeat' ((first | refine good_ci (fun h => ?_) (fun h => ?_) | refine good_cgt (fun h => ?_) (fun h => ?_) | refine good_cgf (fun h => ?_) (fun h => ?_) | refine good_cqgt (fun h => ?_) (fun h => ?_) | refine good_cqgf (fun h => ?_) (fun h => ?_)) <;> simp only [amx, seval, ty_Num_15, h0, h])
  all_goals (first | (simp_all [pick]; done) | (unfold pick; rw [if_neg (by simp_all)]))
theorem ca_picked {d dst : Nat} {S : St} (n many : Int) (h0 : many ≠ 0) : callA tab (callR tab) d dst 15 [.d (.int .i64 (n)), .d (.int .i64 (many))] S = some (.d (.int .i64 (pick n many)), S) :=
  ca_ret (ds := [.int .i64 (n), .int .i64 (many)]) (ret_picked n many h0) rfl (tab_opn (by kernel_rfl)) (tab_res (by kernel_rfl))
/- Ranges of the numbers that the statements on numbers work with. -/
theorem pick_range (n many : Int) (h0 : -9223372036854775808 ≤ n) (h1 : n ≤ 9223372036854775807) (hm : 0 < many) : 0 ≤ pick n many ∧ pick n many < many := by
  unfold pick
  split
  · have e1 : IntKind.i64.wrap (n + 1) = n + 1 := by rw [IntKind.wrap_i64]; omega
    have e2 : IntKind.i64.wrap (0 - (n + 1)) = 0 - (n + 1) := by rw [IntKind.wrap_i64]; omega
    rw [e1, e2, Int.tmod_eq_emod_of_nonneg (by omega)]
    exact ⟨Int.emod_nonneg _ (by omega), Int.emod_lt_of_pos _ hm⟩
  · rw [Int.tmod_eq_emod_of_nonneg (by omega)]
    exact ⟨Int.emod_nonneg _ (by omega), Int.emod_lt_of_pos _ hm⟩
theorem chk_in {n : Int} (h0 : -1099511627776 ≤ n) (h1 : n ≤ 1099511627776) : chk n = 0 := by unfold chk; rw [if_neg (by omega)]
theorem wrap_in {n : Int} (h0 : -9223372036854775808 ≤ n) (h1 : n ≤ 9223372036854775807) : IntKind.i64.wrap n = n := by rw [IntKind.wrap_i64]; omega
/- The program's plain types. -/
abbrev Str := List UInt8
structure Val where
  kind : Int
  n : Int
  s : List UInt8
def Val.dv (p : Val) : DV := .agg [.int .i64 p.kind, .int .i64 p.n, .str p.s]
structure Token where
  kind : Int
  at_ : Int
  s : List UInt8
  v : Val
def Token.dv (p : Token) : DV := .agg [.int .i64 p.kind, .int .i64 p.at_, .str p.s, .int .i64 p.v.kind, .int .i64 p.v.n, .str p.v.s]
structure Timer where
  id : Int
  at_ : Int
def Timer.dv (p : Timer) : DV := .agg [.int .i64 p.id, .int .i64 p.at_]
structure Raw where
  kind : Int
  a : Int
  b : Int
  text : List UInt8
def Raw.dv (p : Raw) : DV := .agg [.int .i64 p.kind, .int .i64 p.a, .int .i64 p.b, .str p.text]
structure Fact where
  name : List UInt8
  key : Val
  has : Val
def Fact.dv (p : Fact) : DV := .agg [.str p.name, .int .i64 p.key.kind, .int .i64 p.key.n, .str p.key.s, .int .i64 p.has.kind, .int .i64 p.has.n, .str p.has.s]
structure Cal where
  state : Int
  id : Int
  tries : Int
  key : Val
  has : Val
  next : Int
def Cal.dv (p : Cal) : DV := .agg [.int .i64 p.state, .int .i64 p.id, .int .i64 p.tries, .int .i64 p.key.kind, .int .i64 p.key.n, .str p.key.s, .int .i64 p.has.kind, .int .i64 p.has.n, .str p.has.s, .int .i64 p.next]
structure Letter where
  field : List UInt8
  id : Int
  key : Val
  answer : Val
def Letter.dv (p : Letter) : DV := .agg [.str p.field, .int .i64 p.id, .int .i64 p.key.kind, .int .i64 p.key.n, .str p.key.s, .int .i64 p.answer.kind, .int .i64 p.answer.n, .str p.answer.s]
def Val.zero : Val := ⟨0, 0, []⟩
def Cal.zero : Cal := ⟨0, 0, 0, Val.zero, Val.zero, 0⟩
def Token.zero : Token := ⟨0, 0, [], Val.zero⟩
/- Lists of the library's, cloned and compared. -/

theorem allD_map : ∀ l : List DV, allD (l.map .d) = some l
  | [] => rfl
  | x :: r => by simp [allD, toDc, allD_map r]
theorem chop_flat (sz : Nat) : ∀ (xs : List DV), (∀ x ∈ xs, x.cells.length = sz ∧ (if sz = 1 then x.leaf = true else ∃ cs, x = .agg cs)) → chop sz xs.length (xs.flatMap DV.cells) = xs
  | [], _ => rfl
  | x :: r, h => by
    obtain ⟨h1, h2⟩ := h x (by simp)
    have ih := chop_flat sz r (fun y hy => h y (by simp [hy]))
    have ht : (x.cells ++ r.flatMap DV.cells).take sz = x.cells := by rw [← h1]; simp
    have hd : (x.cells ++ r.flatMap DV.cells).drop sz = r.flatMap DV.cells := by rw [← h1]; simp
    simp only [List.length_cons, chop, List.flatMap_cons, ht, hd, ih]
    by_cases hs : sz = 1
    · rw [if_pos hs] at h2 ⊢
      rw [dcells_leaf h2]
      rfl
    · rw [if_neg hs] at h2 ⊢
      obtain ⟨cs, rfl⟩ := h2
      rfl
theorem flatD_append (xs ys : List DV) : flatD (xs ++ ys) = flatD xs ++ flatD ys := by simp [flatD]
def Elt (sz : Nat) (x : DV) : Prop := x.cells.length = sz ∧ (if sz = 1 then x.leaf = true else ∃ cs, x = .agg cs)
theorem flatD_len {sz : Nat} : ∀ (xs : List DV), (∀ x ∈ xs, Elt sz x) → (flatD xs).length = xs.length * sz
  | [], _ => by simp [flatD]
  | x :: r, h => by
    have ih := flatD_len r fun y hy => h y (by simp [hy])
    have h1 := (h x (by simp)).1
    simp only [flatD, List.flatMap_cons, List.map_append, List.length_append, List.length_map] at ih ⊢
    rw [ih, h1, List.length_cons, Nat.add_mul]
    omega
theorem frz_list {H : Heap} {id : Id} {sz n : Nat} {xs : List DV} {rest : List AV} (hg : H.get id = some (.box (flatD xs ++ rest))) (hn : n = xs.length) (hs : 0 < sz) (hx : ∀ x ∈ xs, Elt sz x) :
    frzB H (.arr id 0 n sz) = .d (.sl sz xs) := by
  subst hn
  have hl := flatD_len xs hx
  have hl2 : (xs.flatMap DV.cells).length = xs.length * sz := by simpa [flatD] using hl
  show frzV H (.arr id 0 xs.length sz) = _
  unfold frzV
  simp only [hg, List.drop_zero]
  rw [← hl, List.take_left, hl]
  unfold flatD
  simp only [allD_map, hl2, hs, and_self, if_true]
  rw [chop_flat sz xs hx]
theorem frz_list0 {H : Heap} {id : Id} {sz n : Nat} {xs : List DV} (hg : H.get id = some (.box (flatD xs))) (hn : n = xs.length) (hs : 0 < sz) (hx : ∀ x ∈ xs, Elt sz x) :
    frzB H (.arr id 0 n sz) = .d (.sl sz xs) := frz_list (rest := []) (by simpa using hg) hn hs hx
theorem ids_flat (xs : List DV) : idsL (flatD xs) = [] := by
  unfold flatD
  generalize xs.flatMap DV.cells = l
  induction l with
  | nil => rfl
  | cons x r ih => simp only [List.map_cons, idsL, List.flatMap_cons] at ih ⊢; rw [ih]; rfl
/- Values: made of raw things, checked, compared. -/
theorem ty_Val_111 : type_of% (ai (ai (ai @rs111 @lw111) (ai @mu9_13 @kp111_3)) (ai (ai @tt3 @tt5) (ai @tt9 @tt73))) := (ai (ai (ai @rs111 @lw111) (ai @mu9_13 @kp111_3)) (ai (ai @tt3 @tt5) (ai @tt9 @tt73)))
theorem ty_Val_95 : type_of% (ai (ai (ai @rs95 @lw95) (ai @ro69_3_raw_go_53 @tt1)) (ai (ai @tt3 @tt4) (ai @tt9 (ai @tt33 @tt69)))) := (ai (ai (ai @rs95 @lw95) (ai @ro69_3_raw_go_53 @tt1)) (ai (ai @tt3 @tt4) (ai @tt9 (ai @tt33 @tt69))))
theorem ty_Val_122 : type_of% (ai (ai (ai @rs122 @lw122) (ai @kp122_4 @tt3)) (ai (ai @tt4 @tt5) (ai @tt9 @tt28))) := (ai (ai (ai @rs122 @lw122) (ai @kp122_4 @tt3)) (ai (ai @tt4 @tt5) (ai @tt9 @tt28)))
theorem ty_Val_114 : type_of% (ai (ai (ai @rs114 @lw114) (ai @ro33_1_value_go_14 (ai @tt1 @tt2))) (ai (ai @tt3 @tt4) (ai @tt9 (ai @tt28 @tt33)))) := (ai (ai (ai @rs114 @lw114) (ai @ro33_1_value_go_14 (ai @tt1 @tt2))) (ai (ai @tt3 @tt4) (ai @tt9 (ai @tt28 @tt33))))
theorem ty_Val_99 : type_of% (ai (ai (ai @rs99 @lw99) (ai @ro33_1_value_go_68 @tt3)) (ai (ai @tt4 @tt9) (ai @tt28 @tt33))) := (ai (ai (ai @rs99 @lw99) (ai @ro33_1_value_go_68 @tt3)) (ai (ai @tt4 @tt9) (ai @tt28 @tt33)))

structure Raw.ok (r : Raw) : Prop where
  kind : -9223372036854775808 ≤ r.kind ∧ r.kind ≤ 9223372036854775807
  a : -9223372036854775808 ≤ r.a ∧ r.a ≤ 9223372036854775807
  b : -9223372036854775808 ≤ r.b ∧ r.b ≤ 9223372036854775807
  text : r.text.length ≤ 9223372036854775807
def cl (c : UInt8) : UInt8 := UInt8.ofNat (32 + c.toNat % 95)
theorem cl_val (c : UInt8) : ((cl c).toNat : Int) = 32 + (c.toNat : Int) % 95 := by
  unfold cl
  rw [UInt8.toNat_ofNat']
  omega
theorem cl_wrap (c : UInt8) : IntKind.u8.wrap (32 + (c.toNat : Int).tmod 95) = ((cl c).toNat : Int) := by
  rw [cl_val, Int.tmod_eq_emod_of_nonneg (by omega), IntKind.wrap_u8]
  omega
def cleanS (s : Str) (m : Nat) : Str := (s.take m).map cl
theorem bytes_head (u : Str) (i : Nat) (h : i < u.length) : (List.drop i (bytesAV u)).head? = some (.d (.int .u8 (u[i].toNat : Int))) := by
  rw [List.head?_drop]
  simp [bytesAV, h]
theorem bytes_set (u : Str) (i : Nat) (c : UInt8) (h : i < u.length) : List.take i (bytesAV u) ++ [.d (.int .u8 (c.toNat : Int))] ++ List.drop (i + 1) (bytesAV u) = bytesAV (u.set i c) := by
  unfold bytesAV
  rw [← List.map_take, ← List.map_drop, List.set_eq_take_append_cons_drop, if_pos h]
  simp
theorem ret_clean (s : Str) (m : Nat) (hs : s.length ≤ 9223372036854775807) (hm : m ≤ 1000) : Ret tab 111 [.d (.str (s)), .d (.int .i64 (m))] (.d (.str (cleanS s m))) := by
  refine ret_of (1002) fn111 rfl rfl ?_
  have hmin : (if (m : Int) < (s.length : Int) then (m : Int) else (s.length : Int)) = ((min m s.length : Nat) : Int) := by
    split <;> omega
  have hm1 : ((min m s.length : Nat) : Int) ≤ (s.length : Int) := by omega
  have htl : (s.take (min m s.length)).length = min m s.length := by rw [List.length_take]; omega
  have hcond : (s.take (min m s.length)).length ≤ 9223372036854775807 := by rw [htl]; omega
  have ht : s.take (min m s.length) = s.take m := by
    rcases Nat.le_total m s.length with h | h
    · rw [Nat.min_eq_left h]
    · rw [Nat.min_eq_right h, List.take_length, List.take_of_length_le h]
  simp only [amx, seval, ty_Val_111, hmin, hm1, hcond]
  unfold cleanS
  rw [← ht]
  rw [htl]
  have hlen1000 : min m s.length ≤ 1000 := by omega
  generalize hq : s.take (min m s.length) = t at *
  clear ht hq
  generalize min m s.length = q at *
  subst htl
  refine good_loopR (α := Nat) (fun i => i ≤ t.length) (fun i => ⟨[(5, .arr ⟨0, 14, [0]⟩ 0 t.length 1), (15, .arr ⟨0, 14, [0]⟩ 0 t.length 1), (16, .d (.int .i64 t.length)), (17, .d (.int .i64 i))], [(⟨0, 14, [0]⟩, .box (bytesAV ((t.take i).map cl ++ t.drop i)))], [1]⟩) (fun i => t.length - i)
    (fun _ => EX (.exit 0) ⟨[(5, .arr ⟨0, 14, [0]⟩ 0 t.length 1)], [(⟨0, 14, [0]⟩, .box (bytesAV (t.map cl)))], [1]⟩) 0 kp111_3 (fun _ => up_ex) (Nat.zero_le _) (by omega) ?_ ?_ ?_
  · intro i hi
    have hi' : i ≤ t.length := hi
    by_cases h1 : i < t.length
    · have hb : decide ((i : Int) < (t.length : Int)) = true := decide_eq_true (by omega)
      have hlt : (i : Int) < (t.length : Int) := by omega
      have w1 : IntKind.i64.wrap ((i : Int) + 1) = (i : Int) + 1 := wrap_in (by omega) (by omega)
      have hul : ((t.take i).map cl ++ t.drop i).length = t.length := by simp; omega
      have hu : i < ((t.take i).map cl ++ t.drop i).length := by omega
      have hui : ((t.take i).map cl ++ t.drop i)[i] = t[i] := by
        rw [List.getElem_append_right (by simp; omega)]
        simp
        congr 1
        omega
      have hset : ((t.take i).map cl ++ t.drop i).set i (cl t[i]) = (t.take (i + 1)).map cl ++ t.drop (i + 1) := by
        rw [List.set_append_right _ _ (by simp; omega)]
        have e1 : i - (List.map cl (List.take i t)).length = 0 := by simp; omega
        rw [e1, List.drop_eq_getElem_cons h1, List.set_cons_zero, List.take_succ_eq_append_getElem h1, List.map_append]
        simp
      have f1 := bytes_head _ i hu
      rw [hui] at f1
      have f2 := bytes_set ((t.take i).map cl ++ t.drop i) i (cl t[i]) hu
      rw [hset] at f2
      have f3 : i + 1 ≤ (bytesAV ((t.take i).map cl ++ t.drop i)).length := by simp only [bytesAV, List.length_map]; omega
      generalize bytesAV ((t.take i).map cl ++ t.drop i) = U at *
      simp only [amx, seval, ty_Val_111, hb, hlt, w1, Nat.mul_one, f1, f2, f3, cl_wrap]
      refine loop_nrm (i + 1) (show i + 1 ≤ t.length by omega) (show t.length - (i + 1) < t.length - i by omega) (fun _ _ h => h) ?_
      (first | exact sub_mk subT_nil | skip) <;> (try simp only [amx, seval]) <;> exact sub_mk (by repeat first | exact subT_nil | refine subT_cons (by first | rfl | simp [Tm.get, *]) ?_)
    · have hb : decide ((i : Int) < (t.length : Int)) = false := decide_eq_false (by omega)
      have hit : i = t.length := by omega
      simp only [amx, seval, ty_Val_111, hb]
      refine loop_end (by simp) ⟨rfl, ?_⟩
      rw [hit, List.take_length, List.drop_length, List.append_nil]
      (first | exact sub_mk subT_nil | skip) <;> (try simp only [amx, seval]) <;> exact sub_mk (by repeat first | exact subT_nil | refine subT_cons (by first | rfl | simp [Tm.get, *]) ?_)
  · simp only [List.take_zero, List.map_nil, List.nil_append, List.drop_zero]
    (first | exact sub_mk subT_nil | skip) <;> (try simp only [amx, seval]) <;> exact sub_mk (by repeat first | exact subT_nil | refine subT_cons (by first | rfl | simp [Tm.get, *]) ?_)
  · rintro o S' ⟨rfl, hs'⟩
    refine good_sub_cr up_fin hs' ?_
    have g1 : 0 + t.length ≤ (bytesAV (t.map cl)).length := by simp [bytesAV]
    have g2 : plainD ((bytesAV (t.map cl)).take t.length) = some ((t.map cl).map fun b => DV.int .u8 (b.toNat : Int)) := by
      rw [List.take_of_length_le (by simp [bytesAV]), bytesAV_eq, plainD_map]
    have g3 := strD_bytes (t.map cl)
    simp only [Nat.zero_add] at g1
    generalize t.map cl = V at *
    simp only [amx, seval, ty_Val_111, g1, g2, g3]
    repeat' ((first | refine good_ci (fun h => ?_) (fun h => ?_) | refine good_cgt (fun h => ?_) (fun h => ?_) | refine good_cgf (fun h => ?_) (fun h => ?_) | refine good_cqgt (fun h => ?_) (fun h => ?_) | refine good_cqgf (fun h => ?_) (fun h => ?_)) <;> simp only [amx, seval, ty_Val_111, g1, g2, g3, h])
theorem ca_clean {d dst : Nat} {S : St} (s : Str) (m : Nat) (hs : s.length ≤ 9223372036854775807) (hm : m ≤ 1000) : callA tab (callR tab) d dst 111 [.d (.str (s)), .d (.int .i64 (m))] S = some (.d (.str (cleanS s m)), S) :=
  ca_ret (ds := [.str (s), .int .i64 (m)]) (ret_clean s m hs hm) rfl (tab_opn (by kernel_rfl)) (tab_res (by kernel_rfl))
def mkVal (k : Int) (r : Raw) : Val := if k = 1 then (if pick r.kind 7 = 0 then ⟨1, IntKind.i64.wrap (pick r.a 2199023255553 - 1099511627776), []⟩ else ⟨1, IntKind.i64.wrap (pick r.a 40 - 12), []⟩)
  else if k = 2 then ⟨2, pick r.a 2, []⟩ else ⟨3, 0, cleanS r.text 8⟩
theorem ret_Value (k : Int) (r : Raw) (hr : r.text.length ≤ 9223372036854775807) : Ret tab 95 [.d (.int .i64 (k)), .d (r.dv)] (.d ((mkVal k r).dv)) := by
  have hcl : ∀ {S : St} {d dst : Nat}, callA tab (callR tab) d dst 111 [.d (.str r.text), .d (.int .i64 8)] S = some (.d (.str (cleanS r.text 8)), S) := fun {S d dst} => ca_clean r.text 8 hr (by decide)
  refine ret_of (1) fn95 rfl rfl ?_
  simp only [amx, seval, ty_Val_95, Raw.dv, Val.dv, hcl, ca_picked r.kind 7 (by decide), ca_picked r.a 2199023255553 (by decide), ca_picked r.a 40 (by decide), ca_picked r.a 2 (by decide)]
  repeat' ((first | refine good_ci (fun h => ?_) (fun h => ?_) | refine good_cgt (fun h => ?_) (fun h => ?_) | refine good_cgf (fun h => ?_) (fun h => ?_) | refine good_cqgt (fun h => ?_) (fun h => ?_) | refine good_cqgf (fun h => ?_) (fun h => ?_)) <;> simp only [amx, seval, ty_Val_95, Raw.dv, Val.dv, hcl, ca_picked r.kind 7 (by decide), ca_picked r.a 2199023255553 (by decide), ca_picked r.a 40 (by decide), ca_picked r.a 2 (by decide), h])
  all_goals (simp_all [mkVal])
theorem cf_Value {d dst : Nat} {S : St} (k : Int) (r : Raw) (hr : r.text.length ≤ 9223372036854775807) : callA tab (callR tab) d dst 95 [.d (.int .i64 (k)), .d (r.dv)] S = some (.d ((mkVal k r).dv), S) :=
  ca_ret (ds := [.int .i64 (k), r.dv]) (ret_Value k r hr) rfl (tab_opn (by kernel_rfl)) (tab_res (by kernel_rfl))
def txtChk (s : Str) : Int := if (s.length : Int) > 40 then 1 else if s.all (fun c => !(decide ((c.toNat : Int) < 32) || decide ((c.toNat : Int) > 126))) = true then 0 else 3
theorem ret_checkText (s : Str) : Ret tab 122 [.d (.str (s))] (.d (.int .i64 (txtChk s))) := by
  refine ret_of (42) fn122 rfl rfl ?_
  by_cases h40 : (s.length : Int) > 40
  · have b1 : decide ((40 : Int) < (s.length : Int)) = true := decide_eq_true h40
    simp only [amx, seval, ty_Val_122, b1]
    repeat' ((first | refine good_ci (fun h => ?_) (fun h => ?_) | refine good_cgt (fun h => ?_) (fun h => ?_) | refine good_cgf (fun h => ?_) (fun h => ?_) | refine good_cqgt (fun h => ?_) (fun h => ?_) | refine good_cqgf (fun h => ?_) (fun h => ?_)) <;> simp only [amx, seval, ty_Val_122, b1, h])
    all_goals simp_all [txtChk]
  · have b1 : decide ((40 : Int) < (s.length : Int)) = false := decide_eq_false h40
    simp only [amx, seval, ty_Val_122, b1]
    have hc : txtChk s = if s.all (fun c => !(decide ((c.toNat : Int) < 32) || decide ((c.toNat : Int) > 126))) = true then 0 else 3 := by unfold txtChk; rw [if_neg h40]
    refine good_loopR (α := Nat) (fun i => i ≤ s.length ∧ s.all (fun c => !(decide ((c.toNat : Int) < 32) || decide ((c.toNat : Int) > 126))) = (s.drop i).all (fun c => !(decide ((c.toNat : Int) < 32) || decide ((c.toNat : Int) > 126))))
      (fun i => ⟨[(0, .d (.str s)), (8, .d (.int .i64 s.length)), (9, .d (.int .i64 i))], [], []⟩) (fun i => s.length - i)
      (fun _ o S => (txtChk s = 3 ∧ EX .ret ⟨[(2, .d (.int .i64 3))], [], []⟩ o S) ∨ (txtChk s = 0 ∧ EX (.exit 0) ⟨[], [], []⟩ o S)) 0 kp122_4 (fun _ => up_or (up_and up_ex) (up_and up_ex)) ⟨Nat.zero_le _, rfl⟩ (show s.length - 0 < 42 by omega) ?_ ?_ ?_
    · rintro i ⟨hi, heq⟩
      by_cases h1 : i < s.length
      · have hb : decide ((i : Int) < (s.length : Int)) = true := decide_eq_true (by omega)
        have hget : s[i]? = some s[i] := List.getElem?_eq_getElem h1
        have hd : s.drop i = s[i] :: s.drop (i + 1) := List.drop_eq_getElem_cons h1
        have w1 : IntKind.i64.wrap ((i : Int) + 1) = (i : Int) + 1 := wrap_in (by omega) (by omega)
        rw [hd, List.all_cons] at heq
        cases c1 : decide ((s[i].toNat : Int) < 32) with
        | true =>
          rw [c1] at heq
          simp only [amx, seval, ty_Val_122, hb, hget, c1]
          refine loop_end (by simp) (.inl ⟨by rw [hc, heq]; rfl, rfl, ?_⟩)
          (first | exact sub_mk subT_nil | skip) <;> (try simp only [amx, seval]) <;> exact sub_mk (by repeat first | exact subT_nil | refine subT_cons (by first | rfl | simp [Tm.get, *]) ?_)
        | false =>
          cases c2 : decide ((126 : Int) < (s[i].toNat : Int)) with
          | true =>
            have c2' : decide ((s[i].toNat : Int) > 126) = true := c2
            rw [c1, c2'] at heq
            simp only [amx, seval, ty_Val_122, hb, hget, c1, c2]
            refine loop_end (by simp) (.inl ⟨by rw [hc, heq]; rfl, rfl, ?_⟩)
            (first | exact sub_mk subT_nil | skip) <;> (try simp only [amx, seval]) <;> exact sub_mk (by repeat first | exact subT_nil | refine subT_cons (by first | rfl | simp [Tm.get, *]) ?_)
          | false =>
            have c2' : decide ((s[i].toNat : Int) > 126) = false := c2
            rw [c1, c2'] at heq
            simp only [Bool.or_self, Bool.not_false, Bool.true_and] at heq
            simp only [amx, seval, ty_Val_122, hb, hget, c1, c2, w1]
            refine loop_nrm (i + 1) ⟨by omega, heq⟩ (show s.length - (i + 1) < s.length - i by omega) (fun _ _ h => h) ?_
            (first | exact sub_mk subT_nil | skip) <;> (try simp only [amx, seval]) <;> exact sub_mk (by repeat first | exact subT_nil | refine subT_cons (by first | rfl | simp [Tm.get, *]) ?_)
      · have hb : decide ((i : Int) < (s.length : Int)) = false := decide_eq_false (by omega)
        have hdn : s.drop i = [] := List.drop_eq_nil_of_le (by omega)
        rw [hdn, List.all_nil] at heq
        simp only [amx, seval, ty_Val_122, hb]
        refine loop_end (by simp) (.inr ⟨by rw [hc, heq]; rfl, rfl, ?_⟩)
        (first | exact sub_mk subT_nil | skip) <;> (try simp only [amx, seval]) <;> exact sub_mk (by repeat first | exact subT_nil | refine subT_cons (by first | rfl | simp [Tm.get, *]) ?_)
    · (first | exact sub_mk subT_nil | skip) <;> (try simp only [amx, seval]) <;> exact sub_mk (by repeat first | exact subT_nil | refine subT_cons (by first | rfl | simp [Tm.get, *]) ?_)
    · rintro o S' (⟨hv, rfl, hs⟩ | ⟨hv, rfl, hs⟩)
      · refine good_sub_cr up_fin hs ?_
        rw [hv]
        simp only [amx, seval, ty_Val_122]
        repeat' ((first | refine good_ci (fun h => ?_) (fun h => ?_) | refine good_cgt (fun h => ?_) (fun h => ?_) | refine good_cgf (fun h => ?_) (fun h => ?_) | refine good_cqgt (fun h => ?_) (fun h => ?_) | refine good_cqgf (fun h => ?_) (fun h => ?_)) <;> simp only [amx, seval, ty_Val_122, h])
      · refine good_sub_cr up_fin hs ?_
        rw [hv]
        simp only [amx, seval, ty_Val_122]
        repeat' ((first | refine good_ci (fun h => ?_) (fun h => ?_) | refine good_cgt (fun h => ?_) (fun h => ?_) | refine good_cgf (fun h => ?_) (fun h => ?_) | refine good_cqgt (fun h => ?_) (fun h => ?_) | refine good_cqgf (fun h => ?_) (fun h => ?_)) <;> simp only [amx, seval, ty_Val_122, h])
theorem ca_checkText {d dst : Nat} {S : St} (s : Str) : callA tab (callR tab) d dst 122 [.d (.str (s))] S = some (.d (.int .i64 (txtChk s)), S) :=
  ca_ret (ds := [.str (s)]) (ret_checkText s) rfl (tab_opn (by kernel_rfl)) (tab_res (by kernel_rfl))
def valTail (v : Val) : Int := if (v.s == []) = true then 0 else 3
def valChk (v : Val) : Int := if v.kind = 1 then (if chk v.n = 0 then valTail v else chk v.n) else if v.kind = 2 then (if v.n = 0 ∨ v.n = 1 then valTail v else 4) else if v.kind = 3 then (if v.n = 0 then txtChk v.s else 4)
  else if v.kind = 4 then (if v.n = 0 then valTail v else 4) else if v.kind = 5 then (if v.n < 1 ∨ v.n > 15 then 4 else valTail v) else 2
theorem ret_VCheck (v : Val) : Ret tab 114 [.d (v.dv)] (.d (.int .i64 (valChk v))) := by
  refine ret_of (1) fn114 rfl rfl ?_
  simp only [amx, seval, ty_Val_114, Val.dv, ca_Check, ca_checkText]
  repeat' ((first | refine good_ci (fun h => ?_) (fun h => ?_) | refine good_cgt (fun h => ?_) (fun h => ?_) | refine good_cgf (fun h => ?_) (fun h => ?_) | refine good_cqgt (fun h => ?_) (fun h => ?_) | refine good_cqgf (fun h => ?_) (fun h => ?_)) <;> simp only [amx, seval, ty_Val_114, Val.dv, ca_Check, ca_checkText, h])
  all_goals (simp_all [valChk, valTail])
theorem ca_VCheck {d dst : Nat} {S : St} (v_kind : Int) (v_n : Int) (v_s : List UInt8) : callA tab (callR tab) d dst 114 [.d (.agg [.int .i64 v_kind, .int .i64 v_n, .str v_s])] S = some (.d (.int .i64 (valChk (Val.mk v_kind v_n v_s))), S) :=
  ca_ret (ds := [.agg [.int .i64 v_kind, .int .i64 v_n, .str v_s]]) (ret_VCheck (Val.mk v_kind v_n v_s)) rfl (tab_opn (by kernel_rfl)) (tab_res (by kernel_rfl))
def valKnown (v : Val) : Bool := decide (v.kind ≥ 1) && decide (v.kind ≤ 3) && (valChk v == 0)
theorem ret_Known (v : Val) : Ret tab 99 [.d (v.dv)] (.d (.bool (valKnown v))) := by
  refine ret_of (1) fn99 rfl rfl ?_
  simp only [amx, seval, ty_Val_99, Val.dv, ca_VCheck v.kind v.n v.s]
  repeat' ((first | refine good_ci (fun h => ?_) (fun h => ?_) | refine good_cgt (fun h => ?_) (fun h => ?_) | refine good_cgf (fun h => ?_) (fun h => ?_) | refine good_cqgt (fun h => ?_) (fun h => ?_) | refine good_cqgf (fun h => ?_) (fun h => ?_)) <;> simp only [amx, seval, ty_Val_99, Val.dv, ca_VCheck v.kind v.n v.s, h])
  all_goals (first | (simp_all [valKnown]; done) | (simp_all [valKnown]; omega))
theorem ca_Known {d dst : Nat} {S : St} (v_kind : Int) (v_n : Int) (v_s : List UInt8) : callA tab (callR tab) d dst 99 [.d (.agg [.int .i64 v_kind, .int .i64 v_n, .str v_s])] S = some (.d (.bool (valKnown (Val.mk v_kind v_n v_s))), S) :=
  ca_ret (ds := [.agg [.int .i64 v_kind, .int .i64 v_n, .str v_s]]) (ret_Known (Val.mk v_kind v_n v_s)) rfl (tab_opn (by kernel_rfl)) (tab_res (by kernel_rfl))
/- Facts of values made of raw things. -/

theorem clean_all (s : Str) (m : Nat) : (cleanS s m).all (fun c => !(decide ((c.toNat : Int) < 32) || decide ((c.toNat : Int) > 126))) = true := by
  rw [List.all_eq_true]
  intro c hc
  simp only [cleanS, List.mem_map] at hc
  obtain ⟨x, _, rfl⟩ := hc
  have := cl_val x
  simp only [Bool.not_eq_true', Bool.or_eq_false_iff, decide_eq_false_iff_not]
  omega
theorem clean_len (s : Str) (m : Nat) : (cleanS s m).length ≤ m := by simp [cleanS]; omega
theorem mkVal_kind (k : Int) (r : Raw) (hk : k = 1 ∨ k = 2 ∨ k = 3) : (mkVal k r).kind = k := by
  unfold mkVal
  rcases hk with rfl | rfl | rfl <;> simp
  split <;> rfl
theorem mkVal_known (k : Int) (r : Raw) (hr : r.ok) (hk : k = 1 ∨ k = 2 ∨ k = 3) : valKnown (mkVal k r) = true := by
  have h1 := pick_range r.a 2199023255553 hr.a.1 hr.a.2 (by decide)
  have h2 := pick_range r.a 40 hr.a.1 hr.a.2 (by decide)
  have h3 := pick_range r.a 2 hr.a.1 hr.a.2 (by decide)
  have w1 : IntKind.i64.wrap (pick r.a 2199023255553 - 1099511627776) = pick r.a 2199023255553 - 1099511627776 := wrap_in (by omega) (by omega)
  have w2 : IntKind.i64.wrap (pick r.a 40 - 12) = pick r.a 40 - 12 := wrap_in (by omega) (by omega)
  rcases hk with rfl | rfl | rfl
  · unfold mkVal
    rw [if_pos rfl, w1, w2]
    split
    · have : chk (pick r.a 2199023255553 - 1099511627776) = 0 := chk_in (by omega) (by omega)
      simp [valKnown, valChk, this, valTail]
    · have : chk (pick r.a 40 - 12) = 0 := chk_in (by omega) (by omega)
      simp [valKnown, valChk, this, valTail]
  · unfold mkVal
    have : pick r.a 2 = 0 ∨ pick r.a 2 = 1 := by omega
    simp [valKnown, valChk, valTail, this]
  · unfold mkVal
    have ht : txtChk (cleanS r.text 8) = 0 := by
      unfold txtChk
      rw [if_neg (by have := clean_len r.text 8; omega), if_pos (clean_all _ _)]
    simp [valKnown, valChk, ht]
theorem known_num {v : Val} (h : valKnown v = true) (hk : v.kind = 1) : -1099511627776 ≤ v.n ∧ v.n ≤ 1099511627776 := by
  simp only [valKnown, Bool.and_eq_true, decide_eq_true_eq, beq_iff_eq] at h
  have h2 := h.2
  unfold valChk at h2
  rw [if_pos hk] at h2
  split at h2
  · rename_i h0
    unfold chk at h0
    split at h0
    · simp at h0
    · omega
  · rename_i h0; exact absurd h2 h0
/- Raw things one by one: gen.next, walked; formulas as data. -/
theorem ty_GenA_31 : type_of% (ai (ai (ai @rs31 (ai @lw31 @dr31_3)) (ai @dr31_4 (ai @tt1 @tt3))) (ai (ai @tt4 (ai @tt9 @tt22)) (ai @tt65 (ai @tt67 @tt69)))) := (ai (ai (ai @rs31 (ai @lw31 @dr31_3)) (ai @dr31_4 (ai @tt1 @tt3))) (ai (ai @tt4 (ai @tt9 @tt22)) (ai @tt65 (ai @tt67 @tt69))))


inductive Exp where
  | mk (op : Int) (v : Val) (name : List UInt8) (args : List Exp)
def Exp.op : Exp → Int | .mk o _ _ _ => o
def Exp.v : Exp → Val | .mk _ v _ _ => v
def Exp.name : Exp → List UInt8 | .mk _ _ n _ => n
def Exp.args : Exp → List Exp | .mk _ _ _ a => a
mutual
def Exp.dv : Exp → DV
  | .mk op v name args => .agg [.int .i64 op, .int .i64 v.kind, .int .i64 v.n, .str v.s, .str name, .sl 6 (Exp.dvs args)]
def Exp.dvs : List Exp → List DV
  | [] => []
  | x :: r => x.dv :: Exp.dvs r
end
theorem Exp.dvs_map : ∀ (l : List Exp), Exp.dvs l = l.map Exp.dv
  | [] => by simp [Exp.dvs]
  | x :: r => by simp [Exp.dvs, Exp.dvs_map r]
theorem Exp.dv_mk {op : Int} {v : Val} {name : List UInt8} {args : List Exp} : (Exp.mk op v name args).dv = .agg [.int .i64 op, .int .i64 v.kind, .int .i64 v.n, .str v.s, .str name, .sl 6 (args.map Exp.dv)] := by rw [Exp.dv, Exp.dvs_map]
theorem Exp.dv_eq (x : Exp) : x.dv = .agg [.int .i64 x.op, .int .i64 x.v.kind, .int .i64 x.v.n, .str x.v.s, .str x.name, .sl 6 (x.args.map Exp.dv)] := by cases x; exact Exp.dv_mk
theorem sfx_f1 {n x a b : Nat} {g : List Nat} : (List.drop n [x] = a :: b :: g) = False := by
  refine eq_false fun h => ?_
  have := congrArg List.length h
  simp only [List.length_drop, List.length_cons, List.length_nil] at this
  omega
theorem sfx_f2 {n x a b : Nat} {g : List Nat} : (List.drop n (x :: g) = a :: b :: g) = False := by
  refine eq_false fun h => ?_
  have := congrArg List.length h
  simp only [List.length_drop, List.length_cons] at this
  omega
theorem drop_suf {g q : List Nat} {n : Nat} (h : List.drop n g = q) : q <:+ g := h ▸ List.drop_suffix n g
theorem apart_cons {a : Nat} {p g : List Nat} (h : ¬ p <:+ g) : ¬ (a :: p) <:+ g := fun k => h ((List.suffix_cons a p).trans k)
theorem sfx_f4 {p g : List Nat} (h : ¬ p <:+ g) {n a b : Nat} : (List.drop n g = a :: b :: p) = False := eq_false fun k => apart_cons (apart_cons h) (drop_suf k)
theorem sfx_f5 {p g : List Nat} (h : ¬ p <:+ g) {n a b c : Nat} : (List.drop n g = a :: b :: c :: p) = False := eq_false fun k => apart_cons (apart_cons (apart_cons h)) (drop_suf k)
theorem sfx_f6 {p g : List Nat} (h : ¬ p <:+ g) {n a b c e : Nat} : (List.drop n g = a :: b :: c :: e :: p) = False := eq_false fun k => apart_cons (apart_cons (apart_cons (apart_cons h))) (drop_suf k)
def gnext (l : List Raw) (k : Nat) : Raw := match l[k % l.length]? with
  | some r => { r with a := IntKind.i64.wrap (r.a + (k / l.length : Nat)) }
  | none => ⟨0, 0, 0, []⟩
def gat (l : List Raw) (k : Nat) : Nat := if l.length = 0 then k else k + 1
def gbox (l : List Raw) (k : Nat) : Place := .box [.d (.sl 4 (l.map Raw.dv)), .d (.int .i64 k)]
theorem ret_next {d : Nat} {p : List Nat} (d0 t0 : Nat) (g0 : List Nat) (h : d0 < d) (hg0 : ¬ p <:+ g0) (l : List Raw) (k : Nat) (hk : k ≤ 4611686018427387904) (hl : l.length ≤ 9223372036854775807) :
    ∃ H', callR tab d 31 [.ptr ⟨d0, t0, g0⟩ 0] [(⟨d0, t0, g0⟩, gbox l k)] p = some (.d (gnext l k).dv, H') ∧ H'.get ⟨d0, t0, g0⟩ = some (gbox l (gat l k)) := by
  have e1 : (d0 = d) = False := eq_false (by omega)
  have e2 : (d = d0) = False := eq_false (by omega)
  refine ret_good rfl 1 fn31 rfl rfl ?_
  by_cases h0 : l.length = 0
  · have b0 : ((l.length : Int) == 0) = true := by rw [h0]; rfl
    have hn : gnext l k = ⟨0, 0, 0, []⟩ := by
      have : l = [] := List.eq_nil_of_length_eq_zero h0
      subst this
      rfl
    have hg : gat l k = k := by unfold gat; rw [if_pos h0]
    rw [hn, hg]
    simp only [amx, seval, ty_GenA_31, gbox, Raw.dv, b0, e1, e2]
  · have b0 : ((l.length : Int) == 0) = false := beq_eq_false_iff_ne.2 (by omega)
    have hlt : k % l.length < l.length := Nat.mod_lt _ (by omega)
    have hget : (l.map Raw.dv)[k % l.length]? = some (Raw.dv l[k % l.length]) := by rw [List.getElem?_map, List.getElem?_eq_getElem hlt]; rfl
    have hn : gnext l k = { l[k % l.length] with a := IntKind.i64.wrap (l[k % l.length].a + (k / l.length : Nat)) } := by
      unfold gnext
      rw [List.getElem?_eq_getElem hlt]
    have hg : gat l k = k + 1 := by unfold gat; rw [if_neg h0]
    rw [hn, hg]
    generalize l[k % l.length] = r at *
    have hl0 : ((l.length : Int) = 0) = False := eq_false (by omega)
    have ht : (k : Int).tmod (l.length : Int) = ((k % l.length : Nat) : Int) := rfl
    have hd : (k : Int).tdiv (l.length : Int) = ((k / l.length : Nat) : Int) := rfl
    have hdk : k / l.length ≤ k := Nat.div_le_self _ _
    have w1 : IntKind.i64.wrap ((k / l.length : Nat) : Int) = ((k / l.length : Nat) : Int) := by generalize k / l.length = q at *; exact wrap_in (by omega) (by omega)
    have w2 : IntKind.i64.wrap ((k : Int) + 1) = ((k + 1 : Nat) : Int) := by rw [wrap_in (by omega) (by omega)]; rfl
    simp only [amx, seval, ty_GenA_31, gbox, Raw.dv, b0, e1, e2, sfx_f1, sfx_f2, hl0, ht, hd, w1, w2, hget, sfx_f4 hg0]
theorem suf1 {p g : List Nat} (h : ¬ p <:+ g) (a : Nat) : ((a :: p) <:+ g) = False := eq_false (apart_cons h)
theorem suf2 {p g : List Nat} (h : ¬ p <:+ g) (a b : Nat) : ((a :: b :: p) <:+ g) = False := eq_false (apart_cons (apart_cons h))
theorem suf3 {p g : List Nat} (h : ¬ p <:+ g) (a b c : Nat) : ((a :: b :: c :: p) <:+ g) = False := eq_false (apart_cons (apart_cons (apart_cons h)))
theorem suf4 {p g : List Nat} (h : ¬ p <:+ g) (a b c e : Nat) : ((a :: b :: c :: e :: p) <:+ g) = False := eq_false (apart_cons (apart_cons (apart_cons (apart_cons h))))
theorem suf5 {p g : List Nat} (h : ¬ p <:+ g) (a b c e f : Nat) : ((a :: b :: c :: e :: f :: p) <:+ g) = False := eq_false (apart_cons (apart_cons (apart_cons (apart_cons (apart_cons h)))))
theorem suf6 {p g : List Nat} (h : ¬ p <:+ g) (a b c e f i : Nat) : ((a :: b :: c :: e :: f :: i :: p) <:+ g) = False := eq_false (apart_cons (apart_cons (apart_cons (apart_cons (apart_cons (apart_cons h))))))
theorem soft_d {T : Tab} {f : Nat} {y : DV} : soft T f (.d y) = .d y := by
  unfold soft
  split <;> rfl
theorem soft_agg {f : Nat} {cs : List AV} {y : DV} (h : tab.res f = none) (h2 : toD (.agg cs) = some y) : soft tab f (.agg cs) = .d y := by
  unfold soft
  rw [h]
  show softV (.agg cs) = _
  unfold softV
  rw [h2]
theorem ftC_1 {S : St} {args : List AV} {id : Id} {cs : List AV} (ha : addIds [] (idsL args) = [id]) (hS : S.H.get id = some (.box cs)) (hi : idsL cs = []) : ftC S args none = ⟨[], [id], true⟩ := by
  unfold ftC
  rw [ha]
  have hw : within [id] S.H = [(id, .box cs)] := by
    unfold within
    rw [hS]
    rfl
  have : reach S.H 8 [id] = [id] := by
    show (if (idsH (within [id] S.H)).all (fun i => [id].contains i) = true then [id] else _) = _
    rw [hw]
    simp only [idsH, idsP, hi, List.nil_append, List.all_nil, if_true]
  rw [this]
theorem ca_next {d dst : Nat} {S : St} (d0 t0 : Nat) (g0 : List Nat) (l : List Raw) (k : Nat) (hk : k ≤ 4611686018427387904) (hl : l.length ≤ 9223372036854775807) (h : d0 ≤ d) (hg0 : ((0 :: S.g) <:+ g0) = False) (hS : S.H.get ⟨d0, t0, g0⟩ = some (gbox l k)) :
    callA tab (callR tab) d dst 31 [.ptr ⟨d0, t0, g0⟩ 0] S = some (.d (gnext l k).dv, ⟨S.T, upd [(⟨d0, t0, g0⟩, gbox l (gat l k))] S.H, 1 :: S.g⟩) := by
  obtain ⟨H', h1, h2⟩ := ret_next (p := 0 :: S.g) d0 t0 g0 (Nat.lt_succ_of_le h) (of_eq_false hg0) l k hk hl
  refine ca_open1 (cs := [.d (.sl 4 (l.map Raw.dv)), .d (.int .i64 k)]) (cs' := [.d (.sl 4 (l.map Raw.dv)), .d (.int .i64 (gat l k))]) (by split <;> rfl) (lent_off (tab_lend (by kernel_rfl))) rfl rfl rfl ⟨_, H', h1, soft_d, h2⟩ rfl hS
structure Field where
  name : List UInt8
  kind : Int
  ty : Int
  source : Exp
def Field.dv (p : Field) : DV := .agg [.str p.name, .int .i64 p.kind, .int .i64 p.ty, .int .i64 p.source.op, .int .i64 p.source.v.kind, .int .i64 p.source.v.n, .str p.source.v.s, .str p.source.name, .sl 6 (p.source.args.map Exp.dv)]
theorem gnext_ok {l : List Raw} (h : ∀ r ∈ l, r.ok) (k : Nat) : (gnext l k).ok := by
  unfold gnext
  cases hx : l[k % l.length]? with
  | none =>
    show (⟨0, 0, 0, []⟩ : Raw).ok
    exact ⟨by decide, by decide, by decide, by decide⟩
  | some r =>
    have hr := h r (List.mem_of_getElem? hx)
    refine ⟨hr.kind, ?_, hr.b, hr.text⟩
    simp only
    rw [IntKind.wrap_i64]
    omega
theorem gat_le (l : List Raw) (k : Nat) : k ≤ gat l k ∧ gat l k ≤ k + 1 := by unfold gat; split <;> omega
/- Leaves and formulas of raw things, as data; constants, walked. -/
theorem ty_FmQ_84 : type_of% (ai (ai (ai @rs84 @lw84) (ai @ro69_3_raw_go_67 (ai @tt1 @tt3))) (ai (ai @tt4 (ai @tt9 @tt33)) (ai @tt34 (ai @tt36 @tt69)))) := (ai (ai (ai @rs84 @lw84) (ai @ro69_3_raw_go_67 (ai @tt1 @tt3))) (ai (ai @tt4 (ai @tt9 @tt33)) (ai @tt34 (ai @tt36 @tt69))))



def constV (kind : Int) (r : Raw) : Val := if kind = 1 then { mkVal kind r with n := if IntKind.i64.wrap (0 - (mkVal kind r).n) > (mkVal kind r).n then IntKind.i64.wrap (0 - (mkVal kind r).n) else (mkVal kind r).n } else mkVal kind r
def constE (kind : Int) (r : Raw) : Exp := .mk 1 (constV kind r) [] []
theorem ret_constant (kind : Int) (r : Raw) (hr : r.text.length ≤ 9223372036854775807) : RetD tab 84 [.d (.int .i64 (kind)), .d (r.dv)] ((constE kind r).dv) := by
  have f2 := fun (S : St) (d dst : Nat) => cf_Value (d := d) (dst := dst) (S := S) kind r hr
  refine retq_good (1) fn84 rfl rfl ?_
  unfold constE constV
  rw [Exp.dv_mk]
  simp only [Raw.dv, Val.dv] at f2
  by_cases hk : kind = 1
  · have b0 : (kind == 1) = true := by rw [hk]; rfl
    rw [if_pos hk]
    generalize mkVal kind r = v at *
    by_cases hv : IntKind.i64.wrap (0 - v.n) > v.n
    · rw [if_pos hv]
      simp only [amx, seval, ty_FmQ_84, Raw.dv, Val.dv, f2, b0, gt_iff_lt, eq_true (gt_iff_lt.1 hv)]
      repeat' ((first | refine good_ci (fun h => ?_) (fun h => ?_) | refine good_cgt (fun h => ?_) (fun h => ?_) | refine good_cgf (fun h => ?_) (fun h => ?_) | refine good_cqgt (fun h => ?_) (fun h => ?_) | refine good_cqgf (fun h => ?_) (fun h => ?_)) <;> simp only [amx, seval, ty_FmQ_84, Raw.dv, Val.dv, f2, b0, gt_iff_lt, eq_true (gt_iff_lt.1 hv), h])
    · rw [if_neg hv]
      simp only [amx, seval, ty_FmQ_84, Raw.dv, Val.dv, f2, b0, gt_iff_lt, eq_false (fun h => hv (gt_iff_lt.2 h))]
      repeat' ((first | refine good_ci (fun h => ?_) (fun h => ?_) | refine good_cgt (fun h => ?_) (fun h => ?_) | refine good_cgf (fun h => ?_) (fun h => ?_) | refine good_cqgt (fun h => ?_) (fun h => ?_) | refine good_cqgf (fun h => ?_) (fun h => ?_)) <;> simp only [amx, seval, ty_FmQ_84, Raw.dv, Val.dv, f2, b0, gt_iff_lt, eq_false (fun h => hv (gt_iff_lt.2 h)), h])
  · have b0 : (kind == 1) = false := beq_eq_false_iff_ne.2 hk
    rw [if_neg hk]
    generalize mkVal kind r = v at *
    simp only [amx, seval, ty_FmQ_84, Raw.dv, Val.dv, f2, b0]
    repeat' ((first | refine good_ci (fun h => ?_) (fun h => ?_) | refine good_cgt (fun h => ?_) (fun h => ?_) | refine good_cgf (fun h => ?_) (fun h => ?_) | refine good_cqgt (fun h => ?_) (fun h => ?_) | refine good_cqgf (fun h => ?_) (fun h => ?_)) <;> simp only [amx, seval, ty_FmQ_84, Raw.dv, Val.dv, f2, b0, h])
theorem cf_constant {d dst : Nat} {S : St} (kind : Int) (r : Raw) (hr : r.text.length ≤ 9223372036854775807) : callA tab (callR tab) d dst 84 [.d (.int .i64 (kind)), .d (r.dv)] S = some (.d ((constE kind r).dv), S) :=
  ca_retD (ds := [.int .i64 (kind), r.dv]) (ret_constant kind r hr) rfl (tab_opn (by kernel_rfl)) (tab_res (by kernel_rfl))
def fnames (kind : Int) : List Field → List (List UInt8)
  | [] => []
  | f :: r => if f.ty = kind then f.name :: fnames kind r else fnames kind r
theorem fnames_le (kind : Int) : ∀ fs : List Field, (fnames kind fs).length ≤ fs.length
  | [] => Nat.le_refl _
  | f :: r => by
    have := fnames_le kind r
    unfold fnames
    split <;> simp only [List.length_cons] <;> omega
def gleafE (kind : Int) (fs : List Field) (r : Raw) : Exp :=
  if (fnames kind fs).length = 0 then constE kind r else if pick r.kind 4 = 0 then constE kind r else .mk 2 Val.zero ((fnames kind fs).getD (pick r.b (fnames kind fs).length).toNat []) []
def gargs (ge : Int → Nat → Exp × Nat) : List Int → Nat → List Exp × Nat
  | [], n => ([], n)
  | k :: ks, n => ((ge k n).1 :: (gargs ge ks (ge k n).2).1, (gargs ge ks (ge k n).2).2)
def gshape (kind : Int) (r : Raw) : Int × List Int :=
  if pick r.a 6 = 0 then (17, [2, kind, kind])
  else if kind = 1 then (if pick r.b 7 = 0 then (3, [1]) else if pick r.b 7 = 1 then (18, [3]) else (5 + (pick r.b 7 - 2), [1, 1]))
  else if kind = 2 then (if pick r.b 7 = 0 then (4, [2]) else if pick r.b 7 < 3 then (15 + pick r.b 7 - 1, [2, 2]) else (11 + pick r.b 7 - 3, [1 + pick r.a 3, 1 + pick r.a 3]))
  else (10, [3, 3])
def gexpr (fs : List Field) (l : List Raw) : Nat → Int → Nat → Exp × Nat
  | 0, kind, k => (gleafE kind fs (gnext l (gat l k)), gat l (gat l k))
  | d + 1, kind, k => if pick (gnext l k).kind 3 = 0 then (gleafE kind fs (gnext l (gat l k)), gat l (gat l k)) else
    (.mk (gshape kind (gnext l k)).1 Val.zero [] (gargs (gexpr fs l d) (gshape kind (gnext l k)).2 (gat l k)).1, (gargs (gexpr fs l d) (gshape kind (gnext l k)).2 (gat l k)).2)
theorem gargs_at {ge : Int → Nat → Exp × Nat} {c : Nat} (h : ∀ k n, n ≤ (ge k n).2 ∧ (ge k n).2 ≤ n + c) : ∀ (ks : List Int) (n : Nat), n ≤ (gargs ge ks n).2 ∧ (gargs ge ks n).2 ≤ n + ks.length * c
  | [], n => by simp [gargs]
  | k :: ks, n => by
    have h1 := h k n
    have h2 := gargs_at h ks (ge k n).2
    simp only [gargs, List.length_cons, Nat.add_mul]
    omega
theorem gshape_len (kind : Int) (r : Raw) : (gshape kind r).2.length ≤ 3 := by
  unfold gshape
  split
  · simp
  · split
    · split
      · simp
      · split <;> simp
    · split
      · split
        · simp
        · split <;> simp
      · simp
theorem gexpr_at (fs : List Field) (l : List Raw) : ∀ (d : Nat) (kind : Int) (k : Nat), k ≤ (gexpr fs l d kind k).2 ∧ (gexpr fs l d kind k).2 ≤ k + 4 ^ (d + 2)
  | 0, kind, k => by
    have h1 := gat_le l k
    have h2 := gat_le l (gat l k)
    simp only [gexpr]
    omega
  | d + 1, kind, k => by
    have h1 := gat_le l k
    have h2 := gat_le l (gat l k)
    have h3 := gargs_at (ge := gexpr fs l d) (gexpr_at fs l d) (gshape kind (gnext l k)).2 (gat l k)
    have h4 := gshape_len kind (gnext l k)
    have h5 : (gshape kind (gnext l k)).2.length * 4 ^ (d + 2) ≤ 3 * 4 ^ (d + 2) := Nat.mul_le_mul_right _ h4
    have h6 : 0 < 4 ^ (d + 2) := Nat.pow_pos (by decide)
    have h7 : 4 ^ (d + 1 + 2) = 4 * 4 ^ (d + 2) := by rw [show d + 1 + 2 = (d + 2) + 1 by omega, Nat.pow_succ, Nat.mul_comm]
    have h8 : 16 ≤ 4 ^ (d + 2) := by
      have := Nat.pow_le_pow_right (n := 4) (by decide) (show 2 ≤ d + 2 by omega)
      simpa using this
    unfold gexpr
    split
    · simp only; omega
    · simp only; omega
/- Leaves of formulas, the fields a list of a call, walked. -/
theorem ty_FmB_63 : type_of% (ai (ai (ai (ai @rs63 @lw63) (ai @mu31_27 @kp63_4)) (ai (ai @tt1 @tt2) (ai @tt3 @tt4))) (ai (ai (ai @tt9 @tt23) (ai @tt31 @tt33)) (ai (ai @tt34 @tt36) (ai @tt48 (ai @tt65 @tt69))))) := (ai (ai (ai (ai @rs63 @lw63) (ai @mu31_27 @kp63_4)) (ai (ai @tt1 @tt2) (ai @tt3 @tt4))) (ai (ai (ai @tt9 @tt23) (ai @tt31 @tt33)) (ai (ai @tt34 @tt36) (ai @tt48 (ai @tt65 @tt69)))))



def fbox (fs : List Field) : Place := .box (flatD (fs.map Field.dv))
theorem elt_fd (l : List Field) : ∀ x ∈ l.map Field.dv, Elt 9 x := by
  intro x hx
  obtain ⟨t, _, rfl⟩ := List.mem_map.1 hx
  exact ⟨rfl, by rw [if_neg (by decide)]; exact ⟨_, rfl⟩⟩
theorem fdrop : ∀ (l : List Field) (k : Nat) (x : Field), l[k]? = some x → ∃ R, (flatD (l.map Field.dv)).drop (k * 9) = x.dv.cells.map .d ++ R
  | [], k, x, h => by simp at h
  | z :: r, 0, x, h => by
    obtain rfl : z = x := by simpa using h
    exact ⟨flatD (r.map Field.dv), by simp [flatD]⟩
  | z :: r, k + 1, x, h => by
    obtain ⟨R, hR⟩ := fdrop r k x (by simpa using h)
    refine ⟨R, ?_⟩
    have h1 : flatD ((z :: r).map Field.dv) = z.dv.cells.map .d ++ flatD (r.map Field.dv) := by simp [flatD]
    have h2 : (z.dv.cells.map AV.d).length = 9 := rfl
    rw [h1, ← hR, show (k + 1) * 9 = (z.dv.cells.map AV.d).length + k * 9 by rw [h2]; omega, List.drop_append, List.drop_eq_nil_of_le (by omega), List.nil_append, Nat.add_sub_cancel_left]
theorem fdrop' {l : List Field} {k : Nat} {x : Field} (h : l[k]? = some x) : ∃ R, (flatD (l.map Field.dv)).drop (k * 9) = .d (.str x.name) :: .d (.int .i64 x.kind) :: .d (.int .i64 x.ty) :: .d (.int .i64 x.source.op) :: .d (.int .i64 x.source.v.kind) :: .d (.int .i64 x.source.v.n) :: .d (.str x.source.v.s) :: .d (.str x.source.name) :: .d (.sl 6 (x.source.args.map Exp.dv)) :: R := fdrop l k x h
theorem nt_arr {i : Id} {a b c : Nat} : noTup (.arr i a b c) = true := rfl
theorem ac_arr {i : Id} {a b c : Nat} : (AV.arr i a b c).cells = [.arr i a b c] := rfl
theorem cap_arr {i : Id} {a b c : Nat} : (AV.arr i a b c).cap = true := rfl
theorem plainD_arr {i : Id} {a b c : Nat} {r : List AV} : plainD (.arr i a b c :: r) = none := rfl
theorem ca_open2 {d dst f : Nat} {args : List AV} {S : St} {i j : Id} {cs cs' fc : List AV} {r : AV}
    (hn : (if tab.opn f = true then none else toDs args) = none) (hlt : lentA tab S f args = none) (hne : i ≠ j) (ha : idsL args = [i, j]) (hi : idsL cs = []) (hi' : idsL cs' = []) (hj : idsL fc = [])
    (hc : ∃ x H', callR tab (d + 1) f args [(i, .box cs), (j, .box fc)] (0 :: S.g) = some (x, H') ∧ soft tab f x = r ∧ H'.get i = some (.box cs') ∧ H'.get j = some (.box fc))
    (h4 : idsA r = []) (hS : S.H.get i = some (.box cs)) (hT : S.H.get j = some (.box fc)) :
    callA tab (callR tab) d dst f args S = some (r, ⟨S.T, upd [(i, .box cs'), (j, .box fc)] S.H, 1 :: S.g⟩) := by
  obtain ⟨x, H', hc, hs, hW, hV⟩ := hc
  have hne2 : j ≠ i := fun e => hne e.symm
  have ha' : addIds [] (idsL args) = [i, j] := by rw [ha]; simp [addIds, hne2]
  have hw : within [i, j] S.H = [(i, .box cs), (j, .box fc)] := by
    unfold within
    rw [hS]
    simp only
    unfold within
    rw [hT]
    rfl
  have hid : ∀ cs, idsL cs = [] → idsH [(i, Place.box cs), (j, Place.box fc)] = [] := fun cs h => by simp [idsH, idsP, h, hj]
  refine ca_open (W0 := [(i, .box cs), (j, .box fc)]) hn hlt ?_ hw ?_ ⟨x, H', hc, hs, fun k hk => ?_⟩ (by rw [h4]; rfl) rfl ?_
  · rw [ha']
    unfold reach
    rw [hw, hid cs hi, if_pos (by simp)]
    rfl
  · rw [hid cs hi]; simp
  · have : k = i ∨ k = j := by simpa [Am.keys] using hk
    rcases this with rfl | rfl
    · rw [hW]; simp [Heap.get]
    · rw [hV]; simp [Heap.get, hne]
  · have : within (Am.keys [(i, Place.box cs), (j, .box fc)]) [(i, Place.box cs'), (j, .box fc)] = [(i, .box cs'), (j, .box fc)] := by
      simp [Am.keys, within, Heap.get, hne]
    rw [this, hid cs' hi']; simp
theorem ftC_2 {S : St} {args : List AV} {i j : Id} {cs fc : List AV} (hne : i ≠ j) (ha : idsL args = [i, j]) (hS : S.H.get i = some (.box cs)) (hT : S.H.get j = some (.box fc)) (hi : idsL cs = []) (hj : idsL fc = []) : ftC S args none = ⟨[], [i, j], true⟩ := by
  have hne2 : j ≠ i := fun e => hne e.symm
  unfold ftC
  have ha' : addIds [] (idsL args) = [i, j] := by rw [ha]; simp [addIds, hne2]
  rw [ha']
  have hw : within [i, j] S.H = [(i, .box cs), (j, .box fc)] := by
    unfold within
    rw [hS]
    simp only
    unfold within
    rw [hT]
    rfl
  have : reach S.H 8 [i, j] = [i, j] := by
    unfold reach
    rw [hw, if_pos (by simp [idsH, idsP, hi, hj])]
  rw [this]
theorem id_ne {d t t' : Nat} {g g' : List Nat} (h : t ≠ t') : (⟨d, t, g⟩ : Id) ≠ ⟨d, t', g'⟩ := fun e => h (by injection e)
theorem run_leafN {d : Nat} {p : List Nat} (d0 t0 : Nat) (g0 : List Nat) (h : d0 < d) (hg0 : ¬ p <:+ g0) (kind : Int) (fs : List Field) (hfs : fs.length ≤ 1048576) (l : List Raw) (k : Nat) (hk : k ≤ 4611686018427387904) (hl : l.length ≤ 9223372036854775807) (hr : ∀ r ∈ l, r.ok) :
    ∃ x H', callR tab d 63 [.ptr ⟨d0, t0, g0⟩ 0, .d (.int .i64 kind), .own 9 (fs.map Field.dv) none] [(⟨d0, t0, g0⟩, gbox l k)] p = some (x, H') ∧ (soft tab 63 x = .d (gleafE kind fs (gnext l k)).dv ∧ H'.get ⟨d0, t0, g0⟩ = some (gbox l (gat l k))) := by
  have e1 : (d0 = d) = False := eq_false (by omega)
  have e2 : (d = d0) = False := eq_false (by omega)
  have hd1 : decide (d0 < d) = true := decide_eq_true h
  have hs0 : (p <:+ g0) = False := eq_false hg0
  refine retq_good (fs.length + 1) fn63 rfl rfl ?_
  have fn := fun (T : Tm) (g : List Nat) (H : Heap) (dst : Nat) (hx : ((0 :: g) <:+ g0) = False) (hS : Heap.get H ⟨d0, t0, g0⟩ = some (gbox l k)) => ca_next (d := d) (dst := dst) (S := ⟨T, H, g⟩) d0 t0 g0 l k hk hl (by omega) hx hS
  have hrk := gnext_ok hr k
  generalize gnext l k = r at *
  generalize gat l k = k2 at *
  simp only [amx, seval, ty_FmB_63, fn, suf1 hg0, suf2 hg0, suf3 hg0, suf4 hg0, hs0, Raw.dv, e1, e2, upd, Option.getD_none, Option.getD_some]
  refine good_range fs (fun k (a : List (List UInt8) × Option (List Nat)) g => ⟨[(1, .d (.int .i64 kind)), (6, .ptr ⟨d, 6, 0 :: p⟩ 0), (7, .ptr ⟨d, 7, 0 :: 1 :: 1 :: p⟩ 0), (8, .own 1 (a.1.map DV.str) (tokD d 27 a.2)), (13, .own 9 (fs.map Field.dv) none), (14, .d (.int .i64 fs.length)), (15, .d (.int .i64 (k : Nat)))],
      tokP d 27 (a.1.length * 1) a.2 ++ [(⟨d, 7, 0 :: 1 :: 1 :: p⟩, .box [.d (.int .i64 r.kind), .d (.int .i64 r.a), .d (.int .i64 r.b), .d (.str r.text)]), (⟨d, 6, 0 :: p⟩, .box [.d (.int .i64 0), .d (.int .i64 0), .d (.int .i64 0), .d (.str []), .d (.str []), .own 6 [] none]), (⟨d0, t0, g0⟩, gbox l k2)], g⟩) (fun k a => a.1.length ≤ k) (fun k a r => a.1 ++ fnames kind r)
    (fun (o : List (List UInt8)) (q : Out) (S : St) => q = .exit 0 ∧ ∃ t g, Sub ⟨[(1, .d (.int .i64 kind)), (6, .ptr ⟨d, 6, 0 :: p⟩ 0), (7, .ptr ⟨d, 7, 0 :: 1 :: 1 :: p⟩ 0), (8, .own 1 (o.map DV.str) (tokD d 27 t))],
      tokP d 27 (o.length * 1) t ++ [(⟨d, 7, 0 :: 1 :: 1 :: p⟩, .box [.d (.int .i64 r.kind), .d (.int .i64 r.a), .d (.int .i64 r.b), .d (.str r.text)]), (⟨d, 6, 0 :: p⟩, .box [.d (.int .i64 0), .d (.int .i64 0), .d (.int .i64 0), .d (.str []), .d (.str []), .own 6 [] none]), (⟨d0, t0, g0⟩, gbox l k2)], g⟩ S) ([], none) kp63_4 (fun r => up_tok) (Nat.le_refl _) (by omega) (by omega) ?_ ?_ ?_ ?_
  · rintro k ⟨acc, t⟩ g x rest hk hget hd _ hb w1
    have hget' : (fs.map Field.dv)[k]? = some x.dv := by rw [List.getElem?_map, hget]; rfl
    rename_i hI
    simp only at hI
    have hA : ((acc.length + 1) * 16 ≤ 140737488355328) = True := eq_true (by omega)
    by_cases hq : x.ty = kind
    · have bq : (x.ty == kind) = true := beq_iff_eq.2 hq
      rcases t with _ | t
      · simp only [amx, seval, ty_FmB_63, Field.dv, hb, w1, hget', bq, tokD, tokP, hA, e1, e2, hd1, sx1, sx2]
        refine step_nrm (acc ++ [x.name], some (1 :: g)) ?_ ?_ ?_
        · simp only [List.length_append, List.length_cons, List.length_nil]; omega
        · simp [fnames, hq]
        · (apply Exists.intro; (try simp only [amx, seval, tokD, tokP, e1, e2, hd1]); exact sub_mk (by repeat first | exact subT_nil | refine subT_cons (by first | rfl | simp [Tm.get, *]) ?_))
      · simp only [amx, seval, ty_FmB_63, Field.dv, hb, w1, hget', bq, tokD, tokP, hA, e1, e2, hd1, sx1, sx2]
        refine step_nrm (acc ++ [x.name], some t) ?_ ?_ ?_
        · simp only [List.length_append, List.length_cons, List.length_nil]; omega
        · simp [fnames, hq]
        · (apply Exists.intro; (try simp only [amx, seval, tokD, tokP, e1, e2, hd1]); exact sub_mk (by repeat first | exact subT_nil | refine subT_cons (by first | rfl | simp [Tm.get, *]) ?_))
    · have bq : (x.ty == kind) = false := beq_eq_false_iff_ne.2 hq
      rcases t with _ | t
      · simp only [amx, seval, ty_FmB_63, Field.dv, hb, w1, hget', bq, tokD, tokP, e1, e2, hd1, sx1, sx2]
        refine step_nrm (acc, none) ?_ ?_ ?_
        · simp only; omega
        · simp [fnames, hq]
        · (apply Exists.intro; (try simp only [amx, seval, tokD, tokP, e1, e2, hd1]); exact sub_mk (by repeat first | exact subT_nil | refine subT_cons (by first | rfl | simp [Tm.get, *]) ?_))
      · simp only [amx, seval, ty_FmB_63, Field.dv, hb, w1, hget', bq, tokD, tokP, e1, e2, hd1, sx1, sx2]
        refine step_nrm (acc, some t) ?_ ?_ ?_
        · simp only; omega
        · simp [fnames, hq]
        · (apply Exists.intro; (try simp only [amx, seval, tokD, tokP, e1, e2, hd1]); exact sub_mk (by repeat first | exact subT_nil | refine subT_cons (by first | rfl | simp [Tm.get, *]) ?_))
  · rintro ⟨acc, t⟩ g _ hb
    simp only [amx, seval, ty_FmB_63, hb]
    refine last_end (by simp) ⟨rfl, t, ?_⟩
    simp only [fnames, List.append_nil]
    rcases t with _ | t
    · (apply Exists.intro; (try simp only [amx, seval, tokD, tokP, e1, e2, hd1]); exact sub_mk (by repeat first | exact subT_nil | refine subT_cons (by first | rfl | simp [Tm.get, *]) ?_))
    · (apply Exists.intro; (try simp only [amx, seval, tokD, tokP, e1, e2, hd1]); exact sub_mk (by repeat first | exact subT_nil | refine subT_cons (by first | rfl | simp [Tm.get, *]) ?_))
  · (apply Exists.intro; (try simp only [amx, seval, tokD, tokP, e1, e2, hd1]); exact sub_mk (by repeat first | exact subT_nil | refine subT_cons (by first | rfl | simp [Tm.get, *]) ?_))
  · rintro o S' ⟨rfl, t, g, hs⟩
    refine good_sub_cr up_finq hs ?_
    unfold gleafE
    simp only [List.nil_append]
    have hol := fnames_le kind fs
    generalize fnames kind fs = o at *
    have fc : ∀ (S : St) (d dst : Nat), callA tab (callR tab) d dst 84 [.d (.int .i64 kind), .d (.agg [.int .i64 r.kind, .int .i64 r.a, .int .i64 r.b, .str r.text])] S = some (.d (.agg [.int .i64 1, .int .i64 (constV kind r).kind, .int .i64 (constV kind r).n, .str (constV kind r).s, .str [], .sl 6 []]), S) := fun S d dst => by
      have h := cf_constant (d := d) (dst := dst) (S := S) kind r hrk.text
      unfold constE at h
      rw [Exp.dv_mk] at h
      exact h
    have hdc : (constE kind r).dv = .agg [.int .i64 1, .int .i64 (constV kind r).kind, .int .i64 (constV kind r).n, .str (constV kind r).s, .str [], .sl 6 []] := by unfold constE; rw [Exp.dv_mk]; rfl
    have p1 := fun (S : St) (d dst : Nat) => ca_picked (d := d) (dst := dst) (S := S) r.kind 4 (by decide)
    by_cases c0 : o.length = 0
    · rw [if_pos c0, hdc]
      obtain rfl := List.eq_nil_of_length_eq_zero c0
      rcases t with _ | t
      · simp only [amx, seval, ty_FmB_63, tokD, tokP, e1, e2, hd1, fc, beq_self_eq_true, soft_d]
      · simp only [amx, seval, ty_FmB_63, tokD, tokP, e1, e2, hd1, fc, beq_self_eq_true, soft_d]
    · rw [if_neg c0]
      have b0 : ((o.length : Int) == 0) = false := beq_eq_false_iff_ne.2 (by omega)
      by_cases c4 : pick r.kind 4 = 0
      · rw [if_pos c4, hdc]
        rw [c4] at p1
        rcases t with _ | t
        · simp only [amx, seval, ty_FmB_63, tokD, tokP, e1, e2, hd1, fc, p1, b0, beq_self_eq_true, soft_d]
        · simp only [amx, seval, ty_FmB_63, tokD, tokP, e1, e2, hd1, fc, p1, b0, beq_self_eq_true, soft_d]
      · rw [if_neg c4, Exp.dv_mk]
        have b4 : (pick r.kind 4 == 0) = false := beq_eq_false_iff_ne.2 c4
        have hpn := pick_range r.b (o.length : Int) hrk.b.1 hrk.b.2 (by omega)
        have p2 := fun (S : St) (d dst : Nat) => ca_picked (d := d) (dst := dst) (S := S) r.b (o.length : Int) (by omega)
        generalize pick r.b (o.length : Int) = q at *
        obtain ⟨j, rfl⟩ : ∃ j : Nat, q = j := ⟨q.toNat, by omega⟩
        have hj : j < o.length := by omega
        have hjl : ((j : Int) < (o.length : Int)) = True := eq_true (by omega)
        have hoj : (o.map DV.str)[j]? = some (.str (o.getD j [])) := by rw [List.getElem?_map, List.getD_eq_getElem?_getD, List.getElem?_eq_getElem hj]; rfl
        rw [Int.toNat_natCast]
        rcases t with _ | t
        · simp only [amx, seval, ty_FmB_63, tokD, tokP, e1, e2, hd1, fc, p1, p2, b0, b4, hoj, hjl, beq_self_eq_true]
          exact soft_agg (by kernel_rfl) rfl
        · simp only [amx, seval, ty_FmB_63, tokD, tokP, e1, e2, hd1, fc, p1, p2, b0, b4, hoj, hjl, beq_self_eq_true]
          exact soft_agg (by kernel_rfl) rfl
theorem ca_leafN {d dst : Nat} {S : St} (d0 t0 : Nat) (g0 : List Nat) (h : d0 ≤ d) (kind : Int) (fs : List Field) (hfs : fs.length ≤ 1048576) (l : List Raw) (k : Nat) (hk : k ≤ 4611686018427387904) (hl : l.length ≤ 9223372036854775807) (hr : ∀ r ∈ l, r.ok) (hg0 : ((0 :: S.g) <:+ g0) = False) (hS : S.H.get ⟨d0, t0, g0⟩ = some (gbox l k)) :
    callA tab (callR tab) d dst 63 [.ptr ⟨d0, t0, g0⟩ 0, .d (.int .i64 kind), .own 9 (fs.map Field.dv) none] S = some (.d (gleafE kind fs (gnext l k)).dv, ⟨S.T, upd [(⟨d0, t0, g0⟩, gbox l (gat l k))] S.H, 1 :: S.g⟩) := by
  obtain ⟨x, H', h1, h2, h3⟩ := run_leafN (p := 0 :: S.g) d0 t0 g0 (Nat.lt_succ_of_le h) (of_eq_false hg0) kind fs hfs l k hk hl hr
  exact ca_open1 (cs := [.d (.sl 4 (l.map Raw.dv)), .d (.int .i64 k)]) (cs' := [.d (.sl 4 (l.map Raw.dv)), .d (.int .i64 (gat l k))]) (by split <;> rfl) (lent_off (tab_lend (by kernel_rfl))) rfl rfl rfl ⟨x, H', h1, h2, h3⟩ rfl hS
theorem run_leafA {d : Nat} {p : List Nat} (d0 t0 : Nat) (g0 : List Nat) (h : d0 < d) (hg0 : ¬ p <:+ g0) (t1 : Nat) (g1 : List Nat) (ht : t0 ≠ t1) (hg1 : ¬ p <:+ g1) (kind : Int) (fs : List Field) (hfs : fs.length ≤ 1048576) (l : List Raw) (k : Nat) (hk : k ≤ 4611686018427387904) (hl : l.length ≤ 9223372036854775807) (hr : ∀ r ∈ l, r.ok) :
    ∃ x H', callR tab d 63 [.ptr ⟨d0, t0, g0⟩ 0, .d (.int .i64 kind), .arr ⟨d0, t1, g1⟩ 0 fs.length 9] [(⟨d0, t0, g0⟩, gbox l k), (⟨d0, t1, g1⟩, fbox fs)] p = some (x, H') ∧ (soft tab 63 x = .d (gleafE kind fs (gnext l k)).dv ∧ H'.get ⟨d0, t0, g0⟩ = some (gbox l (gat l k)) ∧ H'.get ⟨d0, t1, g1⟩ = some (fbox fs)) := by
  have e1 : (d0 = d) = False := eq_false (by omega)
  have e2 : (d = d0) = False := eq_false (by omega)
  have hd1 : decide (d0 < d) = true := decide_eq_true h
  have hs0 : (p <:+ g0) = False := eq_false hg0
  have hs1 : (p <:+ g1) = False := eq_false hg1
  have ht1 : (t0 = t1) = False := eq_false ht
  have ht2 : (t1 = t0) = False := eq_false (fun e => ht e.symm)
  have hfb : fbox fs = .box (flatD (fs.map Field.dv)) := rfl
  refine retq_good (fs.length + 1) fn63 rfl rfl ?_
  have fn := fun (T : Tm) (g : List Nat) (H : Heap) (dst : Nat) (hx : ((0 :: g) <:+ g0) = False) (hS : Heap.get H ⟨d0, t0, g0⟩ = some (gbox l k)) => ca_next (d := d) (dst := dst) (S := ⟨T, H, g⟩) d0 t0 g0 l k hk hl (by omega) hx hS
  have hrk := gnext_ok hr k
  generalize gnext l k = r at *
  generalize gat l k = k2 at *
  simp only [amx, seval, ty_FmB_63, fn, suf1 hg0, suf2 hg0, suf3 hg0, suf4 hg0, hs0, suf1 hg1, suf2 hg1, suf3 hg1, suf4 hg1, hs1, ht1, ht2, hfb, Raw.dv, e1, e2, upd, Option.getD_none, Option.getD_some]
  refine good_range fs (fun k (a : List (List UInt8) × Option (List Nat)) g => ⟨[(1, .d (.int .i64 kind)), (6, .ptr ⟨d, 6, 0 :: p⟩ 0), (7, .ptr ⟨d, 7, 0 :: 1 :: 1 :: p⟩ 0), (8, .own 1 (a.1.map DV.str) (tokD d 27 a.2)), (13, .arr ⟨d0, t1, g1⟩ 0 fs.length 9), (14, .d (.int .i64 fs.length)), (15, .d (.int .i64 (k : Nat)))],
      tokP d 27 (a.1.length * 1) a.2 ++ [(⟨d, 7, 0 :: 1 :: 1 :: p⟩, .box [.d (.int .i64 r.kind), .d (.int .i64 r.a), .d (.int .i64 r.b), .d (.str r.text)]), (⟨d, 6, 0 :: p⟩, .box [.d (.int .i64 0), .d (.int .i64 0), .d (.int .i64 0), .d (.str []), .d (.str []), .own 6 [] none]), (⟨d0, t0, g0⟩, gbox l k2), (⟨d0, t1, g1⟩, .box (flatD (fs.map Field.dv)))], g⟩) (fun k a => a.1.length ≤ k) (fun k a r => a.1 ++ fnames kind r)
    (fun (o : List (List UInt8)) (q : Out) (S : St) => q = .exit 0 ∧ ∃ t g, Sub ⟨[(1, .d (.int .i64 kind)), (6, .ptr ⟨d, 6, 0 :: p⟩ 0), (7, .ptr ⟨d, 7, 0 :: 1 :: 1 :: p⟩ 0), (8, .own 1 (o.map DV.str) (tokD d 27 t))],
      tokP d 27 (o.length * 1) t ++ [(⟨d, 7, 0 :: 1 :: 1 :: p⟩, .box [.d (.int .i64 r.kind), .d (.int .i64 r.a), .d (.int .i64 r.b), .d (.str r.text)]), (⟨d, 6, 0 :: p⟩, .box [.d (.int .i64 0), .d (.int .i64 0), .d (.int .i64 0), .d (.str []), .d (.str []), .own 6 [] none]), (⟨d0, t0, g0⟩, gbox l k2), (⟨d0, t1, g1⟩, .box (flatD (fs.map Field.dv)))], g⟩ S) ([], none) kp63_4 (fun r => up_tok) (Nat.le_refl _) (by omega) (by omega) ?_ ?_ ?_ ?_
  · rintro k ⟨acc, t⟩ g x rest hk hget hd _ hb w1
    obtain ⟨R, hget'⟩ := fdrop' hget
    have hkl : ((k : Int) < (fs.length : Int)) = True := eq_true (by omega)
    have hR9 : (9 ≤ R.length + 1 + 1 + 1 + 1 + 1 + 1 + 1 + 1 + 1) = True := eq_true (by omega)
    generalize flatD (fs.map Field.dv) = CC at *
    rename_i hI
    simp only at hI
    have hA : ((acc.length + 1) * 16 ≤ 140737488355328) = True := eq_true (by omega)
    by_cases hq : x.ty = kind
    · have bq : (x.ty == kind) = true := beq_iff_eq.2 hq
      rcases t with _ | t
      · simp only [amx, seval, ty_FmB_63, Field.dv, hb, w1, hget', hkl, hR9, ht1, ht2, bq, tokD, tokP, hA, e1, e2, hd1, sx1, sx2]
        refine step_nrm (acc ++ [x.name], some (1 :: g)) ?_ ?_ ?_
        · simp only [List.length_append, List.length_cons, List.length_nil]; omega
        · simp [fnames, hq]
        · (apply Exists.intro; (try simp only [amx, seval, tokD, tokP, e1, e2, hd1, ht1, ht2]); exact sub_mk (by repeat first | exact subT_nil | refine subT_cons (by first | rfl | simp [Tm.get, *]) ?_))
      · simp only [amx, seval, ty_FmB_63, Field.dv, hb, w1, hget', hkl, hR9, ht1, ht2, bq, tokD, tokP, hA, e1, e2, hd1, sx1, sx2]
        refine step_nrm (acc ++ [x.name], some t) ?_ ?_ ?_
        · simp only [List.length_append, List.length_cons, List.length_nil]; omega
        · simp [fnames, hq]
        · (apply Exists.intro; (try simp only [amx, seval, tokD, tokP, e1, e2, hd1, ht1, ht2]); exact sub_mk (by repeat first | exact subT_nil | refine subT_cons (by first | rfl | simp [Tm.get, *]) ?_))
    · have bq : (x.ty == kind) = false := beq_eq_false_iff_ne.2 hq
      rcases t with _ | t
      · simp only [amx, seval, ty_FmB_63, Field.dv, hb, w1, hget', hkl, hR9, ht1, ht2, bq, tokD, tokP, e1, e2, hd1, sx1, sx2]
        refine step_nrm (acc, none) ?_ ?_ ?_
        · simp only; omega
        · simp [fnames, hq]
        · (apply Exists.intro; (try simp only [amx, seval, tokD, tokP, e1, e2, hd1, ht1, ht2]); exact sub_mk (by repeat first | exact subT_nil | refine subT_cons (by first | rfl | simp [Tm.get, *]) ?_))
      · simp only [amx, seval, ty_FmB_63, Field.dv, hb, w1, hget', hkl, hR9, ht1, ht2, bq, tokD, tokP, e1, e2, hd1, sx1, sx2]
        refine step_nrm (acc, some t) ?_ ?_ ?_
        · simp only; omega
        · simp [fnames, hq]
        · (apply Exists.intro; (try simp only [amx, seval, tokD, tokP, e1, e2, hd1, ht1, ht2]); exact sub_mk (by repeat first | exact subT_nil | refine subT_cons (by first | rfl | simp [Tm.get, *]) ?_))
  · rintro ⟨acc, t⟩ g _ hb
    simp only [amx, seval, ty_FmB_63, hb, ht1, ht2]
    refine last_end (by simp) ⟨rfl, t, ?_⟩
    simp only [fnames, List.append_nil]
    rcases t with _ | t
    · (apply Exists.intro; (try simp only [amx, seval, tokD, tokP, e1, e2, hd1, ht1, ht2]); exact sub_mk (by repeat first | exact subT_nil | refine subT_cons (by first | rfl | simp [Tm.get, *]) ?_))
    · (apply Exists.intro; (try simp only [amx, seval, tokD, tokP, e1, e2, hd1, ht1, ht2]); exact sub_mk (by repeat first | exact subT_nil | refine subT_cons (by first | rfl | simp [Tm.get, *]) ?_))
  · (apply Exists.intro; (try simp only [amx, seval, tokD, tokP, e1, e2, hd1, ht1, ht2]); exact sub_mk (by repeat first | exact subT_nil | refine subT_cons (by first | rfl | simp [Tm.get, *]) ?_))
  · rintro o S' ⟨rfl, t, g, hs⟩
    refine good_sub_cr up_finq hs ?_
    unfold gleafE
    simp only [List.nil_append]
    have hol := fnames_le kind fs
    generalize fnames kind fs = o at *
    have fc : ∀ (S : St) (d dst : Nat), callA tab (callR tab) d dst 84 [.d (.int .i64 kind), .d (.agg [.int .i64 r.kind, .int .i64 r.a, .int .i64 r.b, .str r.text])] S = some (.d (.agg [.int .i64 1, .int .i64 (constV kind r).kind, .int .i64 (constV kind r).n, .str (constV kind r).s, .str [], .sl 6 []]), S) := fun S d dst => by
      have h := cf_constant (d := d) (dst := dst) (S := S) kind r hrk.text
      unfold constE at h
      rw [Exp.dv_mk] at h
      exact h
    have hdc : (constE kind r).dv = .agg [.int .i64 1, .int .i64 (constV kind r).kind, .int .i64 (constV kind r).n, .str (constV kind r).s, .str [], .sl 6 []] := by unfold constE; rw [Exp.dv_mk]; rfl
    have p1 := fun (S : St) (d dst : Nat) => ca_picked (d := d) (dst := dst) (S := S) r.kind 4 (by decide)
    by_cases c0 : o.length = 0
    · rw [if_pos c0, hdc]
      obtain rfl := List.eq_nil_of_length_eq_zero c0
      rcases t with _ | t
      · simp only [amx, seval, ty_FmB_63, tokD, tokP, e1, e2, hd1, ht1, ht2, fc, beq_self_eq_true, soft_d, hfb]
      · simp only [amx, seval, ty_FmB_63, tokD, tokP, e1, e2, hd1, ht1, ht2, fc, beq_self_eq_true, soft_d, hfb]
    · rw [if_neg c0]
      have b0 : ((o.length : Int) == 0) = false := beq_eq_false_iff_ne.2 (by omega)
      by_cases c4 : pick r.kind 4 = 0
      · rw [if_pos c4, hdc]
        rw [c4] at p1
        rcases t with _ | t
        · simp only [amx, seval, ty_FmB_63, tokD, tokP, e1, e2, hd1, ht1, ht2, fc, p1, b0, beq_self_eq_true, soft_d, hfb]
        · simp only [amx, seval, ty_FmB_63, tokD, tokP, e1, e2, hd1, ht1, ht2, fc, p1, b0, beq_self_eq_true, soft_d, hfb]
      · rw [if_neg c4, Exp.dv_mk]
        have b4 : (pick r.kind 4 == 0) = false := beq_eq_false_iff_ne.2 c4
        have hpn := pick_range r.b (o.length : Int) hrk.b.1 hrk.b.2 (by omega)
        have p2 := fun (S : St) (d dst : Nat) => ca_picked (d := d) (dst := dst) (S := S) r.b (o.length : Int) (by omega)
        generalize pick r.b (o.length : Int) = q at *
        obtain ⟨j, rfl⟩ : ∃ j : Nat, q = j := ⟨q.toNat, by omega⟩
        have hj : j < o.length := by omega
        have hjl : ((j : Int) < (o.length : Int)) = True := eq_true (by omega)
        have hoj : (o.map DV.str)[j]? = some (.str (o.getD j [])) := by rw [List.getElem?_map, List.getD_eq_getElem?_getD, List.getElem?_eq_getElem hj]; rfl
        rw [Int.toNat_natCast]
        rcases t with _ | t
        · simp only [amx, seval, ty_FmB_63, tokD, tokP, e1, e2, hd1, ht1, ht2, fc, p1, p2, b0, b4, hoj, hjl, beq_self_eq_true]
          exact soft_agg (by kernel_rfl) rfl
        · simp only [amx, seval, ty_FmB_63, tokD, tokP, e1, e2, hd1, ht1, ht2, fc, p1, p2, b0, b4, hoj, hjl, beq_self_eq_true]
          exact soft_agg (by kernel_rfl) rfl
theorem ca_leafA {d dst : Nat} {S : St} (d0 t0 : Nat) (g0 : List Nat) (t1 : Nat) (g1 : List Nat) (ht : t0 ≠ t1) (h : d0 ≤ d) (kind : Int) (fs : List Field) (hfs : fs.length ≤ 1048576) (l : List Raw) (k : Nat) (hk : k ≤ 4611686018427387904) (hl : l.length ≤ 9223372036854775807) (hr : ∀ r ∈ l, r.ok) (hg0 : ((0 :: S.g) <:+ g0) = False) (hg1 : ((0 :: S.g) <:+ g1) = False) (hS : S.H.get ⟨d0, t0, g0⟩ = some (gbox l k)) (hF : S.H.get ⟨d0, t1, g1⟩ = some (fbox fs)) :
    callA tab (callR tab) d dst 63 [.ptr ⟨d0, t0, g0⟩ 0, .d (.int .i64 kind), .arr ⟨d0, t1, g1⟩ 0 fs.length 9] S = some (.d (gleafE kind fs (gnext l k)).dv, ⟨S.T, upd [(⟨d0, t0, g0⟩, gbox l (gat l k)), (⟨d0, t1, g1⟩, fbox fs)] S.H, 1 :: S.g⟩) := by
  obtain ⟨x, H', h1, h2, h3, h4⟩ := run_leafA (p := 0 :: S.g) d0 t0 g0 (Nat.lt_succ_of_le h) (of_eq_false hg0) t1 g1 ht (of_eq_false hg1) kind fs hfs l k hk hl hr
  exact ca_open2 (cs := [.d (.sl 4 (l.map Raw.dv)), .d (.int .i64 k)]) (cs' := [.d (.sl 4 (l.map Raw.dv)), .d (.int .i64 (gat l k))]) (by split <;> rfl) (lent_off (tab_lend (by kernel_rfl))) (id_ne ht) rfl rfl rfl (ids_flat _) ⟨x, H', h1, h2, h3, h4⟩ rfl hS hF
/- Formulas of raw things, the fields a list of a call: their arguments, walked. -/
theorem ty_FmC_64 : type_of% (ai (ai (ai @rs64 (ai @lw64 @dr64_5)) (ai (ai @mu34_28 @kp64_3) (ai @tt1 @tt3))) (ai (ai (ai @tt9 @tt23) (ai @tt33 @tt34)) (ai (ai @tt36 @tt48) (ai @tt50 @tt65)))) := (ai (ai (ai @rs64 (ai @lw64 @dr64_5)) (ai (ai @mu34_28 @kp64_3) (ai @tt1 @tt3))) (ai (ai (ai @tt9 @tt23) (ai @tt33 @tt34)) (ai (ai @tt36 @tt48) (ai @tt50 @tt65))))



def ExprOKN (deep : Nat) : Prop := ∀ {d : Nat} {p : List Nat} (d0 t0 : Nat) (g0 : List Nat), d0 < d → ¬ p <:+ g0 → ∀ (kind : Int) (fs : List Field), fs.length ≤ 1048576 → ∀ (l : List Raw) (k : Nat), k + 4 ^ (deep + 2) ≤ 4611686018427387904 → l.length ≤ 9223372036854775807 → (∀ r ∈ l, r.ok) →
    ∃ x H', callR tab d 33 [.ptr ⟨d0, t0, g0⟩ 0, .d (.int .i64 kind), .own 9 (fs.map Field.dv) none, .d (.int .i64 deep)] [(⟨d0, t0, g0⟩, gbox l k)] p = some (x, H') ∧ (soft tab 33 x = .d (gexpr fs l deep kind k).1.dv ∧ H'.get ⟨d0, t0, g0⟩ = some (gbox l (gexpr fs l deep kind k).2))
theorem ca_exprHN {deep : Nat} (hge : ExprOKN deep) {d dst : Nat} {S : St} (d0 t0 : Nat) (g0 : List Nat) (h : d0 ≤ d) (kind : Int) (fs : List Field) (hfs : fs.length ≤ 1048576) (l : List Raw) (k : Nat) (hk : k + 4 ^ (deep + 2) ≤ 4611686018427387904) (hl : l.length ≤ 9223372036854775807) (hr : ∀ r ∈ l, r.ok) (hg0 : ((0 :: S.g) <:+ g0) = False) (hS : S.H.get ⟨d0, t0, g0⟩ = some (gbox l k)) :
    callA tab (callR tab) d dst 33 [.ptr ⟨d0, t0, g0⟩ 0, .d (.int .i64 kind), .own 9 (fs.map Field.dv) none, .d (.int .i64 deep)] S = some (.d (gexpr fs l deep kind k).1.dv, ⟨S.T, upd [(⟨d0, t0, g0⟩, gbox l (gexpr fs l deep kind k).2)] S.H, 1 :: S.g⟩) := by
  obtain ⟨x, H', h1, h2, h3⟩ := hge (p := 0 :: S.g) d0 t0 g0 (Nat.lt_succ_of_le h) (of_eq_false hg0) kind fs hfs l k hk hl hr
  exact ca_open1 (cs := [.d (.sl 4 (l.map Raw.dv)), .d (.int .i64 k)]) (cs' := [.d (.sl 4 (l.map Raw.dv)), .d (.int .i64 (gexpr fs l deep kind k).2)]) (by split <;> rfl) (lent_off (tab_lend (by kernel_rfl))) rfl rfl rfl ⟨x, H', h1, h2, h3⟩ rfl hS
structure GWN where
  acc : List Exp
  t : Option (List Nat)
  n : Nat
  g : List Nat
theorem run_withN {deep : Nat} (hge : ExprOKN deep) {d : Nat} {p : List Nat} (d0 t0 : Nat) (g0 : List Nat) (d4 t4 : Nat) (g4 : List Nat) (t6 : Nat) (g6 : List Nat) (h46 : t4 ≠ t6) (h : d0 < d) (h4 : d4 < d) (h04 : d0 < d4) (hg0 : ¬ p <:+ g0) (op : Int) (ks : List Int) (hks : ks.length ≤ 3) (fs : List Field) (hfs : fs.length ≤ 1048576) (l : List Raw) (k : Nat) (hk : k + ks.length * 4 ^ (deep + 2) ≤ 4611686018427387904) (hl : l.length ≤ 9223372036854775807) (hr : ∀ r ∈ l, r.ok) (hd2 : deep ≤ 1000) :
    ∃ x H', callR tab d 64 [.d (.int .i64 op), .own 1 (ks.map (fun k => DV.int .i64 k)) none, .ptr ⟨d4, t4, g4⟩ 0, .ptr ⟨d4, t6, g6⟩ 0, .d (.rp [.int .i64 ((deep : Int) + 1)])] [(⟨d4, t4, g4⟩, .box [.ptr ⟨d0, t0, g0⟩ 0]), (⟨d4, t6, g6⟩, .box [.own 9 (fs.map Field.dv) none]), (⟨d0, t0, g0⟩, gbox l k)] p = some (x, H') ∧
      (soft tab 64 x = .d (Exp.mk op Val.zero [] (gargs (gexpr fs l deep) ks k).1).dv ∧ H'.get ⟨d4, t4, g4⟩ = some (.box [.ptr ⟨d0, t0, g0⟩ 0]) ∧ H'.get ⟨d4, t6, g6⟩ = some (.box [.own 9 (fs.map Field.dv) none]) ∧ H'.get ⟨d0, t0, g0⟩ = some (gbox l (gargs (gexpr fs l deep) ks k).2)) := by
  have e1 : (d0 = d) = False := eq_false (by omega)
  have e2 : (d = d0) = False := eq_false (by omega)
  have e3 : (d4 = d) = False := eq_false (by omega)
  have e4 : (d = d4) = False := eq_false (by omega)
  have e5 : (d0 = d4) = False := eq_false (by omega)
  have e6 : (d4 = d0) = False := eq_false (by omega)
  have e7 : (t4 = t6) = False := eq_false h46
  have e8 : (t6 = t4) = False := eq_false (fun e => h46 e.symm)
  have hd1 : decide (d0 < d) = true := decide_eq_true h
  have hd4 : decide (d4 < d) = true := decide_eq_true h4
  have hs0 : (p <:+ g0) = False := eq_false hg0
  refine retq_good (ks.length + 1) fn64 rfl rfl ?_
  simp only [amx, seval, ty_FmC_64]
  refine good_range ks (fun k' (a : GWN) _ => ⟨[(2, .ptr ⟨d4, t4, g4⟩ 0), (3, .ptr ⟨d4, t6, g6⟩ 0), (4, .d (.rp [.int .i64 ((deep : Int) + 1)])), (7, .ptr ⟨d, 7, 0 :: p⟩ 0), (8, .ptr ⟨d, 8, 0 :: 1 :: p⟩ 0), (13, .own 1 (ks.map (fun k => DV.int .i64 k)) none), (14, .d (.int .i64 ks.length)), (15, .d (.int .i64 (k' : Nat)))],
      tokP d 28 (a.acc.length * 6) a.t ++ [(⟨d, 8, 0 :: 1 :: p⟩, .box [.d (.int .i64 op), .d (.int .i64 0), .d (.int .i64 0), .d (.str []), .d (.str []), .own 6 (a.acc.map Exp.dv) (tokD d 28 a.t)]), (⟨d, 7, 0 :: p⟩, .box [.d (.int .i64 0), .d (.int .i64 0), .d (.int .i64 0), .d (.str []), .d (.str []), .own 6 [] none]), (⟨d4, t4, g4⟩, .box [.ptr ⟨d0, t0, g0⟩ 0]), (⟨d4, t6, g6⟩, .box [.own 9 (fs.map Field.dv) none]), (⟨d0, t0, g0⟩, gbox l a.n)], a.g⟩)
    (fun k' a => a.acc.length ≤ k' ∧ k ≤ a.n ∧ a.n ≤ k + k' * 4 ^ (deep + 2) ∧ ¬ a.g <:+ g0 ∧ p.length + 2 ≤ a.g.length) (fun k' a r => (a.acc ++ (gargs (gexpr fs l deep) r a.n).1, (gargs (gexpr fs l deep) r a.n).2))
    (fun (o : List Exp × Nat) (q : Out) (S : St) => q = .exit 0 ∧ ∃ t g, Sub ⟨[(7, .ptr ⟨d, 7, 0 :: p⟩ 0), (8, .ptr ⟨d, 8, 0 :: 1 :: p⟩ 0)],
      tokP d 28 (o.1.length * 6) t ++ [(⟨d, 8, 0 :: 1 :: p⟩, .box [.d (.int .i64 op), .d (.int .i64 0), .d (.int .i64 0), .d (.str []), .d (.str []), .own 6 (o.1.map Exp.dv) (tokD d 28 t)]), (⟨d, 7, 0 :: p⟩, .box [.d (.int .i64 0), .d (.int .i64 0), .d (.int .i64 0), .d (.str []), .d (.str []), .own 6 [] none]), (⟨d4, t4, g4⟩, .box [.ptr ⟨d0, t0, g0⟩ 0]), (⟨d4, t6, g6⟩, .box [.own 9 (fs.map Field.dv) none]), (⟨d0, t0, g0⟩, gbox l o.2)], g⟩ S) ⟨[], none, k, 1 :: 1 :: p⟩ kp64_3 (fun r => up_tok) ⟨Nat.le_refl _, Nat.le_refl _, by simp, apart_cons (apart_cons hg0), by simp⟩ (by omega) (by omega) ?_ ?_ ?_ ?_
  · rintro k' ⟨acc, t, n, g⟩ _ x rest hk' hget hdr hI hb w1
    have hget' : (ks.map (fun k => DV.int .i64 k))[k']? = some (.int .i64 x) := by rw [List.getElem?_map, hget]; rfl
    simp only at hI
    obtain ⟨hI1, hI2, hI3, hI4, hI5⟩ := hI
    have hsx : ∀ (m b : Nat), (List.drop m (0 :: 1 :: p) = b :: g) = False := fun m b => eq_false (fun h => by have := congrArg List.length h; simp only [List.length_drop, List.length_cons] at this; omega)
    have fR : ∀ (Q : Tm) (H : Heap) (q : List Nat) (a c : DV), Heap.get H ⟨d0, t0, g0⟩ = some (gbox l n) → ftC ⟨Q, H, q⟩ [.ptr ⟨d0, t0, g0⟩ 0, .d a, .own 9 (fs.map Field.dv) none, .d c] none = ⟨[], [⟨d0, t0, g0⟩], true⟩ := fun Q H q a c hS => ftC_1 rfl hS rfl
    have hA : ((acc.length + 1) * 80 ≤ 140737488355328) = True := eq_true (by omega)
    have hkl : ((k' : Int) < (ks.length : Int)) = True := eq_true (by omega)
    have hb1 : k' * 4 ^ (deep + 2) + 4 ^ (deep + 2) ≤ ks.length * 4 ^ (deep + 2) := by
      rw [← Nat.succ_mul]
      exact Nat.mul_le_mul_right _ hk'
    have w2 : IntKind.i64.wrap ((deep : Int) + 1 - 1) = (deep : Int) := by rw [wrap_in (by omega) (by omega)]; omega
    have fE := fun (T : Tm) (g : List Nat) (H : Heap) (dst : Nat) (hx : ((0 :: g) <:+ g0) = False) (hS : Heap.get H ⟨d0, t0, g0⟩ = some (gbox l n)) => ca_exprHN hge (d := d) (dst := dst) (S := ⟨T, H, g⟩) d0 t0 g0 (by omega) x fs hfs l n (by omega) hl hr hx hS
    have ha := gexpr_at fs l deep x n
    have hsp : gargs (gexpr fs l deep) (x :: rest) n = ((gexpr fs l deep x n).1 :: (gargs (gexpr fs l deep) rest (gexpr fs l deep x n).2).1, (gargs (gexpr fs l deep) rest (gexpr fs l deep x n).2).2) := rfl
    simp only [Exp.dv_eq (gexpr fs l deep x n).1] at fE
    generalize gexpr fs l deep x n = y at *
    rcases t with _ | t
    · simp only [amx, seval, ty_FmC_64, hb, w1, w2, hget', hkl, tokD, tokP, hA, e1, e2, e3, e4, e5, e6, e7, e8, hd1, hd4, sx1, sx2, fE, fR, hsx, suf1 hI4, suf2 hI4, suf3 hI4, suf4 hI4, upd, Option.getD_some, Option.getD_none]
      refine step_nrm (GWN.mk (acc ++ [y.1]) (some (11 :: g)) y.2 (1 :: g)) ?_ ?_ ?_
      · refine ⟨?_, ?_, ?_, ?_, ?_⟩
        · simp only [List.length_append, List.length_cons, List.length_nil]; omega
        · simp only; omega
        · simp only [Nat.succ_mul]; omega
        · exact apart_cons hI4
        · simp only [List.length_cons]; omega
      · rw [hsp]; simp
      · (refine ⟨[], ?_⟩; (try simp only [amx, seval, tokD, tokP, e1, e2, e3, e4, e5, e6, e7, e8, hd1, hd4, Exp.dv_eq y.1]); exact sub_mk (by repeat first | exact subT_nil | refine subT_cons (by first | rfl | simp [Tm.get, *]) ?_))
    · simp only [amx, seval, ty_FmC_64, hb, w1, w2, hget', hkl, tokD, tokP, hA, e1, e2, e3, e4, e5, e6, e7, e8, hd1, hd4, sx1, sx2, fE, fR, hsx, suf1 hI4, suf2 hI4, suf3 hI4, suf4 hI4, upd, Option.getD_some, Option.getD_none]
      refine step_nrm (GWN.mk (acc ++ [y.1]) (some t) y.2 (1 :: g)) ?_ ?_ ?_
      · refine ⟨?_, ?_, ?_, ?_, ?_⟩
        · simp only [List.length_append, List.length_cons, List.length_nil]; omega
        · simp only; omega
        · simp only [Nat.succ_mul]; omega
        · exact apart_cons hI4
        · simp only [List.length_cons]; omega
      · rw [hsp]; simp
      · (refine ⟨[], ?_⟩; (try simp only [amx, seval, tokD, tokP, e1, e2, e3, e4, e5, e6, e7, e8, hd1, hd4, Exp.dv_eq y.1]); exact sub_mk (by repeat first | exact subT_nil | refine subT_cons (by first | rfl | simp [Tm.get, *]) ?_))
  · rintro ⟨acc, t, n, g⟩ _ _ hb
    simp only [amx, seval, ty_FmC_64, hb, e7, e8]
    refine last_end (by simp) ⟨rfl, t, ?_⟩
    simp only [gargs, List.append_nil]
    rcases t with _ | t
    · (apply Exists.intro; (try simp only [amx, seval, tokD, tokP, e1, e2, e3, e4, e5, e6, e7, e8, hd1, hd4]); exact sub_mk (by repeat first | exact subT_nil | refine subT_cons (by first | rfl | simp [Tm.get, *]) ?_))
    · (apply Exists.intro; (try simp only [amx, seval, tokD, tokP, e1, e2, e3, e4, e5, e6, e7, e8, hd1, hd4]); exact sub_mk (by repeat first | exact subT_nil | refine subT_cons (by first | rfl | simp [Tm.get, *]) ?_))
  · (refine ⟨[], ?_⟩; (try simp only [amx, seval, tokD, tokP, e1, e2, e3, e4, e5, e6, e7, e8, hd1, hd4]); exact sub_mk (by repeat first | exact subT_nil | refine subT_cons (by first | rfl | simp [Tm.get, *]) ?_))
  · rintro o S' ⟨rfl, t, g, hs⟩
    refine good_sub_cr up_finq hs ?_
    simp only [List.nil_append]
    generalize gargs (gexpr fs l deep) ks k = o at *
    rw [Exp.dv_mk]
    rcases t with _ | t
    · simp only [amx, seval, ty_FmC_64, tokD, tokP, e1, e2, e3, e4, e5, e6, e7, e8, hd1, hd4]
      exact soft_agg (by kernel_rfl) rfl
    · simp only [amx, seval, ty_FmC_64, tokD, tokP, e1, e2, e3, e4, e5, e6, e7, e8, hd1, hd4]
      exact soft_agg (by kernel_rfl) rfl
def ExprOKA (deep : Nat) : Prop := ∀ {d : Nat} {p : List Nat} (d0 t0 : Nat) (g0 : List Nat) (t1 : Nat) (g1 : List Nat), d0 < d → ¬ p <:+ g0 → t0 ≠ t1 → ¬ p <:+ g1 → ∀ (kind : Int) (fs : List Field), fs.length ≤ 1048576 → ∀ (l : List Raw) (k : Nat), k + 4 ^ (deep + 2) ≤ 4611686018427387904 → l.length ≤ 9223372036854775807 → (∀ r ∈ l, r.ok) →
    ∃ x H', callR tab d 33 [.ptr ⟨d0, t0, g0⟩ 0, .d (.int .i64 kind), .arr ⟨d0, t1, g1⟩ 0 fs.length 9, .d (.int .i64 deep)] [(⟨d0, t0, g0⟩, gbox l k), (⟨d0, t1, g1⟩, fbox fs)] p = some (x, H') ∧ (soft tab 33 x = .d (gexpr fs l deep kind k).1.dv ∧ H'.get ⟨d0, t0, g0⟩ = some (gbox l (gexpr fs l deep kind k).2) ∧ H'.get ⟨d0, t1, g1⟩ = some (fbox fs))
theorem ca_exprHA {deep : Nat} (hge : ExprOKA deep) {d dst : Nat} {S : St} (d0 t0 : Nat) (g0 : List Nat) (t1 : Nat) (g1 : List Nat) (ht : t0 ≠ t1) (h : d0 ≤ d) (kind : Int) (fs : List Field) (hfs : fs.length ≤ 1048576) (l : List Raw) (k : Nat) (hk : k + 4 ^ (deep + 2) ≤ 4611686018427387904) (hl : l.length ≤ 9223372036854775807) (hr : ∀ r ∈ l, r.ok) (hg0 : ((0 :: S.g) <:+ g0) = False) (hg1 : ((0 :: S.g) <:+ g1) = False) (hS : S.H.get ⟨d0, t0, g0⟩ = some (gbox l k)) (hF : S.H.get ⟨d0, t1, g1⟩ = some (fbox fs)) :
    callA tab (callR tab) d dst 33 [.ptr ⟨d0, t0, g0⟩ 0, .d (.int .i64 kind), .arr ⟨d0, t1, g1⟩ 0 fs.length 9, .d (.int .i64 deep)] S = some (.d (gexpr fs l deep kind k).1.dv, ⟨S.T, upd [(⟨d0, t0, g0⟩, gbox l (gexpr fs l deep kind k).2), (⟨d0, t1, g1⟩, fbox fs)] S.H, 1 :: S.g⟩) := by
  obtain ⟨x, H', h1, h2, h3, h4⟩ := hge (p := 0 :: S.g) d0 t0 g0 t1 g1 (Nat.lt_succ_of_le h) (of_eq_false hg0) ht (of_eq_false hg1) kind fs hfs l k hk hl hr
  exact ca_open2 (cs := [.d (.sl 4 (l.map Raw.dv)), .d (.int .i64 k)]) (cs' := [.d (.sl 4 (l.map Raw.dv)), .d (.int .i64 (gexpr fs l deep kind k).2)]) (by split <;> rfl) (lent_off (tab_lend (by kernel_rfl))) (id_ne ht) rfl rfl rfl (ids_flat _) ⟨x, H', h1, h2, h3, h4⟩ rfl hS hF
structure GWA where
  acc : List Exp
  t : Option (List Nat)
  n : Nat
  g : List Nat
theorem run_withA {deep : Nat} (hge : ExprOKA deep) {d : Nat} {p : List Nat} (d0 t0 : Nat) (g0 : List Nat) (d4 t4 : Nat) (g4 : List Nat) (t6 : Nat) (g6 : List Nat) (h46 : t4 ≠ t6) (t1 : Nat) (g1 : List Nat) (ht : t0 ≠ t1) (h : d0 < d) (h4 : d4 < d) (h04 : d0 < d4) (hg0 : ¬ p <:+ g0) (hg1 : ¬ p <:+ g1) (op : Int) (ks : List Int) (hks : ks.length ≤ 3) (fs : List Field) (hfs : fs.length ≤ 1048576) (l : List Raw) (k : Nat) (hk : k + ks.length * 4 ^ (deep + 2) ≤ 4611686018427387904) (hl : l.length ≤ 9223372036854775807) (hr : ∀ r ∈ l, r.ok) (hd2 : deep ≤ 1000) :
    ∃ x H', callR tab d 64 [.d (.int .i64 op), .own 1 (ks.map (fun k => DV.int .i64 k)) none, .ptr ⟨d4, t4, g4⟩ 0, .ptr ⟨d4, t6, g6⟩ 0, .d (.rp [.int .i64 ((deep : Int) + 1)])] [(⟨d4, t4, g4⟩, .box [.ptr ⟨d0, t0, g0⟩ 0]), (⟨d4, t6, g6⟩, .box [.arr ⟨d0, t1, g1⟩ 0 fs.length 9]), (⟨d0, t0, g0⟩, gbox l k), (⟨d0, t1, g1⟩, fbox fs)] p = some (x, H') ∧
      (soft tab 64 x = .d (Exp.mk op Val.zero [] (gargs (gexpr fs l deep) ks k).1).dv ∧ H'.get ⟨d4, t4, g4⟩ = some (.box [.ptr ⟨d0, t0, g0⟩ 0]) ∧ H'.get ⟨d4, t6, g6⟩ = some (.box [.arr ⟨d0, t1, g1⟩ 0 fs.length 9]) ∧ H'.get ⟨d0, t0, g0⟩ = some (gbox l (gargs (gexpr fs l deep) ks k).2) ∧ H'.get ⟨d0, t1, g1⟩ = some (fbox fs)) := by
  have e1 : (d0 = d) = False := eq_false (by omega)
  have e2 : (d = d0) = False := eq_false (by omega)
  have e3 : (d4 = d) = False := eq_false (by omega)
  have e4 : (d = d4) = False := eq_false (by omega)
  have e5 : (d0 = d4) = False := eq_false (by omega)
  have e6 : (d4 = d0) = False := eq_false (by omega)
  have e7 : (t4 = t6) = False := eq_false h46
  have e8 : (t6 = t4) = False := eq_false (fun e => h46 e.symm)
  have e9 : (t0 = t1) = False := eq_false ht
  have e10 : (t1 = t0) = False := eq_false (fun e => ht e.symm)
  have hd1 : decide (d0 < d) = true := decide_eq_true h
  have hd4 : decide (d4 < d) = true := decide_eq_true h4
  have hs0 : (p <:+ g0) = False := eq_false hg0
  have hs1 : (p <:+ g1) = False := eq_false hg1
  refine retq_good (ks.length + 1) fn64 rfl rfl ?_
  simp only [amx, seval, ty_FmC_64]
  refine good_range ks (fun k' (a : GWA) _ => ⟨[(2, .ptr ⟨d4, t4, g4⟩ 0), (3, .ptr ⟨d4, t6, g6⟩ 0), (4, .d (.rp [.int .i64 ((deep : Int) + 1)])), (7, .ptr ⟨d, 7, 0 :: p⟩ 0), (8, .ptr ⟨d, 8, 0 :: 1 :: p⟩ 0), (13, .own 1 (ks.map (fun k => DV.int .i64 k)) none), (14, .d (.int .i64 ks.length)), (15, .d (.int .i64 (k' : Nat)))],
      tokP d 28 (a.acc.length * 6) a.t ++ [(⟨d, 8, 0 :: 1 :: p⟩, .box [.d (.int .i64 op), .d (.int .i64 0), .d (.int .i64 0), .d (.str []), .d (.str []), .own 6 (a.acc.map Exp.dv) (tokD d 28 a.t)]), (⟨d, 7, 0 :: p⟩, .box [.d (.int .i64 0), .d (.int .i64 0), .d (.int .i64 0), .d (.str []), .d (.str []), .own 6 [] none]), (⟨d4, t4, g4⟩, .box [.ptr ⟨d0, t0, g0⟩ 0]), (⟨d4, t6, g6⟩, .box [.arr ⟨d0, t1, g1⟩ 0 fs.length 9]), (⟨d0, t0, g0⟩, gbox l a.n), (⟨d0, t1, g1⟩, fbox fs)], a.g⟩)
    (fun k' a => a.acc.length ≤ k' ∧ k ≤ a.n ∧ a.n ≤ k + k' * 4 ^ (deep + 2) ∧ (¬ a.g <:+ g0 ∧ ¬ a.g <:+ g1) ∧ p.length + 2 ≤ a.g.length) (fun k' a r => (a.acc ++ (gargs (gexpr fs l deep) r a.n).1, (gargs (gexpr fs l deep) r a.n).2))
    (fun (o : List Exp × Nat) (q : Out) (S : St) => q = .exit 0 ∧ ∃ t g, Sub ⟨[(7, .ptr ⟨d, 7, 0 :: p⟩ 0), (8, .ptr ⟨d, 8, 0 :: 1 :: p⟩ 0)],
      tokP d 28 (o.1.length * 6) t ++ [(⟨d, 8, 0 :: 1 :: p⟩, .box [.d (.int .i64 op), .d (.int .i64 0), .d (.int .i64 0), .d (.str []), .d (.str []), .own 6 (o.1.map Exp.dv) (tokD d 28 t)]), (⟨d, 7, 0 :: p⟩, .box [.d (.int .i64 0), .d (.int .i64 0), .d (.int .i64 0), .d (.str []), .d (.str []), .own 6 [] none]), (⟨d4, t4, g4⟩, .box [.ptr ⟨d0, t0, g0⟩ 0]), (⟨d4, t6, g6⟩, .box [.arr ⟨d0, t1, g1⟩ 0 fs.length 9]), (⟨d0, t0, g0⟩, gbox l o.2), (⟨d0, t1, g1⟩, fbox fs)], g⟩ S) ⟨[], none, k, 1 :: 1 :: p⟩ kp64_3 (fun r => up_tok) ⟨Nat.le_refl _, Nat.le_refl _, by simp, ⟨apart_cons (apart_cons hg0), apart_cons (apart_cons hg1)⟩, by simp⟩ (by omega) (by omega) ?_ ?_ ?_ ?_
  · rintro k' ⟨acc, t, n, g⟩ _ x rest hk' hget hdr hI hb w1
    have hget' : (ks.map (fun k => DV.int .i64 k))[k']? = some (.int .i64 x) := by rw [List.getElem?_map, hget]; rfl
    simp only at hI
    obtain ⟨hI1, hI2, hI3, ⟨hI4, hI6⟩, hI5⟩ := hI
    have hsx : ∀ (m b : Nat), (List.drop m (0 :: 1 :: p) = b :: g) = False := fun m b => eq_false (fun h => by have := congrArg List.length h; simp only [List.length_drop, List.length_cons] at this; omega)
    have fR : ∀ (Q : Tm) (H : Heap) (q : List Nat) (a b : DV), Heap.get H ⟨d0, t0, g0⟩ = some (gbox l n) → Heap.get H ⟨d0, t1, g1⟩ = some (fbox fs) → ftC ⟨Q, H, q⟩ [.ptr ⟨d0, t0, g0⟩ 0, .d a, .arr ⟨d0, t1, g1⟩ 0 fs.length 9, .d b] none = ⟨[], [⟨d0, t0, g0⟩, ⟨d0, t1, g1⟩], true⟩ := fun Q H q a b hS hT => ftC_2 (id_ne ht) rfl hS hT rfl (ids_flat _)
    have hA : ((acc.length + 1) * 80 ≤ 140737488355328) = True := eq_true (by omega)
    have hkl : ((k' : Int) < (ks.length : Int)) = True := eq_true (by omega)
    have hb1 : k' * 4 ^ (deep + 2) + 4 ^ (deep + 2) ≤ ks.length * 4 ^ (deep + 2) := by
      rw [← Nat.succ_mul]
      exact Nat.mul_le_mul_right _ hk'
    have w2 : IntKind.i64.wrap ((deep : Int) + 1 - 1) = (deep : Int) := by rw [wrap_in (by omega) (by omega)]; omega
    have fE := fun (T : Tm) (g : List Nat) (H : Heap) (dst : Nat) (hx : ((0 :: g) <:+ g0) = False) (hx1 : ((0 :: g) <:+ g1) = False) (hS : Heap.get H ⟨d0, t0, g0⟩ = some (gbox l n)) (hT : Heap.get H ⟨d0, t1, g1⟩ = some (fbox fs)) => ca_exprHA hge (d := d) (dst := dst) (S := ⟨T, H, g⟩) d0 t0 g0 t1 g1 ht (by omega) x fs hfs l n (by omega) hl hr hx hx1 hS hT
    have ha := gexpr_at fs l deep x n
    have hsp : gargs (gexpr fs l deep) (x :: rest) n = ((gexpr fs l deep x n).1 :: (gargs (gexpr fs l deep) rest (gexpr fs l deep x n).2).1, (gargs (gexpr fs l deep) rest (gexpr fs l deep x n).2).2) := rfl
    simp only [Exp.dv_eq (gexpr fs l deep x n).1] at fE
    generalize gexpr fs l deep x n = y at *
    rcases t with _ | t
    · simp only [amx, seval, ty_FmC_64, hb, w1, w2, hget', hkl, tokD, tokP, hA, e1, e2, e3, e4, e5, e6, e7, e8, e9, e10, hd1, hd4, sx1, sx2, fE, fR, hsx, suf1 hI4, suf2 hI4, suf3 hI4, suf4 hI4, suf1 hI6, suf2 hI6, suf3 hI6, suf4 hI6, upd, Option.getD_some, Option.getD_none]
      refine step_nrm (GWA.mk (acc ++ [y.1]) (some (11 :: g)) y.2 (1 :: g)) ?_ ?_ ?_
      · refine ⟨?_, ?_, ?_, ?_, ?_⟩
        · simp only [List.length_append, List.length_cons, List.length_nil]; omega
        · simp only; omega
        · simp only [Nat.succ_mul]; omega
        · exact ⟨apart_cons hI4, apart_cons hI6⟩
        · simp only [List.length_cons]; omega
      · rw [hsp]; simp
      · (refine ⟨[], ?_⟩; (try simp only [amx, seval, tokD, tokP, e1, e2, e3, e4, e5, e6, e7, e8, e9, e10, hd1, hd4, Exp.dv_eq y.1]); exact sub_mk (by repeat first | exact subT_nil | refine subT_cons (by first | rfl | simp [Tm.get, *]) ?_))
    · simp only [amx, seval, ty_FmC_64, hb, w1, w2, hget', hkl, tokD, tokP, hA, e1, e2, e3, e4, e5, e6, e7, e8, e9, e10, hd1, hd4, sx1, sx2, fE, fR, hsx, suf1 hI4, suf2 hI4, suf3 hI4, suf4 hI4, suf1 hI6, suf2 hI6, suf3 hI6, suf4 hI6, upd, Option.getD_some, Option.getD_none]
      refine step_nrm (GWA.mk (acc ++ [y.1]) (some t) y.2 (1 :: g)) ?_ ?_ ?_
      · refine ⟨?_, ?_, ?_, ?_, ?_⟩
        · simp only [List.length_append, List.length_cons, List.length_nil]; omega
        · simp only; omega
        · simp only [Nat.succ_mul]; omega
        · exact ⟨apart_cons hI4, apart_cons hI6⟩
        · simp only [List.length_cons]; omega
      · rw [hsp]; simp
      · (refine ⟨[], ?_⟩; (try simp only [amx, seval, tokD, tokP, e1, e2, e3, e4, e5, e6, e7, e8, e9, e10, hd1, hd4, Exp.dv_eq y.1]); exact sub_mk (by repeat first | exact subT_nil | refine subT_cons (by first | rfl | simp [Tm.get, *]) ?_))
  · rintro ⟨acc, t, n, g⟩ _ _ hb
    simp only [amx, seval, ty_FmC_64, hb, e7, e8]
    refine last_end (by simp) ⟨rfl, t, ?_⟩
    simp only [gargs, List.append_nil]
    rcases t with _ | t
    · (apply Exists.intro; (try simp only [amx, seval, tokD, tokP, e1, e2, e3, e4, e5, e6, e7, e8, e9, e10, hd1, hd4]); exact sub_mk (by repeat first | exact subT_nil | refine subT_cons (by first | rfl | simp [Tm.get, *]) ?_))
    · (apply Exists.intro; (try simp only [amx, seval, tokD, tokP, e1, e2, e3, e4, e5, e6, e7, e8, e9, e10, hd1, hd4]); exact sub_mk (by repeat first | exact subT_nil | refine subT_cons (by first | rfl | simp [Tm.get, *]) ?_))
  · (refine ⟨[], ?_⟩; (try simp only [amx, seval, tokD, tokP, e1, e2, e3, e4, e5, e6, e7, e8, e9, e10, hd1, hd4]); exact sub_mk (by repeat first | exact subT_nil | refine subT_cons (by first | rfl | simp [Tm.get, *]) ?_))
  · rintro o S' ⟨rfl, t, g, hs⟩
    refine good_sub_cr up_finq hs ?_
    simp only [List.nil_append]
    generalize gargs (gexpr fs l deep) ks k = o at *
    rw [Exp.dv_mk]
    rcases t with _ | t
    · simp only [amx, seval, ty_FmC_64, tokD, tokP, e1, e2, e3, e4, e5, e6, e7, e8, e9, e10, hd1, hd4]
      exact soft_agg (by kernel_rfl) rfl
    · simp only [amx, seval, ty_FmC_64, tokD, tokP, e1, e2, e3, e4, e5, e6, e7, e8, e9, e10, hd1, hd4]
      exact soft_agg (by kernel_rfl) rfl
/- Formulas of raw things, the fields a list of a call: of every depth. -/
theorem ty_FmD_33 : type_of% (ai (ai (ai (ai @rs33 @lw33) (ai @ro65_4_raw_go_91 (ai @ro23_6_raw_go_91 @ro3_7_raw_go_91))) (ai (ai @tt1 @tt2) (ai @tt3 (ai @tt4 @tt5)))) (ai (ai (ai @tt9 @tt23) (ai @tt33 (ai @tt34 @tt36))) (ai (ai @tt48 @tt50) (ai @tt65 (ai @tt69 @tt104))))) := (ai (ai (ai (ai @rs33 @lw33) (ai @ro65_4_raw_go_91 (ai @ro23_6_raw_go_91 @ro3_7_raw_go_91))) (ai (ai @tt1 @tt2) (ai @tt3 (ai @tt4 @tt5)))) (ai (ai (ai @tt9 @tt23) (ai @tt33 (ai @tt34 @tt36))) (ai (ai @tt48 @tt50) (ai @tt65 (ai @tt69 @tt104)))))



theorem ca_withN {deep : Nat} (hge : ExprOKN deep) {d dst : Nat} {S : St} (d0 t0 : Nat) (g0 : List Nat) (d4 t4 : Nat) (g4 : List Nat) (t6 : Nat) (g6 : List Nat) (h46 : t4 ≠ t6) (h : d0 ≤ d) (h4 : d4 ≤ d) (h04 : d0 < d4) (op : Int) (ks : List Int) (hks : ks.length ≤ 3) (fs : List Field) (hfs : fs.length ≤ 1048576) (l : List Raw) (k : Nat) (hk : k + ks.length * 4 ^ (deep + 2) ≤ 4611686018427387904) (hl : l.length ≤ 9223372036854775807) (hr : ∀ r ∈ l, r.ok) (hd2 : deep ≤ 1000)
    (hg0 : ((0 :: S.g) <:+ g0) = False) (hS4 : S.H.get ⟨d4, t4, g4⟩ = some (.box [.ptr ⟨d0, t0, g0⟩ 0])) (hS6 : S.H.get ⟨d4, t6, g6⟩ = some (.box [.own 9 (fs.map Field.dv) none])) (hS : S.H.get ⟨d0, t0, g0⟩ = some (gbox l k)) :
    callA tab (callR tab) d dst 64 [.d (.int .i64 op), .own 1 (ks.map (fun k => DV.int .i64 k)) none, .ptr ⟨d4, t4, g4⟩ 0, .ptr ⟨d4, t6, g6⟩ 0, .d (.rp [.int .i64 ((deep : Int) + 1)])] S =
      some (.d (Exp.mk op Val.zero [] (gargs (gexpr fs l deep) ks k).1).dv, ⟨S.T, upd [(⟨d4, t4, g4⟩, .box [.ptr ⟨d0, t0, g0⟩ 0]), (⟨d4, t6, g6⟩, .box [.own 9 (fs.map Field.dv) none]), (⟨d0, t0, g0⟩, gbox l (gargs (gexpr fs l deep) ks k).2)] S.H, 1 :: S.g⟩) := by
  obtain ⟨x, H', h1, h2, h3, h5, h6⟩ := run_withN hge (p := 0 :: S.g) d0 t0 g0 d4 t4 g4 t6 g6 h46 (Nat.lt_succ_of_le h) (Nat.lt_succ_of_le h4) h04 (of_eq_false hg0) op ks hks fs hfs l k hk hl hr hd2
  have n46 : (⟨d4, t4, g4⟩ : Id) ≠ ⟨d4, t6, g6⟩ := fun e => h46 (by injection e)
  have n40 : (⟨d4, t4, g4⟩ : Id) ≠ ⟨d0, t0, g0⟩ := fun e => by injection e with e1 _ _; omega
  have n64 : (⟨d4, t6, g6⟩ : Id) ≠ ⟨d4, t4, g4⟩ := fun e => h46 (by injection e with _ e _; exact e.symm)
  have n60 : (⟨d4, t6, g6⟩ : Id) ≠ ⟨d0, t0, g0⟩ := fun e => by injection e with e1 _ _; omega
  have n04 : (⟨d0, t0, g0⟩ : Id) ≠ ⟨d4, t4, g4⟩ := fun e => by injection e with e1 _ _; omega
  have n06 : (⟨d0, t0, g0⟩ : Id) ≠ ⟨d4, t6, g6⟩ := fun e => by injection e with e1 _ _; omega
  have w0 : within [⟨d4, t4, g4⟩, ⟨d4, t6, g6⟩] S.H = [(⟨d4, t4, g4⟩, .box [.ptr ⟨d0, t0, g0⟩ 0]), (⟨d4, t6, g6⟩, .box [.own 9 (fs.map Field.dv) none])] := by simp [within, hS4, hS6]
  have w2 : within [(⟨d4, t4, g4⟩ : Id), ⟨d4, t6, g6⟩, ⟨d0, t0, g0⟩] S.H = [(⟨d4, t4, g4⟩, .box [.ptr ⟨d0, t0, g0⟩ 0]), (⟨d4, t6, g6⟩, .box [.own 9 (fs.map Field.dv) none]), (⟨d0, t0, g0⟩, gbox l k)] := by simp [within, hS4, hS6, hS]
  have hids : ∀ n, idsH [(⟨d4, t4, g4⟩, .box [.ptr ⟨d0, t0, g0⟩ 0]), (⟨d4, t6, g6⟩, .box [.own 9 (fs.map Field.dv) none]), (⟨d0, t0, g0⟩, gbox l n)] = [⟨d0, t0, g0⟩] := fun n => by
    have hg : idsP (gbox l n) = [] := rfl
    simp only [idsH, hg]
    rfl
  have hall : ([⟨d0, t0, g0⟩] : List Id).all (fun i => [(⟨d4, t4, g4⟩ : Id), ⟨d4, t6, g6⟩, ⟨d0, t0, g0⟩].contains i) = true := by simp
  refine ca_open (W0 := [(⟨d4, t4, g4⟩, .box [.ptr ⟨d0, t0, g0⟩ 0]), (⟨d4, t6, g6⟩, .box [.own 9 (fs.map Field.dv) none]), (⟨d0, t0, g0⟩, gbox l k)]) (W := [(⟨d4, t4, g4⟩, .box [.ptr ⟨d0, t0, g0⟩ 0]), (⟨d4, t6, g6⟩, .box [.own 9 (fs.map Field.dv) none]), (⟨d0, t0, g0⟩, gbox l (gargs (gexpr fs l deep) ks k).2)]) (by split <;> rfl) (lent_off (tab_lend (by kernel_rfl))) ?_ w2 (by rw [hids]; exact hall) ⟨x, H', h1, h2, fun i hi => ?_⟩ rfl rfl ?_
  · have ha0 : addIds [] (idsL [AV.d (.int .i64 op), .own 1 (ks.map (fun k => DV.int .i64 k)) none, .ptr ⟨d4, t4, g4⟩ 0, .ptr ⟨d4, t6, g6⟩ 0, .d (.rp [.int .i64 ((deep : Int) + 1)])]) = [⟨d4, t4, g4⟩, ⟨d4, t6, g6⟩] := by
      show addIds [] [(⟨d4, t4, g4⟩ : Id), ⟨d4, t6, g6⟩] = _
      simp [addIds, n64]
    rw [ha0]
    unfold reach
    rw [w0]
    have hi0 : idsH [(⟨d4, t4, g4⟩, Place.box [AV.ptr ⟨d0, t0, g0⟩ 0]), (⟨d4, t6, g6⟩, .box [.own 9 (fs.map Field.dv) none])] = [⟨d0, t0, g0⟩] := rfl
    rw [hi0]
    have hno : ([⟨d0, t0, g0⟩] : List Id).all (fun i => [(⟨d4, t4, g4⟩ : Id), ⟨d4, t6, g6⟩].contains i) = false := by simp [n46, n40, n64, n60, n04, n06]
    rw [hno]
    simp only [Bool.false_eq_true, if_false]
    have ha : addIds [(⟨d4, t4, g4⟩ : Id), ⟨d4, t6, g6⟩] [⟨d0, t0, g0⟩] = [(⟨d4, t4, g4⟩ : Id), ⟨d4, t6, g6⟩, ⟨d0, t0, g0⟩] := by simp [addIds, n46, n40, n64, n60, n04, n06]
    rw [ha]
    unfold reach
    rw [w2, hids, if_pos hall]
    rfl
  · have : i = ⟨d4, t4, g4⟩ ∨ i = ⟨d4, t6, g6⟩ ∨ i = ⟨d0, t0, g0⟩ := by simpa [Am.keys] using hi
    rcases this with rfl | rfl | rfl
    · rw [h3]; simp [Heap.get, n46, n40, n64, n60, n04, n06]
    · rw [h5]; simp [Heap.get, n46, n40, n64, n60, n04, n06]
    · rw [h6]; simp [Heap.get, n46, n40, n64, n60, n04, n06]
  · have : within (Am.keys [(⟨d4, t4, g4⟩, .box [.ptr ⟨d0, t0, g0⟩ 0]), (⟨d4, t6, g6⟩, .box [.own 9 (fs.map Field.dv) none]), (⟨d0, t0, g0⟩, gbox l k)]) [(⟨d4, t4, g4⟩, .box [.ptr ⟨d0, t0, g0⟩ 0]), (⟨d4, t6, g6⟩, .box [.own 9 (fs.map Field.dv) none]), (⟨d0, t0, g0⟩, gbox l (gargs (gexpr fs l deep) ks k).2)] = [(⟨d4, t4, g4⟩, .box [.ptr ⟨d0, t0, g0⟩ 0]), (⟨d4, t6, g6⟩, .box [.own 9 (fs.map Field.dv) none]), (⟨d0, t0, g0⟩, gbox l (gargs (gexpr fs l deep) ks k).2)] := by
      simp [Am.keys, within, Heap.get, n46, n40, n64, n60, n04, n06]
    rw [this, hids]
    exact hall
theorem expr_ok0N : ExprOKN 0 := by
  intro d p d0 t0 g0 h hg0 kind fs hfs l k hk hl hr
  have e1 : (d0 = d) = False := eq_false (by omega)
  have e2 : (d = d0) = False := eq_false (by omega)
  have hd1 : decide (d0 < d) = true := decide_eq_true h
  have hs0 : (p <:+ g0) = False := eq_false hg0
  have hk1 := gat_le l k
  refine retq_good 1 fn33 rfl rfl ?_
  have fn := fun (T : Tm) (g : List Nat) (H : Heap) (dst : Nat) (hx : ((0 :: g) <:+ g0) = False) (hS : Heap.get H ⟨d0, t0, g0⟩ = some (gbox l k)) => ca_next (d := d) (dst := dst) (S := ⟨T, H, g⟩) d0 t0 g0 l k (by omega) hl (by omega) hx hS
  have fl := fun (T : Tm) (g : List Nat) (H : Heap) (dst : Nat) (hx : ((0 :: g) <:+ g0) = False) (hS : Heap.get H ⟨d0, t0, g0⟩ = some (gbox l (gat l k))) => ca_leafN (d := d) (dst := dst) (S := ⟨T, H, g⟩) d0 t0 g0 (by omega) kind fs hfs l (gat l k) (by omega) hl hr hx hS
  have hge : gexpr fs l 0 kind k = (gleafE kind fs (gnext l (gat l k)), gat l (gat l k)) := rfl
  rw [hge]
  simp only [Exp.dv_eq (gleafE kind fs (gnext l (gat l k)))] at fl ⊢
  generalize gleafE kind fs (gnext l (gat l k)) = E at *
  generalize gnext l k = r at *
  generalize gat l (gat l k) = k3 at *
  generalize gat l k = k2 at *
  simp only [amx, seval, ty_FmD_33, fn, fl, suf1 hg0, suf2 hg0, suf3 hg0, suf4 hg0, suf5 hg0, suf6 hg0, hs0, Raw.dv, e1, e2, hd1, upd, Option.getD_none, Option.getD_some, soft_d, Int.le_refl, Int.natCast_zero, Int.cast_ofNat_Int]
theorem expr_okSN {n : Nat} (hge : ExprOKN n) (hn : n ≤ 1000) : ExprOKN (n + 1) := by
  intro d p d0 t0 g0 h hg0 kind fs hfs l k hk hl hr
  have e1 : (d0 = d) = False := eq_false (by omega)
  have e2 : (d = d0) = False := eq_false (by omega)
  have hd1 : decide (d0 < d) = true := decide_eq_true h
  have hs0 : (p <:+ g0) = False := eq_false hg0
  have hk1 := gat_le l k
  have h7 : 4 ^ (n + 1 + 2) = 4 * 4 ^ (n + 2) := by rw [show n + 1 + 2 = (n + 2) + 1 by omega, Nat.pow_succ, Nat.mul_comm]
  have h8 : 16 ≤ 4 ^ (n + 2) := by
    have := Nat.pow_le_pow_right (n := 4) (by decide) (show 2 ≤ n + 2 by omega)
    simpa using this
  have hbnd : ∀ m : Nat, m ≤ 3 → gat l k + m * 4 ^ (n + 2) ≤ 4611686018427387904 := fun m hm => by
    have := Nat.mul_le_mul_right (4 ^ (n + 2)) hm
    omega
  refine retq_good 1 fn33 rfl rfl ?_
  have fn := fun (T : Tm) (g : List Nat) (H : Heap) (dst : Nat) (hx : ((0 :: g) <:+ g0) = False) (hS : Heap.get H ⟨d0, t0, g0⟩ = some (gbox l k)) => ca_next (d := d) (dst := dst) (S := ⟨T, H, g⟩) d0 t0 g0 l k (by omega) hl (by omega) hx hS
  have hc : (((n + 1 : Nat)) : Int) = (n : Int) + 1 := by omega
  rw [hc]
  have b0 : decide ((n : Int) + 1 ≤ 0) = false := decide_eq_false (by omega)
  have hrk := gnext_ok hr k
  have hG : gexpr fs l (n + 1) kind k = if pick (gnext l k).kind 3 = 0 then (gleafE kind fs (gnext l (gat l k)), gat l (gat l k)) else
    (.mk (gshape kind (gnext l k)).1 Val.zero [] (gargs (gexpr fs l n) (gshape kind (gnext l k)).2 (gat l k)).1, (gargs (gexpr fs l n) (gshape kind (gnext l k)).2 (gat l k)).2) := rfl
  rw [hG]
  have p1 := fun (S : St) (d dst : Nat) => ca_picked (d := d) (dst := dst) (S := S) (gnext l k).kind 3 (by decide)
  have p2 := fun (S : St) (d dst : Nat) => ca_picked (d := d) (dst := dst) (S := S) (gnext l k).a 6 (by decide)
  have p3 := fun (S : St) (d dst : Nat) => ca_picked (d := d) (dst := dst) (S := S) (gnext l k).b 7 (by decide)
  have p4 := fun (S : St) (d dst : Nat) => ca_picked (d := d) (dst := dst) (S := S) (gnext l k).a 3 (by decide)
  have q3 := pick_range (gnext l k).b 7 hrk.b.1 hrk.b.2 (by decide)
  have q4 := pick_range (gnext l k).a 3 hrk.a.1 hrk.a.2 (by decide)
  have fl := fun (T : Tm) (g : List Nat) (H : Heap) (dst : Nat) (hx : ((0 :: g) <:+ g0) = False) (hS : Heap.get H ⟨d0, t0, g0⟩ = some (gbox l (gat l k))) => ca_leafN (d := d) (dst := dst) (S := ⟨T, H, g⟩) d0 t0 g0 (by omega) kind fs hfs l (gat l k) (by omega) hl hr hx hS
  simp only [Exp.dv_eq (gleafE kind fs (gnext l (gat l k)))] at fl
  by_cases c1 : pick (gnext l k).kind 3 = 0
  · rw [if_pos c1]
    rw [c1] at p1
    simp only [Exp.dv_eq (gleafE kind fs (gnext l (gat l k)))]
    generalize gleafE kind fs (gnext l (gat l k)) = E at *
    generalize gnext l k = r at *
    generalize gat l (gat l k) = k3 at *
    generalize gat l k = k2 at *
    simp only [amx, seval, ty_FmD_33, fn, fl, suf1 hg0, suf2 hg0, suf3 hg0, suf4 hg0, suf5 hg0, suf6 hg0, hs0, Raw.dv, e1, e2, hd1, upd, Option.getD_none, Option.getD_some, soft_d, b0, p1, beq_self_eq_true]
  · rw [if_neg c1]
    have b1 : (pick (gnext l k).kind 3 == 0) = false := beq_eq_false_iff_ne.2 c1
    clear fl hG hk1
    generalize gnext l k = r at *
    generalize gat l k = k2 at *
    by_cases c2 : pick r.a 6 = 0
    · have b2 : (pick r.a 6 == 0) = true := beq_iff_eq.2 c2
      have hsh : gshape kind r = (17, [2, kind, kind]) := by unfold gshape; simp [c2]
      rw [hsh]
      have fw := fun (T : Tm) (g : List Nat) (H : Heap) (dst : Nat) (hx : ((0 :: g) <:+ g0) = False) (hS4 : Heap.get H ⟨d, 4, 0 :: p⟩ = some (.box [.ptr ⟨d0, t0, g0⟩ 0])) (hS6 : Heap.get H ⟨d, 6, 0 :: 1 :: p⟩ = some (.box [.own 9 (fs.map Field.dv) none])) (hS : Heap.get H ⟨d0, t0, g0⟩ = some (gbox l k2)) => ca_withN hge (d := d) (dst := dst) (S := ⟨T, H, g⟩) d0 t0 g0 d 4 (0 :: p) 6 (0 :: 1 :: p) (by decide) (by omega) (Nat.le_refl _) h (17) [2, kind, kind] (by simp) fs hfs l k2 (hbnd _ (by simp)) hl hr hn hx hS4 hS6 hS
      simp only [List.map_cons, List.map_nil, Exp.dv_mk, Val.zero] at fw
      generalize gargs (gexpr fs l n) [2, kind, kind] k2 = y at *
      rw [Exp.dv_mk]
      simp only [Val.zero]
      simp only [amx, seval, ty_FmD_33, fn, fw, suf1 hg0, suf2 hg0, suf3 hg0, suf4 hg0, suf5 hg0, suf6 hg0, hs0, Raw.dv, e1, e2, hd1, upd, Option.getD_none, Option.getD_some, soft_d, b0, p1, p2, p3, p4, b1, b2]
    · have b2 : (pick r.a 6 == 0) = false := beq_eq_false_iff_ne.2 c2
      by_cases c3 : kind = 1
      · have b3 : (kind == 1) = true := beq_iff_eq.2 c3
        by_cases c4 : pick r.b 7 = 0
        · have b4 : (pick r.b 7 == 0) = true := beq_iff_eq.2 c4
          have hsh : gshape kind r = (3, [1]) := by unfold gshape; simp [c2, c3, c4]
          rw [hsh]
          have fw := fun (T : Tm) (g : List Nat) (H : Heap) (dst : Nat) (hx : ((0 :: g) <:+ g0) = False) (hS4 : Heap.get H ⟨d, 4, 0 :: p⟩ = some (.box [.ptr ⟨d0, t0, g0⟩ 0])) (hS6 : Heap.get H ⟨d, 6, 0 :: 1 :: p⟩ = some (.box [.own 9 (fs.map Field.dv) none])) (hS : Heap.get H ⟨d0, t0, g0⟩ = some (gbox l k2)) => ca_withN hge (d := d) (dst := dst) (S := ⟨T, H, g⟩) d0 t0 g0 d 4 (0 :: p) 6 (0 :: 1 :: p) (by decide) (by omega) (Nat.le_refl _) h (3) [1] (by simp) fs hfs l k2 (hbnd _ (by simp)) hl hr hn hx hS4 hS6 hS
          simp only [List.map_cons, List.map_nil, Exp.dv_mk, Val.zero] at fw
          generalize gargs (gexpr fs l n) [1] k2 = y at *
          rw [Exp.dv_mk]
          simp only [Val.zero]
          simp only [amx, seval, ty_FmD_33, fn, fw, suf1 hg0, suf2 hg0, suf3 hg0, suf4 hg0, suf5 hg0, suf6 hg0, hs0, Raw.dv, e1, e2, hd1, upd, Option.getD_none, Option.getD_some, soft_d, b0, p1, p2, p3, p4, b1, b2, b3, b4]
        · have b4 : (pick r.b 7 == 0) = false := beq_eq_false_iff_ne.2 c4
          by_cases c5 : pick r.b 7 = 1
          · have b5 : (pick r.b 7 == 1) = true := beq_iff_eq.2 c5
            have hsh : gshape kind r = (18, [3]) := by unfold gshape; simp [c2, c3, c4, c5]
            rw [hsh]
            have fw := fun (T : Tm) (g : List Nat) (H : Heap) (dst : Nat) (hx : ((0 :: g) <:+ g0) = False) (hS4 : Heap.get H ⟨d, 4, 0 :: p⟩ = some (.box [.ptr ⟨d0, t0, g0⟩ 0])) (hS6 : Heap.get H ⟨d, 6, 0 :: 1 :: p⟩ = some (.box [.own 9 (fs.map Field.dv) none])) (hS : Heap.get H ⟨d0, t0, g0⟩ = some (gbox l k2)) => ca_withN hge (d := d) (dst := dst) (S := ⟨T, H, g⟩) d0 t0 g0 d 4 (0 :: p) 6 (0 :: 1 :: p) (by decide) (by omega) (Nat.le_refl _) h (18) [3] (by simp) fs hfs l k2 (hbnd _ (by simp)) hl hr hn hx hS4 hS6 hS
            simp only [List.map_cons, List.map_nil, Exp.dv_mk, Val.zero] at fw
            generalize gargs (gexpr fs l n) [3] k2 = y at *
            rw [Exp.dv_mk]
            simp only [Val.zero]
            simp only [amx, seval, ty_FmD_33, fn, fw, suf1 hg0, suf2 hg0, suf3 hg0, suf4 hg0, suf5 hg0, suf6 hg0, hs0, Raw.dv, e1, e2, hd1, upd, Option.getD_none, Option.getD_some, soft_d, b0, p1, p2, p3, p4, b1, b2, b3, b4, b5]
          · have b5 : (pick r.b 7 == 1) = false := beq_eq_false_iff_ne.2 c5
            have hsh : gshape kind r = (5 + (pick r.b 7 - 2), [1, 1]) := by unfold gshape; simp [c2, c3, c4, c5]
            have w1 : IntKind.i64.wrap (pick r.b 7 - 2) = pick r.b 7 - 2 := wrap_in (by omega) (by omega)
            have j1 : (0 ≤ pick r.b 7 - 2) = True := eq_true (by omega)
            have j2 : (pick r.b 7 - 2 < 5) = True := eq_true (by omega)
            have hq : ([DV.int .i64 5, DV.int .i64 6, DV.int .i64 7, DV.int .i64 8, DV.int .i64 9])[(pick r.b 7 - 2).toNat]? = some (.int .i64 (5 + (pick r.b 7 - 2))) := by
              have : pick r.b 7 = 2 ∨ pick r.b 7 = 3 ∨ pick r.b 7 = 4 ∨ pick r.b 7 = 5 ∨ pick r.b 7 = 6 := by omega
              rcases this with e | e | e | e | e <;> rw [e] <;> rfl
            rw [hsh]
            have fw := fun (T : Tm) (g : List Nat) (H : Heap) (dst : Nat) (hx : ((0 :: g) <:+ g0) = False) (hS4 : Heap.get H ⟨d, 4, 0 :: p⟩ = some (.box [.ptr ⟨d0, t0, g0⟩ 0])) (hS6 : Heap.get H ⟨d, 6, 0 :: 1 :: p⟩ = some (.box [.own 9 (fs.map Field.dv) none])) (hS : Heap.get H ⟨d0, t0, g0⟩ = some (gbox l k2)) => ca_withN hge (d := d) (dst := dst) (S := ⟨T, H, g⟩) d0 t0 g0 d 4 (0 :: p) 6 (0 :: 1 :: p) (by decide) (by omega) (Nat.le_refl _) h (5 + (pick r.b 7 - 2)) [1, 1] (by simp) fs hfs l k2 (hbnd _ (by simp)) hl hr hn hx hS4 hS6 hS
            simp only [List.map_cons, List.map_nil, Exp.dv_mk, Val.zero] at fw
            generalize gargs (gexpr fs l n) [1, 1] k2 = y at *
            rw [Exp.dv_mk]
            simp only [Val.zero]
            simp only [amx, seval, ty_FmD_33, fn, fw, suf1 hg0, suf2 hg0, suf3 hg0, suf4 hg0, suf5 hg0, suf6 hg0, hs0, Raw.dv, e1, e2, hd1, upd, Option.getD_none, Option.getD_some, soft_d, b0, p1, p2, p3, p4, b1, b2, b3, b4, b5, w1, j1, j2, hq]
      · have b3 : (kind == 1) = false := beq_eq_false_iff_ne.2 c3
        by_cases c4 : kind = 2
        · have b4 : (kind == 2) = true := beq_iff_eq.2 c4
          by_cases c5 : pick r.b 7 = 0
          · have b5 : (pick r.b 7 == 0) = true := beq_iff_eq.2 c5
            have hsh : gshape kind r = (4, [2]) := by unfold gshape; simp [c2, c3, c4, c5]
            rw [hsh]
            have fw := fun (T : Tm) (g : List Nat) (H : Heap) (dst : Nat) (hx : ((0 :: g) <:+ g0) = False) (hS4 : Heap.get H ⟨d, 4, 0 :: p⟩ = some (.box [.ptr ⟨d0, t0, g0⟩ 0])) (hS6 : Heap.get H ⟨d, 6, 0 :: 1 :: p⟩ = some (.box [.own 9 (fs.map Field.dv) none])) (hS : Heap.get H ⟨d0, t0, g0⟩ = some (gbox l k2)) => ca_withN hge (d := d) (dst := dst) (S := ⟨T, H, g⟩) d0 t0 g0 d 4 (0 :: p) 6 (0 :: 1 :: p) (by decide) (by omega) (Nat.le_refl _) h (4) [2] (by simp) fs hfs l k2 (hbnd _ (by simp)) hl hr hn hx hS4 hS6 hS
            simp only [List.map_cons, List.map_nil, Exp.dv_mk, Val.zero] at fw
            generalize gargs (gexpr fs l n) [2] k2 = y at *
            rw [Exp.dv_mk]
            simp only [Val.zero]
            simp only [amx, seval, ty_FmD_33, fn, fw, suf1 hg0, suf2 hg0, suf3 hg0, suf4 hg0, suf5 hg0, suf6 hg0, hs0, Raw.dv, e1, e2, hd1, upd, Option.getD_none, Option.getD_some, soft_d, b0, p1, p2, p3, p4, b1, b2, b3, b4, b5]
          · have b5 : (pick r.b 7 == 0) = false := beq_eq_false_iff_ne.2 c5
            by_cases c6 : pick r.b 7 < 3
            · have b6 : decide (pick r.b 7 < 3) = true := decide_eq_true c6
              have hsh : gshape kind r = (15 + pick r.b 7 - 1, [2, 2]) := by unfold gshape; simp [c2, c3, c4, c5, c6]
              have w1 : IntKind.i64.wrap (15 + pick r.b 7) = 15 + pick r.b 7 := wrap_in (by omega) (by omega)
              have w2 : IntKind.i64.wrap (15 + pick r.b 7 - 1) = 15 + pick r.b 7 - 1 := wrap_in (by omega) (by omega)
              rw [hsh]
              have fw := fun (T : Tm) (g : List Nat) (H : Heap) (dst : Nat) (hx : ((0 :: g) <:+ g0) = False) (hS4 : Heap.get H ⟨d, 4, 0 :: p⟩ = some (.box [.ptr ⟨d0, t0, g0⟩ 0])) (hS6 : Heap.get H ⟨d, 6, 0 :: 1 :: p⟩ = some (.box [.own 9 (fs.map Field.dv) none])) (hS : Heap.get H ⟨d0, t0, g0⟩ = some (gbox l k2)) => ca_withN hge (d := d) (dst := dst) (S := ⟨T, H, g⟩) d0 t0 g0 d 4 (0 :: p) 6 (0 :: 1 :: p) (by decide) (by omega) (Nat.le_refl _) h (15 + pick r.b 7 - 1) [2, 2] (by simp) fs hfs l k2 (hbnd _ (by simp)) hl hr hn hx hS4 hS6 hS
              simp only [List.map_cons, List.map_nil, Exp.dv_mk, Val.zero] at fw
              generalize gargs (gexpr fs l n) [2, 2] k2 = y at *
              rw [Exp.dv_mk]
              simp only [Val.zero]
              simp only [amx, seval, ty_FmD_33, fn, fw, suf1 hg0, suf2 hg0, suf3 hg0, suf4 hg0, suf5 hg0, suf6 hg0, hs0, Raw.dv, e1, e2, hd1, upd, Option.getD_none, Option.getD_some, soft_d, b0, p1, p2, p3, p4, b1, b2, b3, b4, b5, b6, w1, w2]
            · have b6 : decide (pick r.b 7 < 3) = false := decide_eq_false c6
              have hsh : gshape kind r = (11 + pick r.b 7 - 3, [1 + pick r.a 3, 1 + pick r.a 3]) := by unfold gshape; simp [c2, c3, c4, c5, c6]
              have w1 : IntKind.i64.wrap (11 + pick r.b 7) = 11 + pick r.b 7 := wrap_in (by omega) (by omega)
              have w2 : IntKind.i64.wrap (11 + pick r.b 7 - 3) = 11 + pick r.b 7 - 3 := wrap_in (by omega) (by omega)
              have w3 : IntKind.i64.wrap (1 + pick r.a 3) = 1 + pick r.a 3 := wrap_in (by omega) (by omega)
              rw [hsh]
              have fw := fun (T : Tm) (g : List Nat) (H : Heap) (dst : Nat) (hx : ((0 :: g) <:+ g0) = False) (hS4 : Heap.get H ⟨d, 4, 0 :: p⟩ = some (.box [.ptr ⟨d0, t0, g0⟩ 0])) (hS6 : Heap.get H ⟨d, 6, 0 :: 1 :: p⟩ = some (.box [.own 9 (fs.map Field.dv) none])) (hS : Heap.get H ⟨d0, t0, g0⟩ = some (gbox l k2)) => ca_withN hge (d := d) (dst := dst) (S := ⟨T, H, g⟩) d0 t0 g0 d 4 (0 :: p) 6 (0 :: 1 :: p) (by decide) (by omega) (Nat.le_refl _) h (11 + pick r.b 7 - 3) [1 + pick r.a 3, 1 + pick r.a 3] (by simp) fs hfs l k2 (hbnd _ (by simp)) hl hr hn hx hS4 hS6 hS
              simp only [List.map_cons, List.map_nil, Exp.dv_mk, Val.zero] at fw
              generalize gargs (gexpr fs l n) [1 + pick r.a 3, 1 + pick r.a 3] k2 = y at *
              rw [Exp.dv_mk]
              simp only [Val.zero]
              simp only [amx, seval, ty_FmD_33, fn, fw, suf1 hg0, suf2 hg0, suf3 hg0, suf4 hg0, suf5 hg0, suf6 hg0, hs0, Raw.dv, e1, e2, hd1, upd, Option.getD_none, Option.getD_some, soft_d, b0, p1, p2, p3, p4, b1, b2, b3, b4, b5, b6, w1, w2, w3]
        · have b4 : (kind == 2) = false := beq_eq_false_iff_ne.2 c4
          have hsh : gshape kind r = (10, [3, 3]) := by unfold gshape; simp [c2, c3, c4]
          rw [hsh]
          have fw := fun (T : Tm) (g : List Nat) (H : Heap) (dst : Nat) (hx : ((0 :: g) <:+ g0) = False) (hS4 : Heap.get H ⟨d, 4, 0 :: p⟩ = some (.box [.ptr ⟨d0, t0, g0⟩ 0])) (hS6 : Heap.get H ⟨d, 6, 0 :: 1 :: p⟩ = some (.box [.own 9 (fs.map Field.dv) none])) (hS : Heap.get H ⟨d0, t0, g0⟩ = some (gbox l k2)) => ca_withN hge (d := d) (dst := dst) (S := ⟨T, H, g⟩) d0 t0 g0 d 4 (0 :: p) 6 (0 :: 1 :: p) (by decide) (by omega) (Nat.le_refl _) h (10) [3, 3] (by simp) fs hfs l k2 (hbnd _ (by simp)) hl hr hn hx hS4 hS6 hS
          simp only [List.map_cons, List.map_nil, Exp.dv_mk, Val.zero] at fw
          generalize gargs (gexpr fs l n) [3, 3] k2 = y at *
          rw [Exp.dv_mk]
          simp only [Val.zero]
          simp only [amx, seval, ty_FmD_33, fn, fw, suf1 hg0, suf2 hg0, suf3 hg0, suf4 hg0, suf5 hg0, suf6 hg0, hs0, Raw.dv, e1, e2, hd1, upd, Option.getD_none, Option.getD_some, soft_d, b0, p1, p2, p3, p4, b1, b2, b3, b4]
theorem expr_okN : ∀ n : Nat, n ≤ 1000 → ExprOKN n
  | 0, _ => expr_ok0N
  | n + 1, h => expr_okSN (expr_okN n (by omega)) (by omega)
theorem ca_withA {deep : Nat} (hge : ExprOKA deep) {d dst : Nat} {S : St} (d0 t0 : Nat) (g0 : List Nat) (d4 t4 : Nat) (g4 : List Nat) (t6 : Nat) (g6 : List Nat) (h46 : t4 ≠ t6) (t1 : Nat) (g1 : List Nat) (ht : t0 ≠ t1) (h : d0 ≤ d) (h4 : d4 ≤ d) (h04 : d0 < d4) (op : Int) (ks : List Int) (hks : ks.length ≤ 3) (fs : List Field) (hfs : fs.length ≤ 1048576) (l : List Raw) (k : Nat) (hk : k + ks.length * 4 ^ (deep + 2) ≤ 4611686018427387904) (hl : l.length ≤ 9223372036854775807) (hr : ∀ r ∈ l, r.ok) (hd2 : deep ≤ 1000)
    (hg0 : ((0 :: S.g) <:+ g0) = False) (hg1 : ((0 :: S.g) <:+ g1) = False) (hS4 : S.H.get ⟨d4, t4, g4⟩ = some (.box [.ptr ⟨d0, t0, g0⟩ 0])) (hS6 : S.H.get ⟨d4, t6, g6⟩ = some (.box [.arr ⟨d0, t1, g1⟩ 0 fs.length 9])) (hS : S.H.get ⟨d0, t0, g0⟩ = some (gbox l k)) (hF : S.H.get ⟨d0, t1, g1⟩ = some (fbox fs)) :
    callA tab (callR tab) d dst 64 [.d (.int .i64 op), .own 1 (ks.map (fun k => DV.int .i64 k)) none, .ptr ⟨d4, t4, g4⟩ 0, .ptr ⟨d4, t6, g6⟩ 0, .d (.rp [.int .i64 ((deep : Int) + 1)])] S =
      some (.d (Exp.mk op Val.zero [] (gargs (gexpr fs l deep) ks k).1).dv, ⟨S.T, upd [(⟨d4, t4, g4⟩, .box [.ptr ⟨d0, t0, g0⟩ 0]), (⟨d4, t6, g6⟩, .box [.arr ⟨d0, t1, g1⟩ 0 fs.length 9]), (⟨d0, t0, g0⟩, gbox l (gargs (gexpr fs l deep) ks k).2), (⟨d0, t1, g1⟩, fbox fs)] S.H, 1 :: S.g⟩) := by
  obtain ⟨x, H', h1, h2, h3, h5, h6, h7⟩ := run_withA hge (p := 0 :: S.g) d0 t0 g0 d4 t4 g4 t6 g6 h46 t1 g1 ht (Nat.lt_succ_of_le h) (Nat.lt_succ_of_le h4) h04 (of_eq_false hg0) (of_eq_false hg1) op ks hks fs hfs l k hk hl hr hd2
  have n46 : (⟨d4, t4, g4⟩ : Id) ≠ ⟨d4, t6, g6⟩ := fun e => h46 (by injection e)
  have n40 : (⟨d4, t4, g4⟩ : Id) ≠ ⟨d0, t0, g0⟩ := fun e => by injection e with e1 _ _; omega
  have n41 : (⟨d4, t4, g4⟩ : Id) ≠ ⟨d0, t1, g1⟩ := fun e => by injection e with e1 _ _; omega
  have n64 : (⟨d4, t6, g6⟩ : Id) ≠ ⟨d4, t4, g4⟩ := fun e => h46 (by injection e with _ e _; exact e.symm)
  have n60 : (⟨d4, t6, g6⟩ : Id) ≠ ⟨d0, t0, g0⟩ := fun e => by injection e with e1 _ _; omega
  have n61 : (⟨d4, t6, g6⟩ : Id) ≠ ⟨d0, t1, g1⟩ := fun e => by injection e with e1 _ _; omega
  have n04 : (⟨d0, t0, g0⟩ : Id) ≠ ⟨d4, t4, g4⟩ := fun e => by injection e with e1 _ _; omega
  have n06 : (⟨d0, t0, g0⟩ : Id) ≠ ⟨d4, t6, g6⟩ := fun e => by injection e with e1 _ _; omega
  have n01 : (⟨d0, t0, g0⟩ : Id) ≠ ⟨d0, t1, g1⟩ := fun e => ht (by injection e)
  have n14 : (⟨d0, t1, g1⟩ : Id) ≠ ⟨d4, t4, g4⟩ := fun e => by injection e with e1 _ _; omega
  have n16 : (⟨d0, t1, g1⟩ : Id) ≠ ⟨d4, t6, g6⟩ := fun e => by injection e with e1 _ _; omega
  have n10 : (⟨d0, t1, g1⟩ : Id) ≠ ⟨d0, t0, g0⟩ := fun e => ht (by injection e with _ e _; exact e.symm)
  have w0 : within [⟨d4, t4, g4⟩, ⟨d4, t6, g6⟩] S.H = [(⟨d4, t4, g4⟩, .box [.ptr ⟨d0, t0, g0⟩ 0]), (⟨d4, t6, g6⟩, .box [.arr ⟨d0, t1, g1⟩ 0 fs.length 9])] := by simp [within, hS4, hS6]
  have w2 : within [(⟨d4, t4, g4⟩ : Id), ⟨d4, t6, g6⟩, ⟨d0, t0, g0⟩, ⟨d0, t1, g1⟩] S.H = [(⟨d4, t4, g4⟩, .box [.ptr ⟨d0, t0, g0⟩ 0]), (⟨d4, t6, g6⟩, .box [.arr ⟨d0, t1, g1⟩ 0 fs.length 9]), (⟨d0, t0, g0⟩, gbox l k), (⟨d0, t1, g1⟩, fbox fs)] := by simp [within, hS4, hS6, hS, hF]
  have hids : ∀ n, idsH [(⟨d4, t4, g4⟩, .box [.ptr ⟨d0, t0, g0⟩ 0]), (⟨d4, t6, g6⟩, .box [.arr ⟨d0, t1, g1⟩ 0 fs.length 9]), (⟨d0, t0, g0⟩, gbox l n), (⟨d0, t1, g1⟩, fbox fs)] = [⟨d0, t0, g0⟩, ⟨d0, t1, g1⟩] := fun n => by
    have hg : idsP (gbox l n) = [] := rfl
    have hf : idsP (fbox fs) = [] := ids_flat _
    simp only [idsH, hg, hf]
    rfl
  have hall : ([⟨d0, t0, g0⟩, ⟨d0, t1, g1⟩] : List Id).all (fun i => [(⟨d4, t4, g4⟩ : Id), ⟨d4, t6, g6⟩, ⟨d0, t0, g0⟩, ⟨d0, t1, g1⟩].contains i) = true := by simp
  refine ca_open (W0 := [(⟨d4, t4, g4⟩, .box [.ptr ⟨d0, t0, g0⟩ 0]), (⟨d4, t6, g6⟩, .box [.arr ⟨d0, t1, g1⟩ 0 fs.length 9]), (⟨d0, t0, g0⟩, gbox l k), (⟨d0, t1, g1⟩, fbox fs)]) (W := [(⟨d4, t4, g4⟩, .box [.ptr ⟨d0, t0, g0⟩ 0]), (⟨d4, t6, g6⟩, .box [.arr ⟨d0, t1, g1⟩ 0 fs.length 9]), (⟨d0, t0, g0⟩, gbox l (gargs (gexpr fs l deep) ks k).2), (⟨d0, t1, g1⟩, fbox fs)]) (by split <;> rfl) (lent_off (tab_lend (by kernel_rfl))) ?_ w2 (by rw [hids]; exact hall) ⟨x, H', h1, h2, fun i hi => ?_⟩ rfl rfl ?_
  · have ha0 : addIds [] (idsL [AV.d (.int .i64 op), .own 1 (ks.map (fun k => DV.int .i64 k)) none, .ptr ⟨d4, t4, g4⟩ 0, .ptr ⟨d4, t6, g6⟩ 0, .d (.rp [.int .i64 ((deep : Int) + 1)])]) = [⟨d4, t4, g4⟩, ⟨d4, t6, g6⟩] := by
      show addIds [] [(⟨d4, t4, g4⟩ : Id), ⟨d4, t6, g6⟩] = _
      simp [addIds, n64]
    rw [ha0]
    unfold reach
    rw [w0]
    have hi0 : idsH [(⟨d4, t4, g4⟩, Place.box [AV.ptr ⟨d0, t0, g0⟩ 0]), (⟨d4, t6, g6⟩, .box [.arr ⟨d0, t1, g1⟩ 0 fs.length 9])] = [⟨d0, t0, g0⟩, ⟨d0, t1, g1⟩] := rfl
    rw [hi0]
    have hno : ([⟨d0, t0, g0⟩, ⟨d0, t1, g1⟩] : List Id).all (fun i => [(⟨d4, t4, g4⟩ : Id), ⟨d4, t6, g6⟩].contains i) = false := by simp [n46, n40, n41, n64, n60, n61, n04, n06, n01, n14, n16, n10]
    rw [hno]
    simp only [Bool.false_eq_true, if_false]
    have ha : addIds [(⟨d4, t4, g4⟩ : Id), ⟨d4, t6, g6⟩] [⟨d0, t0, g0⟩, ⟨d0, t1, g1⟩] = [(⟨d4, t4, g4⟩ : Id), ⟨d4, t6, g6⟩, ⟨d0, t0, g0⟩, ⟨d0, t1, g1⟩] := by simp [addIds, n46, n40, n41, n64, n60, n61, n04, n06, n01, n14, n16, n10]
    rw [ha]
    unfold reach
    rw [w2, hids, if_pos hall]
    rfl
  · have : i = ⟨d4, t4, g4⟩ ∨ i = ⟨d4, t6, g6⟩ ∨ i = ⟨d0, t0, g0⟩ ∨ i = ⟨d0, t1, g1⟩ := by simpa [Am.keys] using hi
    rcases this with rfl | rfl | rfl | rfl
    · rw [h3]; simp [Heap.get, n46, n40, n41, n64, n60, n61, n04, n06, n01, n14, n16, n10]
    · rw [h5]; simp [Heap.get, n46, n40, n41, n64, n60, n61, n04, n06, n01, n14, n16, n10]
    · rw [h6]; simp [Heap.get, n46, n40, n41, n64, n60, n61, n04, n06, n01, n14, n16, n10]
    · rw [h7]; simp [Heap.get, n46, n40, n41, n64, n60, n61, n04, n06, n01, n14, n16, n10]
  · have : within (Am.keys [(⟨d4, t4, g4⟩, .box [.ptr ⟨d0, t0, g0⟩ 0]), (⟨d4, t6, g6⟩, .box [.arr ⟨d0, t1, g1⟩ 0 fs.length 9]), (⟨d0, t0, g0⟩, gbox l k), (⟨d0, t1, g1⟩, fbox fs)]) [(⟨d4, t4, g4⟩, .box [.ptr ⟨d0, t0, g0⟩ 0]), (⟨d4, t6, g6⟩, .box [.arr ⟨d0, t1, g1⟩ 0 fs.length 9]), (⟨d0, t0, g0⟩, gbox l (gargs (gexpr fs l deep) ks k).2), (⟨d0, t1, g1⟩, fbox fs)] = [(⟨d4, t4, g4⟩, .box [.ptr ⟨d0, t0, g0⟩ 0]), (⟨d4, t6, g6⟩, .box [.arr ⟨d0, t1, g1⟩ 0 fs.length 9]), (⟨d0, t0, g0⟩, gbox l (gargs (gexpr fs l deep) ks k).2), (⟨d0, t1, g1⟩, fbox fs)] := by
      simp [Am.keys, within, Heap.get, n46, n40, n41, n64, n60, n61, n04, n06, n01, n14, n16, n10]
    rw [this, hids]
    exact hall
theorem expr_ok0A : ExprOKA 0 := by
  intro d p d0 t0 g0 t1 g1 h hg0 ht hg1 kind fs hfs l k hk hl hr
  have e1 : (d0 = d) = False := eq_false (by omega)
  have e2 : (d = d0) = False := eq_false (by omega)
  have hd1 : decide (d0 < d) = true := decide_eq_true h
  have hs0 : (p <:+ g0) = False := eq_false hg0
  have hs1 : (p <:+ g1) = False := eq_false hg1
  have ht1 : (t0 = t1) = False := eq_false ht
  have ht2 : (t1 = t0) = False := eq_false (fun e => ht e.symm)
  have hk1 := gat_le l k
  refine retq_good 1 fn33 rfl rfl ?_
  have fn := fun (T : Tm) (g : List Nat) (H : Heap) (dst : Nat) (hx : ((0 :: g) <:+ g0) = False) (hS : Heap.get H ⟨d0, t0, g0⟩ = some (gbox l k)) => ca_next (d := d) (dst := dst) (S := ⟨T, H, g⟩) d0 t0 g0 l k (by omega) hl (by omega) hx hS
  have fl := fun (T : Tm) (g : List Nat) (H : Heap) (dst : Nat) (hx : ((0 :: g) <:+ g0) = False) (hx1 : ((0 :: g) <:+ g1) = False) (hS : Heap.get H ⟨d0, t0, g0⟩ = some (gbox l (gat l k))) (hF : Heap.get H ⟨d0, t1, g1⟩ = some (fbox fs)) => ca_leafA (d := d) (dst := dst) (S := ⟨T, H, g⟩) d0 t0 g0 t1 g1 ht (by omega) kind fs hfs l (gat l k) (by omega) hl hr hx hx1 hS hF
  have hge : gexpr fs l 0 kind k = (gleafE kind fs (gnext l (gat l k)), gat l (gat l k)) := rfl
  rw [hge]
  simp only [Exp.dv_eq (gleafE kind fs (gnext l (gat l k)))] at fl ⊢
  generalize gleafE kind fs (gnext l (gat l k)) = E at *
  generalize gnext l k = r at *
  generalize gat l (gat l k) = k3 at *
  generalize gat l k = k2 at *
  simp only [amx, seval, ty_FmD_33, fn, fl, suf1 hg0, suf2 hg0, suf3 hg0, suf4 hg0, suf5 hg0, suf6 hg0, hs0, nt_arr, ac_arr, cap_arr, plainD_arr, suf1 hg1, suf2 hg1, suf3 hg1, suf4 hg1, suf5 hg1, suf6 hg1, hs1, ht1, ht2, Raw.dv, e1, e2, hd1, upd, Option.getD_none, Option.getD_some, soft_d, Int.le_refl, Int.natCast_zero, Int.cast_ofNat_Int]
theorem expr_okSA {n : Nat} (hge : ExprOKA n) (hn : n ≤ 1000) : ExprOKA (n + 1) := by
  intro d p d0 t0 g0 t1 g1 h hg0 ht hg1 kind fs hfs l k hk hl hr
  have e1 : (d0 = d) = False := eq_false (by omega)
  have e2 : (d = d0) = False := eq_false (by omega)
  have hd1 : decide (d0 < d) = true := decide_eq_true h
  have hs0 : (p <:+ g0) = False := eq_false hg0
  have hs1 : (p <:+ g1) = False := eq_false hg1
  have ht1 : (t0 = t1) = False := eq_false ht
  have ht2 : (t1 = t0) = False := eq_false (fun e => ht e.symm)
  have hk1 := gat_le l k
  have h7 : 4 ^ (n + 1 + 2) = 4 * 4 ^ (n + 2) := by rw [show n + 1 + 2 = (n + 2) + 1 by omega, Nat.pow_succ, Nat.mul_comm]
  have h8 : 16 ≤ 4 ^ (n + 2) := by
    have := Nat.pow_le_pow_right (n := 4) (by decide) (show 2 ≤ n + 2 by omega)
    simpa using this
  have hbnd : ∀ m : Nat, m ≤ 3 → gat l k + m * 4 ^ (n + 2) ≤ 4611686018427387904 := fun m hm => by
    have := Nat.mul_le_mul_right (4 ^ (n + 2)) hm
    omega
  refine retq_good 1 fn33 rfl rfl ?_
  have fn := fun (T : Tm) (g : List Nat) (H : Heap) (dst : Nat) (hx : ((0 :: g) <:+ g0) = False) (hS : Heap.get H ⟨d0, t0, g0⟩ = some (gbox l k)) => ca_next (d := d) (dst := dst) (S := ⟨T, H, g⟩) d0 t0 g0 l k (by omega) hl (by omega) hx hS
  have hc : (((n + 1 : Nat)) : Int) = (n : Int) + 1 := by omega
  rw [hc]
  have b0 : decide ((n : Int) + 1 ≤ 0) = false := decide_eq_false (by omega)
  have hrk := gnext_ok hr k
  have hG : gexpr fs l (n + 1) kind k = if pick (gnext l k).kind 3 = 0 then (gleafE kind fs (gnext l (gat l k)), gat l (gat l k)) else
    (.mk (gshape kind (gnext l k)).1 Val.zero [] (gargs (gexpr fs l n) (gshape kind (gnext l k)).2 (gat l k)).1, (gargs (gexpr fs l n) (gshape kind (gnext l k)).2 (gat l k)).2) := rfl
  rw [hG]
  have p1 := fun (S : St) (d dst : Nat) => ca_picked (d := d) (dst := dst) (S := S) (gnext l k).kind 3 (by decide)
  have p2 := fun (S : St) (d dst : Nat) => ca_picked (d := d) (dst := dst) (S := S) (gnext l k).a 6 (by decide)
  have p3 := fun (S : St) (d dst : Nat) => ca_picked (d := d) (dst := dst) (S := S) (gnext l k).b 7 (by decide)
  have p4 := fun (S : St) (d dst : Nat) => ca_picked (d := d) (dst := dst) (S := S) (gnext l k).a 3 (by decide)
  have q3 := pick_range (gnext l k).b 7 hrk.b.1 hrk.b.2 (by decide)
  have q4 := pick_range (gnext l k).a 3 hrk.a.1 hrk.a.2 (by decide)
  have fl := fun (T : Tm) (g : List Nat) (H : Heap) (dst : Nat) (hx : ((0 :: g) <:+ g0) = False) (hx1 : ((0 :: g) <:+ g1) = False) (hS : Heap.get H ⟨d0, t0, g0⟩ = some (gbox l (gat l k))) (hF : Heap.get H ⟨d0, t1, g1⟩ = some (fbox fs)) => ca_leafA (d := d) (dst := dst) (S := ⟨T, H, g⟩) d0 t0 g0 t1 g1 ht (by omega) kind fs hfs l (gat l k) (by omega) hl hr hx hx1 hS hF
  simp only [Exp.dv_eq (gleafE kind fs (gnext l (gat l k)))] at fl
  by_cases c1 : pick (gnext l k).kind 3 = 0
  · rw [if_pos c1]
    rw [c1] at p1
    simp only [Exp.dv_eq (gleafE kind fs (gnext l (gat l k)))]
    generalize gleafE kind fs (gnext l (gat l k)) = E at *
    generalize gnext l k = r at *
    generalize gat l (gat l k) = k3 at *
    generalize gat l k = k2 at *
    simp only [amx, seval, ty_FmD_33, fn, fl, suf1 hg0, suf2 hg0, suf3 hg0, suf4 hg0, suf5 hg0, suf6 hg0, hs0, nt_arr, ac_arr, cap_arr, plainD_arr, suf1 hg1, suf2 hg1, suf3 hg1, suf4 hg1, suf5 hg1, suf6 hg1, hs1, ht1, ht2, Raw.dv, e1, e2, hd1, upd, Option.getD_none, Option.getD_some, soft_d, b0, p1, beq_self_eq_true]
  · rw [if_neg c1]
    have b1 : (pick (gnext l k).kind 3 == 0) = false := beq_eq_false_iff_ne.2 c1
    clear fl hG hk1
    generalize gnext l k = r at *
    generalize gat l k = k2 at *
    by_cases c2 : pick r.a 6 = 0
    · have b2 : (pick r.a 6 == 0) = true := beq_iff_eq.2 c2
      have hsh : gshape kind r = (17, [2, kind, kind]) := by unfold gshape; simp [c2]
      rw [hsh]
      have fw := fun (T : Tm) (g : List Nat) (H : Heap) (dst : Nat) (hx : ((0 :: g) <:+ g0) = False) (hx1 : ((0 :: g) <:+ g1) = False) (hS4 : Heap.get H ⟨d, 4, 0 :: p⟩ = some (.box [.ptr ⟨d0, t0, g0⟩ 0])) (hS6 : Heap.get H ⟨d, 6, 0 :: 1 :: p⟩ = some (.box [.arr ⟨d0, t1, g1⟩ 0 fs.length 9])) (hS : Heap.get H ⟨d0, t0, g0⟩ = some (gbox l k2)) (hF : Heap.get H ⟨d0, t1, g1⟩ = some (fbox fs)) => ca_withA hge (d := d) (dst := dst) (S := ⟨T, H, g⟩) d0 t0 g0 d 4 (0 :: p) 6 (0 :: 1 :: p) (by decide) t1 g1 ht (by omega) (Nat.le_refl _) h (17) [2, kind, kind] (by simp) fs hfs l k2 (hbnd _ (by simp)) hl hr hn hx hx1 hS4 hS6 hS hF
      simp only [List.map_cons, List.map_nil, Exp.dv_mk, Val.zero] at fw
      generalize gargs (gexpr fs l n) [2, kind, kind] k2 = y at *
      rw [Exp.dv_mk]
      simp only [Val.zero]
      simp only [amx, seval, ty_FmD_33, fn, fw, suf1 hg0, suf2 hg0, suf3 hg0, suf4 hg0, suf5 hg0, suf6 hg0, hs0, nt_arr, ac_arr, cap_arr, plainD_arr, suf1 hg1, suf2 hg1, suf3 hg1, suf4 hg1, suf5 hg1, suf6 hg1, hs1, ht1, ht2, Raw.dv, e1, e2, hd1, upd, Option.getD_none, Option.getD_some, soft_d, b0, p1, p2, p3, p4, b1, b2]
    · have b2 : (pick r.a 6 == 0) = false := beq_eq_false_iff_ne.2 c2
      by_cases c3 : kind = 1
      · have b3 : (kind == 1) = true := beq_iff_eq.2 c3
        by_cases c4 : pick r.b 7 = 0
        · have b4 : (pick r.b 7 == 0) = true := beq_iff_eq.2 c4
          have hsh : gshape kind r = (3, [1]) := by unfold gshape; simp [c2, c3, c4]
          rw [hsh]
          have fw := fun (T : Tm) (g : List Nat) (H : Heap) (dst : Nat) (hx : ((0 :: g) <:+ g0) = False) (hx1 : ((0 :: g) <:+ g1) = False) (hS4 : Heap.get H ⟨d, 4, 0 :: p⟩ = some (.box [.ptr ⟨d0, t0, g0⟩ 0])) (hS6 : Heap.get H ⟨d, 6, 0 :: 1 :: p⟩ = some (.box [.arr ⟨d0, t1, g1⟩ 0 fs.length 9])) (hS : Heap.get H ⟨d0, t0, g0⟩ = some (gbox l k2)) (hF : Heap.get H ⟨d0, t1, g1⟩ = some (fbox fs)) => ca_withA hge (d := d) (dst := dst) (S := ⟨T, H, g⟩) d0 t0 g0 d 4 (0 :: p) 6 (0 :: 1 :: p) (by decide) t1 g1 ht (by omega) (Nat.le_refl _) h (3) [1] (by simp) fs hfs l k2 (hbnd _ (by simp)) hl hr hn hx hx1 hS4 hS6 hS hF
          simp only [List.map_cons, List.map_nil, Exp.dv_mk, Val.zero] at fw
          generalize gargs (gexpr fs l n) [1] k2 = y at *
          rw [Exp.dv_mk]
          simp only [Val.zero]
          simp only [amx, seval, ty_FmD_33, fn, fw, suf1 hg0, suf2 hg0, suf3 hg0, suf4 hg0, suf5 hg0, suf6 hg0, hs0, nt_arr, ac_arr, cap_arr, plainD_arr, suf1 hg1, suf2 hg1, suf3 hg1, suf4 hg1, suf5 hg1, suf6 hg1, hs1, ht1, ht2, Raw.dv, e1, e2, hd1, upd, Option.getD_none, Option.getD_some, soft_d, b0, p1, p2, p3, p4, b1, b2, b3, b4]
        · have b4 : (pick r.b 7 == 0) = false := beq_eq_false_iff_ne.2 c4
          by_cases c5 : pick r.b 7 = 1
          · have b5 : (pick r.b 7 == 1) = true := beq_iff_eq.2 c5
            have hsh : gshape kind r = (18, [3]) := by unfold gshape; simp [c2, c3, c4, c5]
            rw [hsh]
            have fw := fun (T : Tm) (g : List Nat) (H : Heap) (dst : Nat) (hx : ((0 :: g) <:+ g0) = False) (hx1 : ((0 :: g) <:+ g1) = False) (hS4 : Heap.get H ⟨d, 4, 0 :: p⟩ = some (.box [.ptr ⟨d0, t0, g0⟩ 0])) (hS6 : Heap.get H ⟨d, 6, 0 :: 1 :: p⟩ = some (.box [.arr ⟨d0, t1, g1⟩ 0 fs.length 9])) (hS : Heap.get H ⟨d0, t0, g0⟩ = some (gbox l k2)) (hF : Heap.get H ⟨d0, t1, g1⟩ = some (fbox fs)) => ca_withA hge (d := d) (dst := dst) (S := ⟨T, H, g⟩) d0 t0 g0 d 4 (0 :: p) 6 (0 :: 1 :: p) (by decide) t1 g1 ht (by omega) (Nat.le_refl _) h (18) [3] (by simp) fs hfs l k2 (hbnd _ (by simp)) hl hr hn hx hx1 hS4 hS6 hS hF
            simp only [List.map_cons, List.map_nil, Exp.dv_mk, Val.zero] at fw
            generalize gargs (gexpr fs l n) [3] k2 = y at *
            rw [Exp.dv_mk]
            simp only [Val.zero]
            simp only [amx, seval, ty_FmD_33, fn, fw, suf1 hg0, suf2 hg0, suf3 hg0, suf4 hg0, suf5 hg0, suf6 hg0, hs0, nt_arr, ac_arr, cap_arr, plainD_arr, suf1 hg1, suf2 hg1, suf3 hg1, suf4 hg1, suf5 hg1, suf6 hg1, hs1, ht1, ht2, Raw.dv, e1, e2, hd1, upd, Option.getD_none, Option.getD_some, soft_d, b0, p1, p2, p3, p4, b1, b2, b3, b4, b5]
          · have b5 : (pick r.b 7 == 1) = false := beq_eq_false_iff_ne.2 c5
            have hsh : gshape kind r = (5 + (pick r.b 7 - 2), [1, 1]) := by unfold gshape; simp [c2, c3, c4, c5]
            have w1 : IntKind.i64.wrap (pick r.b 7 - 2) = pick r.b 7 - 2 := wrap_in (by omega) (by omega)
            have j1 : (0 ≤ pick r.b 7 - 2) = True := eq_true (by omega)
            have j2 : (pick r.b 7 - 2 < 5) = True := eq_true (by omega)
            have hq : ([DV.int .i64 5, DV.int .i64 6, DV.int .i64 7, DV.int .i64 8, DV.int .i64 9])[(pick r.b 7 - 2).toNat]? = some (.int .i64 (5 + (pick r.b 7 - 2))) := by
              have : pick r.b 7 = 2 ∨ pick r.b 7 = 3 ∨ pick r.b 7 = 4 ∨ pick r.b 7 = 5 ∨ pick r.b 7 = 6 := by omega
              rcases this with e | e | e | e | e <;> rw [e] <;> rfl
            rw [hsh]
            have fw := fun (T : Tm) (g : List Nat) (H : Heap) (dst : Nat) (hx : ((0 :: g) <:+ g0) = False) (hx1 : ((0 :: g) <:+ g1) = False) (hS4 : Heap.get H ⟨d, 4, 0 :: p⟩ = some (.box [.ptr ⟨d0, t0, g0⟩ 0])) (hS6 : Heap.get H ⟨d, 6, 0 :: 1 :: p⟩ = some (.box [.arr ⟨d0, t1, g1⟩ 0 fs.length 9])) (hS : Heap.get H ⟨d0, t0, g0⟩ = some (gbox l k2)) (hF : Heap.get H ⟨d0, t1, g1⟩ = some (fbox fs)) => ca_withA hge (d := d) (dst := dst) (S := ⟨T, H, g⟩) d0 t0 g0 d 4 (0 :: p) 6 (0 :: 1 :: p) (by decide) t1 g1 ht (by omega) (Nat.le_refl _) h (5 + (pick r.b 7 - 2)) [1, 1] (by simp) fs hfs l k2 (hbnd _ (by simp)) hl hr hn hx hx1 hS4 hS6 hS hF
            simp only [List.map_cons, List.map_nil, Exp.dv_mk, Val.zero] at fw
            generalize gargs (gexpr fs l n) [1, 1] k2 = y at *
            rw [Exp.dv_mk]
            simp only [Val.zero]
            simp only [amx, seval, ty_FmD_33, fn, fw, suf1 hg0, suf2 hg0, suf3 hg0, suf4 hg0, suf5 hg0, suf6 hg0, hs0, nt_arr, ac_arr, cap_arr, plainD_arr, suf1 hg1, suf2 hg1, suf3 hg1, suf4 hg1, suf5 hg1, suf6 hg1, hs1, ht1, ht2, Raw.dv, e1, e2, hd1, upd, Option.getD_none, Option.getD_some, soft_d, b0, p1, p2, p3, p4, b1, b2, b3, b4, b5, w1, j1, j2, hq]
      · have b3 : (kind == 1) = false := beq_eq_false_iff_ne.2 c3
        by_cases c4 : kind = 2
        · have b4 : (kind == 2) = true := beq_iff_eq.2 c4
          by_cases c5 : pick r.b 7 = 0
          · have b5 : (pick r.b 7 == 0) = true := beq_iff_eq.2 c5
            have hsh : gshape kind r = (4, [2]) := by unfold gshape; simp [c2, c3, c4, c5]
            rw [hsh]
            have fw := fun (T : Tm) (g : List Nat) (H : Heap) (dst : Nat) (hx : ((0 :: g) <:+ g0) = False) (hx1 : ((0 :: g) <:+ g1) = False) (hS4 : Heap.get H ⟨d, 4, 0 :: p⟩ = some (.box [.ptr ⟨d0, t0, g0⟩ 0])) (hS6 : Heap.get H ⟨d, 6, 0 :: 1 :: p⟩ = some (.box [.arr ⟨d0, t1, g1⟩ 0 fs.length 9])) (hS : Heap.get H ⟨d0, t0, g0⟩ = some (gbox l k2)) (hF : Heap.get H ⟨d0, t1, g1⟩ = some (fbox fs)) => ca_withA hge (d := d) (dst := dst) (S := ⟨T, H, g⟩) d0 t0 g0 d 4 (0 :: p) 6 (0 :: 1 :: p) (by decide) t1 g1 ht (by omega) (Nat.le_refl _) h (4) [2] (by simp) fs hfs l k2 (hbnd _ (by simp)) hl hr hn hx hx1 hS4 hS6 hS hF
            simp only [List.map_cons, List.map_nil, Exp.dv_mk, Val.zero] at fw
            generalize gargs (gexpr fs l n) [2] k2 = y at *
            rw [Exp.dv_mk]
            simp only [Val.zero]
            simp only [amx, seval, ty_FmD_33, fn, fw, suf1 hg0, suf2 hg0, suf3 hg0, suf4 hg0, suf5 hg0, suf6 hg0, hs0, nt_arr, ac_arr, cap_arr, plainD_arr, suf1 hg1, suf2 hg1, suf3 hg1, suf4 hg1, suf5 hg1, suf6 hg1, hs1, ht1, ht2, Raw.dv, e1, e2, hd1, upd, Option.getD_none, Option.getD_some, soft_d, b0, p1, p2, p3, p4, b1, b2, b3, b4, b5]
          · have b5 : (pick r.b 7 == 0) = false := beq_eq_false_iff_ne.2 c5
            by_cases c6 : pick r.b 7 < 3
            · have b6 : decide (pick r.b 7 < 3) = true := decide_eq_true c6
              have hsh : gshape kind r = (15 + pick r.b 7 - 1, [2, 2]) := by unfold gshape; simp [c2, c3, c4, c5, c6]
              have w1 : IntKind.i64.wrap (15 + pick r.b 7) = 15 + pick r.b 7 := wrap_in (by omega) (by omega)
              have w2 : IntKind.i64.wrap (15 + pick r.b 7 - 1) = 15 + pick r.b 7 - 1 := wrap_in (by omega) (by omega)
              rw [hsh]
              have fw := fun (T : Tm) (g : List Nat) (H : Heap) (dst : Nat) (hx : ((0 :: g) <:+ g0) = False) (hx1 : ((0 :: g) <:+ g1) = False) (hS4 : Heap.get H ⟨d, 4, 0 :: p⟩ = some (.box [.ptr ⟨d0, t0, g0⟩ 0])) (hS6 : Heap.get H ⟨d, 6, 0 :: 1 :: p⟩ = some (.box [.arr ⟨d0, t1, g1⟩ 0 fs.length 9])) (hS : Heap.get H ⟨d0, t0, g0⟩ = some (gbox l k2)) (hF : Heap.get H ⟨d0, t1, g1⟩ = some (fbox fs)) => ca_withA hge (d := d) (dst := dst) (S := ⟨T, H, g⟩) d0 t0 g0 d 4 (0 :: p) 6 (0 :: 1 :: p) (by decide) t1 g1 ht (by omega) (Nat.le_refl _) h (15 + pick r.b 7 - 1) [2, 2] (by simp) fs hfs l k2 (hbnd _ (by simp)) hl hr hn hx hx1 hS4 hS6 hS hF
              simp only [List.map_cons, List.map_nil, Exp.dv_mk, Val.zero] at fw
              generalize gargs (gexpr fs l n) [2, 2] k2 = y at *
              rw [Exp.dv_mk]
              simp only [Val.zero]
              simp only [amx, seval, ty_FmD_33, fn, fw, suf1 hg0, suf2 hg0, suf3 hg0, suf4 hg0, suf5 hg0, suf6 hg0, hs0, nt_arr, ac_arr, cap_arr, plainD_arr, suf1 hg1, suf2 hg1, suf3 hg1, suf4 hg1, suf5 hg1, suf6 hg1, hs1, ht1, ht2, Raw.dv, e1, e2, hd1, upd, Option.getD_none, Option.getD_some, soft_d, b0, p1, p2, p3, p4, b1, b2, b3, b4, b5, b6, w1, w2]
            · have b6 : decide (pick r.b 7 < 3) = false := decide_eq_false c6
              have hsh : gshape kind r = (11 + pick r.b 7 - 3, [1 + pick r.a 3, 1 + pick r.a 3]) := by unfold gshape; simp [c2, c3, c4, c5, c6]
              have w1 : IntKind.i64.wrap (11 + pick r.b 7) = 11 + pick r.b 7 := wrap_in (by omega) (by omega)
              have w2 : IntKind.i64.wrap (11 + pick r.b 7 - 3) = 11 + pick r.b 7 - 3 := wrap_in (by omega) (by omega)
              have w3 : IntKind.i64.wrap (1 + pick r.a 3) = 1 + pick r.a 3 := wrap_in (by omega) (by omega)
              rw [hsh]
              have fw := fun (T : Tm) (g : List Nat) (H : Heap) (dst : Nat) (hx : ((0 :: g) <:+ g0) = False) (hx1 : ((0 :: g) <:+ g1) = False) (hS4 : Heap.get H ⟨d, 4, 0 :: p⟩ = some (.box [.ptr ⟨d0, t0, g0⟩ 0])) (hS6 : Heap.get H ⟨d, 6, 0 :: 1 :: p⟩ = some (.box [.arr ⟨d0, t1, g1⟩ 0 fs.length 9])) (hS : Heap.get H ⟨d0, t0, g0⟩ = some (gbox l k2)) (hF : Heap.get H ⟨d0, t1, g1⟩ = some (fbox fs)) => ca_withA hge (d := d) (dst := dst) (S := ⟨T, H, g⟩) d0 t0 g0 d 4 (0 :: p) 6 (0 :: 1 :: p) (by decide) t1 g1 ht (by omega) (Nat.le_refl _) h (11 + pick r.b 7 - 3) [1 + pick r.a 3, 1 + pick r.a 3] (by simp) fs hfs l k2 (hbnd _ (by simp)) hl hr hn hx hx1 hS4 hS6 hS hF
              simp only [List.map_cons, List.map_nil, Exp.dv_mk, Val.zero] at fw
              generalize gargs (gexpr fs l n) [1 + pick r.a 3, 1 + pick r.a 3] k2 = y at *
              rw [Exp.dv_mk]
              simp only [Val.zero]
              simp only [amx, seval, ty_FmD_33, fn, fw, suf1 hg0, suf2 hg0, suf3 hg0, suf4 hg0, suf5 hg0, suf6 hg0, hs0, nt_arr, ac_arr, cap_arr, plainD_arr, suf1 hg1, suf2 hg1, suf3 hg1, suf4 hg1, suf5 hg1, suf6 hg1, hs1, ht1, ht2, Raw.dv, e1, e2, hd1, upd, Option.getD_none, Option.getD_some, soft_d, b0, p1, p2, p3, p4, b1, b2, b3, b4, b5, b6, w1, w2, w3]
        · have b4 : (kind == 2) = false := beq_eq_false_iff_ne.2 c4
          have hsh : gshape kind r = (10, [3, 3]) := by unfold gshape; simp [c2, c3, c4]
          rw [hsh]
          have fw := fun (T : Tm) (g : List Nat) (H : Heap) (dst : Nat) (hx : ((0 :: g) <:+ g0) = False) (hx1 : ((0 :: g) <:+ g1) = False) (hS4 : Heap.get H ⟨d, 4, 0 :: p⟩ = some (.box [.ptr ⟨d0, t0, g0⟩ 0])) (hS6 : Heap.get H ⟨d, 6, 0 :: 1 :: p⟩ = some (.box [.arr ⟨d0, t1, g1⟩ 0 fs.length 9])) (hS : Heap.get H ⟨d0, t0, g0⟩ = some (gbox l k2)) (hF : Heap.get H ⟨d0, t1, g1⟩ = some (fbox fs)) => ca_withA hge (d := d) (dst := dst) (S := ⟨T, H, g⟩) d0 t0 g0 d 4 (0 :: p) 6 (0 :: 1 :: p) (by decide) t1 g1 ht (by omega) (Nat.le_refl _) h (10) [3, 3] (by simp) fs hfs l k2 (hbnd _ (by simp)) hl hr hn hx hx1 hS4 hS6 hS hF
          simp only [List.map_cons, List.map_nil, Exp.dv_mk, Val.zero] at fw
          generalize gargs (gexpr fs l n) [3, 3] k2 = y at *
          rw [Exp.dv_mk]
          simp only [Val.zero]
          simp only [amx, seval, ty_FmD_33, fn, fw, suf1 hg0, suf2 hg0, suf3 hg0, suf4 hg0, suf5 hg0, suf6 hg0, hs0, nt_arr, ac_arr, cap_arr, plainD_arr, suf1 hg1, suf2 hg1, suf3 hg1, suf4 hg1, suf5 hg1, suf6 hg1, hs1, ht1, ht2, Raw.dv, e1, e2, hd1, upd, Option.getD_none, Option.getD_some, soft_d, b0, p1, p2, p3, p4, b1, b2, b3, b4]
theorem expr_okA : ∀ n : Nat, n ≤ 1000 → ExprOKA n
  | 0, _ => expr_ok0A
  | n + 1, h => expr_okSA (expr_okA n (by omega)) (by omega)
/- Forms of raw things, as data. -/



structure Page where
  name : List UInt8
  fields : List (List UInt8)
  skip : Exp
def Page.dv (p : Page) : DV := .agg [.str p.name, .sl 1 (p.fields.map DV.str), .int .i64 p.skip.op, .int .i64 p.skip.v.kind, .int .i64 p.skip.v.n, .str p.skip.v.s, .str p.skip.name, .sl 6 (p.skip.args.map Exp.dv)]
structure Frm where
  fields : List Field
  pages : List Page
def Frm.dv (p : Frm) : DV := .agg [.sl 9 (p.fields.map Field.dv), .sl 8 (p.pages.map Page.dv)]
def fnm : List Str := [[97], [98], [99], [100, 97, 121], [101, 49], [102, 101, 101], [103, 111, 110, 101], [104, 111, 109, 101], [105, 116, 101, 109], [106, 111, 98]]
def Exp.zero : Exp := .mk 0 Val.zero [] []
def gsrc (l : List Raw) (fs : List Field) (kind ty : Int) (r : Raw) (k : Nat) : Exp × Nat :=
  if kind = 2 then gexpr fs l 2 ty k else if kind = 3 then gexpr fs l 1 (1 + pick r.a 3) k else (Exp.zero, k)
def gfield (l : List Raw) (fs : List Field) (i k : Nat) : Field × Nat :=
  (⟨fnm.getD i [], 1 + pick (gnext l k).kind 3, 1 + pick (gnext l k).b 3, (gsrc l fs (1 + pick (gnext l k).kind 3) (1 + pick (gnext l k).b 3) (gnext l k) (gat l k)).1⟩,
    (gsrc l fs (1 + pick (gnext l k).kind 3) (1 + pick (gnext l k).b 3) (gnext l k) (gat l k)).2)
def gfields (l : List Raw) : Nat → List Field → Nat → List Field × Nat
  | 0, fs, k => (fs, k)
  | m + 1, fs, k => gfields l m (fs ++ [(gfield l fs fs.length k).1]) (gfield l fs fs.length k).2
def pnames (n i : Nat) : Nat → List Field → List Str
  | _, [] => []
  | k, f :: r => if k % (n + 1) = i then f.name :: pnames n i (k + 1) r else pnames n i (k + 1) r
def gskip (l : List Raw) (fs : List Field) (r : Raw) (k : Nat) : Exp × Nat := if pick r.kind 2 = 0 then gexpr fs l 1 2 k else (Exp.zero, k)
def gpage (l : List Raw) (fs : List Field) (n i k : Nat) : Page × Nat :=
  (⟨[112, UInt8.ofNat (49 + i)], pnames n i 0 fs, (gskip l fs (gnext l k) (gat l k)).1⟩, (gskip l fs (gnext l k) (gat l k)).2)
def gpages (l : List Raw) (fs : List Field) (n : Nat) : Nat → List Page → Nat → List Page × Nat
  | 0, ps, k => (ps, k)
  | m + 1, ps, k => gpages l fs n m (ps ++ [(gpage l fs n ps.length k).1]) (gpage l fs n ps.length k).2
def nfields (l : List Raw) : Nat := (1 + pick (gnext l 0).a 10).toNat
def npages (l : List Raw) : Nat := (1 + pick (gnext l 0).b 4).toNat
def ffields (l : List Raw) : List Field := (gfields l (nfields l) [] (gat l 0)).1
def fpages (l : List Raw) : List Page := (gpages l (ffields l) (npages l) (npages l) [] (gfields l (nfields l) [] (gat l 0)).2).1
def mkForm (l : List Raw) : Frm := ⟨if pick (gnext l 0).kind 2 = 0 then (ffields l).reverse else ffields l, fpages l⟩
theorem gsrc_at (l : List Raw) (fs : List Field) (kind ty : Int) (r : Raw) (k : Nat) : k ≤ (gsrc l fs kind ty r k).2 ∧ (gsrc l fs kind ty r k).2 ≤ k + 256 := by
  unfold gsrc
  split
  · have := gexpr_at fs l 2 ty k; omega
  · split
    · have := gexpr_at fs l 1 (1 + pick r.a 3) k; omega
    · simp only; omega
theorem gfield_at (l : List Raw) (fs : List Field) (i k : Nat) : k ≤ (gfield l fs i k).2 ∧ (gfield l fs i k).2 ≤ k + 257 := by
  have h1 := gat_le l k
  have h2 := gsrc_at l fs (1 + pick (gnext l k).kind 3) (1 + pick (gnext l k).b 3) (gnext l k) (gat l k)
  unfold gfield
  simp only
  omega
theorem gfields_at (l : List Raw) : ∀ (m : Nat) (fs : List Field) (k : Nat), k ≤ (gfields l m fs k).2 ∧ (gfields l m fs k).2 ≤ k + m * 257
  | 0, fs, k => by simp [gfields]
  | m + 1, fs, k => by
    have h1 := gfield_at l fs fs.length k
    have h2 := gfields_at l m (fs ++ [(gfield l fs fs.length k).1]) (gfield l fs fs.length k).2
    unfold gfields
    omega
theorem gfields_len (l : List Raw) : ∀ (m : Nat) (fs : List Field) (k : Nat), (gfields l m fs k).1.length = fs.length + m
  | 0, fs, k => by simp [gfields]
  | m + 1, fs, k => by
    have h2 := gfields_len l m (fs ++ [(gfield l fs fs.length k).1]) (gfield l fs fs.length k).2
    unfold gfields
    rw [h2]
    simp
    omega
theorem pnames_len (n i : Nat) : ∀ (k : Nat) (fs : List Field), (pnames n i k fs).length ≤ fs.length
  | _, [] => Nat.le_refl _
  | k, f :: r => by
    have := pnames_len n i (k + 1) r
    unfold pnames
    split <;> simp only [List.length_cons] <;> omega
def turn {α : Type} : Nat → Nat → Nat → List α → List α
  | 0, _, _, xs => xs
  | m + 1, i, j, xs => match xs[i]?, xs[j]? with
    | some x, some y => if i < j then turn m (i + 1) (j - 1) ((xs.set i y).set j x) else xs
    | _, _ => xs
theorem turn_get {α : Type} : ∀ (m i j : Nat) (xs : List α) (n : Nat), n = xs.length → i + j + 1 = n → n ≤ 2 * m + 2 * i + 1 → ∀ t, t < n → (turn m i j xs)[t]? = if i ≤ t ∧ t ≤ j then xs[n - 1 - t]? else xs[t]?
  | 0, i, j, xs, n, hn, h1, h2, t, ht => by
    unfold turn
    split
    · rename_i h
      congr 1
      omega
    · rfl
  | m + 1, i, j, xs, n, hn, h1, h2, t, ht => by
    have hi : i < xs.length := by omega
    have hj : j < xs.length := by omega
    unfold turn
    rw [List.getElem?_eq_getElem hi, List.getElem?_eq_getElem hj]
    simp only
    by_cases hij : i < j
    · rw [if_pos hij, turn_get m (i + 1) (j - 1) _ n (by simp [hn]) (by omega) (by omega) t ht]
      by_cases c1 : i + 1 ≤ t ∧ t ≤ j - 1
      · rw [if_pos c1, if_pos (by omega), List.getElem?_set, List.getElem?_set, if_neg (by omega), if_neg (by omega)]
      · rw [if_neg c1]
        by_cases c2 : t = i
        · subst c2
          rw [if_pos (by omega), List.getElem?_set, if_neg (by omega), List.getElem?_set, if_pos rfl, if_pos hi, show n - 1 - t = j by omega, List.getElem?_eq_getElem hj]
        · by_cases c3 : t = j
          · subst c3
            rw [if_pos (by omega), List.getElem?_set, if_pos rfl, List.length_set, if_pos hj, show n - 1 - t = i by omega, List.getElem?_eq_getElem hi]
          · rw [if_neg (by omega), List.getElem?_set, if_neg (fun e => c3 e.symm), List.getElem?_set, if_neg (fun e => c2 e.symm)]
    · rw [if_neg hij]
      split
      · congr 1
        omega
      · rfl
theorem turn_rev {α : Type} (xs : List α) (h : xs ≠ []) : turn xs.length 0 (xs.length - 1) xs = xs.reverse := by
  have hp : 0 < xs.length := List.length_pos_iff.2 h
  apply List.ext_getElem?
  intro t
  by_cases ht : t < xs.length
  · rw [turn_get xs.length 0 (xs.length - 1) xs xs.length rfl (by omega) (by omega) t ht, if_pos (by omega), List.getElem?_reverse ht]
  · have hl : ∀ (m i j : Nat) (xs : List α), (turn m i j xs).length = xs.length := by
      intro m
      induction m with
      | zero => intro i j xs; rfl
      | succ m ih =>
        intro i j xs
        unfold turn
        split
        · split
          · rw [ih]; simp
          · rfl
        · rfl
    rw [List.getElem?_eq_none (by rw [hl]; omega), List.getElem?_eq_none (by rw [List.length_reverse]; omega)]
end Go.Proofs.Ytfcfifohflgboaa.Am
