/-
  The abstract machine: regions that draw their order: what waits for what; the trace of the text's order. Lemmas alone; no condition.
-/
import Derived.Test.YtmkaeohmdcoanaaR16
namespace Go.RM
open Go

/-! ### What waits for what -/

abbrev ord (b : List Nat) (i j : Nat) : Prop := (b.getD j 0).testBit i = true

/-- A set of operations that holds, with one, all that it waits for. -/
def Cl (l : List Oper) (D : Nat → Bool) : Prop := ∀ (j : Nat) (o : Oper), l[j]? = some o → D j = true → ∀ e ∈ o.after.toList, Region.binds .any e = true → D e.on = true

theorem preds_bit {acc : List Nat} {D : Nat → Bool} (hacc : ∀ j, D j = true → ∀ i, (acc.getD j 0).testBit i = true → D i = true) : ∀ (l : List Edge), (∀ e ∈ l, Region.binds .any e = true → D e.on = true) →
    ∀ i, (preds acc l).testBit i = true → D i = true := by
  intro l
  induction l with
  | nil => intro _ i h; simp [preds] at h
  | cons e l ih =>
    intro hl i h
    have ih' := ih (fun e he => hl e (List.mem_cons_of_mem _ he)) i
    have hp : preds acc (e :: l) = cond (Region.binds .any e) (preds acc l ||| 2 ^ e.on ||| acc.getD e.on 0) (preds acc l) := rfl
    rw [hp] at h
    cases hb : Region.binds .any e with
    | false => rw [hb] at h; exact ih' h
    | true =>
      rw [hb] at h
      simp only [cond_true, Nat.testBit_or, Bool.or_eq_true, Nat.testBit_two_pow, decide_eq_true_eq] at h
      have hd := hl e (by simp) hb
      rcases h with (h | h) | h
      · exact ih' h
      · rw [← h]; exact hd
      · exact hacc _ hd i h

theorem befL_bit {D : Nat → Bool} : ∀ (l : List Oper) (acc : List Nat), (∀ (j : Nat) (o : Oper), l[j]? = some o → D (acc.length + j) = true → ∀ e ∈ o.after.toList, Region.binds .any e = true → D e.on = true) →
    (∀ j, D j = true → ∀ i, (acc.getD j 0).testBit i = true → D i = true) → ∀ j, D j = true → ∀ i, ((befL l acc).getD j 0).testBit i = true → D i = true := by
  intro l
  induction l with
  | nil => intro acc _ h; exact h
  | cons o l ih =>
    intro acc hcl hacc
    refine ih _ (fun j o' ho' hD => hcl (j + 1) o' ho' (by rw [List.length_append] at hD; rw [show acc.length + (j + 1) = acc.length + [preds acc o.after.toList].length + j by simp; omega]; exact hD)) fun j hD i hi => ?_
    rw [List.getD_eq_getElem?_getD, List.getElem?_append] at hi
    split at hi
    · rw [← List.getD_eq_getElem?_getD] at hi; exact hacc j hD i hi
    · rename_i hlt
      by_cases hj : j = acc.length
      · subst hj
        simp only [Nat.sub_self, List.getElem?_cons_zero, Option.getD_some] at hi
        exact preds_bit hacc _ (fun e he => hcl 0 o rfl hD e he) i hi
      · rw [List.getElem?_eq_none (by simp; omega)] at hi
        simp at hi

theorem ord_closed {ops : Array Oper} {D : Nat → Bool} (h : Cl ops.toList D) {i j : Nat} (ho : ord (bef ops) i j) (hj : D j = true) : D i = true :=
  befL_bit ops.toList [] (fun j o hjo hD => h j o hjo (by simpa using hD)) (fun j _ i hi => by simp at hi) j hj i ho

theorem sepOk_get {ops : Array Oper} {b : List Nat} : ∀ {l : List (Oper × Nat)}, sepOk ops b l = true → ∀ (i j : Nat) (x y : Oper × Nat), i < j → l[i]? = some x → l[j]? = some y → x.1.apart ops y.1 = true ∨ ord b x.2 y.2 := by
  intro l
  induction l with
  | nil => intro _ i j x y _ h; cases h
  | cons z l ih =>
    intro h i j x y hij hi hj
    obtain ⟨zo, zi⟩ := z
    simp only [sepOk, Bool.and_eq_true, List.all_eq_true] at h
    cases j with
    | zero => omega
    | succ j =>
      cases i with
      | zero =>
        cases hi
        have := h.1 y (List.mem_of_getElem? hj)
        obtain ⟨yo, yj⟩ := y
        simp only [Bool.or_eq_true] at this
        exact this
      | succ i => exact ih h.2 i j x y (by omega) hi hj

theorem pairsOk_get {T : Tab} {b : List Nat} : ∀ {l : List Ev}, pairsOk T b l = true → ∀ (i j : Nat) (t s : Ev), i < j → l[i]? = some t → l[j]? = some s → conflict s.t t.t = true → ord b s.t.idx t.t.idx ∨ spare T s t = true := by
  intro l
  induction l with
  | nil => intro _ i j x y _ h; cases h
  | cons z l ih =>
    intro h i j t s hij hi hj hc
    simp only [pairsOk, Bool.and_eq_true, List.all_eq_true] at h
    cases j with
    | zero => omega
    | succ j =>
      cases i with
      | zero =>
        cases hi
        have := h.1 s (List.mem_of_getElem? hj)
        rw [hc] at this
        simp only [Bool.not_true, Bool.false_or, Bool.or_eq_true] at this
        exact this
      | succ i => exact ih h.2 i j t s (by omega) hi hj hc

/-! ### What a part of the operations has done -/

def sel {β : Type} (f : Ev → β → β) : List Ev → (Nat → Bool) → Nat → β → β
  | [], _, _, x => x
  | ev :: es, D, i, x => sel f es D (i + 1) (if D i = true then f ev x else x)

section
variable {β : Type} {f : Ev → β → β}

theorem sel_congr : ∀ (es : List Ev) (D D' : Nat → Bool) (i : Nat) (x : β), (∀ j ev, es[j]? = some ev → D (i + j) ≠ D' (i + j) → ∀ x, f ev x = x) → sel f es D i x = sel f es D' i x := by
  intro es
  induction es with
  | nil => intros; rfl
  | cons ev es ih =>
    intro D D' i x h
    have e : (if D i = true then f ev x else x) = (if D' i = true then f ev x else x) := by
      by_cases hd : D i = D' i
      · rw [hd]
      · rw [h 0 ev rfl hd x]; simp
    rw [sel, sel, e]
    exact ih D D' (i + 1) _ fun j ev' hj hd => h (j + 1) ev' hj (by rw [show i + (j + 1) = i + 1 + j by omega]; exact hd)

theorem sel_id (es : List Ev) (D : Nat → Bool) (i : Nat) (x : β) (h : ∀ j ev, es[j]? = some ev → D (i + j) = true → ∀ x, f ev x = x) : sel f es D i x = x := by
  have : sel f es D i x = sel f es (fun _ => false) i x := sel_congr es _ _ i x fun j ev hj hd => h j ev hj (by simpa using hd)
  rw [this]
  clear this h
  induction es generalizing i with
  | nil => rfl
  | cons ev es ih => rw [sel]; simpa using ih (i + 1)

theorem sel_ins : ∀ (es : List Ev) (D D' : Nat → Bool) (i j : Nat) (ev : Ev) (x : β), es[j]? = some ev → D (i + j) = false → D' (i + j) = true → (∀ m, m ≠ i + j → D' m = D m) →
    (∀ m ev', j < m → es[m]? = some ev' → D (i + m) = true → ∀ x, f ev' x = x) → sel f es D' i x = f ev (sel f es D i x) := by
  intro es
  induction es with
  | nil => intro D D' i j ev x h; cases h
  | cons z es ih =>
    intro D D' i j ev x hj h1 h2 h3 h4
    cases j with
    | zero =>
      cases hj
      rw [Nat.add_zero] at h1 h2
      rw [sel, sel, h1, h2]
      simp only [if_true, Bool.false_eq_true, if_false]
      rw [sel_id es D (i + 1) x fun m ev' hm hd => h4 (m + 1) ev' (by omega) hm (by rw [show i + (m + 1) = i + 1 + m by omega]; exact hd)]
      refine sel_id es D' (i + 1) _ fun m ev' hm hd => h4 (m + 1) ev' (by omega) hm ?_
      rw [show i + (m + 1) = i + 1 + m by omega, ← h3 _ (by omega)]; exact hd
    | succ j =>
      rw [sel, sel, h3 i (by omega)]
      refine ih D D' (i + 1) j ev _ hj (by rw [show i + 1 + j = i + (j + 1) by omega]; exact h1) (by rw [show i + 1 + j = i + (j + 1) by omega]; exact h2) (fun m hm => h3 m (by omega)) fun m ev' hm hm' hd => h4 (m + 1) ev' (by omega) hm' ?_
      rw [show i + (m + 1) = i + 1 + m by omega]; exact hd

/-- One that does nothing may come in anywhere. -/
theorem sel_ins_id (es : List Ev) (D D' : Nat → Bool) (i j : Nat) (ev : Ev) (x : β) (hj : es[j]? = some ev) (h3 : ∀ m, m ≠ i + j → D' m = D m) (hf : ∀ x, f ev x = x) : sel f es D' i x = sel f es D i x :=
  sel_congr es D' D i x fun m ev' hm hd => by
    by_cases hmj : m = j
    · subst hmj; rw [hj] at hm; cases hm; exact hf
    · exact absurd (h3 (i + m) (by omega)) hd
end

/-! ### The trace -/

section
variable {T : Tab} {rec : Job → Option (List Res)}

/-- One operation of the trace. -/
def EvOk (T : Tab) (rec : Job → Option (List Res)) (ops : Array Oper) (i : Nat) (ev : Ev) : Prop :=
  (guardA ops.toList ev.st.fr ev.o.guard = false ∧ ev.v = undef ∧ ev.hp = ev.st.hp ∧ ev.t = ⟨i, [], [], false, ev.st.hp.n, ev.st.hp.n⟩) ∨
  (guardA ops.toList ev.st.fr ev.o.guard = true ∧ drawOp T rec ev.o.op i ev.st = some (ev.v, ev.hp, ev.t))

noncomputable def Ev.after (ev : Ev) : St := ⟨putA ev.st.fr ev.o.dst ev.v, ev.hp, ev.st.rd⟩

def Chain (T : Tab) (rec : Job → Option (List Res)) (ops : Array Oper) : List Ev → Nat → St → St → Prop
  | [], _, st, st' => st' = st
  | ev :: es, i, st, st' => ev.st = st ∧ EvOk T rec ops i ev ∧ Chain T rec ops es (i + 1) ev.after st'

theorem execDraw_chain (ops : Array Oper) : ∀ (l : List Oper) (i : Nat) (st : St) (acc : List Ev) (L : List St), execDraw T rec ops l i st acc = some L →
    ∃ es st', L = [st'] ∧ Chain T rec ops es i st st' ∧ es.map (·.o) = l ∧ drawOk T ops (es.reverse ++ acc) = true := by
  intro l
  induction l with
  | nil =>
    intro i st acc L h
    rw [execDraw_nil] at h
    cases hc : drawOk T ops acc with
    | false => rw [hc] at h; cases h
    | true => rw [hc] at h; simp at h; exact ⟨[], st, h.symm, rfl, rfl, hc⟩
  | cons o l ih =>
    intro i st acc L h
    rw [execDraw_cons] at h
    cases hg : guardA ops.toList st.fr o.guard with
    | false =>
      rw [hg] at h
      simp only [cond_false] at h
      obtain ⟨es, st', h1, h2, h3, h4⟩ := ih _ _ _ _ h
      refine ⟨⟨o, st, undef, st.hp, ⟨i, [], [], false, st.hp.n, st.hp.n⟩⟩ :: es, st', h1, ⟨rfl, .inl ⟨hg, rfl, rfl, rfl⟩, h2⟩, by simp [h3], ?_⟩
      simpa using h4
    | true =>
      rw [hg] at h
      simp only [cond_true] at h
      cases hd : drawOp T rec o.op i st with
      | none => rw [hd] at h; cases h
      | some p =>
        obtain ⟨v, hp, t⟩ := p
        rw [hd] at h
        obtain ⟨es, st', h1, h2, h3, h4⟩ := ih _ _ _ _ h
        refine ⟨⟨o, st, v, hp, t⟩ :: es, st', h1, ⟨rfl, .inr ⟨hg, hd⟩, h2⟩, by simp [h3], ?_⟩
        simpa using h4

/-- What an operation makes of a block. -/
noncomputable def Ev.at (k : Nat) (ev : Ev) (x : Option ABlk) : Option ABlk := if k ∈ ev.t.wr ∨ (ev.t.a ≤ k ∧ k < ev.t.b) then ev.hp.get k else x

def Ev.tm (t : Tmp) (ev : Ev) (x : Option Value) : Option Value := if ev.o.dst = some t then some ev.v else x

theorem kindOf_plain {o : Op} (h : kindOf o = .plain) : ∀ it, o ≠ .next it false := by
  intro it e; subst e; cases h

/-- The facts of one operation. -/
theorem EvOk.facts {ops : Array Oper} {i : Nat} {ev : Ev} (h : EvOk T rec ops i ev) (hK : KeepRec rec) (hw : Wf ev.st.hp) :
    ev.t.idx = i ∧ ev.t.a = ev.st.hp.n ∧ ev.t.b = ev.hp.n ∧ ev.st.hp.n ≤ ev.hp.n ∧ Wf ev.hp ∧ ∀ k, k ∉ ev.t.wr → ¬ (ev.t.a ≤ k ∧ k < ev.t.b) → ev.hp.get k = ev.st.hp.get k := by
  rcases h with ⟨_, _, h2, h3⟩ | ⟨_, h⟩
  · rw [h3, h2]; exact ⟨rfl, rfl, rfl, Nat.le_refl _, hw, fun _ _ _ => rfl⟩
  · have hk := drawOp_keep hK h
    refine ⟨?_, ?_, ?_, hk.n, hk.wf hw, ?_⟩
    all_goals (unfold drawOp at h; split at h)
    · split at h
      · split at h
        · rename_i v' hp' hj
          cases hc : Nat.ble ev.st.hp.n hp'.lo <;> rw [hc] at h
          · cases h
          · simp only [cond_true, Option.some.injEq, Prod.mk.injEq] at h; rw [← h.2.2]
        · cases h
      · cases h
    · cases h
    · split at h
      · simp only [Option.some.injEq, Prod.mk.injEq] at h; rw [← h.2.2]
      · cases h
    · split at h
      · split at h
        · rename_i v' hp' hj
          cases hc : Nat.ble ev.st.hp.n hp'.lo <;> rw [hc] at h
          · cases h
          · simp only [cond_true, Option.some.injEq, Prod.mk.injEq] at h; rw [← h.2.2]
        · cases h
      · cases h
    · cases h
    · split at h
      · simp only [Option.some.injEq, Prod.mk.injEq] at h; rw [← h.2.2]
      · cases h
    · split at h
      · split at h
        · rename_i v' hp' hj
          cases hc : Nat.ble ev.st.hp.n hp'.lo <;> rw [hc] at h
          · cases h
          · simp only [cond_true, Option.some.injEq, Prod.mk.injEq] at h; rw [← h.2.2, ← h.2.1]
        · cases h
      · cases h
    · cases h
    · split at h
      · simp only [Option.some.injEq, Prod.mk.injEq] at h; rw [← h.2.2, ← h.2.1]
      · cases h
    · split at h
      · rename_i g _
        split at h
        · rename_i v' hp' hj
          cases hc : Nat.ble ev.st.hp.n hp'.lo <;> rw [hc] at h
          · cases h
          · simp only [cond_true, Option.some.injEq, Prod.mk.injEq] at h
            have hkk := hK _ _ hj
            rw [jobOf_hp] at hkk
            have hkk := hkk.2 _ (List.mem_singleton.2 rfl)
            have hle := Nat.le_of_ble_eq_true hc
            intro k _ hnr
            rw [← h.2.2] at hnr
            rw [← h.2.1]
            simp only at hnr
            by_cases hlt : k < ev.st.hp.n
            · exact hkk.same k hlt (Nat.lt_of_lt_of_le hlt hle)
            · have e1 : hp'.get k = none := hkk.wf hw k (show hp'.n ≤ k by omega)
              have e2 : ev.st.hp.get k = none := hw k (by omega)
              rw [e2]; exact e1
        · cases h
      · cases h
    · cases h
    · split at h
      · rename_i r wr v' e htch hop
        simp only [Option.some.injEq, Prod.mk.injEq] at h
        intro k hwr hnr
        rw [← h.2.2] at hwr hnr
        rw [← h.2.1]
        simp only at hwr hnr
        obtain ⟨q1, q2⟩ := touch_wr htch
        have hin := (opA_eff hop).2 q1
        rw [q2] at hin
        cases e with
        | none => rfl
        | new b => rw [show ev.st.hp.app (.new b) = ev.st.hp.push b from rfl, Hp.get_push, if_neg (fun e => hnr ⟨by omega, by rw [app_n]; simp [Eff.news]; omega⟩)]
        | put k' b => rw [show ev.st.hp.app (.put k' b) = ev.st.hp.put k' b from rfl, Hp.get_put, if_neg (fun e => hwr (by rw [e]; exact hin))]
        | app k' b =>
          rw [show ev.st.hp.app (.app k' b) = (ev.st.hp.put k' .dead).push b from rfl, Hp.get_push, if_neg (fun e => hnr ⟨by
            have : (ev.st.hp.put k' .dead).n = ev.st.hp.n := rfl
            omega, by
            have : (ev.st.hp.put k' .dead).n = ev.st.hp.n := rfl
            rw [app_n]; simp [Eff.news]; omega⟩), Hp.get_put, if_neg (fun e => hwr (by rw [e]; exact hin))]
      · cases h

/-- The trace, read at one place. -/
theorem Chain.get {ops : Array Oper} (hK : KeepRec rec) : ∀ {es : List Ev} {i : Nat} {st st' : St}, Chain T rec ops es i st st' → Wf st.hp → ∀ (j : Nat) (ev : Ev), es[j]? = some ev →
    EvOk T rec ops (i + j) ev ∧ Wf ev.st.hp ∧ st.hp.n ≤ ev.st.hp.n ∧ ev.hp.n ≤ st'.hp.n ∧ ev.st.rd = st.rd ∧
      (∀ k, ev.st.hp.get k = sel (Ev.at k) es (fun m => decide (m < i + j)) i (st.hp.get k)) ∧ (∀ t, ev.st.fr.get t = sel (Ev.tm t) es (fun m => decide (m < i + j)) i (st.fr.get t)) := by
  intro es
  induction es with
  | nil => intro i st st' _ _ j ev h; cases h
  | cons z es ih =>
    intro i st st' hc hw j ev hj
    obtain ⟨rfl, h2, h3⟩ := hc
    obtain ⟨f1, f2, f3, f4, f5, f6⟩ := h2.facts hK hw
    have hn' : ∀ {es : List Ev} {i : Nat} {st st' : St}, Chain T rec ops es i st st' → Wf st.hp → st.hp.n ≤ st'.hp.n := by
      intro es
      induction es with
      | nil => intro i st st' h _; rw [show st' = st from h]; exact Nat.le_refl _
      | cons z es ih =>
        intro i st st' h hw
        obtain ⟨rfl, h2, h3⟩ := h
        obtain ⟨_, _, _, q4, q5, _⟩ := h2.facts hK hw
        exact Nat.le_trans q4 (ih h3 q5)
    cases j with
    | zero =>
      cases hj
      refine ⟨h2, hw, Nat.le_refl _, hn' h3 f5, rfl, fun k => ?_, fun t => ?_⟩
      · exact (sel_id _ _ _ _ fun m ev' hm hd => by have := of_decide_eq_true hd; omega).symm
      · exact (sel_id _ _ _ _ fun m ev' hm hd => by have := of_decide_eq_true hd; omega).symm
    | succ j =>
      obtain ⟨g1, g2, g3, g4, g5, g6, g7⟩ := ih h3 f5 j ev hj
      rw [show i + 1 + j = i + (j + 1) by omega] at g1 g6 g7
      refine ⟨g1, g2, Nat.le_trans f4 g3, g4, g5, fun k => ?_, fun t => ?_⟩
      · rw [g6 k, sel]
        have : decide (i < i + (j + 1)) = true := by simp
        rw [if_pos this]
        congr 1
        show z.hp.get k = z.at k (z.st.hp.get k)
        unfold Ev.at
        split
        · rfl
        · rename_i hn
          exact f6 k (fun h => hn (.inl h)) (fun h => hn (.inr h))
      · rw [g7 t, sel]
        have : decide (i < i + (j + 1)) = true := by simp
        rw [if_pos this]
        congr 1
        show (putA z.st.fr z.o.dst z.v).get t = z.tm t (z.st.fr.get t)
        unfold Ev.tm putA
        cases z.o.dst with
        | none => rfl
        | some d =>
          rw [Tr.get_set]
          by_cases htd : t = d
          · subst htd; simp
          · rw [if_neg htd, if_neg (fun e => htd (by cases e; rfl))]

theorem Chain.last {ops : Array Oper} (hK : KeepRec rec) : ∀ {es : List Ev} {i : Nat} {st st' : St}, Chain T rec ops es i st st' → Wf st.hp → ∀ (D : Nat → Bool), (∀ j, j < es.length → D (i + j) = true) →
    (∀ k, st'.hp.get k = sel (Ev.at k) es D i (st.hp.get k)) ∧ (∀ t, st'.fr.get t = sel (Ev.tm t) es D i (st.fr.get t)) ∧ st'.rd = st.rd ∧ st.hp.n ≤ st'.hp.n ∧ Wf st'.hp := by
  intro es
  induction es with
  | nil => intro i st st' h hw D _; rw [show st' = st from h]; exact ⟨fun _ => rfl, fun _ => rfl, rfl, Nat.le_refl _, hw⟩
  | cons z es ih =>
    intro i st st' hc hw D hD
    obtain ⟨rfl, h2, h3⟩ := hc
    obtain ⟨f1, f2, f3, f4, f5, f6⟩ := h2.facts hK hw
    obtain ⟨g1, g2, g3, g4, g5⟩ := ih h3 f5 D fun j hj => by rw [show i + 1 + j = i + (j + 1) by omega]; exact hD (j + 1) (by simp; omega)
    have h0 : D i = true := hD 0 (by simp)
    refine ⟨fun k => ?_, fun t => ?_, g3, Nat.le_trans f4 g4, g5⟩
    · rw [g1 k, sel, if_pos h0]
      congr 1
      show z.hp.get k = z.at k (z.st.hp.get k)
      unfold Ev.at
      split
      · rfl
      · rename_i hn
        exact f6 k (fun h => hn (.inl h)) (fun h => hn (.inr h))
    · rw [g2 t, sel, if_pos h0]
      congr 1
      show (putA z.st.fr z.o.dst z.v).get t = z.tm t (z.st.fr.get t)
      unfold Ev.tm putA
      cases z.o.dst with
      | none => rfl
      | some d =>
        rw [Tr.get_set]
        by_cases htd : t = d
        · subst htd; simp
        · rw [if_neg htd, if_neg (fun e => htd (by cases e; rfl))]

/-- The numbers of two operations' blocks lie apart. -/
theorem Chain.mono {ops : Array Oper} (hK : KeepRec rec) : ∀ {es : List Ev} {i : Nat} {st st' : St}, Chain T rec ops es i st st' → Wf st.hp → ∀ (j m : Nat) (ev ev' : Ev), j < m → es[j]? = some ev → es[m]? = some ev' → ev.hp.n ≤ ev'.st.hp.n := by
  intro es
  induction es with
  | nil => intro i st st' _ _ j m ev ev' _ h; cases h
  | cons z es ih =>
    intro i st st' hc hw j m ev ev' hjm hj hm
    obtain ⟨rfl, h2, h3⟩ := hc
    obtain ⟨f1, f2, f3, f4, f5, f6⟩ := h2.facts hK hw
    cases m with
    | zero => omega
    | succ m =>
      cases j with
      | zero =>
        cases hj
        exact (Chain.get hK h3 f5 m ev' hm).2.2.1
      | succ j => exact ih h3 f5 j m ev ev' (by omega) hj hm
end
end Go.RM
