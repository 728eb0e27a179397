/-
  The abstract machine: regions that draw their order: every order comes to what the text's order comes to. Lemmas alone; no condition but that the tables are the program's.
-/
import Derived.Test.YtmkaeohmdcoanaaR17
namespace Go.RM
open Go

section
variable {T : Tab} {rec : Job → Option (List Res)} {m : Nat}

theorem callIn (hS : SoundRec T rec m) {γ : Gm} {w : World} {a : Act} {rd : Option Nat} {o : Oper} {f : Operand} {args : Array Operand} {tys : Array TypeId} (hop : o.op = .call ⟨.value f, args, tys⟩) {vf : Value} {vs : List Value}
    {g : Goal} {H : Hp} {R : List Res} {N : Nat} (hg : goalOf vf vs = some g) (hr : rec (jobOf H g) = some R) (hw : Wf H) (hh : HR γ H.get w) (hf : Fresh γ H.n N) (hN : ∀ r ∈ R, r.hp.n ≤ N)
    (hv : VR γ vf (a.eval f)) (ha : VRL γ vs (args.toList.map a.eval)) {next : Act → World → Prop} {Q : Exit → Act → World → Prop}
    (hback : ∀ v w', RetR γ H w R (.returned v) w' → next (a.put o.dst v) w') : o.wpIn (FW rd) 0 T.P a w next Q := by
  have hd : ∃ d, (Deferred.ofValue (a.eval f) (args.toList.map a.eval).toArray).run T.P w = .ok d w := by
    cases g with
    | fn f' as' =>
      obtain ⟨fs, cs, e, _⟩ := goalOf_fn hg
      rw [e] at hv
      obtain ⟨fs', cs', e', _, _⟩ := hv.func_inv
      rw [e']
      exact ⟨_, rfl⟩
    | yield l as' =>
      obtain ⟨fs, cs, e, _⟩ := goalOf_yield hg
      rw [e] at hv
      obtain ⟨_, b, e', _⟩ := hv.yield_inv
      rw [e']
      exact ⟨_, rfl⟩
  obtain ⟨d, hd⟩ := hd
  have hback' : ∀ e w', RetR γ H w R e w' → (match e with
      | .returned v => next (a.put o.dst v) w'
      | .panicked chain => Q (.panic chain) a w'
      | .outgrown => LetsOut Q) := by
    intro e w' hR
    have hR' := hR
    obtain ⟨v, hp, v', γ', hm, he, hv', hs⟩ := hR
    subst he
    exact hback v' w' hR'
  refine ⟨fun _ _ => trivial, ?_⟩
  have he : o.semAt rd a.eval = execOp a.eval o := Oper.semAt_plain (FW rd) _ _ (by rw [hop]; intro c hc; cases hc)
  show o.uponIn _ _ _ _ _ _ ((o.semAt rd a.eval).run T.P w)
  rw [he]
  have hx : (execOp a.eval o).run T.P w = (invoke d.target d.args).run T.P w := by
    obtain ⟨dst, op, ty, pos, after, guard⟩ := o
    simp only at hop
    subst hop
    show (do let d ← resolve a.eval ⟨.value f, args, tys⟩ ty; invoke d.target d.args : Sem Next).run T.P w = _
    refine run_bind_ok ?_
    have e2 : (args.toList.map a.eval).toArray = args.map a.eval := by apply Array.ext'; simp
    rw [e2] at hd
    exact hd
  rw [hx]
  rcases goal_run hS hg hv ha hr hw hh hf hN hd with ⟨f', as', h1, h2⟩ | ⟨l, f', tm, asg, bd, h1, h2⟩
  · rw [h1]
    refine ⟨fun h => Bool.noConfusion h, ?_⟩
    exact CallsIn.mono (F := FW none) h2 fun e w' he => by
      have := hback' e w' he
      cases e <;> exact this
  · rw [h1]
    refine ⟨fun h => Bool.noConfusion h, ?_⟩
    exact RoundIn.mono (F := FW none) h2 fun e w' he => by
      have := hback' e w' he
      cases e <;> exact this

noncomputable def gD (es : List Ev) (st0 : St) (D : Nat → Bool) (k : Nat) : Option ABlk := sel (Ev.at k) es D 0 (st0.hp.get k)
noncomputable def fD (es : List Ev) (st0 : St) (D : Nat → Bool) (t : Tmp) : Option Value := sel (Ev.tm t) es D 0 (st0.fr.get t)

/-- What is known of the region. -/
structure Ctx (T : Tab) (rec : Job → Option (List Res)) (m : Nat) (ops : Array Oper) (es : List Ev) (st0 stF : St) : Prop where
  hT : TabOk T
  hK : KeepRec rec
  hS : SoundRec T rec m
  ch : Chain T rec ops es 0 st0 stF
  wf : Wf st0.hp
  os : es.map (·.o) = ops.toList
  sep : ∀ i j x y, i < j → ops.toList[i]? = some x → ops.toList[j]? = some y → x.apart ops y = true ∨ ord (bef ops) i j
  conf : ∀ i j ev ev', i < j → es[i]? = some ev → es[j]? = some ev' → conflict ev.t ev'.t = true → ord (bef ops) i j ∨ spare T ev ev' = true

structure Inv (es : List Ev) (st0 stF : St) (γ0 : Gm) (w0 : World) (a0 : Act) (D : Nat → Bool) (γ : Gm) (a : Act) (w : World) : Prop where
  le : γ0.Le γ
  out : ∀ k, (k < st0.hp.n ∨ stF.hp.n ≤ k) → γ.loc k = γ0.loc k
  fresh : ∀ j ev, es[j]? = some ev → D j = false → ∀ k, ev.t.a ≤ k → k < ev.t.b → γ.loc k = none
  hr : HR γ (gD es st0 D) w
  upd : Upd γ0 st0.hp.get w0 γ (gD es st0 D) w
  tm : ∀ t, VR γ ((fD es st0 D t).getD undef) (a.tmps.getD t undef)
  sz : a.tmps.size = a0.tmps.size
  df : a.defers = a0.defers

theorem meets_iff {a b : List Nat} : meets a b = true ↔ ∃ k, k ∈ a ∧ k ∈ b := by
  simp only [meets, List.any_eq_true]
  constructor
  · rintro ⟨x, hx, y, hy, h⟩
    obtain rfl := Nat.eq_of_beq_eq_true h
    exact ⟨x, hx, hy⟩
  · rintro ⟨k, h1, h2⟩
    exact ⟨k, h1, k, h2, Nat.beq_refl k⟩

theorem within_iff {a b : Nat} {l : List Nat} : within a b l = true ↔ ∃ k ∈ l, a ≤ k ∧ k < b := by
  simp only [within, List.any_eq_true, Bool.and_eq_true]
  constructor
  · rintro ⟨k, h1, h2, h3⟩
    exact ⟨k, h1, Nat.le_of_ble_eq_true h2, Nat.le_of_ble_eq_true h3⟩
  · rintro ⟨k, h1, h2, h3⟩
    exact ⟨k, h1, Nat.ble_eq_true_of_le h2, Nat.ble_eq_true_of_le h3⟩

/-- Does an operation turn block k. -/
def Ev.turns (ev : Ev) (k : Nat) : Prop := k ∈ ev.t.wr ∨ (ev.t.a ≤ k ∧ k < ev.t.b)

theorem Ev.at_id {ev : Ev} {k : Nat} (h : ¬ ev.turns k) (x : Option ABlk) : ev.at k x = x := if_neg h
theorem Ev.at_turn {ev : Ev} {k : Nat} (h : ev.turns k) (x : Option ABlk) : ev.at k x = ev.hp.get k := if_pos h

theorem conflict_left {s t : Tc} {k : Nat} (hs : k ∈ s.wr ∨ (s.a ≤ k ∧ k < s.b)) (ht : k ∈ t.rd ∨ k ∈ t.wr) : conflict s t = true := by
  simp only [conflict, Bool.or_eq_true, meets_iff, within_iff]
  rcases hs with h | h <;> rcases ht with h' | h'
  · exact .inl (.inl (.inl (.inl (.inl (.inl (.inl (.inl ⟨k, h, h'⟩)))))))
  · exact .inl (.inl (.inl (.inl (.inl (.inl (.inl (.inr ⟨k, h, h'⟩)))))))
  · exact .inl (.inl (.inl (.inr ⟨k, h', h⟩)))
  · exact .inl (.inl (.inr ⟨k, h', h⟩))

theorem conflict_right {s t : Tc} {k : Nat} (ht : k ∈ t.wr ∨ (t.a ≤ k ∧ k < t.b)) (hs : k ∈ s.rd ∨ k ∈ s.wr) : conflict s t = true := by
  simp only [conflict, Bool.or_eq_true, meets_iff, within_iff]
  rcases ht with h | h <;> rcases hs with h' | h'
  · exact .inl (.inl (.inl (.inl (.inl (.inl (.inr ⟨k, h, h'⟩))))))
  · exact .inl (.inl (.inl (.inl (.inl (.inl (.inl (.inr ⟨k, h', h⟩)))))))
  · exact .inl (.inr ⟨k, h', h⟩)
  · exact .inr ⟨k, h', h⟩

theorem conflict_call {s t : Tc} {k : Nat} (hc : s.call = true) (h : k ∈ t.wr) : conflict s t = true ∧ conflict t s = true := by
  have : t.wr.isEmpty = false := by cases hh : t.wr with
    | nil => rw [hh] at h; cases h
    | cons => rfl
  simp [conflict, hc, this]

theorem spare_some {ev ev' : Ev} (h : spare T ev ev' = true) : ∃ r, ev.t.rd = [r] ∧ ev.t.wr = [] ∧ ev.t.a = ev.t.b ∧ ev.t.call = false ∧ ev'.t.call = false ∧ opA T ev.st.hp.n ev.o.op (evalA ev.st.fr) ev'.hp.get = some (ev.v, .none) := by
  unfold spare at h
  split at h
  · rename_i r h1 h2
    simp only [Bool.and_eq_true, Bool.not_eq_true'] at h
    obtain ⟨⟨⟨h3, h4⟩, h5⟩, h6⟩ := h
    split at h6
    · rename_i v ho
      obtain ⟨rfl, _⟩ := beqF_eq h6
      exact ⟨r, h1, h2, Nat.eq_of_beq_eq_true h3, h4, h5, ho⟩
    · cases h6
  · cases h

theorem spare_turns {ev ev' : Ev} (h : spare T ev ev' = true) (k : Nat) : ¬ ev.turns k := by
  obtain ⟨r, _, h2, h3, _⟩ := spare_some h
  intro ht
  rcases ht with ht | ht
  · rw [h2] at ht; cases ht
  · omega

/-- The last of some operations that turn a block. -/
theorem sel_last (k : Nat) : ∀ (es : List Ev) (D : Nat → Bool) (i : Nat) (x : Option ABlk), (∀ j ev, es[j]? = some ev → D (i + j) = true → ¬ ev.turns k) ∨
    ∃ j ev, es[j]? = some ev ∧ D (i + j) = true ∧ ev.turns k ∧ sel (Ev.at k) es D i x = ev.hp.get k ∧ ∀ j' ev', j < j' → es[j']? = some ev' → D (i + j') = true → ¬ ev'.turns k := by
  intro es
  induction es with
  | nil => intro D i x; exact .inl fun j ev h => by cases h
  | cons z es ih =>
    intro D i x
    rcases ih D (i + 1) (if D i = true then z.at k x else x) with h | ⟨j, ev, h1, h2, h3, h4, h5⟩
    · by_cases hz : D i = true ∧ z.turns k
      · refine .inr ⟨0, z, rfl, hz.1, hz.2, ?_, fun j' ev' hj he hD => ?_⟩
        · rw [sel, if_pos hz.1, sel_id es D (i + 1) _ fun j ev hj hD x => Ev.at_id (h j ev hj hD) x]
          exact Ev.at_turn hz.2 _
        · cases j' with
          | zero => omega
          | succ j' => exact h j' ev' he (by rw [show i + 1 + j' = i + (j' + 1) by omega]; exact hD)
      · refine .inl fun j ev hj hD => ?_
        cases j with
        | zero => cases hj; exact fun ht => hz ⟨hD, ht⟩
        | succ j => exact h j ev hj (by rw [show i + 1 + j = i + (j + 1) by omega]; exact hD)
    · refine .inr ⟨j + 1, ev, h1, by rw [show i + (j + 1) = i + 1 + j by omega]; exact h2, h3, h4, fun j' ev' hj he hD => ?_⟩
      cases j' with
      | zero => omega
      | succ j' => exact h5 j' ev' (by omega) he (by rw [show i + 1 + j' = i + (j' + 1) by omega]; exact hD)

section
variable {ops : Array Oper} {es : List Ev} {st0 stF : St} {γ0 : Gm} {w0 : World} {a0 : Act} {D D' : Nat → Bool} {γ : Gm} {a : Act} {w : World} {j : Nat} {ev : Ev}

/-- The next operation, and what has gone before it. -/
structure Nxt (ops : Array Oper) (es : List Ev) (D D' : Nat → Bool) (j : Nat) (ev : Ev) : Prop where
  hj : es[j]? = some ev
  d : D j = false
  d' : D' j = true
  same : ∀ m, m ≠ j → D' m = D m
  cl : Cl ops.toList D
  cl' : Cl ops.toList D'

theorem Nxt.before (n : Nxt ops es D D' j ev) {i : Nat} (hi : i ≠ j) (h : ord (bef ops) i j) : D i = true := by
  rw [← n.same i hi]; exact ord_closed n.cl' h n.d'

theorem Nxt.behind (n : Nxt ops es D D' j ev) {i : Nat} (h : ord (bef ops) j i) (hD : D i = true) : False := by
  have := ord_closed n.cl h hD
  rw [n.d] at this; cases this

theorem Ctx.oper (C : Ctx T rec m ops es st0 stF) {i : Nat} {e : Ev} (h : es[i]? = some e) : ops.toList[i]? = some e.o := by
  rw [← C.os, List.getElem?_map, h]; rfl

theorem Ctx.at (C : Ctx T rec m ops es st0 stF) {i : Nat} {e : Ev} (h : es[i]? = some e) :
    EvOk T rec ops i e ∧ Wf e.st.hp ∧ st0.hp.n ≤ e.st.hp.n ∧ e.hp.n ≤ stF.hp.n ∧ e.st.rd = st0.rd ∧
      (∀ k, e.st.hp.get k = gD es st0 (fun q => decide (q < i)) k) ∧ (∀ t, e.st.fr.get t = fD es st0 (fun q => decide (q < i)) t) := by
  have := Chain.get C.hK C.ch C.wf i e h
  rw [Nat.zero_add] at this
  exact this

theorem Ctx.facts (C : Ctx T rec m ops es st0 stF) {i : Nat} {e : Ev} (h : es[i]? = some e) :
    e.t.idx = i ∧ e.t.a = e.st.hp.n ∧ e.t.b = e.hp.n ∧ e.st.hp.n ≤ e.hp.n ∧ Wf e.hp ∧ ∀ k, k ∉ e.t.wr → ¬ (e.t.a ≤ k ∧ k < e.t.b) → e.hp.get k = e.st.hp.get k := (C.at h).1.facts C.hK (C.at h).2.1

/-- The temporaries that the next operation looks at stand as in the text's order. -/
theorem Ctx.fr_agree (C : Ctx T rec m ops es st0 stF) (n : Nxt ops es D D' j ev) {t : Tmp} (ht : t ∈ ev.o.looksAt ops) : fD es st0 D t = ev.st.fr.get t := by
  rw [(C.at n.hj).2.2.2.2.2.2 t]
  refine sel_congr es _ _ 0 _ fun i e hi hd x => ?_
  rw [Nat.zero_add] at hd
  unfold Ev.tm
  by_cases hdst : e.o.dst = some t
  · exfalso
    rcases Nat.lt_trichotomy i j with hlt | rfl | hgt
    · have hDi : D i = false := by
        cases h : D i with
        | false => rfl
        | true => rw [h] at hd; simp [hlt] at hd
      rcases C.sep i j _ _ hlt (C.oper hi) (C.oper n.hj) with hap | ho
      · exact (Oper.apart_spec hap).1 t hdst ht
      · rw [n.before (by omega) ho] at hDi; cases hDi
    · rw [n.d] at hd; simp at hd
    · have hDi : D i = true := by
        cases h : D i with
        | true => rfl
        | false => rw [h] at hd; simp at hd; omega
      rcases C.sep j i _ _ hgt (C.oper n.hj) (C.oper hi) with hap | ho
      · exact (Oper.apart_spec hap).2.2 t hdst ht
      · exact n.behind ho hDi
  · rw [if_neg hdst]

/-- The temporaries behind the next operation. -/
theorem Ctx.fr_next (C : Ctx T rec m ops es st0 stF) (n : Nxt ops es D D' j ev) (t : Tmp) : fD es st0 D' t = if ev.o.dst = some t then some ev.v else fD es st0 D t := by
  by_cases hdst : ev.o.dst = some t
  · rw [if_pos hdst]
    have := sel_ins (f := Ev.tm t) es D D' 0 j ev (st0.fr.get t) n.hj (by rw [Nat.zero_add]; exact n.d) (by rw [Nat.zero_add]; exact n.d') (fun q hq => n.same q (by omega)) fun i e hi he hD x => by
      rw [Nat.zero_add] at hD
      unfold Ev.tm
      refine if_neg fun hd => ?_
      rcases C.sep j i _ _ hi (C.oper n.hj) (C.oper he) with hap | ho
      · exact (Oper.apart_spec hap).2.1 t hdst hd
      · exact n.behind ho hD
    show sel (Ev.tm t) es D' 0 _ = _
    rw [this]
    exact if_pos hdst
  · rw [if_neg hdst]
    exact sel_ins_id es D D' 0 j ev _ n.hj (fun q hq => n.same q (by omega)) fun x => if_neg hdst

/-- Blocks that the next operation touches stand as in the text's order. -/
theorem Ctx.hp_agree (C : Ctx T rec m ops es st0 stF) (n : Nxt ops es D D' j ev) {k : Nat} (hk : k ∈ ev.t.rd ∨ k ∈ ev.t.wr) (hlast : ∀ i e, j < i → es[i]? = some e → D i = true → ¬ e.turns k) : gD es st0 D k = ev.st.hp.get k := by
  rw [(C.at n.hj).2.2.2.2.2.1 k]
  refine sel_congr es _ _ 0 _ fun i e hi hd x => ?_
  rw [Nat.zero_add] at hd
  by_cases ht : e.turns k
  · exfalso
    rcases Nat.lt_trichotomy i j with hlt | rfl | hgt
    · have hDi : D i = false := by
        cases h : D i with
        | false => rfl
        | true => rw [h] at hd; simp [hlt] at hd
      rcases C.conf i j _ _ hlt hi n.hj (conflict_left ht hk) with ho | hsp
      · rw [n.before (by omega) ho] at hDi; cases hDi
      · exact spare_turns hsp k ht
    · rw [n.d] at hd; simp at hd
    · have hDi : D i = true := by
        cases h : D i with
        | true => rfl
        | false => rw [h] at hd; simp at hd; omega
      exact hlast i e hgt hi hDi ht
  · exact Ev.at_id ht x

/-- No operation behind the next one has turned what it turns. -/
theorem Ctx.later_id (C : Ctx T rec m ops es st0 stF) (n : Nxt ops es D D' j ev) {k : Nat} (hk : ev.turns k) {i : Nat} {e : Ev} (hi : j < i) (he : es[i]? = some e) (hD : D i = true) : ¬ e.turns k := by
  intro ht
  obtain ⟨_, f2, f3, f4, _⟩ := C.facts n.hj
  obtain ⟨_, g2, g3, g4, _⟩ := C.facts he
  have hm := Chain.mono C.hK C.ch C.wf j i ev e hi n.hj he
  have hk0 := hk
  rcases hk with hk | hk
  · rcases C.conf j i _ _ hi n.hj he (conflict_right ht (.inr hk)) with ho | hsp
    · exact n.behind ho hD
    · exact spare_turns hsp k hk0
  · rcases ht with ht | ht
    · rcases C.conf j i _ _ hi n.hj he (conflict_left (.inr hk) (.inr ht)) with ho | hsp
      · exact n.behind ho hD
      · exact spare_turns hsp k hk0
    · omega

theorem Ctx.hp_next (C : Ctx T rec m ops es st0 stF) (n : Nxt ops es D D' j ev) {k : Nat} (hk : ev.turns k) : gD es st0 D' k = ev.hp.get k := by
  have := sel_ins (f := Ev.at k) es D D' 0 j ev (st0.hp.get k) n.hj (by rw [Nat.zero_add]; exact n.d) (by rw [Nat.zero_add]; exact n.d') (fun q hq => n.same q (by omega)) fun i e hi he hD x => by
    rw [Nat.zero_add] at hD
    exact Ev.at_id (C.later_id n hk hi he hD) x
  show sel (Ev.at k) es D' 0 _ = _
  rw [this]
  exact Ev.at_turn hk _

theorem Ctx.hp_next_id (_C : Ctx T rec m ops es st0 stF) (n : Nxt ops es D D' j ev) {k : Nat} (hk : ¬ ev.turns k) : gD es st0 D' k = gD es st0 D k :=
  sel_ins_id es D D' 0 j ev _ n.hj (fun q hq => n.same q (by omega)) fun x => Ev.at_id hk x

theorem Inv.tm_next (C : Ctx T rec m ops es st0 stF) (n : Nxt ops es D D' j ev) (I : Inv es st0 stF γ0 w0 a0 D γ a w) {γ' : Gm} (hle : γ.Le γ') {v' : Value} (hv : VR γ' ev.v v') (hd : ∀ d, ev.o.dst = some d → d < a.tmps.size) (t : Tmp) :
    VR γ' ((fD es st0 D' t).getD undef) ((a.put ev.o.dst v').tmps.getD t undef) := by
  rw [C.fr_next n t]
  cases hdst : ev.o.dst with
  | none => simp only [reduceCtorEq, if_false, Act.put]; exact (I.tm t).mono hle
  | some d =>
    show VR γ' _ ((a.tmps.setIfInBounds d v').getD t undef)
    rw [getD_set (hd d hdst)]
    by_cases htd : t = d
    · subst htd; rw [if_pos rfl, if_pos rfl]; exact hv
    · rw [if_neg htd, if_neg (fun e => htd (by cases e; rfl))]; exact (I.tm t).mono hle

theorem Inv.fresh_next (C : Ctx T rec m ops es st0 stF) (n : Nxt ops es D D' j ev) (I : Inv es st0 stF γ0 w0 a0 D γ a w) {γ' : Gm} (hout : ∀ k, (k < ev.st.hp.n ∨ ev.hp.n ≤ k) → γ'.loc k = γ.loc k) :
    ∀ i e, es[i]? = some e → D' i = false → ∀ k, e.t.a ≤ k → k < e.t.b → γ'.loc k = none := by
  intro i e he hD k h1 h2
  have hij : i ≠ j := fun h => by subst h; rw [n.d'] at hD; cases hD
  rw [n.same i hij] at hD
  obtain ⟨_, f2, f3, f4, _⟩ := C.facts n.hj
  obtain ⟨_, g2, g3, g4, _⟩ := C.facts he
  rw [hout k, I.fresh i e he hD k h1 h2]
  rcases Nat.lt_or_gt_of_ne hij with h | h
  · have := Chain.mono C.hK C.ch C.wf i j e ev h he n.hj; omega
  · have := Chain.mono C.hK C.ch C.wf j i ev e h n.hj he; omega

theorem looksAt_tmp {o : Oper} {t : Tmp} (h : Operand.tmp t ∈ o.op.operands) : t ∈ o.looksAt ops := by
  unfold Oper.looksAt
  refine List.mem_append.2 (.inl (List.mem_filterMap.2 ⟨.tmp t, by simpa using h, rfl⟩))

theorem looksAt_guard {o q : Oper} {g : Nat} {want : Bool} {d : Tmp} (h : o.guard = some (g, want)) (hq : ops[g]? = some q) (hd : q.dst = some d) : d ∈ o.looksAt ops := by
  unfold Oper.looksAt
  refine List.mem_append.2 (.inr ?_)
  rw [h]
  simp [hq, hd]

/-- What the operands come to. -/
theorem Inv.eval (C : Ctx T rec m ops es st0 stF) (n : Nxt ops es D D' j ev) (I : Inv es st0 stF γ0 w0 a0 D γ a w) (hok : operOk a.tmps.size ev.o = true) : ∀ x ∈ ev.o.op.operands, VR γ (evalA ev.st.fr x) (a.eval x) := by
  intro x hx
  simp only [operOk, Bool.and_eq_true, List.all_eq_true] at hok
  have hxo := hok.1 x (by simpa using hx)
  cases x with
  | tmp t =>
    have := I.tm t
    rw [C.fr_agree n (looksAt_tmp hx)] at this
    exact this
  | const v => exact VR.of_flat hxo
  | global g => cases hxo
  | func f => exact .func rfl rfl (fun i a _ => absurd a (by simp)) (fun i a _ => absurd a (by simp))

/-- Behind a call: the heap. -/
theorem Inv.call_next (C : Ctx T rec m ops es st0 stF) (n : Nxt ops es D D' j ev) (I : Inv es st0 stF γ0 w0 a0 D γ a w) (hcall : ev.t.call = true) (hwr : ev.t.wr = []) :
    HR γ ev.st.hp.get w ∧ (∀ {γ' : Gm} {w' : World} {H H' : Hp}, H.get = ev.st.hp.get → H.n = ev.st.hp.n → H'.get = ev.hp.get → H'.n = ev.hp.n → Step γ H w γ' H' w' → HR γ' (gD es st0 D') w' ∧ Upd γ (gD es st0 D) w γ' (gD es st0 D') w') := by
  obtain ⟨f1, f2, f3, f4, f5, f6⟩ := C.facts n.hj
  obtain ⟨_, wf, _, _, _, hsel, _⟩ := C.at n.hj
  have agree : ∀ k, γ.loc k ≠ none → k < ev.st.hp.n → gD es st0 D k = ev.st.hp.get k := by
    intro k hl hlt
    rw [hsel k]
    refine sel_congr es _ _ 0 _ fun i e hi hd x => ?_
    rw [Nat.zero_add] at hd
    by_cases ht : e.turns k
    · exfalso
      obtain ⟨_, g2, g3, g4, _⟩ := C.facts hi
      rcases Nat.lt_trichotomy i j with hij | rfl | hij
      · have hDi : D i = false := by
          cases h : D i with
          | false => rfl
          | true => rw [h] at hd; simp [hij] at hd
        rcases ht with ht | ht
        · rcases C.conf i j _ _ hij hi n.hj (conflict_call hcall ht).2 with ho | hsp
          · rw [n.before (by omega) ho] at hDi; cases hDi
          · exact spare_turns hsp k (.inl ht)
        · exact hl (I.fresh i e hi hDi k ht.1 ht.2)
      · rw [n.d] at hd; simp at hd
      · have hDi : D i = true := by
          cases h : D i with
          | true => rfl
          | false => rw [h] at hd; simp at hd; omega
        rcases ht with ht | ht
        · rcases C.conf j i _ _ hij n.hj hi (conflict_call hcall ht).1 with ho | hsp
          · exact n.behind ho hDi
          · obtain ⟨_, _, _, _, hnc, _⟩ := spare_some hsp
            rw [hcall] at hnc; cases hnc
        · have := Chain.mono C.hK C.ch C.wf j i ev e hij n.hj hi
          omega
    · exact Ev.at_id ht x
  have there : ∀ k a, ev.st.hp.get k = some a → k < ev.st.hp.n := fun k a h => by
    apply Nat.lt_of_not_le
    intro hle
    rw [wf k hle] at h; cases h
  have hr0 : HR γ ev.st.hp.get w := by
    refine ⟨fun k b o x hx hl => ?_, fun k k' b o o' x x' hx ho hx' hd hne hl hl' => ?_, I.hr.lt, I.hr.base⟩
    · exact I.hr.blk k b o x (by rw [agree k (by rw [hl]; simp) (there k x hx)]; exact hx) hl
    · exact I.hr.inj k k' b o o' x x' (by rw [agree k (by rw [hl]; simp) (there k x hx)]; exact hx) ho (by rw [agree k' (by rw [hl']; simp) (there k' x' hx')]; exact hx') hd hne hl hl'
  refine ⟨hr0, fun {γ' w' H H'} e1 e2 e3 e4 s => ?_⟩
  have sn := s.n
  have hout : ∀ k, (k < ev.st.hp.n ∨ ev.hp.n ≤ k) → γ'.loc k = γ.loc k := fun k hk => s.out k (by rw [e2, e4]; exact hk)
  have shr := s.hr
  have su := s.upd
  rw [e3] at shr su
  rw [e1] at su
  -- the three kinds of blocks
  have new : ∀ k, ev.st.hp.n ≤ k → k < ev.hp.n → gD es st0 D' k = ev.hp.get k := fun k h1 h2 => C.hp_next n (.inr ⟨by omega, by omega⟩)
  have nt : ∀ k, (k < ev.st.hp.n ∨ ev.hp.n ≤ k) → ¬ ev.turns k := fun k hk ht => by
    rcases ht with ht | ht
    · rw [hwr] at ht; cases ht
    · omega
  have old : ∀ k, (k < ev.st.hp.n ∨ ev.hp.n ≤ k) → gD es st0 D' k = gD es st0 D k := fun k hk => C.hp_next_id n (nt k hk)
  have low : ∀ k, γ.loc k ≠ none → k < ev.st.hp.n → gD es st0 D' k = ev.hp.get k := fun k hl hk => by
    rw [old k (.inl hk), agree k hl hk, f6 k (by rw [hwr]; simp) (by omega)]
  -- one that stands behind, and one that the call may write
  have apart : ∀ {k k1 b o o1 : Nat} {x x1 : ABlk}, ev.hp.n ≤ k → gD es st0 D k = some x → γ.loc k = some (b, o) → ev.st.hp.get k1 = some x1 → γ.loc k1 = some (b, o1) → (x.own = true ∧ x1 ≠ .dead) ∨ (x1.own = true ∧ x ≠ .dead) → False := by
    intro k k1 b o o1 x x1 hk hx hl hx1 hl1 hoo
    have hlt := there k1 x1 hx1
    have hx1' : gD es st0 D k1 = some x1 := by rw [agree k1 (by rw [hl1]; simp) hlt]; exact hx1
    rcases hoo with ⟨h1, h2⟩ | ⟨h1, h2⟩
    · exact I.hr.inj k k1 b o o1 x x1 hx h1 hx1' h2 (by omega) hl hl1
    · exact I.hr.inj k1 k b o1 o x1 x hx1' h1 hx h2 (by omega) hl1 hl
  constructor
  · refine ⟨fun k b o x hx hl => ?_, fun k k' b o o' x x' hx ho hx' hd hne hl hl' => ?_, shr.lt, shr.base⟩
    · by_cases h1 : k < ev.st.hp.n
      · rw [low k (by rw [← hout k (.inl h1), hl]; simp) h1] at hx
        exact shr.blk k b o x hx hl
      · by_cases h2 : k < ev.hp.n
        · rw [new k (by omega) h2] at hx
          exact shr.blk k b o x hx hl
        · rw [old k (.inr (by omega))] at hx
          have hl0 := hl
          rw [hout k (.inr (by omega))] at hl0
          by_cases hd : x = .dead
          · subst hd; trivial
          · refine (I.hr.blk k b o x hx hl0).mono s.le hl0 (su.same b (I.hr.lt k b o hl0) fun k1 o1 x1 hx1 ho1 hl1 => ?_)
            exact apart (by omega) hx hl0 hx1 hl1 (.inr ⟨ho1, hd⟩)
    · have hcls : ∀ q, q < ev.hp.n → ∀ b o, γ'.loc q = some (b, o) → gD es st0 D' q = ev.hp.get q := fun q hq b o hlq => by
        by_cases h1 : q < ev.st.hp.n
        · exact low q (by rw [← hout q (.inl h1), hlq]; simp) h1
        · exact new q (by omega) hq
      by_cases hk : k < ev.hp.n
      · by_cases hk' : k' < ev.hp.n
        · rw [hcls k hk b o hl] at hx
          rw [hcls k' hk' b o' hl'] at hx'
          exact shr.inj k k' b o o' x x' hx ho hx' hd hne hl hl'
        · have hl0' := hl'
          rw [hout k' (.inr (by omega))] at hl0'
          have hx0' := hx'
          rw [old k' (.inr (by omega))] at hx0'
          rw [hcls k hk b o hl] at hx
          obtain ⟨k1, o1, x1, q1, q2, q3⟩ := su.track k b o x hx ho hl (I.hr.lt k' b o' hl0')
          exact apart (by omega) hx0' hl0' q1 q3 (.inr ⟨q2, hd⟩)
      · have hl0 := hl
        rw [hout k (.inr (by omega))] at hl0
        have hx0 := hx
        rw [old k (.inr (by omega))] at hx0
        by_cases hk' : k' < ev.hp.n
        · rw [hcls k' hk' b o' hl'] at hx'
          obtain ⟨k1, o1, x1, q1, q2, q3⟩ := su.live k' b o' x' hx' hd hl' (I.hr.lt k b o hl0)
          exact apart (by omega) hx0 hl0 q1 q3 (.inl ⟨ho, q2⟩)
        · rw [hout k' (.inr (by omega))] at hl'
          rw [old k' (.inr (by omega))] at hx'
          exact I.hr.inj k k' b o o' x x' hx0 ho hx' hd hne hl0 hl'
  · have up : ∀ {k1 o1 b : Nat} {x1 : ABlk}, ev.st.hp.get k1 = some x1 → γ.loc k1 = some (b, o1) → gD es st0 D k1 = some x1 := fun {k1 o1 b x1} h1 h2 => by
      rw [agree k1 (by rw [h2]; simp) (there k1 x1 h1)]; exact h1
    refine ⟨su.os, su.tape, su.output, su.size, fun b hb hn => su.same b hb fun k1 o1 x1 h1 h2 h3 => hn k1 o1 x1 (up h1 h3) h2 h3, fun k b o x hx ho hl hb => ?_, fun k b o x hx hd hl hb => ?_, su.ltrack⟩
    · by_cases h : ev.st.hp.n ≤ k ∧ k < ev.hp.n
      · rw [new k h.1 h.2] at hx
        obtain ⟨k1, o1, x1, q1, q2, q3⟩ := su.track k b o x hx ho hl hb
        exact ⟨k1, o1, x1, up q1 q3, q2, q3⟩
      · rw [old k (by omega)] at hx
        rw [hout k (by omega)] at hl
        exact ⟨k, o, x, hx, ho, hl⟩
    · by_cases h : ev.st.hp.n ≤ k ∧ k < ev.hp.n
      · rw [new k h.1 h.2] at hx
        obtain ⟨k1, o1, x1, q1, q2, q3⟩ := su.live k b o x hx hd hl hb
        exact ⟨k1, o1, x1, up q1 q3, q2, q3⟩
      · rw [old k (by omega)] at hx
        rw [hout k (by omega)] at hl
        exact ⟨k, o, x, hx, hd, hl⟩

theorem exec_one (C : Ctx T rec m ops es st0 stF) (n : Nxt ops es D D' j ev) (I : Inv es st0 stF γ0 w0 a0 D γ a w) (hok : operOk a.tmps.size ev.o = true) {rd : Option Nat} {next : Act → World → Prop} {Q : Exit → Act → World → Prop}
    (hnext : ∀ γ' a' w', Inv es st0 stF γ0 w0 a0 D' γ' a' w' → next a' w') : wpOpIn (FW rd) 0 T.P ops Q j next a w := by
  have ho : ops[j]? = some ev.o := by rw [← Array.getElem?_toList]; exact C.oper n.hj
  obtain ⟨f1, f2, f3, f4, f5, f6⟩ := C.facts n.hj
  obtain ⟨hev, wf, b1, b2, _, _, _⟩ := C.at n.hj
  have hdst : ∀ d, ev.o.dst = some d → d < a.tmps.size := operOk_dst hok
  unfold wpOpIn
  rw [ho]
  simp only
  rw [guardR' (γ := γ) (fr := ev.st.fr) ops ev.o fun g want q d h1 h2 h3 => by
    have := I.tm d
    rw [C.fr_agree n (looksAt_guard h1 h2 h3)] at this
    exact this]
  rcases hev with ⟨hg, hv, hhp, htc⟩ | ⟨hg, hd⟩
  · rw [hg]
    refine ⟨fun _ _ => trivial, hnext γ _ w ?_⟩
    have hnt : ∀ k, ¬ ev.turns k := fun k ht => by
      unfold Ev.turns at ht
      rw [htc] at ht
      rcases ht with ht | ht
      · cases ht
      · simp only at ht; omega
    have hsame : gD es st0 D' = gD es st0 D := funext fun k => C.hp_next_id n (hnt k)
    exact ⟨I.le, I.out, I.fresh_next C n (fun _ _ => rfl), by rw [hsame]; exact I.hr, by rw [hsame]; exact I.upd, fun t => I.tm_next C n (Gm.Le.refl γ) (by rw [hv]; exact VR.undef γ) hdst t, (put_size _ _ _).trans I.sz, (put_defers _ _ _).trans I.df⟩
  · rw [hg]
    simp only [if_true]
    have heval := I.eval C n hok
    unfold drawOp at hd
    split at hd
    · -- a call
      rename_i f as hk
      obtain ⟨args, tys, hop, rfl⟩ := kindOf_call hk
      split at hd
      · rename_i g hgo
        split at hd
        · rename_i v hp hrec
          cases hc : Nat.ble ev.st.hp.n hp.lo <;> rw [hc] at hd
          · cases hd
          · simp only [cond_true, Option.some.injEq, Prod.mk.injEq] at hd
            obtain ⟨d1, d2, d3⟩ := hd
            obtain ⟨hr0, hstep⟩ := I.call_next C n (by rw [← d3]) (by rw [← d3])
            have hv := heval f (by rw [hop]; simp [Op.operands, Call.operands])
            have ha : VRL γ (args.toList.map (evalA ev.st.fr)) (args.toList.map a.eval) := VRL.map fun x hx => heval x (by rw [hop]; simp [Op.operands, Call.operands]; exact .inr (by simpa using hx))
            have hnn : hp.n = ev.hp.n := by rw [← d2]
            have hfr : Fresh γ ev.st.hp.n hp.n := fun k h1 h2 => I.fresh j ev n.hj n.d k (by omega) (by omega)
            refine callIn C.hS hop (H := { ev.st.hp with lo := ev.st.hp.n }) hgo hrec wf hr0 hfr (fun r hr => by rw [List.mem_singleton.1 hr]; exact Nat.le_refl _) hv ha fun v' w' hR => ?_
            obtain ⟨v0, hp0, v1, γ', hm, he, hv', hs⟩ := hR
            cases he
            have hm' := List.mem_singleton.1 hm
            cases hm'
            have hg1 : ev.hp.get = hp.get := by rw [← d2]; rfl
            obtain ⟨r1, r2⟩ := hstep (H := { ev.st.hp with lo := ev.st.hp.n }) (H' := hp) rfl rfl hg1.symm hnn hs
            have hout : ∀ k, (k < ev.st.hp.n ∨ ev.hp.n ≤ k) → γ'.loc k = γ.loc k := fun k hk => hs.out k (by rw [hnn]; exact hk)
            refine hnext γ' _ w' ⟨I.le.trans hs.le, fun k hk => ?_, I.fresh_next C n hout, r1, I.upd.trans r2, fun t => I.tm_next C n hs.le (by rw [← d1]; exact hv') hdst t, (put_size _ _ _).trans I.sz, (put_defers _ _ _).trans I.df⟩
            rw [hout k (by omega), I.out k hk]
        · cases hd
      · cases hd
    · cases hd
    · split at hd
      · rename_i r wr v e htch hop
        simp only [Option.some.injEq, Prod.mk.injEq] at hd
        obtain ⟨d1, d2, d3⟩ := hd
        have hrd : ev.t.rd = r := by rw [← d3]
        have hwrr : ev.t.wr = wr := by rw [← d3]
        have hwlast : ∀ k, k ∈ ev.t.wr → ∀ i e', j < i → es[i]? = some e' → D i = true → ¬ e'.turns k := fun k hk i e' hji he hD => C.later_id n (.inl hk) hji he hD
        have hop' : opA T ev.st.hp.n ev.o.op (evalA ev.st.fr) (gD es st0 D) = some (v, e) := by
          by_cases hsp : ∃ i e', j < i ∧ es[i]? = some e' ∧ D i = true ∧ spare T ev e' = true ∧ ∃ k ∈ ev.t.rd, e'.turns k
          · -- it only reads one block, which some later operation has turned: it reads the same
            obtain ⟨i0, e0, hji0, he0, hD0, hs0, k, hk, ht0⟩ := hsp
            obtain ⟨r, s1, s2, s3, s4, _, _⟩ := spare_some hs0
            rw [s1] at hk
            obtain rfl := List.mem_singleton.1 hk
            rcases sel_last k es D 0 (st0.hp.get k) with hn | ⟨i, e', h1, h2, h3, h4, h5⟩
            · exact absurd ht0 (hn i0 e0 he0 (by rw [Nat.zero_add]; exact hD0))
            · rw [Nat.zero_add] at h2
              have hji : j < i := by
                apply Nat.lt_of_not_le
                intro hle
                exact h5 i0 e0 (by omega) he0 (by rw [Nat.zero_add]; exact hD0) ht0
              have hsi : spare T ev e' = true := by
                rcases C.conf j i _ _ hji n.hj h1 (conflict_right h3 (.inl (by rw [s1]; simp))) with ho | hsp
                · exact absurd (n.behind ho h2) id
                · exact hsp
              obtain ⟨_, _, _, _, _, _, hope⟩ := spare_some hsi
              have hcong : opA T ev.st.hp.n ev.o.op (evalA ev.st.fr) (gD es st0 D) = opA T ev.st.hp.n ev.o.op (evalA ev.st.fr) e'.hp.get :=
                opA_congr htch (fun q hq => by
                  rw [← hrd, s1] at hq
                  obtain rfl := List.mem_singleton.1 hq
                  exact h4) (fun q hq => by rw [← hwrr, s2] at hq; cases hq)
              rw [hcong, hope, ← d1]
              have he : e = .none := by
                obtain ⟨q1, q2⟩ := touch_wr htch
                have hin := (opA_eff hop).2 q1
                rw [q2, ← hwrr, s2] at hin
                have hab : ev.t.a = ev.t.b := s3
                rw [f2, f3, ← d2, app_n] at hab
                cases e with
                | none => rfl
                | new b => simp [Eff.news] at hab
                | put q b => cases hin
                | app q b => cases hin
              rw [he]
          · have hrl : ∀ k, k ∈ ev.t.rd → ∀ i e', j < i → es[i]? = some e' → D i = true → ¬ e'.turns k := fun k hk i e' hji he hD ht => by
              rcases C.conf j i _ _ hji n.hj he (conflict_right ht (.inl hk)) with ho | hs
              · exact n.behind ho hD
              · exact hsp ⟨i, e', hji, he, hD, hs, k, hk, ht⟩
            rw [opA_congr htch (fun k hk => C.hp_agree n (.inl (by rw [hrd]; exact hk)) (hrl k (by rw [hrd]; exact hk))) (fun k hk => C.hp_agree n (.inr (by rw [hwrr]; exact hk)) (hwlast k (by rw [hwrr]; exact hk)))]
            exact hop
        have hn : e.news = true → γ.loc ev.st.hp.n = none := fun he => I.fresh j ev n.hj n.d _ (by omega) (by
          rw [f3, ← d2, app_n, if_pos he]; omega)
        obtain ⟨v', w', γ', h1, h2, h3, h4, h5, h6⟩ := opA_good (n := ev.st.hp.n) C.hT I.hr hn hop' heval
        have hget : e.on ev.st.hp.n (gD es st0 D) = gD es st0 D' := by
          funext k
          have hget0 : ev.hp.get = e.on ev.st.hp.n ev.st.hp.get := by rw [← d2, Hp.get_app]
          by_cases ht : ev.turns k
          · rw [C.hp_next n ht, hget0]
            rcases ht with ht | ht
            · have := C.hp_agree n (.inr ht) (hwlast k ht)
              cases e <;> simp only [Eff.on, upd] <;> (repeat' split) <;> first | rfl | exact this
            · have hk : k = ev.st.hp.n ∧ e.news = true := by
                rw [f2, f3, ← d2, app_n] at ht
                split at ht
                · rename_i hne; exact ⟨by omega, hne⟩
                · omega
              obtain ⟨rfl, hne⟩ := hk
              cases e with
              | none => cases hne
              | put => cases hne
              | new b => simp [Eff.on, upd]
              | app q b => simp [Eff.on, upd]
          · rw [C.hp_next_id n ht]
            obtain ⟨q1, q2⟩ := touch_wr htch
            have hin := (opA_eff hop).2 q1
            rw [q2] at hin
            have hnk : e.news = true → k ≠ ev.st.hp.n := fun hne hk => ht (.inr ⟨by omega, by rw [f3, ← d2, app_n, if_pos hne]; omega⟩)
            cases e with
            | none => rfl
            | new b => simp [Eff.on, upd, hnk rfl]
            | put q b =>
              have : k ≠ q := fun hk => ht (.inl (by rw [hwrr, hk]; exact hin))
              simp [Eff.on, upd, this]
            | app q b =>
              have : k ≠ q := fun hk => ht (.inl (by rw [hwrr, hk]; exact hin))
              simp [Eff.on, upd, this, hnk rfl]
        rw [hget] at h4 h6
        have hout : ∀ k, (k < ev.st.hp.n ∨ ev.hp.n ≤ k) → γ'.loc k = γ.loc k := fun k hk => h3 k fun hkn => by
          cases hne : e.news with
          | false => rfl
          | true =>
            rw [← d2, app_n, if_pos hne] at hk
            omega
        refine Oper.plainIn (w' := w') (v' := v') (opA_defer hop) h1 (hnext γ' _ w' ⟨I.le.trans h2, fun k hk => ?_, I.fresh_next C n hout, h4, I.upd.trans h6, fun t => I.tm_next C n h2 (by rw [← d1]; exact h5) hdst t, (put_size _ _ _).trans I.sz, (put_defers _ _ _).trans I.df⟩)
        rw [hout k (by omega), I.out k hk]
      · cases hd
end
end
end Go.RM
