/-
  The abstract machine with an oracle: its runs too are the model's. Conditions: the tables are the program's; what the oracle says is so.
-/
import Derived.Test.YtmkaeohmdcoanaaR21
namespace Go.RM
open Go

noncomputable def pushAll (H : Hp) (l : List (List Value)) : Hp := l.foldl (fun h c => h.push (.cells c false 0)) H

theorem pushAll_n : ∀ (l : List (List Value)) (H : Hp), (pushAll H l).n = H.n + l.length
  | [], H => rfl
  | c :: l, H => by
    show (pushAll (H.push _) l).n = _
    rw [pushAll_n l]
    show H.n + 1 + l.length = _
    simp; omega

theorem pushAll_lo : ∀ (l : List (List Value)) (H : Hp), (pushAll H l).lo = H.lo
  | [], _ => rfl
  | _ :: l, H => pushAll_lo l (H.push _)

theorem pushAll_get : ∀ (l : List (List Value)) (H : Hp) (k : Nat), (k < H.n → (pushAll H l).get k = H.get k) ∧ (H.n + l.length ≤ k → (pushAll H l).get k = H.get k) ∧
    (∀ (i : Nat) (c : List Value), l[i]? = some c → (pushAll H l).get (H.n + i) = some (.cells c false 0))
  | [], H, k => ⟨fun _ => rfl, fun _ => rfl, fun i c h => by cases h⟩
  | c :: l, H, k => by
    obtain ⟨h1, h2, _⟩ := pushAll_get l (H.push (.cells c false 0)) k
    have hn : (H.push (.cells c false 0)).n = H.n + 1 := rfl
    refine ⟨fun hk => ?_, fun hk => ?_, fun i d hi => ?_⟩
    · show (pushAll (H.push _) l).get k = _
      rw [h1 (by omega), Hp.get_push, if_neg (by omega)]
    · show (pushAll (H.push _) l).get k = _
      simp only [List.length_cons] at hk
      rw [h2 (by omega), Hp.get_push, if_neg (by omega)]
    · show (pushAll (H.push _) l).get (H.n + i) = _
      cases i with
      | zero =>
        cases hi
        rw [(pushAll_get l (H.push _) (H.n + 0)).1 (by omega), Hp.get_push, if_pos (by omega)]
      | succ i =>
        have := (pushAll_get l (H.push (.cells c false 0)) 0).2.2 i d hi
        rw [hn, show H.n + 1 + i = H.n + (i + 1) by omega] at this
        exact this

theorem pushAll_keep (H : Hp) (l : List (List Value)) : Keep H (pushAll H l) := by
  induction l generalizing H with
  | nil => exact .refl H
  | cons c l ih => exact (Keep.push H _).trans (ih _)

theorem wf_empty : Wf Hp.empty := fun _ _ => rfl

/-! ### The result, its new rows numbered anew -/

noncomputable def shiftCell (nb n : Nat) (p : Value) : Option Value :=
  match p with
  | .slice (some ⟨k, 0, none⟩) m c => bif Nat.ble nb k && Nat.beq c (m + 2) then some (.slice (some ⟨k - nb + n, 0, none⟩) m c) else none
  | v => bif flat1 v then some v else none

noncomputable def shiftCells (nb n : Nat) : List Value → Option (List Value)
  | [] => some []
  | p :: l => match shiftCell nb n p, shiftCells nb n l with
    | some q, some m => some (q :: m)
    | _, _ => none

noncomputable def shiftArg (nb n : Nat) (p : Value) : Option Value :=
  match p with
  | .agg ps => (shiftCells nb n ps.toList).map fun l => .agg l.toArray
  | v => shiftCell nb n v

noncomputable def shiftArgs (nb n : Nat) : List Value → Option (List Value)
  | [] => some []
  | p :: l => match shiftArg nb n p, shiftArgs nb n l with
    | some q, some m => some (q :: m)
    | _, _ => none

noncomputable def shiftRes (nb n : Nat) (p : Value) : Option Value :=
  match p with
  | .tuple ps => (shiftArgs nb n ps.toList).map fun l => .tuple l.toArray
  | v => shiftArg nb n v

section
variable {δ γ : Gm} {nb n : Nat}

theorem shiftCell_ok (hl : ∀ k x, nb ≤ k → δ.loc k = some x → γ.loc (k - nb + n) = some x) {p q v : Value} (h : shiftCell nb n p = some q) (hv : VR δ p v) : VR γ q v := by
  unfold shiftCell at h
  split at h
  · rename_i k m c
    cases hb : (Nat.ble nb k && Nat.beq c (m + 2)) with
    | false => rw [hb] at h; cases h
    | true =>
      rw [hb] at h
      simp only [cond_true, Option.some.injEq] at h
      subst h
      simp only [Bool.and_eq_true] at hb
      obtain rfl := Nat.eq_of_beq_eq_true hb.2
      cases hv with
      | flat hf => cases hf
      | slice h1 h2 h3 h4 => exact .slice (hl _ _ (Nat.le_of_ble_eq_true hb.1) h1) h2 (fun e => by omega) (fun e => by omega)
      | slice0 h0 ht => exact .slice0 (by omega) (fun e => by omega)
  · cases hb : flat1 p with
    | false => rw [hb] at h; cases h
    | true =>
      rw [hb] at h
      simp only [cond_true, Option.some.injEq] at h
      subst h
      rw [hv.flat1_eq hb]
      exact .flat hb

theorem shiftCells_ok (hl : ∀ k x, nb ≤ k → δ.loc k = some x → γ.loc (k - nb + n) = some x) : ∀ {ps qs vs : List Value}, shiftCells nb n ps = some qs → VRL δ ps vs → VRL γ qs vs
  | [], qs, vs, h, hv => by
    cases h
    cases vs with
    | nil => exact VRL.nil _
    | cons => exact absurd hv.1 (by simp)
  | p :: ps, qs, vs, h, hv => by
    unfold shiftCells at h
    split at h
    · rename_i q m h1 h2
      cases h
      cases vs with
      | nil => exact absurd hv.1 (by simp)
      | cons v vs => exact .cons (shiftCell_ok hl h1 (hv.2 0 p v rfl rfl)) (shiftCells_ok hl h2 ⟨by simpa using hv.1, fun i a b ha hb => hv.2 (i + 1) a b ha hb⟩)
    · cases h

theorem shiftArg_ok (hl : ∀ k x, nb ≤ k → δ.loc k = some x → γ.loc (k - nb + n) = some x) {p q v : Value} (h : shiftArg nb n p = some q) (hv : VR δ p v) : VR γ q v := by
  unfold shiftArg at h
  split at h
  · simp only [Option.map_eq_some_iff] at h
    obtain ⟨l, h1, rfl⟩ := h
    cases hv with
    | flat hf => cases hf
    | agg e hc =>
      rename_i cs'
      have := VR.agg_list (shiftCells_ok hl h1 (VRL.of_arr e hc))
      simpa using this
  · exact shiftCell_ok hl h hv

theorem shiftArgs_ok (hl : ∀ k x, nb ≤ k → δ.loc k = some x → γ.loc (k - nb + n) = some x) : ∀ {ps qs vs : List Value}, shiftArgs nb n ps = some qs → VRL δ ps vs → VRL γ qs vs
  | [], qs, vs, h, hv => by
    cases h
    cases vs with
    | nil => exact VRL.nil _
    | cons => exact absurd hv.1 (by simp)
  | p :: ps, qs, vs, h, hv => by
    unfold shiftArgs at h
    split at h
    · rename_i q m h1 h2
      cases h
      cases vs with
      | nil => exact absurd hv.1 (by simp)
      | cons v vs => exact .cons (shiftArg_ok hl h1 (hv.2 0 p v rfl rfl)) (shiftArgs_ok hl h2 ⟨by simpa using hv.1, fun i a b ha hb => hv.2 (i + 1) a b ha hb⟩)
    · cases h

theorem shiftRes_ok (hl : ∀ k x, nb ≤ k → δ.loc k = some x → γ.loc (k - nb + n) = some x) {p q v : Value} (h : shiftRes nb n p = some q) (hv : VR δ p v) : VR γ q v := by
  unfold shiftRes at h
  split at h
  · simp only [Option.map_eq_some_iff] at h
    obtain ⟨l, h1, rfl⟩ := h
    cases hv with
    | flat hf =>
      cases hf
    | tuple e hc =>
      rename_i cs'
      have := VR.tuple_list (shiftArgs_ok hl h1 (VRL.of_arr e hc))
      simpa using this
  · exact shiftArg_ok hl h hv
end

/-! ### What the oracle says -/

/-- How the world stands behind such a call. -/
structure XR (e : XE) (w : World) (v' : Value) (δ' : Gm) (w' : World) : Prop where
  val : VR δ' e.res v'
  new : ∀ k b o, δ'.loc k = some (b, o) → e.blks.length ≤ k ∧ k < e.blks.length + e.news.length ∧ w.heap.size ≤ b ∧ b < w'.heap.size ∧
    ∀ cs, e.news[k - e.blks.length]? = some cs → ∃ cs' el fz, w'.heap[b]? = some (.cells cs' el fz) ∧ ∀ γ, CellsR γ cs cs' o
  os : w'.os = w.os
  tape : w'.tape = w.tape
  output : w'.output = w.output
  size : w.heap.size ≤ w'.heap.size
  same : ∀ b, b < w.heap.size → w'.heap[b]? = w.heap[b]?

def XSound (T : Tab) (e : XE) : Prop :=
  (∃ fn c, T.P.funcs[e.f]? = some fn ∧ (fn.name == "runtime.NumGoroutine") = false ∧ fn.body = some c) ∧
  ∀ (δ : Gm) (w : World) (args' : List Value), δ.B ≤ w.heap.size → (∀ k b o, δ.loc k = some (b, o) → b < w.heap.size ∧ k < e.blks.length) →
    (∀ k b o cs, e.blks[k]? = some cs → δ.loc k = some (b, o) → ∃ cs' el fz, w.heap[b]? = some (.cells cs' el fz) ∧ CellsR δ cs cs' o) → VRL δ e.args args' →
    CallsIn (FW none) 0 T.P e.f args'.toArray w fun en w' => ∃ v' δ', en = .returned v' ∧ XR e w v' δ' w'

noncomputable def heapOf (blks : List (List Value)) : Hp := pushAll Hp.empty blks

/-- A row of a result: it is the callee's own, and holds what is said. -/
noncomputable def newOk (hp : Hp) (φ : Ren) (nb : Nat) : List (List Value) → Nat → Bool
  | [], _ => true
  | cs :: l, i => (match φ.get (nb + i) with
    | some (k', o) => match cells? (hp.get k') with
      | some (ds, own, _) => own && (match cut ds o cs.length with
        | some vs => Nat.beq vs.length cs.length && (cs.zip vs).all fun p => beqF p.1 p.2
        | none => false)
      | none => false
    | none => true) && newOk hp φ nb l (i + 1)

noncomputable def resOk (e : XE) (r : Res) : Bool :=
  match r with
  | .ret v hp => match matchRes (e.blks.length + e.news.length) e.res v .leaf with
    | some φ => (List.range e.blks.length).all (fun i => (φ.get i).isNone) && newOk hp φ e.blks.length e.news 0
    | none => false
  | .out .. => false

/-- THE CLOSED CHECK. -/
noncomputable def xeOk (rn : Job → Option (List Res)) (e : XE) : Bool :=
  match rn (.call e.f e.args (heapOf e.blks)) with
  | some L => L.all (resOk e)
  | none => false

theorem newOk_get {hp : Hp} {φ : Ren} {nb : Nat} : ∀ {l : List (List Value)} {j : Nat}, newOk hp φ nb l j = true → ∀ (i : Nat) (cs : List Value), l[i]? = some cs → ∀ k' o, φ.get (nb + (j + i)) = some (k', o) →
    ∃ ds es vs, hp.get k' = some (.cells ds true es) ∧ cut ds o cs.length = some vs ∧ vs = cs ∧ cs.all flat1 = true
  | [], j, h, i, cs, hi => by cases hi
  | c :: l, j, h, i, cs, hi => by
    intro k' o hk
    simp only [newOk, Bool.and_eq_true] at h
    cases i with
    | zero =>
      have hi' : c = cs := by simpa using hi
      have h1 := h.1
      rw [hi'] at h1
      rw [Nat.add_zero] at hk
      rw [hk] at h1
      simp only at h1
      split at h1
      · rename_i ds own es hc
        simp only [Bool.and_eq_true] at h1
        obtain ⟨h2, h3⟩ := h1
        subst h2
        split at h3
        · rename_i vs hcut
          simp only [Bool.and_eq_true, List.all_eq_true] at h3
          have hlen := Nat.eq_of_beq_eq_true h3.1
          have key : ∀ (i : Nat) (a b : Value), cs[i]? = some a → vs[i]? = some b → a = b ∧ flat1 b = true := fun i a b ha hb =>
            beqF_eq (h3.2 (a, b) (List.mem_of_getElem? (List.getElem?_zip_eq_some.2 ⟨ha, hb⟩)))
          have heq : vs = cs := by
            apply List.ext_getElem? fun i => ?_
            cases ha : cs[i]? with
            | none => rw [List.getElem?_eq_none_iff] at ha ⊢; omega
            | some a =>
              have hlt := (List.getElem?_eq_some_iff.1 ha).1
              have hb : vs[i]? = some (vs[i]'(by omega)) := List.getElem?_eq_getElem _
              rw [hb, (key i a _ ha hb).1]
          refine ⟨ds, es, vs, cells_some hc, hcut, heq, ?_⟩
          rw [List.all_eq_true]
          intro x hx
          obtain ⟨i, hi, rfl⟩ := List.getElem_of_mem hx
          have ha : cs[i]? = some cs[i] := List.getElem?_eq_getElem hi
          exact (key i _ _ ha (by rw [heq]; exact ha)).2
        · cases h3
      · cases h1
    | succ i => exact newOk_get h.2 i cs hi k' o (by rw [show j + 1 + i = j + (i + 1) by omega]; exact hk)

theorem heapOf_n (blks : List (List Value)) : (heapOf blks).n = blks.length := by
  unfold heapOf
  rw [pushAll_n]
  show 0 + _ = _
  omega

theorem heapOf_get (blks : List (List Value)) (k : Nat) (a : ABlk) (h : (heapOf blks).get k = some a) : ∃ cs, blks[k]? = some cs ∧ a = .cells cs false 0 := by
  unfold heapOf at h
  obtain ⟨_, h2, _⟩ := pushAll_get blks Hp.empty k
  by_cases hk : k < blks.length
  · have hc : blks[k]? = some blks[k] := List.getElem?_eq_getElem hk
    have := (pushAll_get blks Hp.empty 0).2.2 k _ hc
    rw [show Hp.empty.n + k = k from Nat.zero_add k] at this
    rw [this] at h
    cases h
    exact ⟨_, hc, rfl⟩
  · rw [h2 (by show 0 + _ ≤ _; omega)] at h
    cases h

/-- A CLOSED RUN IS A CONTRACT. -/
theorem xe_sound {T : Tab} {rn : Job → Option (List Res)} {m : Nat} (hS : SoundRec T rn m) {e : XE} (h : xeOk rn e = true) : XSound T e := by
  unfold xeOk at h
  split at h
  · rename_i L hL
    rw [List.all_eq_true] at h
    obtain ⟨hfn, hcall⟩ := hS.call _ _ _ _ hL
    refine ⟨hfn, fun δ w args' hB hlt hrow ha => ?_⟩
    have hN : ∃ N, ∀ r ∈ L, r.hp.n ≤ N := by
      clear h hL hcall
      induction L with
      | nil => exact ⟨0, fun r hr => by cases hr⟩
      | cons a l ih =>
        obtain ⟨N, hN⟩ := ih
        refine ⟨max a.hp.n N, fun r hr => ?_⟩
        rcases List.mem_cons.1 hr with rfl | hr
        · omega
        · have := hN r hr; omega
    obtain ⟨N, hN⟩ := hN
    have hnown : ∀ k a, (heapOf e.blks).get k = some a → a.own = false := fun k a hk => by
      obtain ⟨cs, _, rfl⟩ := heapOf_get _ _ _ hk; rfl
    have hhr : HR δ (heapOf e.blks).get w := by
      refine ⟨fun k b o a hk hl => ?_, fun k k' b o o' a a' hk ho => ?_, fun k b o hl => (hlt k b o hl).1, hB⟩
      · obtain ⟨cs, h1, rfl⟩ := heapOf_get _ _ _ hk
        obtain ⟨cs', el, fz, h2, h3⟩ := hrow k b o cs h1 hl
        exact ⟨cs', el, fz, h2, h3, fun h => Bool.noConfusion h⟩
      · rw [hnown k a hk] at ho; cases ho
    have hfresh : Fresh δ (heapOf e.blks).n N := fun k hk _ => by
      rw [heapOf_n] at hk
      cases hl : δ.loc k with
      | none => rfl
      | some p => have := (hlt k p.1 p.2 hl).2; omega
    refine CallsIn.mono (F := FW none) (hcall δ w args' N ((pushAll_keep _ _).wf wf_empty) hhr hfresh hN ha) fun en w' hR => ?_
    obtain ⟨v, hp, v', γ1, hm, rfl, hv, hs⟩ := hR
    have hr := h _ hm
    unfold resOk at hr
    simp only at hr
    split at hr
    · rename_i φ hφ
      simp only [Bool.and_eq_true, List.all_eq_true] at hr
      obtain ⟨q1, q2, q3⟩ := matchRes_ok (γ := γ1) hφ
      refine ⟨v', γ1.ren φ, rfl, q3 φ (RLe.refl φ) v' hv, fun k b o hl => ?_, hs.upd.os, hs.upd.tape, hs.upd.output, hs.upd.size, fun b hb => hs.upd.same b hb fun k o a h1 h2 _ => by rw [hnown k a h1] at h2; cases h2⟩
      simp only [Gm.ren, Option.bind_eq_some_iff, Option.map_eq_some_iff] at hl
      obtain ⟨⟨k', o'⟩, h1, ⟨b', d'⟩, h2, h3⟩ := hl
      simp only [Prod.mk.injEq] at h3
      obtain ⟨rfl, rfl⟩ := h3
      simp only at h2
      have hk1 : e.blks.length ≤ k := by
        apply Nat.le_of_not_lt
        intro hlt'
        have := hr.1 k (List.mem_range.2 hlt')
        rw [h1] at this
        cases this
      have hk2 : k < e.blks.length + e.news.length := q2 (fun i x hx => by cases hx) k _ h1
      have hget := newOk_get hr.2 (k - e.blks.length) _ (List.getElem?_eq_getElem (by omega)) k' o' (by rw [Nat.zero_add, show e.blks.length + (k - e.blks.length) = k by omega]; exact h1)
      obtain ⟨ds, es, vs, r1, r2, r3, r4⟩ := hget
      refine ⟨hk1, hk2, ?_, hs.hr.lt _ _ _ h2, fun cs hcs => ?_⟩
      · apply Nat.le_of_not_lt
        intro hlt'
        obtain ⟨k0, o0, a0, t1, t2, _⟩ := hs.upd.track k' b' d' _ r1 rfl h2 hlt'
        rw [hnown k0 a0 t1] at t2
        cases t2
      · obtain ⟨cs', el, fz, s1, s2, _⟩ := hs.hr.blk k' b' d' _ r1 h2
        refine ⟨cs', el, fz, s1, fun γ j x hx => ?_⟩
        obtain ⟨c', u1, u2, u3, u4, u5⟩ := s2.cut_ r2
        rw [List.getElem?_eq_getElem (by omega)] at hcs
        simp only [Option.some.injEq] at hcs
        subst hcs
        subst r3
        obtain ⟨y, y1, y2⟩ := u1.get hx
        have hfx : flat1 x = true := List.all_eq_true.1 r4 x (List.mem_of_getElem? hx)
        have := y2.flat1_eq hfx
        subst this
        exact ⟨_, u3 j _ y1, .flat hfx⟩
    · cases hr
  · cases h

/-! ### The machine with the oracle -/

noncomputable def look1 (e : XE) (f : FuncId) (args : List Value) (H : Hp) : Option (Value × Hp) :=
  bif Nat.beq e.f f then
    match matchArgs e.blks.length e.args args .leaf with
    | some φ => match matchBlks e.blks.length H.get e.blks 0 φ with
      | some _ => (shiftRes e.blks.length H.n e.res).map fun v => (v, pushAll H e.news)
      | none => none
    | none => none
  else none

noncomputable def look (tab : List XE) (f : FuncId) (args : List Value) (H : Hp) : Option (Value × Hp) :=
  List.rec none (fun e _ ih => match look1 e f args H with
    | some r => some r
    | none => ih) tab

noncomputable def rx (tab : List XE) (rec : Job → Option (List Res)) (j : Job) : Option (List Res) :=
  match j with
  | .call f args H => match look tab f args H with
    | some (v, H') => some [.ret v H']
    | none => rec (.call f args H)
  | .round l args H => rec (.round l args H)
  | .loop c st => rec (.loop c st)

theorem look_some {tab : List XE} {f : FuncId} {args : List Value} {H : Hp} {r : Value × Hp} (h : look tab f args H = some r) : ∃ e ∈ tab, look1 e f args H = some r := by
  induction tab with
  | nil => cases h
  | cons e l ih =>
    have hu : look (e :: l) f args H = match look1 e f args H with
      | some r => some r
      | none => look l f args H := rfl
    rw [hu] at h
    cases h1 : look1 e f args H with
    | some r' => rw [h1] at h; cases h; exact ⟨e, by simp, h1⟩
    | none =>
      rw [h1] at h
      obtain ⟨e', m, h2⟩ := ih h
      exact ⟨e', List.mem_cons_of_mem _ m, h2⟩

theorem look1_some {e : XE} {f : FuncId} {args : List Value} {H H' : Hp} {v : Value} (h : look1 e f args H = some (v, H')) :
    e.f = f ∧ H' = pushAll H e.news ∧ shiftRes e.blks.length H.n e.res = some v ∧ ∃ φ ψ, matchArgs e.blks.length e.args args .leaf = some φ ∧ matchBlks e.blks.length H.get e.blks 0 φ = some ψ := by
  unfold look1 at h
  cases hb : Nat.beq e.f f with
  | false => rw [hb] at h; cases h
  | true =>
    rw [hb] at h
    simp only [cond_true] at h
    split at h
    · rename_i φ hφ
      split at h
      · rename_i ψ hψ
        simp only [Option.map_eq_some_iff, Prod.mk.injEq] at h
        obtain ⟨v0, h1, rfl, rfl⟩ := h
        exact ⟨Nat.eq_of_beq_eq_true hb, rfl, h1, φ, ψ, hφ, hψ⟩
      · cases h
    · cases h

theorem rx_keep {tab : List XE} {rec : Job → Option (List Res)} (h : KeepRec rec) : KeepRec (rx tab rec) := by
  intro j L hj
  cases j with
  | call f args H =>
    unfold rx at hj
    simp only at hj
    split at hj
    · rename_i v H' hl
      cases hj
      obtain ⟨e, _, h1⟩ := look_some hl
      obtain ⟨_, rfl, _⟩ := look1_some h1
      exact .one (pushAll_keep H e.news)
    · exact h _ _ hj
  | round l args H => exact h _ _ hj
  | loop c st => exact h _ _ hj

theorem look_sound {T : Tab} {e : XE} (he : XSound T e) {f : FuncId} {args : List Value} {H H' : Hp} {v : Value} (h : look1 e f args H = some (v, H')) :
    (∃ fn c, T.P.funcs[f]? = some fn ∧ (fn.name == "runtime.NumGoroutine") = false ∧ fn.body = some c) ∧
    ∀ γ w args' N, Wf H → HR γ H.get w → Fresh γ H.n N → H'.n ≤ N → VRL γ args args' → CallsIn (FW none) 0 T.P f args'.toArray w (RetR γ H w [.ret v H']) := by
  obtain ⟨rfl, rfl, hsh, φ, ψ, hφ, hψ⟩ := look1_some h
  refine ⟨he.1, fun γ w args' N hw hh hf hN ha => ?_⟩
  obtain ⟨a1, a2, a3⟩ := matchArgs_ok (γ := γ) hφ
  obtain ⟨b1, b2, b3⟩ := matchBlks_ok (γ := γ) hψ
  have hu : Under e.blks.length ψ := b2 (a2 fun k x hx => by cases hx)
  rw [pushAll_n] at hN
  refine CallsIn.mono (F := FW none) (he.2 (γ.ren ψ) w args' hh.base (fun k b o hl => ?_) (fun k b o cs hk hl => ?_) (a3 ψ b1 args' ha)) fun en w' hR => ?_
  · simp only [Gm.ren, Option.bind_eq_some_iff, Option.map_eq_some_iff] at hl
    obtain ⟨⟨k', o'⟩, h1, ⟨b', d'⟩, h2, h3⟩ := hl
    simp only [Prod.mk.injEq] at h3
    obtain ⟨rfl, rfl⟩ := h3
    exact ⟨hh.lt _ _ _ h2, hu _ _ h1⟩
  · simp only [Gm.ren, Option.bind_eq_some_iff, Option.map_eq_some_iff] at hl
    obtain ⟨⟨k', o'⟩, h1, ⟨b', d'⟩, h2, h3⟩ := hl
    simp only [Prod.mk.injEq] at h3
    obtain ⟨rfl, rfl⟩ := h3
    obtain ⟨k1, o1, cs1, own, es, vs, r1, r2, r3, r4⟩ := b3 k cs hk
    rw [Nat.zero_add] at r1
    rw [r1] at h1
    cases h1
    obtain ⟨cs', el, fz, s1, s2, _⟩ := hh.blk _ _ _ _ r2 h2
    refine ⟨cs', el, fz, s1, fun j x hx => ?_⟩
    obtain ⟨c', u1, u2, u3, u4, u5⟩ := s2.cut_ r3
    have := r4 ψ (RLe.refl ψ) c' u1
    obtain ⟨y, y1, y2⟩ := this.get hx
    exact ⟨y, u3 j y y1, y2⟩
  · obtain ⟨v', δ', rfl, X⟩ := hR
    let γ' : Gm := { γ with loc := fun k => if H.n ≤ k ∧ k < H.n + e.news.length then δ'.loc (k - H.n + e.blks.length) else γ.loc k }
    have hold : ∀ k, ¬ (H.n ≤ k ∧ k < H.n + e.news.length) → γ'.loc k = γ.loc k := fun k hk => if_neg hk
    have hnew : ∀ k, (H.n ≤ k ∧ k < H.n + e.news.length) → γ'.loc k = δ'.loc (k - H.n + e.blks.length) := fun k hk => if_pos hk
    have hle : γ.Le γ' := by
      refine ⟨fun k x hx => ?_, fun k x hx => rfl, rfl⟩
      by_cases hk : H.n ≤ k ∧ k < H.n + e.news.length
      · rw [hf k hk.1 (by omega)] at hx; cases hx
      · rw [hold k hk]; exact hx
    have hget : ∀ k a, (pushAll H e.news).get k = some a → (¬ (H.n ≤ k ∧ k < H.n + e.news.length) ∧ H.get k = some a) ∨ ((H.n ≤ k ∧ k < H.n + e.news.length) ∧ ∃ cs, e.news[k - H.n]? = some cs ∧ a = .cells cs false 0) := by
      intro k a hk
      obtain ⟨g1, g2, g3⟩ := pushAll_get e.news H k
      by_cases hr : H.n ≤ k ∧ k < H.n + e.news.length
      · refine .inr ⟨hr, ?_⟩
        have hc : e.news[k - H.n]? = some (e.news[k - H.n]'(by omega)) := List.getElem?_eq_getElem _
        have := g3 _ _ hc
        rw [show H.n + (k - H.n) = k by omega, hk] at this
        cases this
        exact ⟨_, hc, rfl⟩
      · refine .inl ⟨hr, ?_⟩
        by_cases hlt : k < H.n
        · rw [← g1 hlt]; exact hk
        · rw [← g2 (by omega)]; exact hk
    have hnl : ∀ k b o, (H.n ≤ k ∧ k < H.n + e.news.length) → γ'.loc k = some (b, o) → w.heap.size ≤ b ∧ b < w'.heap.size := fun k b o hk hl => by
      rw [hnew k hk] at hl
      obtain ⟨_, _, x3, x4, _⟩ := X.new _ _ _ hl
      exact ⟨x3, x4⟩
    have hhr : HR γ' (pushAll H e.news).get w' := by
      refine ⟨fun k b o a hk hl => ?_, fun k k' b o o' a a' hk ho hk' hd hne hl hl' => ?_, fun k b o hl => ?_, Nat.le_trans hh.base X.size⟩
      · rcases hget k a hk with ⟨h1, h2⟩ | ⟨h1, cs, h2, rfl⟩
        · rw [hold k h1] at hl
          exact (hh.blk k b o a h2 hl).mono hle hl (X.same b (hh.lt _ _ _ hl))
        · rw [hnew k h1] at hl
          obtain ⟨_, _, _, _, x5⟩ := X.new _ _ _ hl
          rw [show k - H.n + e.blks.length - e.blks.length = k - H.n by omega] at x5
          obtain ⟨cs', el, fz, y1, y2⟩ := x5 cs h2
          exact ⟨cs', el, fz, y1, y2 γ', fun h => Bool.noConfusion h⟩
      · rcases hget k a hk with ⟨h1, h2⟩ | ⟨h1, cs, h2, rfl⟩
        · have hl0 := hl
          rw [hold k h1] at hl0
          rcases hget k' a' hk' with ⟨h1', h2'⟩ | ⟨h1', _⟩
          · rw [hold k' h1'] at hl'
            exact hh.inj k k' b o o' a a' h2 ho h2' hd hne hl0 hl'
          · have := (hnl k' b o' h1' hl').1
            have := hh.lt k b o hl0
            omega
        · cases ho
      · by_cases hk : H.n ≤ k ∧ k < H.n + e.news.length
        · exact (hnl k b o hk hl).2
        · rw [hold k hk] at hl
          exact Nat.lt_of_lt_of_le (hh.lt k b o hl) X.size
    refine ⟨v, pushAll H e.news, v', γ', by simp, rfl, shiftRes_ok (fun k x hk hl => ?_) hsh X.val, ⟨by rw [pushAll_n]; omega, hle, fun k hk => hold k (by rw [pushAll_n] at hk; omega), hhr, ?_⟩⟩
    · have := X.new k x.1 x.2 hl
      rw [hnew _ (by omega), show k - e.blks.length + H.n - H.n + e.blks.length = k by omega]
      exact hl
    · refine ⟨X.os, X.tape, X.output, X.size, fun b hb _ => X.same b hb, fun k b o a hk ho hl hb => ?_, fun k b o a hk hd hl hb => ?_, fun k b o hl hb => ?_⟩
      · rcases hget k a hk with ⟨h1, h2⟩ | ⟨h1, _⟩
        · rw [hold k h1] at hl; exact ⟨k, o, a, h2, ho, hl⟩
        · have := (hnl k b o h1 hl).1; omega
      · rcases hget k a hk with ⟨h1, h2⟩ | ⟨h1, _⟩
        · rw [hold k h1] at hl; exact ⟨k, o, a, h2, hd, hl⟩
        · have := (hnl k b o h1 hl).1; omega
      · by_cases hk : H.n ≤ k ∧ k < H.n + e.news.length
        · have := (hnl k b o hk hl).1; omega
        · rw [hold k hk] at hl; exact ⟨k, o, hl⟩

theorem rx_sound {T : Tab} {tab : List XE} (ht : ∀ e ∈ tab, XSound T e) {rec : Job → Option (List Res)} {m : Nat} (hS : SoundRec T rec m) : SoundRec T (rx tab rec) m := by
  refine ⟨fun f args hp L h => ?_, hS.round, hS.loop⟩
  unfold rx at h
  simp only at h
  split at h
  · rename_i v H' hl
    cases h
    obtain ⟨e, he, h1⟩ := look_some hl
    obtain ⟨x1, x2⟩ := look_sound (ht e he) h1
    exact ⟨x1, fun γ w args' N hw hh hf hN ha => x2 γ w args' N hw hh hf (hN (.ret v H') (by simp)) ha⟩
  · exact hS.call f args hp L h

/-- The machine with the oracle. -/
noncomputable def runX (tab : List XE) (T : Tab) (n : Nat) : Job → Option (List Res) :=
  Nat.rec (motive := fun _ => Job → Option (List Res)) (fun _ => none) (fun _ ih j => stepJ T (rx tab ih) j) n

theorem runX_keep (tab : List XE) (T : Tab) (n : Nat) : KeepRec (runX tab T n) := by
  induction n with
  | zero => intro j L h; cases h
  | succ n ih => exact fun j L h => stepJ_keep (rx_keep ih) j L h

theorem runX_sound {T : Tab} (hT : TabOk T) (hm : T.P.follows .mixedOrders = true) {tab : List XE} (ht : ∀ e ∈ tab, XSound T e) (n : Nat) : SoundRec T (runX tab T n) n := by
  induction n with
  | zero => exact { call := fun _ _ _ _ h => (by cases h), round := fun _ _ _ _ h => (by cases h), loop := fun _ _ _ h => (by cases h) }
  | succ n ih =>
    have hk := rx_keep (tab := tab) (runX_keep tab T n)
    have hs := rx_sound ht ih
    exact sound_succ hT hk hs (draw_sound hT hm hk hs)

/-- One more entry. -/
theorem xe_add {T : Tab} (hT : TabOk T) (hm : T.P.follows .mixedOrders = true) {tab : List XE} (ht : ∀ e ∈ tab, XSound T e) {e : XE} (n : Nat) (h : xeOk (runX tab T n) e = true) : XSound T e :=
  xe_sound (runX_sound hT hm ht n) h

open Go.RowKit in
/-- A CALL WITHOUT ARGUMENTS THAT RETURNS A FLAT VALUE, from any world. -/
theorem xe_closed {T : Tab} {f : FuncId} {v : Value} (hf : flat1 v = true) (h : XSound T ⟨f, [], [], v, []⟩) (w : World) : Calls T.P f #[] w fun e w' => e = .returned v ∧ Below w.heap.size w w' := by
  have := h.2 ⟨fun _ => none, fun _ => 0, w.heap.size⟩ w [] (Nat.le_refl _) (fun k b o h => by cases h) (fun k b o cs h => by cases h) (VRL.nil _)
  refine callsIn_wide.1 (CallsIn.mono (F := FW none) this fun e w' hR => ?_)
  obtain ⟨v', δ', rfl, X⟩ := hR
  refine ⟨by rw [X.val.flat1_eq hf], X.os, X.tape, X.output, X.size, X.same⟩

end Go.RM
