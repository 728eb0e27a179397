/-
  The abstract machine: steps, frames, guards, results. Lemmas alone; no condition.
-/
import Derived.Test.YtmkaeohmdcoanaaR13
import Derived.OrdersIn
import Derived.OwnWalkIn
namespace Go.RM
open Go

theorem beqBytes_eq : ∀ {l m : List UInt8}, beqBytes l m = true → l = m
  | [], [], _ => rfl
  | a :: l, b :: m, h => by
    simp only [beqBytes, Bool.and_eq_true] at h
    rw [beqBytes_eq h.2, UInt8.toNat_inj.1 (Nat.eq_of_beq_eq_true h.1)]
  | [], _ :: _, h => by cases h
  | _ :: _, [], h => by cases h

theorem eqI_of {a b : Int} (h : eqI a b = true) : a = b := by
  cases a <;> cases b <;> simp only [eqI, Bool.false_eq_true] at h
  · rw [Nat.eq_of_beq_eq_true h]
  · rw [Nat.eq_of_beq_eq_true h]

theorem beqF_eq {p v : Value} (h : beqF p v = true) : p = v ∧ flat1 v = true := by
  unfold beqF at h
  split at h
  · simp at h; subst h; exact ⟨rfl, rfl⟩
  · simp only [Bool.and_eq_true, beq_iff_eq] at h; obtain ⟨rfl, h⟩ := h; rw [eqI_of h]; exact ⟨rfl, rfl⟩
  · rename_i s t
    have := beqBytes_eq h
    have e : s = t := by
      cases s; cases t
      simp only at this
      rw [Array.toList_inj.1 this]
    rw [e]; exact ⟨rfl, rfl⟩
  · exact ⟨rfl, rfl⟩
  · exact ⟨rfl, rfl⟩
  · exact ⟨rfl, rfl⟩
  · exact ⟨rfl, rfl⟩
  · exact ⟨rfl, rfl⟩
  · cases h

/-- The fences used here: nothing is shut out. -/
abbrev FW (r : Option Nat) : Fence := { fn := fun _ => True, depth := none, alive := false, round := r }

def Fresh (γ : Gm) (a N : Nat) : Prop := ∀ k, a ≤ k → k < N → γ.loc k = none

/-- From one state to a later one. -/
structure Step (γ : Gm) (H : Hp) (w : World) (γ' : Gm) (H' : Hp) (w' : World) : Prop where
  n : H.n ≤ H'.n
  le : γ.Le γ'
  out : ∀ k, (k < H.n ∨ H'.n ≤ k) → γ'.loc k = γ.loc k
  hr : HR γ' H'.get w'
  upd : Upd γ H.get w γ' H'.get w'

section
variable {T : Tab} {γ γ' γ1 γ2 : Gm} {H H' H1 H2 : Hp} {w w' w1 w2 : World} {N : Nat}

theorem Step.refl (h : HR γ H.get w) : Step γ H w γ H w := ⟨Nat.le_refl _, Gm.Le.refl γ, fun _ _ => rfl, h, Upd.refl _ _ _⟩

theorem Step.trans (a : Step γ H w γ1 H1 w1) (b : Step γ1 H1 w1 γ2 H2 w2) : Step γ H w γ2 H2 w2 :=
  ⟨Nat.le_trans a.n b.n, a.le.trans b.le, fun k hk => by
    have h1 := a.n
    have h2 := b.n
    rw [b.out k (by omega), a.out k (by omega)], b.hr, a.upd.trans b.upd⟩

theorem Step.fresh (a : Step γ H w γ1 H1 w1) (h : Fresh γ H.n N) : Fresh γ1 H1.n N := fun k h1 h2 => by
  rw [a.out k (.inr h1)]
  exact h k (Nat.le_trans a.n h1) h2

/-- Blocks that nobody knows may turn, and there may be more of them. -/
theorem HR.off {g : Getter} (h : HR γ g w) (hs : w.heap.size ≤ w'.heap.size) (hh : ∀ k b o, γ.loc k = some (b, o) → w'.heap[b]? = w.heap[b]?) : HR γ g w' :=
  ⟨fun k b o a ha hl => (h.blk k b o a ha hl).mono (Gm.Le.refl γ) hl (hh k b o hl), h.inj, fun k b o hl => Nat.lt_of_lt_of_le (h.lt k b o hl) hs, Nat.le_trans h.base hs⟩

theorem Upd.off {g g' : Getter} (u : Upd γ g w γ' g' w1) (h1 : w2.os = w1.os) (h2 : w2.tape = w1.tape) (h3 : w2.output = w1.output) (hs : w1.heap.size ≤ w2.heap.size)
    (hh : ∀ b, b < w.heap.size → w2.heap[b]? = w1.heap[b]?) : Upd γ g w γ' g' w2 :=
  ⟨h1.trans u.os, h2.trans u.tape, h3.trans u.output, Nat.le_trans u.size hs, fun b hb hn => (hh b hb).trans (u.same b hb hn), u.track, u.live, u.ltrack⟩

theorem app_n (e : Eff) : (H.app e).n = if e.news = true then H.n + 1 else H.n := by cases e <;> rfl

/-- One operation. -/
theorem OpGood.step {s : Sem Next} {v : Value} {e : Eff} (h : OpGood T.P γ H.get w H.n s v e) :
    ∃ v' w' γ', (s.run T.P w = .ok (.value v') w' ∨ (s.run T.P w = .ok .skip w' ∧ v' = undef)) ∧ VR γ' v v' ∧ Step γ H w γ' (H.app e) w' := by
  obtain ⟨v', w', γ', h1, h2, h3, h4, h5, h6⟩ := h
  refine ⟨v', w', γ', h1, h5, ?_, h2, fun k hk => h3 k fun e' => ?_, by rw [Hp.get_app]; exact h4, by rw [Hp.get_app]; exact h6⟩
  · rw [app_n]; split <;> omega
  · rw [app_n] at hk
    subst e'
    cases hn : e.news with
    | false => rfl
    | true => rw [hn] at hk; simp at hk; omega

/-- The marks of the loops over functions that a call has entered. -/
def DefR (γ : Gm) (w : World) (N0 : Nat) (ds : List Deferred) : Prop :=
  ∃ rs : List Nat, ds = rs.map (fun r => { target := .collected r, args := #[] }) ∧ rs.Nodup ∧ ∀ r ∈ rs, N0 ≤ r ∧ w.heap[r]? = some (.deferred (some [])) ∧ ∀ k o, γ.loc k ≠ some (r, o)

theorem DefR.nil (γ : Gm) (w : World) (N0 : Nat) : DefR γ w N0 [] := ⟨[], rfl, List.nodup_nil, fun r hr => by cases hr⟩

theorem DefR.step {N0 : Nat} {ds : List Deferred} (h : DefR γ w N0 ds) (s : Step γ H w γ' H' w') : DefR γ' w' N0 ds := by
  obtain ⟨rs, h1, h2, h3⟩ := h
  refine ⟨rs, h1, h2, fun r hr => ?_⟩
  obtain ⟨a, b, c⟩ := h3 r hr
  have hlt : r < w.heap.size := (Array.getElem?_eq_some_iff.1 b).1
  refine ⟨a, (s.upd.same r hlt fun k o _ _ _ hl => c k o hl).trans b, fun k o hl => ?_⟩
  obtain ⟨k0, o0, hl0⟩ := s.upd.ltrack k r o hl hlt
  exact c k0 o0 hl0

/-! ### Operands, temporaries, guards -/

theorem evalR {fr : Tr Value} {a : Act} (h : FrR γ fr a.tmps) {x : Operand} (hx : opdOk x = true) : VR γ (evalA fr x) (a.eval x) := by
  cases x with
  | tmp t => exact h t
  | const v => exact VR.of_flat hx
  | global g => cases hx
  | func f => exact .func rfl rfl (fun i a _ => absurd a (by simp)) (fun i a _ => absurd a (by simp))

theorem getD_set {tm : Array Value} {d i : Nat} {v : Value} (hd : d < tm.size) : (tm.setIfInBounds d v).getD i undef = if i = d then v else tm.getD i undef := by
  simp only [Array.getD_eq_getD_getElem?, Array.getElem?_setIfInBounds]
  by_cases h : i = d
  · subst h; simp [hd]
  · simp [h, Ne.symm h]

theorem FrR.set {fr : Tr Value} {tm : Array Value} (h : FrR γ fr tm) {v v' : Value} (hv : VR γ v v') {d : Nat} (hd : d < tm.size) : FrR γ (fr.set d v) (tm.setIfInBounds d v') := by
  intro i
  rw [Tr.get_set, getD_set hd]
  by_cases hi : i = d
  · rw [if_pos hi, if_pos hi]; exact hv
  · rw [if_neg hi, if_neg hi]; exact h i

theorem FrR.put {fr : Tr Value} {a : Act} (h : FrR γ fr a.tmps) {v v' : Value} (hv : VR γ v v') {dst : Option Tmp} (hd : ∀ d, dst = some d → d < a.tmps.size) : FrR γ (putA fr dst v) (a.put dst v').tmps := by
  cases dst with
  | none => exact h
  | some d => exact h.set hv (hd d rfl)

theorem put_size (a : Act) (dst : Option Tmp) (v : Value) : (a.put dst v).tmps.size = a.tmps.size := by cases dst <;> simp [Act.put]
theorem put_defers (a : Act) (dst : Option Tmp) (v : Value) : (a.put dst v).defers = a.defers := by cases dst <;> rfl

theorem VR.bool_inv {v : Value} {b : Bool} (h : VR γ v (.bool b)) : v = .bool b := by cases h with | flat => rfl

theorem guardR' {fr : Tr Value} {tm : Array Value} (ops : Array Oper) (o : Oper) (h : ∀ g want q d, o.guard = some (g, want) → ops[g]? = some q → q.dst = some d → VR γ ((fr.get d).getD undef) (tm.getD d undef)) : Region.wanted o (yielded ops tm) = guardA ops.toList fr o.guard := by
  unfold Region.wanted guardA
  cases hgu : o.guard with
  | none => rfl
  | some p =>
    obtain ⟨j, want⟩ := p
    simp only [yielded, Array.getElem?_toList]
    cases hoq : ops[j]? with
    | none => rfl
    | some q =>
      obtain ⟨dst, op, ty, pos, after, guard⟩ := q
      cases dst with
      | none => rfl
      | some d =>
        simp only [Option.bind_some]
        have hd := h j want _ d hgu hoq rfl
        rw [Array.getD_eq_getD_getElem?] at hd
        cases hf : fr.get d with
        | none =>
          rw [hf] at hd
          simp only
          cases ht : tm[d]? with
          | none => rfl
          | some u =>
            rw [ht] at hd
            simp at hd
            cases u <;> first | rfl | skip
            have := hd.bool_inv
            cases this
        | some x =>
          rw [hf] at hd
          simp at hd
          cases x with
          | bool b =>
            have := hd.flat_eq rfl
            cases ht : tm[d]? with
            | none => rw [ht] at this; cases this
            | some u =>
              rw [ht] at this
              simp at this
              subst this
              cases b <;> cases want <;> rfl
          | _ =>
            cases ht : tm[d]? with
            | none => rfl
            | some u =>
              rw [ht] at hd
              simp at hd
              cases u <;> first | rfl | (have := hd.bool_inv; cases this)

theorem guardR {fr : Tr Value} {tm : Array Value} (h : FrR γ fr tm) (ops : Array Oper) (o : Oper) : Region.wanted o (yielded ops tm) = guardA ops.toList fr o.guard :=
  guardR' ops o fun _ _ _ d _ _ _ => h d

/-! ### Arguments, parameters -/

theorem setArgs_get : ∀ (l : List Value) (t : Tr Value) (i j : Nat), (setArgs t i l).get j = if i ≤ j ∧ j < i + l.length then l[j - i]? else t.get j := by
  intro l
  induction l with
  | nil => intro t i j; simp [setArgs]; intro h1 h2; omega
  | cons v vs ih =>
    intro t i j
    rw [setArgs, ih, Tr.get_set]
    simp only [List.length_cons]
    by_cases hj : j = i
    · subst hj; simp; omega
    · by_cases h : i ≤ j ∧ j < i + (vs.length + 1)
      · rw [if_pos h, if_pos (by omega)]
        obtain ⟨q, rfl⟩ : ∃ q, j = i + 1 + q := ⟨j - (i + 1), by omega⟩
        rw [show i + 1 + q - (i + 1) = q by omega, show i + 1 + q - i = q + 1 by omega]
        rfl
      · rw [if_neg h, if_neg (by omega), if_neg hj]

theorem FrR.args {args args' : List Value} (h : VRL γ args args') (n : Nat) : FrR γ (setArgs .leaf 0 args) (args'.toArray ++ Array.replicate n undef) := by
  intro i
  rw [setArgs_get, Array.getD_eq_getD_getElem?, Array.getElem?_append]
  have hl := h.1
  by_cases hi : i < args.length
  · rw [if_pos ⟨Nat.zero_le _, by omega⟩, if_pos (by simp; omega)]
    have h1 : args[i]? = some (args[i]'hi) := List.getElem?_eq_getElem hi
    obtain ⟨v', e1, e2⟩ := h.get h1
    simp only [Nat.sub_zero, h1, Option.getD_some, List.getElem?_toArray, e1]
    exact e2
  · rw [if_neg (by omega), if_neg (by simp; omega)]
    have : (Array.replicate n undef)[i - args'.toArray.size]?.getD undef = undef := by
      rw [Array.getElem?_replicate]; split <;> rfl
    rw [this]
    exact VR.undef γ

theorem setParams_R : ∀ (l : List (Tmp × Value)) (l' : List (Tmp × Value)) (fr : Tr Value) (tm : Array Value), FrR γ fr tm → l.length = l'.length →
    (∀ (i : Nat) (p p' : Tmp × Value), l[i]? = some p → l'[i]? = some p' → p.1 = p'.1 ∧ VR γ p.2 p'.2 ∧ p'.1 < tm.size) →
    FrR γ (setParams fr l) (l'.foldl (fun tmps (t, a) => tmps.setIfInBounds t a) tm) ∧ (l'.foldl (fun tmps (t, a) => tmps.setIfInBounds t a) tm).size = tm.size := by
  intro l
  induction l with
  | nil => intro l' fr tm h hl _; cases l' with
    | nil => exact ⟨h, rfl⟩
    | cons => cases hl
  | cons p l ih =>
    intro l' fr tm h hl hh
    cases l' with
    | nil => cases hl
    | cons p' l' =>
      obtain ⟨e1, e2, e3⟩ := hh 0 p p' rfl rfl
      obtain ⟨d, v⟩ := p
      obtain ⟨d', v'⟩ := p'
      simp only at e1 e2 e3
      subst e1
      have hsz : (tm.setIfInBounds d v').size = tm.size := by simp
      obtain ⟨r1, r2⟩ := ih l' (fr.set d v) (tm.setIfInBounds d v') (h.set e2 e3) (by simpa using hl) fun i p p' a b => by
        rw [hsz]; exact hh (i + 1) p p' a b
      exact ⟨r1, r2.trans hsz⟩

/-! ### Results -/

theorem loadA_run (hT : TabOk T) {g : Getter} (h : HR γ g w) {t : TypeId} {a a' v : Value} {e : Eff} (ho : loadA T t a g = some (v, e)) (ha : VR γ a a') :
    ∃ ad v', a' = .pointer (some ad) ∧ (loadVar t ad).run T.P w = .ok v' w ∧ VR γ v v' := by
  unfold loadA at ho
  cases hk : addr? a with
  | none => rw [hk] at ho; cases ho
  | some ko =>
    obtain ⟨k, o⟩ := ko
    rw [hk] at ho
    simp only at ho
    cases hc : cells? (g k) with
    | none => rw [hc] at ho; cases ho
    | some c0 =>
      obtain ⟨cs, own, es⟩ := c0
      cases hty : T.ty.get t with
      | none => rw [hc, hty] at ho; cases ho
      | some r =>
        obtain ⟨i, hi, hsz, _, _, hu, _⟩ := hT.ty t r hty
        have hag := hT.agg hty
        obtain ⟨und, s, bytes, zero, agg, flds, esz⟩ := r
        rw [hc, hty] at ho
        simp only at ho hsz hu hag
        obtain ⟨b, d, hl, rfl⟩ := ha.addr hk
        obtain ⟨cs', el, fz, hw, hcr, _⟩ := h.cells hc hl
        cases agg with
        | true =>
          simp only [cond_true, Option.map_eq_some_iff, Prod.mk.injEq] at ho
          obtain ⟨c, hcut, rfl, rfl⟩ := ho
          obtain ⟨c', hv, hlen, hat, _, _⟩ := hcr.cut_ hcut
          refine ⟨_, .agg c'.toArray, rfl, ?_, VR.agg_list hv⟩
          have hload := run_loadCells_list (P := T.P) w ⟨b, d + o, none⟩ c' (fun j v hj => by rw [Addr.add_lit, cell_at hw]; exact hat j v hj)
          rw [hlen, ← hsz] at hload
          simp [loadVar, run_isAgg hu, ← hag, run_size hi, hload]
        | false =>
          simp only [cond_false, Option.map_eq_some_iff, Prod.mk.injEq] at ho
          obtain ⟨x, hx, rfl, rfl⟩ := ho
          obtain ⟨x', h1, h2⟩ := hcr o x hx
          refine ⟨_, x', rfl, ?_, h2⟩
          simp [loadVar, run_isAgg hu, ← hag, load, Sem.run, cell_at hw, h1]

theorem run_bind_ok {α β : Type} {P : Program} {s : Sem α} {k : α → Sem β} {a : α} {w w1 : World} (h : s.run P w = .ok a w1) : (s >>= k).run P w = (k a).run P w1 := by
  simp [h]

def resF (tm : Array Value) : ResultVar → Sem Value
  | .tmp t => pure (tm.getD t undef)
  | .cell a t => do loadVar t (← asAddr (tm.getD a undef))

theorem results_eq (fn : Func) (tm : Array Value) : results fn tm = (do
    let vs ← fn.results.mapM (resF tm)
    pure (if h : vs.size = 1 then vs[0] else .tuple vs)) := by
  unfold results
  congr 2

theorem resList_run (hT : TabOk T) {fr : Tr Value} {tm : Array Value} (h : HR γ H.get w) (hf : FrR γ fr tm) : ∀ (rs : List ResultVar) (vs : List Value), resList T fr H rs = some vs →
    ∃ vs', (List.mapM (m := Sem) (resF tm) rs).run T.P w = .ok vs' w ∧ VRL γ vs vs' := by
  intro rs
  induction rs with
  | nil => intro vs hv; cases hv; exact ⟨[], rfl, VRL.nil γ⟩
  | cons r rs ih =>
    intro vs hv
    rw [resList] at hv
    cases hr : resOf T fr H r with
    | none => rw [hr] at hv; cases hv
    | some v =>
      rw [hr] at hv
      simp only [Option.map_eq_some_iff] at hv
      obtain ⟨us, hus, rfl⟩ := hv
      obtain ⟨us', h1, h2⟩ := ih us hus
      cases r with
      | tmp t =>
        simp only [resOf, Option.some.injEq] at hr
        subst hr
        refine ⟨tm.getD t undef :: us', ?_, .cons (hf t) h2⟩
        rw [List.mapM_cons, run_bind_ok rfl, run_bind_ok h1]
        rfl
      | cell a t =>
        simp only [resOf, Option.map_eq_some_iff] at hr
        obtain ⟨⟨x, e⟩, hx, rfl⟩ := hr
        obtain ⟨ad, v', e1, e2, e3⟩ := loadA_run hT h hx (hf a)
        refine ⟨v' :: us', ?_, .cons e3 h2⟩
        rw [List.mapM_cons, run_bind_ok (a := v') (w1 := w) (by simp only [resF]; rw [e1]; simp [asAddr, e2]), run_bind_ok h1]
        rfl

theorem oneOrTuple_R {vs vs' : List Value} (h : VRL γ vs vs') : VR γ (oneOrTuple vs) (oneOrTuple vs') := by
  match vs, vs', h with
  | [], [], h => exact VR.tuple_list h
  | [v], [v'], h => exact h.2 0 v v' rfl rfl
  | a :: b :: l, a' :: b' :: l', h => exact VR.tuple_list h
  | [], _ :: _, h => exact absurd h.1 (by simp)
  | [_], [], h => exact absurd h.1 (by simp)
  | [_], _ :: _ :: _, h => exact absurd h.1 (by simp)
  | _ :: _ :: _, [], h => exact absurd h.1 (by simp)
  | _ :: _ :: _, [_], h => exact absurd h.1 (by simp)

theorem results_R (hT : TabOk T) {fr : Tr Value} {tm : Array Value} (h : HR γ H.get w) (hf : FrR γ fr tm) {fn : Func} {vs : List Value} (hv : resList T fr H fn.results.toList = some vs) :
    ∃ v', (results fn tm).run T.P w = .ok v' w ∧ VR γ (oneOrTuple vs) v' := by
  obtain ⟨vs', h1, h2⟩ := resList_run hT h hf fn.results.toList vs hv
  refine ⟨oneOrTuple vs', ?_, oneOrTuple_R h2⟩
  rw [results_eq, Array.mapM_eq_mapM_toList]
  rw [run_bind_ok (a := vs'.toArray) (w1 := w) (by rw [map_eq_pure_bind, run_bind_ok h1]; rfl)]
  match vs' with
  | [] => rfl
  | [v] => rfl
  | a :: b :: l => simp [oneOrTuple]

end
end Go.RM
