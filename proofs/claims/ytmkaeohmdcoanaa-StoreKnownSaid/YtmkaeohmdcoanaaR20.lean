/-
  The abstract machine: that the tables are the program's, piece by piece. Lemmas alone; no condition.
-/
import Derived.Test.YtmkaeohmdcoanaaR19
namespace Go.RM
open Go

def Tr.All {α : Type} (Q : Nat → α → Prop) : Tr α → (Nat → Nat) → Prop
  | .leaf, _ => True
  | .node l v r, f => (match v with | some x => Q (f 0) x | none => True) ∧ Tr.All Q l (fun i => f (2 * i + 1)) ∧ Tr.All Q r (fun i => f (2 * i + 2))

theorem Tr.All.get {α : Type} {Q : Nat → α → Prop} : ∀ {t : Tr α} {f : Nat → Nat}, Tr.All Q t f → ∀ (i : Nat) (x : α), t.get i = some x → Q (f i) x := by
  intro t
  induction t with
  | leaf => intro f _ i x h; rw [Tr.get_leaf] at h; cases h
  | node l v r ihl ihr =>
    intro f h i x hx
    obtain ⟨h1, h2, h3⟩ := h
    rw [Tr.get_node'] at hx
    by_cases h0 : i = 0
    · subst h0
      rw [if_pos rfl] at hx
      subst hx
      exact h1
    · rw [if_neg h0] at hx
      by_cases h4 : i % 2 = 1
      · rw [if_pos h4] at hx
        have := ihl h2 _ _ hx
        rw [show 2 * (i / 2) + 1 = i by omega] at this
        exact this
      · rw [if_neg h4] at hx
        have := ihr h3 _ _ hx
        rw [show 2 * (i / 2 - 1) + 2 = i by omega] at this
        exact this

def TyGood (P : Program) (t : TypeId) (r : TyR) : Prop := ∃ i, P.info? t = some i ∧ i.size = r.size ∧ i.bytes = r.bytes ∧ i.zero = r.zero ∧ P.underlying t = some r.und ∧
    (match r.und with
      | .struct fs => r.agg = true ∧ r.flds.length = fs.size ∧ ∀ (j : Nat) (f : Field), fs[j]? = some f → ∃ i', P.info? f.type = some i' ∧ r.flds[j]? = some (f.offset, i'.size)
      | .array _ e => r.agg = true ∧ ∃ i', P.info? e = some i' ∧ r.esz = i'.size
      | .slice e => r.agg = false ∧ ∃ i', P.info? e = some i' ∧ r.esz = i'.size
      | _ => r.agg = false)

def szOk (P : Program) (t : TypeId) (s : Nat) : Bool :=
  match P.info? t with
  | some i => Nat.beq i.size s
  | none => false

def fldsOk (P : Program) : List Field → List (Nat × Nat) → Bool
  | [], [] => true
  | f :: fs, (o, s) :: l => Nat.beq f.offset o && szOk P f.type s && fldsOk P fs l
  | _, _ => false

def tyChk (P : Program) (r : TyR) : Bool :=
  match r.und with
  | .struct fs => r.agg && fldsOk P fs.toList r.flds
  | .array _ e => r.agg && szOk P e r.esz
  | .slice e => !r.agg && szOk P e r.esz
  | _ => !r.agg

theorem szOk_some {P : Program} {t : TypeId} {s : Nat} (h : szOk P t s = true) : ∃ i, P.info? t = some i ∧ s = i.size := by
  unfold szOk at h
  split at h
  · rename_i i hi; exact ⟨i, hi, (Nat.eq_of_beq_eq_true h).symm⟩
  · cases h

theorem fldsOk_get {P : Program} : ∀ {fs : List Field} {l : List (Nat × Nat)}, fldsOk P fs l = true → l.length = fs.length ∧ ∀ (j : Nat) (f : Field), fs[j]? = some f → ∃ i, P.info? f.type = some i ∧ l[j]? = some (f.offset, i.size)
  | [], [], _ => ⟨rfl, fun j f h => by cases h⟩
  | f :: fs, (o, s) :: l, h => by
    simp only [fldsOk, Bool.and_eq_true] at h
    obtain ⟨⟨h1, h2⟩, h3⟩ := h
    obtain ⟨e1, e2⟩ := fldsOk_get h3
    refine ⟨by simp [e1], fun j f' hj => ?_⟩
    cases j with
    | zero =>
      cases hj
      obtain ⟨i, q1, q2⟩ := szOk_some h2
      exact ⟨i, q1, by simp [q2, Nat.eq_of_beq_eq_true h1]⟩
    | succ j => exact e2 j f' hj
  | [], _ :: _, h => by cases h
  | _ :: _, [], h => by cases h

theorem TyGood.mk {P : Program} {t : TypeId} {r : TyR} {i : TypeInfo} (h1 : P.info? t = some i) (h2 : i.size = r.size) (h3 : i.bytes = r.bytes) (h4 : i.zero = r.zero) (h5 : P.underlying t = some r.und) (h6 : tyChk P r = true) : TyGood P t r := by
  refine ⟨i, h1, h2, h3, h4, h5, ?_⟩
  unfold tyChk at h6
  split at h6 <;> simp only [Bool.and_eq_true, Bool.not_eq_true'] at h6
  · obtain ⟨e1, e2⟩ := fldsOk_get h6.2
    exact ⟨h6.1, by simpa using e1, fun j f hj => e2 j f (by rw [Array.getElem?_toList]; exact hj)⟩
  · exact ⟨h6.1, szOk_some h6.2⟩
  · exact ⟨h6.1, szOk_some h6.2⟩
  · rename_i n1 n2 n3
    revert h6 n1 n2 n3
    cases r.und <;> intro n1 n2 n3 h6 <;> first | exact absurd rfl (n1 _) | exact absurd rfl (n2 _ _) | exact absurd rfl (n3 _) | exact h6

def fnChk (fn : Func) : Bool := !(fn.name == "runtime.NumGoroutine") && (match fn.body with | some c => codeOk fn.ntmps c | none => true)

def FnGood (P : Program) (f : FuncId) (fn : Func) : Prop := P.funcs[f]? = some fn ∧ fnChk fn = true

theorem TabOk.mk' {T : Tab} (h1 : Tr.All (TyGood T.P) T.ty id) (h2 : Tr.All (FnGood T.P) T.fn id) : TabOk T := by
  refine ⟨fun t r h => h1.get t r h, fun f fn h => ?_⟩
  obtain ⟨e1, e2⟩ := h2.get f fn h
  simp only [id] at e1
  simp only [fnChk, Bool.and_eq_true, Bool.not_eq_true'] at e2
  refine ⟨e1, e2.1, fun c hc => ?_⟩
  rw [hc] at e2
  exact e2.2

end Go.RM
