/-
  The abstract machine: each of its operations is the model's. Lemmas alone; no condition but that the tables are the program's.
-/
import Derived.Test.YtmkaeohmdcoanaaR11
namespace Go.RM
open Go.RowKit

section
variable {T : Tab} {γ : Gm} {g : Getter} {w : World} {n : Nat}

theorem VRL.map {ρ ρ' : Operand → Value} {l : List Operand} (h : ∀ x ∈ l, VR γ (ρ x) (ρ' x)) : VRL γ (l.map ρ) (l.map ρ') := by
  refine ⟨by simp, fun i v v' a b => ?_⟩
  rw [List.getElem?_map] at a b
  obtain ⟨x, hx, rfl⟩ := Option.map_eq_some_iff.1 a
  rw [hx] at b
  simp at b
  subst b
  exact h x (List.mem_of_getElem? hx)

theorem PartsR.map {ρ ρ' : Operand → Value} {l : List (Nat × Operand)} (h : ∀ x ∈ l, VR γ (ρ x.2) (ρ' x.2)) : PartsR γ (l.map fun (i, x) => (i, ρ x)) (l.map fun (i, x) => (i, ρ' x)) := by
  refine ⟨by simp, fun i p p' a b => ?_⟩
  rw [List.getElem?_map] at a b
  obtain ⟨x, hx, rfl⟩ := Option.map_eq_some_iff.1 a
  rw [hx] at b
  simp at b
  subst b
  exact ⟨rfl, h x (List.mem_of_getElem? hx)⟩

theorem OptR.map {ρ ρ' : Operand → Value} {x : Option Operand} (h : ∀ y, x = some y → VR γ (ρ y) (ρ' y)) : OptR γ (x.map ρ) (x.map ρ') := by
  cases x with
  | none => trivial
  | some y => exact h y rfl

theorem OptR.flat_eq {a b : Option Value} (h : OptR γ a b) (hf : a.toList.all flat = true) : b = a := by
  cases a with
  | none => cases b with
    | none => rfl
    | some _ => exact h.elim
  | some x => cases b with
    | none => exact h.elim
    | some y => simp at hf; rw [VR.flat_eq h hf]

theorem builtinA_good (hT : TabOk T) (h : HR γ g w) {b : Builtin} {l l' : List Value} {tys : List TypeId} {ty : TypeId} {cs : Array Bool} {v : Value} {e : Eff}
    (hn : e.news = true → γ.loc n = none) (ho : builtinA T n b l tys g = some (v, e)) (hl : VRL γ l l') : OpGood T.P γ g w n (builtin b tys.toArray ty cs l'.toArray) v e := by
  unfold builtinA at ho
  have two : ∀ {x y : Value}, VRL γ [x, y] l' → ∃ x' y', l' = [x', y'] ∧ VR γ x x' ∧ VR γ y y' := fun {x y} hh => by
    match l', hh with
    | [x', y'], hh => exact ⟨x', y', rfl, hh.2 0 _ _ rfl rfl, hh.2 1 _ _ rfl rfl⟩
    | [], hh => exact absurd hh.1 (by simp)
    | [_], hh => exact absurd hh.1 (by simp)
    | _ :: _ :: _ :: _, hh => exact absurd hh.1 (by simp)
  have one : ∀ {x : Value}, VRL γ [x] l' → ∃ x', l' = [x'] ∧ VR γ x x' := fun {x} hh => by
    match l', hh with
    | [x'], hh => exact ⟨x', rfl, hh.2 0 _ _ rfl rfl⟩
    | [], hh => exact absurd hh.1 (by simp)
    | _ :: _ :: _, hh => exact absurd hh.1 (by simp)
  split at ho
  · split at ho
    · obtain ⟨x', rfl, hx⟩ := one hl
      exact lenOpA_good hT h ho hx
    · cases ho
  · exact minA_good h ho hl
  · exact maxA_good h ho hl
  · split at ho
    · rename_i s x t u
      obtain ⟨s', x', rfl, hs, hx⟩ := two hl
      split at ho
      · rename_i hty
        obtain ⟨i, _, _, _, _, hu, _⟩ := hT.ty u _ hty
        exact appendA_good hT h hu hn ho hs hx
      · cases ho
    · cases ho
  · cases ho

theorem opA_good (hT : TabOk T) (h : HR γ g w) {ρ ρ' : Operand → Value} {o : Oper} {v : Value} {e : Eff}
    (hn : e.news = true → γ.loc n = none) (ho : opA T n o.op ρ g = some (v, e)) (hρ : ∀ x ∈ o.op.operands, VR γ (ρ x) (ρ' x)) : OpGood T.P γ g w n (execOp ρ' o) v e := by
  obtain ⟨dst, op, ty, pos, after, guard⟩ := o
  simp only at ho hρ
  cases op <;> simp only [opA] at ho
  case move x =>
    simp only [Option.some.injEq, Prod.mk.injEq] at ho
    obtain ⟨rfl, rfl⟩ := ho
    exact .pure h rfl (hρ x (by simp [Op.operands]))
  case assign x =>
    simp only [Option.some.injEq, Prod.mk.injEq] at ho
    obtain ⟨rfl, rfl⟩ := ho
    exact .pure h rfl (hρ x (by simp [Op.operands]))
  case pick c a b => exact pickA_good h ho (hρ c (by simp [Op.operands])) (hρ a (by simp [Op.operands])) (hρ b (by simp [Op.operands]))
  case alloc t => exact allocA_good hT h hn ho
  case box t x => exact boxA_good h hn ho (hρ x (by simp [Op.operands]))
  case build t parts =>
    have := buildA_good (n := n) hT h ho (PartsR.map (ρ := ρ) (ρ' := ρ') (l := parts.toList) fun x hx => hρ x.2 (by simp [Op.operands]; exact ⟨x.1, by simpa using hx⟩))
    have e1 : (parts.toList.map fun (i, x) => (i, ρ' x)).toArray = parts.map fun (i, x) => (i, ρ' x) := by apply Array.ext'; simp
    rw [e1] at this
    exact this
  case buildSlice t len parts =>
    have := buildSliceA_good hT h hn ho (PartsR.map (ρ := ρ) (ρ' := ρ') (l := parts.toList) fun x hx => hρ x.2 (by simp [Op.operands]; exact ⟨x.1, by simpa using hx⟩))
    have e1 : (parts.toList.map fun (i, x) => (i, ρ' x)).toArray = parts.map fun (i, x) => (i, ρ' x) := by apply Array.ext'; simp
    rw [e1] at this
    exact this
  case load t a => exact loadA_good hT h ho (hρ a (by simp [Op.operands]))
  case store t a x => exact storeA_good hT h ho (hρ a (by simp [Op.operands])) (hρ x (by simp [Op.operands]))
  case fieldAddr t a i => exact fieldAddrA_good hT h ho (hρ a (by simp [Op.operands]))
  case indexAddr t a ix => exact indexAddrA_good hT h ho (hρ a (by simp [Op.operands])) (hρ ix (by simp [Op.operands]))
  case index t a ix =>
    cases hf : (flat (ρ a) && flat (ρ ix)) with
    | false => rw [hf] at ho; cases ho
    | true =>
      rw [hf] at ho
      simp only [Bool.and_eq_true] at hf
      have := OpGood.reckon (n := n) h ho
      rw [← (hρ a (by simp [Op.operands])).flat_eq hf.1, ← (hρ ix (by simp [Op.operands])).flat_eq hf.2] at this
      exact this
  case field t a i =>
    cases hf : flat (ρ a) with
    | false => rw [hf] at ho; cases ho
    | true =>
      rw [hf] at ho
      have := OpGood.reckon (n := n) h ho
      rw [← (hρ a (by simp [Op.operands])).flat_eq hf] at this
      exact this
  case binOp o t x y yt => exact binA_good h ho (hρ x (by simp [Op.operands])) (hρ y (by simp [Op.operands]))
  case unOp o t x =>
    cases hf : flat (ρ x) with
    | false => rw [hf] at ho; cases ho
    | true =>
      rw [hf] at ho
      have := OpGood.reckon (n := n) h ho
      rw [← (hρ x (by simp [Op.operands])).flat_eq hf] at this
      exact this
  case convert s d x =>
    cases hf : flat (ρ x) with
    | false => rw [hf] at ho; cases ho
    | true =>
      rw [hf] at ho
      have := OpGood.reckon (n := n) h ho
      rw [← (hρ x (by simp [Op.operands])).flat_eq hf] at this
      exact this
  case extract x i => exact extractA_good h ho (hρ x (by simp [Op.operands]))
  case makeFunc fn first captured =>
    have := makeFuncA_good (T := T) (n := n) h ho (VRL.map (ρ := ρ) (ρ' := ρ') (l := first.toList) fun x hx => hρ x (by simp [Op.operands]; exact .inl (by simpa using hx)))
      (VRL.map (ρ := ρ) (ρ' := ρ') (l := captured.toList) fun x hx => hρ x (by simp [Op.operands]; exact .inr (by simpa using hx)))
    have e1 : (first.toList.map ρ').toArray = first.map ρ' := by apply Array.ext'; simp
    have e2 : (captured.toList.map ρ').toArray = captured.map ρ' := by apply Array.ext'; simp
    rw [e1, e2] at this
    exact this
  case nilCheck x =>
    obtain ⟨a, hx, rfl, rfl⟩ := nilCheckA_some ho
    have hv := hρ x (by simp [Op.operands])
    rw [hx] at hv
    have hp : ∃ a', ρ' x = .pointer (some a') := by
      generalize ρ' x = y at hv
      cases hv with
      | flat hf => exact ⟨a, rfl⟩
      | ptr => exact ⟨_, rfl⟩
    obtain ⟨a', ha'⟩ := hp
    refine .pure h (v' := .pointer (some a')) ?_ (by rw [← ha']; exact hv)
    simp [execOp, ha']
  case slice t x lo hi mx =>
    cases mx with
    | some _ => cases ho
    | none =>
      simp only at ho
      have hvx := hρ x (by simp [Op.operands])
      have rlo := OptR.map (γ := γ) (ρ := ρ) (ρ' := ρ') (x := lo) fun y hy => hρ y (by subst hy; simp [Op.operands])
      have rhi := OptR.map (γ := γ) (ρ := ρ) (ρ' := ρ') (x := hi) fun y hy => hρ y (by subst hy; simp [Op.operands])
      show OpGood T.P γ g w n (do Pure.pure (Next.value (← Instr.sliceAt t (ρ' x) (lo.map ρ') (hi.map ρ') none))) v e
      unfold sliceOpA at ho
      split at ho
      · rename_i s hs
        cases hf : ((lo.map ρ).toList.all flat && (hi.map ρ).toList.all flat) with
        | false => rw [hf] at ho; cases ho
        | true =>
          rw [hf] at ho
          simp only [Bool.and_eq_true] at hf
          rw [rlo.flat_eq hf.1, rhi.flat_eq hf.2, hvx.flat_eq (by rw [hs]; rfl)]
          exact OpGood.reckon h ho
      · simp only [Option.map_eq_some_iff, Prod.mk.injEq] at ho
        obtain ⟨u, hu, rfl, rfl⟩ := ho
        exact sliceA_good hT h hu hvx rlo rhi
  case makeSlice t l c => exact makeSliceA_good hT h hn ho (hρ l (by simp [Op.operands])) (hρ c (by simp [Op.operands]))
  case makeMap t r =>
    cases r with
    | some _ => cases ho
    | none =>
      simp only [Option.some.injEq, Prod.mk.injEq] at ho
      obtain ⟨rfl, rfl⟩ := ho
      exact makeMap_good h (hn rfl)
  case lookup t m k ok =>
    simp only [Option.map_eq_some_iff, Prod.mk.injEq] at ho
    obtain ⟨u, hu, rfl, rfl⟩ := ho
    exact lookupA_good hT h hu (hρ m (by simp [Op.operands])) (hρ k (by simp [Op.operands]))
  case mapEntry t m k => exact mapEntryA_good hT h ho (hρ m (by simp [Op.operands])) (hρ k (by simp [Op.operands]))
  case entryStore t m s x =>
    simp only [Option.map_eq_some_iff, Prod.mk.injEq] at ho
    obtain ⟨u, hu, rfl, rfl⟩ := ho
    exact entryStoreA_good h hu (hρ m (by simp [Op.operands])) (hρ s (by simp [Op.operands])) (hρ x (by simp [Op.operands]))
  case mapUpdate t m k x =>
    simp only [Option.map_eq_some_iff, Prod.mk.injEq] at ho
    obtain ⟨u, hu, rfl, rfl⟩ := ho
    exact mapUpdateA_good hT h hu (hρ m (by simp [Op.operands])) (hρ k (by simp [Op.operands])) (hρ x (by simp [Op.operands]))
  case range t x => exact rangeStr_good hT h hn ho (hρ x (by simp [Op.operands]))
  case next it s =>
    cases s with
    | false => cases ho
    | true => exact nextStrA_good h ho (hρ it (by simp [Op.operands]))
  case entry it => exact entryA_good h ho (hρ it (by simp [Op.operands]))
  case call c =>
    obtain ⟨callee, args, tys⟩ := c
    unfold callA at ho
    cases callee with
    | value f => cases ho
    | invoke r m => cases ho
    | builtin b =>
      simp only at ho
      have := builtinA_good (ty := ty) (cs := args.map fun | .const _ => true | _ => false) hT h hn ho (VRL.map (ρ := ρ) (ρ' := ρ') (l := args.toList) fun x hx => hρ x (by simp [Op.operands, Call.operands]; simpa using hx))
      have e1 : (args.toList.map ρ').toArray = args.map ρ' := by apply Array.ext'; simp
      rw [e1] at this
      have e2 : execOp ρ' ⟨dst, .call ⟨.builtin b, args, tys⟩, ty, pos, after, guard⟩ = builtin b tys ty (args.map fun | .const _ => true | _ => false) (args.map ρ') := rfl
      rw [e2]
      simpa using this
  all_goals cases ho
end

end Go.RM
