/-
  The abstract machine: which blocks an operation looks at, and which it writes. Lemmas alone; no condition.
-/
import Derived.Test.YtmkaeohmdcoanaaR12
namespace Go.RM

/-- What is written was there. -/
def EffOk (g : Getter) : Eff → Prop
  | .put k _ | .app k _ => g k ≠ none
  | _ => True

def EffIn (l : List Nat) : Eff → Prop
  | .put k _ | .app k _ => k ∈ l
  | _ => True

section
variable {T : Tab} {n : Nat} {g g' : Getter}

theorem cells_ne {k : Nat} {x : List Value × Bool × Nat} (h : cells? (g k) = some x) : g k ≠ none := by
  intro e; rw [e] at h; cases h
theorem map_ne {k : Nat} {x : List MapEntry × Nat} (h : map? (g k) = some x) : g k ≠ none := by
  intro e; rw [e] at h; cases h
theorem addr_blkN {v : Value} {k o : Nat} (h : addr? v = some (k, o)) : k ∈ blkN v := by rw [addr_some h]; simp [blkN]
theorem map_blkN {v : Value} {k : Nat} (h : blkOf v = some k) : k ∈ blkN v := by rw [blkOf_some h]; simp [blkN]

/-- The written block, for the operations that write. -/
def Eff1 (g : Getter) (l : List Nat) (e : Eff) : Prop := EffOk g e ∧ EffIn l e

theorem pureV_eff {o : Option Value} {v : Value} {e : Eff} {l : List Nat} (h : pureV o = some (v, e)) : Eff1 g l e := by
  obtain ⟨_, _, rfl⟩ := pureV_some h
  exact ⟨trivial, trivial⟩

theorem storeA_eff {t : TypeId} {a x v : Value} {e : Eff} (h : storeA T t a x g = some (v, e)) : Eff1 g (blkN a) e := by
  unfold storeA at h
  split at h
  · rename_i k o ha
    cases hc : cells? (g k) with
    | none => rw [hc] at h; cases h
    | some c =>
      obtain ⟨cs, own, es⟩ := c
      cases ht : T.ty.get t with
      | none => rw [hc, ht] at h; cases h
      | some r =>
        obtain ⟨und, s, bytes, zero, agg, flds, esz⟩ := r
        rw [hc, ht] at h
        simp only at h
        cases hb : (own && Nat.beq x.cells.toList.length s && Nat.ble (o + s) cs.length && x.cells.toList.all oneCell) <;> rw [hb] at h
        · cases h
        · simp at h; obtain ⟨_, rfl⟩ := h; exact ⟨cells_ne hc, addr_blkN ha⟩
  · cases h

theorem mapEntryA_eff {t : TypeId} {m k v : Value} {e : Eff} (h : mapEntryA T t m k g = some (v, e)) : Eff1 g (blkN m) e := by
  unfold mapEntryA at h
  split at h
  · rename_i kt z r _ hr
    split at h
    · rename_i es clock hm
      unfold mapEntryB at h
      split at h
      · split at h
        · rename_i x _
          cases hb : Instr.sameBits 10000 x.key k <;> rw [hb] at h
          · cases h
          · simp at h; obtain ⟨_, rfl⟩ := h; exact ⟨map_ne hm, map_blkN hr⟩
        · cases h
      · rename_i z _ _
        cases hb : flat z <;> rw [hb] at h
        · cases h
        · simp at h; obtain ⟨_, rfl⟩ := h; exact ⟨map_ne hm, map_blkN hr⟩
      · cases h
    · cases h
  · cases h

theorem entryStoreA_eff {m s v : Value} {e : Eff} (h : entryStoreA m s v g = some e) : Eff1 g (blkN m) e := by
  unfold entryStoreA at h
  split at h
  · rename_i r _ hr _
    split at h
    · rename_i es clock hm
      split at h
      · simp at h; subst h; exact ⟨map_ne hm, map_blkN hr⟩
      · cases h
    · cases h
  · cases h

theorem mapUpdateA_eff {t : TypeId} {m k v : Value} {e : Eff} (h : mapUpdateA T t m k v g = some e) : Eff1 g (blkN m) e := by
  unfold mapUpdateA at h
  split at h
  · rename_i kt _ r _ hr
    split at h
    · rename_i es clock hm
      unfold mapUpdateB at h
      split at h
      · split at h
        · rename_i x _
          cases hb : Instr.sameBits 10000 x.key k <;> rw [hb] at h
          · cases h
          · simp at h; subst h; exact ⟨map_ne hm, map_blkN hr⟩
        · cases h
      · simp at h; subst h; exact ⟨map_ne hm, map_blkN hr⟩
      · cases h
    · cases h
  · cases h

theorem appendA_eff {t : TypeId} {s x v : Value} {e : Eff} (h : appendA T n t s x g = some (v, e)) : Eff1 g (blkN s) e := by
  unfold appendA at h
  split at h
  · rename_i inf _
    split at h
    · rename_i base ln cp
      split at h
      · rename_i m old new _ _ _
        cases hb : (Nat.ble ((ln + m) * inf.bytes) 140737488355328 && Nat.ble (ln + m) 9223372036854775807 && new.all oneCell && zeroFits inf) <;> rw [hb] at h
        · cases h
        · simp only [cond_true] at h
          cases hm : Nat.beq m 0 <;> rw [hm] at h
          · simp only [cond_false] at h
            unfold appendB at h
            cases hc : Nat.beq cp ln <;> rw [hc] at h
            · simp only [cond_false] at h
              split at h
              · rename_i k
                split at h
                · rename_i cs own es hcs
                  cases hd : (own && Nat.beq cp (ln + 1) && Nat.beq cs.length (ln * inf.size) && Nat.beq es inf.size) <;> rw [hd] at h
                  · cases h
                  · simp at h; obtain ⟨_, rfl⟩ := h; exact ⟨cells_ne hcs, by simp [blkN, EffIn]⟩
                · cases h
              · cases h
            · simp at h; obtain ⟨_, rfl⟩ := h; exact ⟨trivial, trivial⟩
          · simp at h; obtain ⟨_, rfl⟩ := h; exact ⟨trivial, trivial⟩
      · cases h
    · cases h
  · cases h

theorem nextStrA_effOk {it v : Value} {e : Eff} (h : nextStrA it g = some (v, e)) : EffOk g e := by
  unfold nextStrA at h
  split at h
  · rename_i r _
    split at h
    · rename_i s pos hr
      cases hb : Nat.blt pos s.data.toList.length <;> rw [hb] at h
      · simp at h; obtain ⟨_, rfl⟩ := h; trivial
      · simp at h; obtain ⟨_, rfl⟩ := h; intro e; rw [e] at hr; cases hr
    · cases h
  · cases h

theorem minA_eff {P : Program} {l : List Value} {v : Value} {e : Eff} {ks : List Nat} (h : minA P l = some (v, e)) : Eff1 g ks e := by
  unfold minA at h
  split at h
  · simp at h; obtain ⟨_, rfl⟩ := h; exact ⟨trivial, trivial⟩
  · cases hb : l.all flat <;> rw [hb] at h
    · cases h
    · exact pureV_eff h

theorem maxA_eff {P : Program} {l : List Value} {v : Value} {e : Eff} {ks : List Nat} (h : maxA P l = some (v, e)) : Eff1 g ks e := by
  unfold maxA at h
  split at h
  · simp at h; obtain ⟨_, rfl⟩ := h; exact ⟨trivial, trivial⟩
  · cases hb : l.all flat <;> rw [hb] at h
    · cases h
    · exact pureV_eff h

theorem lenOpA_eff {t : TypeId} {x v : Value} {e : Eff} {ks : List Nat} (h : lenOpA T t x g = some (v, e)) : Eff1 g ks e := by
  unfold lenOpA at h
  split at h
  · simp at h; obtain ⟨_, rfl⟩ := h; exact ⟨trivial, trivial⟩
  · split at h
    · simp at h; obtain ⟨_, rfl⟩ := h; exact ⟨trivial, trivial⟩
    · cases h
  · simp at h; obtain ⟨_, rfl⟩ := h; exact ⟨trivial, trivial⟩
  · simp at h; obtain ⟨_, rfl⟩ := h; exact ⟨trivial, trivial⟩
  · cases h

/-- The blocks that an operation may write. -/
def wrOf (o : Op) (ρ : Operand → Value) : List Nat :=
  match o with
  | .store _ a _ => blkN (ρ a)
  | .mapEntry _ m _ => blkN (ρ m)
  | .entryStore _ m _ _ => blkN (ρ m)
  | .mapUpdate _ m _ _ => blkN (ρ m)
  | .call ⟨.builtin .append, args, _⟩ => match args.toList.map ρ with
    | [s, _] => blkN s
    | _ => []
  | _ => []

theorem none_eff {ks : List Nat} : Eff1 g ks .none := ⟨trivial, trivial⟩
theorem new_eff {ks : List Nat} {b : ABlk} : Eff1 g ks (.new b) := ⟨trivial, trivial⟩

theorem opA_eff {o : Op} {ρ : Operand → Value} {v : Value} {e : Eff} (h : opA T n o ρ g = some (v, e)) : EffOk g e ∧ ((∀ it, o ≠ .next it true) → EffIn (wrOf o ρ) e) := by
  have key : ∀ {ks : List Nat}, Eff1 g ks e → wrOf o ρ = ks → EffOk g e ∧ ((∀ it, o ≠ .next it true) → EffIn (wrOf o ρ) e) := fun hk he => ⟨hk.1, fun _ => by rw [he]; exact hk.2⟩
  cases o <;> simp only [opA] at h
  case move x => simp at h; obtain ⟨_, rfl⟩ := h; exact key none_eff rfl
  case assign x => simp at h; obtain ⟨_, rfl⟩ := h; exact key none_eff rfl
  case pick c a b =>
    unfold pickA at h
    split at h
    · simp at h; obtain ⟨_, rfl⟩ := h; exact key none_eff rfl
    · cases h
  case alloc t =>
    unfold allocA at h
    split at h
    · rename_i z _ _ _ _
      cases hb : z.cells.toList.all flat1 <;> rw [hb] at h
      · cases h
      · simp at h; obtain ⟨_, rfl⟩ := h; exact key new_eff rfl
    · cases h
  case box t x =>
    unfold boxA at h
    cases hb : (ρ x).cells.toList.all oneCell <;> rw [hb] at h
    · cases h
    · simp at h; obtain ⟨_, rfl⟩ := h; exact key new_eff rfl
  case build t parts =>
    unfold buildA at h
    split at h
    · rename_i z _ _ _
      cases hb : z.cells.toList.all flat1 <;> rw [hb] at h
      · cases h
      · simp only [cond_true, Option.map_eq_some_iff, Prod.mk.injEq] at h
        obtain ⟨_, _, _, rfl⟩ := h
        exact key none_eff rfl
    · cases h
  case buildSlice t len parts =>
    unfold buildSliceA at h
    split at h
    · rename_i inf _
      cases hb : (Nat.ble (len * inf.size) 65536 && zeroFits inf) <;> rw [hb] at h
      · cases h
      · simp only [cond_true] at h
        split at h
        · simp at h; obtain ⟨_, rfl⟩ := h; exact key new_eff rfl
        · cases h
    · cases h
  case load t a =>
    unfold loadA at h
    split at h
    · split at h
      · rename_i s _ _ agg _ _ _ _
        cases agg
        · simp only [cond_false, Option.map_eq_some_iff, Prod.mk.injEq] at h
          obtain ⟨_, _, _, rfl⟩ := h
          exact key none_eff rfl
        · simp only [cond_true, Option.map_eq_some_iff, Prod.mk.injEq] at h
          obtain ⟨_, _, _, rfl⟩ := h
          exact key none_eff rfl
      · cases h
    · cases h
  case store t a x => exact key (storeA_eff h) rfl
  case fieldAddr t a i =>
    unfold fieldAddrA at h
    split at h
    · split at h
      · rename_i s _
        cases hb : Nat.ble 1 s <;> rw [hb] at h
        · cases h
        · simp at h; obtain ⟨_, rfl⟩ := h; exact key none_eff rfl
      · cases h
    · cases h
  case indexAddr t a ix =>
    have hi : ∀ {esz k o len : Nat} {j : Int}, idxA esz k o len j = some (v, e) → Eff1 g [] e := by
      intro esz k o len j h
      unfold idxA at h
      cases hb : (leI 0 j && ltI j (.ofNat len)) <;> rw [hb] at h
      · cases h
      · simp at h; obtain ⟨_, rfl⟩ := h; exact none_eff
    unfold indexAddrA at h
    split at h
    · split at h
      · exact key (hi h) rfl
      · cases h
    · split at h
      · exact key (hi h) rfl
      · cases h
    · cases h
  case index t a ix =>
    cases hb : (flat (ρ a) && flat (ρ ix)) <;> rw [hb] at h
    · cases h
    · exact key (pureV_eff h) rfl
  case field t a i =>
    cases hb : flat (ρ a) <;> rw [hb] at h
    · cases h
    · exact key (pureV_eff h) rfl
  case binOp o t x y yt =>
    have hs : ∀ {a b : Value}, slowBin T.P o t x y a b = some (v, e) → Eff1 g [] e := by
      intro a b h
      unfold slowBin at h
      cases hb : (flat a && flat b) <;> rw [hb] at h
      · cases h
      · exact pureV_eff h
    unfold binA at h
    split at h
    · split at h
      · simp at h; obtain ⟨_, rfl⟩ := h; exact key none_eff rfl
      · exact key (hs h) rfl
    · exact key (hs h) rfl
  case unOp o t x =>
    cases hb : flat (ρ x) <;> rw [hb] at h
    · cases h
    · exact key (pureV_eff h) rfl
  case convert s d x =>
    cases hb : flat (ρ x) <;> rw [hb] at h
    · cases h
    · exact key (pureV_eff h) rfl
  case extract x i =>
    unfold extractA at h
    split at h
    · simp only [Option.map_eq_some_iff, Prod.mk.injEq] at h
      obtain ⟨_, _, _, rfl⟩ := h
      exact key none_eff rfl
    · cases h
  case makeFunc fn first captured =>
    unfold makeFuncA at h
    split at h
    · simp at h; obtain ⟨_, rfl⟩ := h; exact key none_eff rfl
    · cases h
  case nilCheck x =>
    unfold nilCheckA at h
    split at h
    · simp at h; obtain ⟨_, rfl⟩ := h; exact key none_eff rfl
    · cases h
  case slice t x lo hi mx =>
    cases mx with
    | some _ => cases h
    | none =>
      simp only at h
      unfold sliceOpA at h
      split at h
      · cases hb : ((lo.map ρ).toList.all flat && (hi.map ρ).toList.all flat) <;> rw [hb] at h
        · cases h
        · exact key (pureV_eff h) rfl
      · simp only [Option.map_eq_some_iff, Prod.mk.injEq] at h
        obtain ⟨_, _, _, rfl⟩ := h
        exact key none_eff rfl
  case makeSlice t l c =>
    unfold makeSliceA at h
    split at h
    · rename_i inf _
      split at h
      · rename_i l c _ _
        cases hb : (Nat.ble l c && Nat.ble (inf.bytes * c) 140737488355328 && Nat.ble c 9223372036854775807 && zeroFits inf) <;> rw [hb] at h
        · cases h
        · simp at h; obtain ⟨_, rfl⟩ := h; exact key new_eff rfl
      · cases h
    · cases h
  case makeMap t r =>
    cases r with
    | some _ => cases h
    | none => simp at h; obtain ⟨_, rfl⟩ := h; exact key new_eff rfl
  case lookup t m k ok =>
    simp only [Option.map_eq_some_iff, Prod.mk.injEq] at h
    obtain ⟨_, _, _, rfl⟩ := h
    exact key none_eff rfl
  case mapEntry t m k => exact key (mapEntryA_eff h) rfl
  case entryStore t m s x =>
    simp only [Option.map_eq_some_iff, Prod.mk.injEq] at h
    obtain ⟨_, hu, _, rfl⟩ := h
    exact key (entryStoreA_eff hu) rfl
  case mapUpdate t m k x =>
    simp only [Option.map_eq_some_iff, Prod.mk.injEq] at h
    obtain ⟨_, hu, _, rfl⟩ := h
    exact key (mapUpdateA_eff hu) rfl
  case range t x =>
    unfold rangeA at h
    split at h
    · split at h
      · simp at h; obtain ⟨_, rfl⟩ := h; exact key new_eff rfl
      · cases h
    · simp at h; obtain ⟨_, rfl⟩ := h; exact key new_eff rfl
    · cases h
  case next it s =>
    cases s with
    | false => cases h
    | true => exact ⟨nextStrA_effOk h, fun hn => absurd rfl (hn it)⟩
  case entry it =>
    unfold entryA at h
    split at h
    · split at h
      · split at h
        · rw [cond_eq_ite] at h
          split at h <;> rename_i hb
          · simp only [Option.map_eq_some_iff, Prod.mk.injEq] at h
            obtain ⟨_, _, _, rfl⟩ := h
            exact key none_eff rfl
          · cases h
        · cases h
      · cases h
    · cases h
  case call c =>
    obtain ⟨callee, args, tys⟩ := c
    unfold callA at h
    cases callee with
    | value f => cases h
    | invoke r m => cases h
    | builtin b =>
      simp only at h
      unfold builtinA at h
      split at h
      · split at h
        · exact key (lenOpA_eff (ks := []) h) rfl
        · cases h
      · exact key (minA_eff (ks := []) h) rfl
      · exact key (maxA_eff (ks := []) h) rfl
      · split at h
        · rename_i s x t u ha _
          split at h
          · refine key (appendA_eff h) ?_
            unfold wrOf
            simp only [ha]
          · cases h
        · cases h
      · cases h
  all_goals cases h

theorem nextA_effOk {it : Value} {L : List (Value × Eff)} (h : nextA it g = some L) : ∀ p ∈ L, EffOk g p.2 := by
  unfold nextA at h
  split at h
  · rename_i r
    split at h
    · rename_i m since seen last hr
      split at h
      · rename_i es clock hm
        unfold nextB at h
        intro p hp
        cases hb : (!seen.isEmpty && !es.isEmpty && es.all (fun e => Nat.ble last e.born)) with
        | true => rw [hb] at h; cases h
        | false =>
          rw [hb] at h
          simp only [cond_false, Option.some.injEq] at h
          subst h
          rcases List.mem_append.1 hp with hp | hp
          · revert hp
            generalize (List.filter (fun e => decide (e.born < since)) (List.filter (fun e => !seen.contains e.born) es)) = old
            cases old with
            | nil => simp only [List.isEmpty_nil, cond_true, List.mem_singleton]; intro e; subst e; trivial
            | cons => simp
          · obtain ⟨x, _, rfl⟩ := List.mem_map.1 hp
            intro e
            rw [e] at hr; cases hr
      · cases h
    · cases h
  · cases h

/-! ### What it looks at -/

theorem rowCells_congr {size : Nat} {v : Value} (h : ∀ k ∈ blkN v, g' k = g k) : rowCells g' size v = rowCells g size v := by
  unfold rowCells
  split
  · rfl
  · rw [h _ (by simp [blkN])]
  · rfl

theorem appendA_congr {t : TypeId} {s x : Value} (hs : ∀ k ∈ blkN s, g' k = g k) (hx : ∀ k ∈ blkN x, g' k = g k) : appendA T n t s x g' = appendA T n t s x g := by
  unfold appendA
  have e1 : ∀ size, rowCells g' size x = rowCells g size x := fun _ => rowCells_congr hx
  have e2 : ∀ size, rowCells g' size s = rowCells g size s := fun _ => rowCells_congr hs
  simp only [e1, e2]
  split
  · split
    · rename_i base ln cp
      have hb : ∀ inf m old new, appendB n inf base ln cp m old new g' = appendB n inf base ln cp m old new g := by
        intro inf m old new
        unfold appendB
        split
        · rename_i k
          rw [hs k (by simp [blkN])]
        · rfl
      simp only [hb]
    · rfl
  · rfl

theorem loadA_congr {t : TypeId} {a : Value} (h : ∀ k ∈ blkN a, g' k = g k) : loadA T t a g' = loadA T t a g := by
  unfold loadA
  cases ha : addr? a with
  | none => rfl
  | some p => simp only; rw [h p.1 (addr_blkN (o := p.2) ha)]

theorem storeA_congr {t : TypeId} {a v : Value} (h : ∀ k ∈ blkN a, g' k = g k) : storeA T t a v g' = storeA T t a v g := by
  unfold storeA
  cases ha : addr? a with
  | none => rfl
  | some p => simp only; rw [h p.1 (addr_blkN (o := p.2) ha)]

theorem lookupA_congr {t : TypeId} {m k : Value} {ok : Bool} (h : ∀ k ∈ blkN m, g' k = g k) : lookupA T t m k ok g' = lookupA T t m k ok g := by
  unfold lookupA
  cases hm : blkOf m with
  | none => rfl
  | some r => simp only [Option.bind_some]; rw [h r (map_blkN hm)]

theorem mapEntryA_congr {t : TypeId} {m k : Value} (h : ∀ k ∈ blkN m, g' k = g k) : mapEntryA T t m k g' = mapEntryA T t m k g := by
  unfold mapEntryA
  cases hm : blkOf m with
  | none => cases mapTy T t <;> rfl
  | some r => cases mapTy T t with
    | none => rfl
    | some p => simp only [h r (map_blkN hm)]

theorem entryStoreA_congr {m s v : Value} (h : ∀ k ∈ blkN m, g' k = g k) : entryStoreA m s v g' = entryStoreA m s v g := by
  unfold entryStoreA
  cases hm : blkOf m with
  | none => rfl
  | some r => cases intOf? s with
    | none => rfl
    | some p => simp only [h r (map_blkN hm)]

theorem mapUpdateA_congr {t : TypeId} {m k v : Value} (h : ∀ k ∈ blkN m, g' k = g k) : mapUpdateA T t m k v g' = mapUpdateA T t m k v g := by
  unfold mapUpdateA
  cases hm : blkOf m with
  | none => cases mapTy T t <;> rfl
  | some r => cases mapTy T t with
    | none => rfl
    | some p => simp only [h r (map_blkN hm)]

theorem lenOpA_congr {t : TypeId} {x : Value} (h : ∀ k ∈ blkN x, g' k = g k) : lenOpA T t x g' = lenOpA T t x g := by
  unfold lenOpA
  split
  · rfl
  · rw [h _ (by simp [blkN])]
  · rfl
  · rfl
  · rfl

theorem opA_congr {o : Op} {ρ : Operand → Value} {r wr : List Nat} (ht : touch o ρ = some (r, wr)) (hr : ∀ k ∈ r, g' k = g k) (hw : ∀ k ∈ wr, g' k = g k) : opA T n o ρ g' = opA T n o ρ g := by
  cases o <;> simp only [opA] <;> simp only [touch, Option.some.injEq, Prod.mk.injEq, reduceCtorEq] at ht
  case load t a => obtain ⟨rfl, rfl⟩ := ht; exact loadA_congr hr
  case store t a x => obtain ⟨rfl, rfl⟩ := ht; exact storeA_congr hw
  case lookup t m k ok => obtain ⟨rfl, rfl⟩ := ht; rw [lookupA_congr hr]
  case mapEntry t m k => obtain ⟨rfl, rfl⟩ := ht; exact mapEntryA_congr hw
  case entryStore t m s x => obtain ⟨rfl, rfl⟩ := ht; rw [entryStoreA_congr hw]
  case mapUpdate t m k x => obtain ⟨rfl, rfl⟩ := ht; rw [mapUpdateA_congr hw]
  case makeMap t r => cases r <;> rfl
  case slice t x lo hi mx => cases mx <;> rfl
  case call c =>
    obtain ⟨callee, args, tys⟩ := c
    cases callee with
    | value f => rfl
    | invoke r m => rfl
    | builtin b =>
      unfold callA builtinA
      simp only
      cases b <;> try rfl
      case len =>
        simp only at ht
        split at ht
        · rename_i x hx
          simp only [Option.some.injEq, Prod.mk.injEq] at ht
          obtain ⟨rfl, rfl⟩ := ht
          rw [hx]
          cases tys.toList with
          | nil => rfl
          | cons t l => cases l with
            | nil => exact lenOpA_congr hr
            | cons => rfl
        · cases ht
      case append =>
        simp only at ht
        split at ht
        · rename_i s x hx
          simp only [Option.some.injEq, Prod.mk.injEq] at ht
          obtain ⟨rfl, rfl⟩ := ht
          rw [hx]
          have e1 : ∀ t, appendA T n t s x g' = appendA T n t s x g := fun _ => appendA_congr hw hr
          cases tys.toList with
          | nil => rfl
          | cons t l => cases l with
            | nil => rfl
            | cons u l2 => cases l2 with
              | nil => simp only [e1]
              | cons => rfl
        · cases ht

theorem touch_wr {o : Op} {ρ : Operand → Value} {r wr : List Nat} (ht : touch o ρ = some (r, wr)) : (∀ it, o ≠ .next it true) ∧ wrOf o ρ = wr := by
  refine ⟨fun it e => (by subst e; cases ht), ?_⟩
  cases o <;> simp only [touch, Option.some.injEq, Prod.mk.injEq, reduceCtorEq] at ht <;> try (exact ht.2)
  case call c =>
    obtain ⟨callee, args, tys⟩ := c
    cases callee with
    | value f => simp only [Option.some.injEq, Prod.mk.injEq] at ht; exact ht.2
    | invoke r m => simp only [Option.some.injEq, Prod.mk.injEq] at ht; exact ht.2
    | builtin b =>
      cases b <;> try (simp only [Option.some.injEq, Prod.mk.injEq] at ht; exact ht.2)
      case len =>
        simp only at ht
        split at ht
        · simp only [Option.some.injEq, Prod.mk.injEq] at ht; exact ht.2
        · cases ht
      case append =>
        simp only at ht
        split at ht
        · rename_i s x hx
          simp only [Option.some.injEq, Prod.mk.injEq] at ht
          simp only [wrOf, hx]; exact ht.2
        · cases ht
end
end Go.RM
