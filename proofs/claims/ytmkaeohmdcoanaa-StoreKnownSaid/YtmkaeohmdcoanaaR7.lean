/-
  The abstract machine: its operations are the model's, continued: slices. Lemmas alone.
-/
import Derived.Test.YtmkaeohmdcoanaaR6
namespace Go.RM
open Go.RowKit

section
variable {T : Tab} {γ : Gm} {g : Getter} {w : World} {n : Nat}

theorem fillZero_arr (zero : Array Value) (m : Nat) (h : m = 0 ∨ 0 < zero.size) :
    ((Array.range m).map (zero[· % zero.size]!)).toList = fillZero zero.toList m := by
  unfold fillZero
  rw [Array.toList_map, Array.toList_range]
  apply List.map_congr_left
  intro i hi
  rw [List.mem_range] at hi
  rcases h with h | h
  · omega
  · have hlt : i % zero.size < zero.size := Nat.mod_lt _ h
    simp [hlt, List.getD_eq_getElem?_getD]

theorem fillZero_flat {zero : List Value} (h : zero.all flat1 = true) (m : Nat) (hm : m = 0 ∨ 0 < zero.length) : (fillZero zero m).all flat1 = true := by
  rw [List.all_eq_true]
  intro x hx
  unfold fillZero at hx
  obtain ⟨i, hi, rfl⟩ := List.mem_map.1 hx
  rw [List.mem_range] at hi
  rcases hm with hm | hm
  · omega
  · have hlt : i % zero.length < zero.length := Nat.mod_lt _ hm
    rw [List.getD_eq_getElem?_getD, List.getElem?_eq_getElem hlt]
    exact List.all_eq_true.1 h _ (List.getElem_mem hlt)

theorem fillZero_length (zero : List Value) (m : Nat) : (fillZero zero m).length = m := by simp [fillZero]

theorem elem_some (hT : TabOk T) {t : TypeId} {inf : TyR} (h : elem? T t = some inf) :
    ∃ e i, T.P.underlying t = some (.slice e) ∧ T.P.info? e = some i ∧ i.size = inf.size ∧ i.bytes = inf.bytes ∧ i.zero = inf.zero := by
  unfold elem? at h
  split at h
  · rename_i e _ _ _ _ _ _ he
    obtain ⟨i, _, _, _, _, hu, _⟩ := hT.ty t _ he
    obtain ⟨i', h1, h2, h3, h4, _⟩ := hT.ty e _ h
    exact ⟨e, i', hu, h1, h2, h3, h4⟩
  · cases h

theorem zeroFits_some {inf : TyR} (h : zeroFits inf = true) : ∃ z, inf.zero = some z ∧ z.cells.size = inf.size ∧ 1 ≤ inf.size ∧ z.cells.toList.all flat1 = true := by
  unfold zeroFits at h
  split at h
  · rename_i z hz
    simp only [Bool.and_eq_true] at h
    exact ⟨z, hz, by simpa using Nat.eq_of_beq_eq_true h.1.1, Nat.le_of_ble_eq_true h.1.2, h.2⟩
  · cases h

theorem buildSliceA_good (hT : TabOk T) (h : HR γ g w) {t : TypeId} {len : Nat} {parts parts' : List (Nat × Value)} {v : Value} {e : Eff}
    (hn : e.news = true → γ.loc n = none) (ho : buildSliceA T n t len parts = some (v, e)) (hp : PartsR γ parts parts') :
    OpGood T.P γ g w n (do Pure.pure (Next.value (← Instr.buildSlice t len parts'.toArray))) v e := by
  unfold buildSliceA at ho
  cases he : elem? T t with
  | none => rw [he] at ho; cases ho
  | some inf =>
    rw [he] at ho
    simp only at ho
    obtain ⟨el, i, hu, hi, hsz, _, hz⟩ := elem_some hT he
    cases hc : (Nat.ble (len * inf.size) 65536 && zeroFits inf) with
    | false => rw [hc] at ho; cases ho
    | true =>
      rw [hc] at ho
      simp only [cond_true] at ho
      simp only [Bool.and_eq_true] at hc
      have hle := Nat.le_of_ble_eq_true hc.1
      obtain ⟨z, hzz, hzs, h1, hfl⟩ := zeroFits_some hc.2
      rw [hzz] at ho
      simp only [Option.map_some, Option.getD_some] at ho
      cases hf : fillA (fun i => some (i * inf.size, inf.size)) (fillZero z.cells.toList (len * inf.size)) parts with
      | none => rw [hf] at ho; cases ho
      | some cells =>
        rw [hf] at ho
        simp only [Option.some.injEq, Prod.mk.injEq] at ho
        obtain ⟨rfl, rfl⟩ := ho
        have hpos : 0 < z.cells.size := by omega
        have harr := fillZero_arr z.cells (len * inf.size) (.inr hpos)
        have hflz := fillZero_flat hfl (len * inf.size) (.inr (by simpa using hpos))
        have hvr : VRL γ (fillZero z.cells.toList (len * inf.size)) ((Array.range (len * inf.size)).map (z.cells[· % z.cells.size]!)).toList := by
          rw [harr]; exact VRL.of_flat hflz
        obtain ⟨out', e1, e2, e3⟩ := fill_good (γ := γ) (place := fun i => some (i * inf.size, inf.size)) (place' := fun i => some (i * inf.size, inf.size)) (fun _ _ h => h) hf hp hvr
        refine OpGood.newCells (el := el) (cs' := out') (c := len) h (hn rfl) (run_val (v := .slice (some ⟨w.heap.size, 0, none⟩) len len) (w' := w.alloc (.cells out' el)) ?_) rfl rfl rfl rfl ?_ ?_ ?_
        · have hg : ¬ (len * inf.size > 2 ^ 24) := by omega
          have hz0 : ∀ f : Nat → Value, (Array.range 0).map f = #[] := fun f => by simp
          by_cases h0 : len * inf.size = 0
          · rw [h0, hz0] at e1
            simp only [Instr.buildSlice, Sem.run_bind, run_und hu, Result.andThen_ok, run_size hi, hsz, h0, if_true, hz0, e1, newRow]
            simp only [show ¬ ((0 : Nat) > 2 ^ 24) from by omega, if_false, Sem.run_bind, Sem.run_pure, Result.andThen_ok, run_newObj_alloc]
          · simp only [Instr.buildSlice, Sem.run_bind, run_und hu, Result.andThen_ok, run_size hi, hsz, hg, if_false, h0, run_zero hi (hz.trans hzz), Sem.run_pure, e1, newRow, run_newObj_alloc]
        · have := CellsR.of_list e2
          simpa using this
        · rw [e3]; simp
        · exact VR.slice (o := 0) (Gm.add_loc _ _ _ _) (Nat.le_refl _) (fun _ => rfl) (fun e => by omega)

theorem natOf_some {v : Value} {l : Nat} (h : natOf v = some l) : ∃ k, v = .int k (l : Int) := by
  unfold natOf at h
  split at h
  · rename_i k m
    cases hc : decide (m < 0) with
    | true => rw [hc] at h; cases h
    | false =>
      rw [hc] at h
      simp at h hc
      exact ⟨k, by rw [← h]; congr 1; omega⟩
  · cases h

theorem makeSliceA_good (hT : TabOk T) (h : HR γ g w) {t : TypeId} {l l' c c' v : Value} {e : Eff}
    (hn : e.news = true → γ.loc n = none) (ho : makeSliceA T n t l c = some (v, e)) (hl : VR γ l l') (hc : VR γ c c') :
    OpGood T.P γ g w n (do Pure.pure (Next.value (← Instr.makeSlice t l' c'))) v e := by
  unfold makeSliceA at ho
  cases he : elem? T t with
  | none => rw [he] at ho; cases ho
  | some inf =>
    rw [he] at ho
    simp only at ho
    obtain ⟨el, i, hu, hi, hsz, hby, hz⟩ := elem_some hT he
    cases hln : natOf l with
    | none => rw [hln] at ho; cases ho
    | some ln =>
      cases hcn : natOf c with
      | none => rw [hln, hcn] at ho; cases ho
      | some cn =>
        rw [hln, hcn] at ho
        simp only at ho
        obtain ⟨k1, rfl⟩ := natOf_some hln
        obtain ⟨k2, rfl⟩ := natOf_some hcn
        obtain rfl := hl.flat1_eq rfl
        obtain rfl := hc.flat1_eq rfl
        cases hcd : (Nat.ble ln cn && Nat.ble (inf.bytes * cn) 140737488355328 && Nat.ble cn 9223372036854775807 && zeroFits inf) with
        | false => rw [hcd] at ho; cases ho
        | true =>
          rw [hcd] at ho
          simp only [cond_true, Option.some.injEq, Prod.mk.injEq] at ho
          obtain ⟨rfl, rfl⟩ := ho
          obtain ⟨c1, c2, c3, c4⟩ := band3 hcd
          have c1 := Nat.le_of_ble_eq_true c1
          have c2 := Nat.le_of_ble_eq_true c2
          have c3 := Nat.le_of_ble_eq_true c3
          obtain ⟨z, hzz, hzs, h1, hfl⟩ := zeroFits_some c4
          have hpos : 0 < z.cells.size := by omega
          have hw1 : IntKind.i64.wrap (ln : Int) = ln := IntWalk.i64_in _ (by omega)
          have hw2 : IntKind.i64.wrap (cn : Int) = cn := IntWalk.i64_in _ (by omega)
          refine OpGood.newCells (el := el) (cs' := (Array.range (cn * inf.size)).map (z.cells[· % z.cells.size]!)) (c := cn) h (hn rfl)
            (run_val (v := .slice (some ⟨w.heap.size, 0, none⟩) ln cn) (w' := w.alloc (.cells ((Array.range (cn * inf.size)).map (z.cells[· % z.cells.size]!)) el)) ?_) rfl rfl rfl rfl ?_ (by simp) ?_
          · have g1 : ¬ ((ln : Int) < 0) := by omega
            have g2 : ¬ ((ln : Int) > (cn : Int)) := by omega
            have g3 : ¬ ((cn : Int) < 0) := by omega
            have g4 : ¬ ((i.bytes : Int) * (cn : Int) > 2 ^ 48) := by rw [hby]; norm_cast; omega
            have hask : ∀ k : Nat, (askRoom k).run T.P w = .ok () w := fun k => by
              unfold askRoom
              split
              · rfl
              · rfl
            have hz0 : ∀ f : Nat → Value, (Array.range 0).map f = #[] := fun f => by simp
            by_cases h0 : cn * inf.size = 0
            · simp only [Instr.makeSlice, Sem.run_bind, run_und hu, Result.andThen_ok, asInt, asIntOf, Sem.run_pure, run_info hi, hw1, hw2, g1, g2, g3, g4, decide_false, Bool.or_false, Bool.false_eq_true, if_false,
                Int.toNat_natCast, hask, run_size hi, hsz, h0, if_true, hz0, newRow, run_newObj_alloc]
            · simp only [Instr.makeSlice, Sem.run_bind, run_und hu, Result.andThen_ok, asInt, asIntOf, Sem.run_pure, run_info hi, hw1, hw2, g1, g2, g3, g4, decide_false, Bool.or_false, Bool.false_eq_true, if_false,
                Int.toNat_natCast, hask, run_size hi, hsz, h0, run_zero hi (hz.trans hzz), newRow, run_newObj_alloc]
          · intro j u hu'
            rw [Nat.zero_add]
            have hz' : (z.cells.toList.all flat1) = true := hfl
            simp only [Option.map_some, hzz, Option.getD_some] at hu'
            have hjl : j < ln * inf.size := by have := (List.getElem?_eq_some_iff.1 hu').1; rwa [fillZero_length] at this
            have hjc : j < cn * inf.size := Nat.lt_of_lt_of_le hjl (Nat.mul_le_mul_right _ c1)
            have harr := fillZero_arr z.cells (cn * inf.size) (.inr hpos)
            have hflat := List.all_eq_true.1 (fillZero_flat hfl (ln * inf.size) (.inr (by simpa using hpos))) u (List.mem_of_getElem? hu')
            refine ⟨u, ?_, .flat hflat⟩
            have : ((Array.range (cn * inf.size)).map (z.cells[· % z.cells.size]!)).toList[j]? = some u := by
              rw [harr, ← hu']
              unfold fillZero
              rw [List.getElem?_map, List.getElem?_map, List.getElem?_range hjl, List.getElem?_range hjc]
            rw [← Array.getElem?_toList]; exact this
          · have hcap := Gm.add_cap γ n w.heap.size cn
            cases hb : Nat.beq ln cn with
            | true =>
              have := Nat.eq_of_beq_eq_true hb
              subst this
              exact VR.slice (o := 0) (Gm.add_loc _ _ _ _) (Nat.le_refl _) (fun _ => rfl) (fun e => by simp at e)
            | false =>
              have hne : ln ≠ cn := fun e => by rw [Tr.beq_eq, decide_eq_true e] at hb; cases hb
              exact VR.slice (o := 0) (Gm.add_loc _ _ _ _) c1 (fun e => by simp at e) (fun _ => ⟨rfl, hcap.symm⟩)

theorem lenOpA_good (hT : TabOk T) (h : HR γ g w) {t ty : TypeId} {x x' v : Value} {e : Eff} (ho : lenOpA T t x g = some (v, e)) (hx : VR γ x x') :
    OpGood T.P γ g w n (do Pure.pure (Next.value (← Builtin.len_ #[t] ty #[x']))) v e := by
  unfold lenOpA at ho
  split at ho
  · rename_i el _ _ _ _ _ _ m _ hty
    simp only [Option.some.injEq, Prod.mk.injEq] at ho
    obtain ⟨rfl, rfl⟩ := ho
    obtain ⟨i, _, _, _, _, hu, _⟩ := hT.ty t _ hty
    obtain ⟨a', c', rfl⟩ : ∃ a' c', x' = .slice a' m c' := by
      cases hx with
      | flat => exact ⟨_, _, rfl⟩
      | slice => exact ⟨_, _, rfl⟩
      | slice0 => exact ⟨_, _, rfl⟩
    exact .pure h (run_val (v := .int .i64 m) (by simp [Builtin.len_, run_und hu, goInt])) (.flat rfl)
  · rename_i kt et _ _ _ _ _ _ r hty
    cases hm : map? (g r) with
    | none => rw [hm] at ho; cases ho
    | some p =>
      obtain ⟨es, clock⟩ := p
      rw [hm] at ho
      simp only [Option.some.injEq, Prod.mk.injEq] at ho
      obtain ⟨rfl, rfl⟩ := ho
      obtain ⟨i, _, _, _, _, hu, _⟩ := hT.ty t _ hty
      have hgr : g r = some (.map es clock) := by
        unfold map? at hm
        split at hm
        · simp at hm; obtain ⟨rfl, rfl⟩ := hm; assumption
        · cases hm
      cases hx with
      | flat hf => simp [flat1] at hf
      | map hl =>
        rename_i b
        obtain ⟨_, _, es', hw, hent⟩ := h.blk r b 0 _ hgr hl
        exact .pure h (run_val (v := .int .i64 es.length) (by simp [Builtin.len_, run_und hu, goInt, getObj, Sem.run, hw, hent.1])) (.flat rfl)
  · rename_i m _ _ _ _ _ _ _ hty
    simp only [Option.some.injEq, Prod.mk.injEq] at ho
    obtain ⟨rfl, rfl⟩ := ho
    obtain ⟨i, _, _, _, _, hu, _⟩ := hT.ty t _ hty
    exact .pure h (run_val (v := .int .i64 m) (by simp [Builtin.len_, run_und hu, goInt])) (.flat rfl)
  · rename_i s hty
    simp only [Option.some.injEq, Prod.mk.injEq] at ho
    obtain ⟨rfl, rfl⟩ := ho
    obtain ⟨i, _, _, _, _, hu, _⟩ := hT.ty t _ hty
    obtain rfl := hx.flat1_eq rfl
    exact .pure h (run_val (v := .int .i64 s.data.toList.length) (by
      have : (s.size : Nat) = s.data.toList.length := rfl
      simp only [Builtin.len_, run_und hu, goInt, Sem.run_bind, Result.andThen_ok, Sem.run_pure, this, List.getElem?_toArray, List.getElem?_cons_zero])) (.flat rfl)
  · cases ho
end

end Go.RM
