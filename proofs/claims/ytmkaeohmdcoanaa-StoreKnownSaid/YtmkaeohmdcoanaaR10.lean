/-
  The abstract machine: its operations are the model's, continued: maps. Lemmas alone.
-/
import Derived.Test.YtmkaeohmdcoanaaR9
namespace Go.RM
open Go.RowKit

section
variable {T : Tab} {γ : Gm} {g : Getter} {w : World} {n : Nat}

theorem pureRun_bind (P : Program) {α β : Type} (x : Sem α) (f : α → Sem β) : pureRun P (x >>= f) = (pureRun P x).bind fun a => pureRun P (f a) := by
  show pureRun P (x.bind f) = _
  induction x with
  | pure a => rfl
  | program k ih => simp only [Sem.bind, pureRun]; exact ih P
  | mark m k ih => simp only [Sem.bind, pureRun]; exact ih
  | _ => rfl

theorem pureRun_pure (P : Program) {α : Type} (a : α) : pureRun P (Pure.pure a) = some a := rfl

/-- Two lists of entries of the same keys. -/
def SameKeys (l l' : List MapEntry) : Prop := l.map (·.key) = l'.map (·.key)

theorem SameKeys.cons_iff {e e' : MapEntry} {l l' : List MapEntry} (h : SameKeys (e :: l) (e' :: l')) : e.key = e'.key ∧ SameKeys l l' := by
  simpa [SameKeys] using h

theorem findNow_same (kind : TypeDesc) (k : Value) : ∀ (l l' : List MapEntry) (i : Nat), SameKeys l l' →
    match Instr.findNow kind k l i with
    | none => Instr.findNow kind k l' i = none
    | some none => Instr.findNow kind k l' i = some none
    | some (some (j, _)) => ∃ e, i ≤ j ∧ l'[j - i]? = some e ∧ Instr.findNow kind k l' i = some (some (j, e.val))
  | [], [], _, _ => rfl
  | [], _ :: _, _, h => by simp [SameKeys] at h
  | _ :: _, [], _, h => by simp [SameKeys] at h
  | e :: l, e' :: l', i, h => by
    obtain ⟨h1, h2⟩ := h.cons_iff
    simp only [Instr.findNow, ← h1]
    cases hs : Instr.sameNow kind k e.key with
    | none => rfl
    | some b =>
      cases b with
      | true => exact ⟨e', Nat.le_refl _, by simp, rfl⟩
      | false =>
        have ih := findNow_same kind k l l' (i + 1) h2
        simp only
        cases hf : Instr.findNow kind k l (i + 1) with
        | none => rw [hf] at ih; exact ih
        | some r =>
          rw [hf] at ih
          cases r with
          | none => exact ih
          | some p =>
            obtain ⟨j, v⟩ := p
            obtain ⟨x, a, b, c⟩ := ih
            refine ⟨x, by omega, ?_, c⟩
            rw [show j - i = (j - (i + 1)) + 1 from by omega]
            simpa using b

theorem findAsking_same (P : Program) (kt : TypeId) (k : Value) : ∀ (l l' : List MapEntry) (i : Nat) (r : Option (Nat × Value)), SameKeys l l' → pureRun P (Instr.findAsking kt k l i) = some r →
    match r with
    | none => pureRun P (Instr.findAsking kt k l' i) = some none
    | some (j, _) => ∃ e, i ≤ j ∧ l'[j - i]? = some e ∧ pureRun P (Instr.findAsking kt k l' i) = some (some (j, e.val))
  | [], [], _, r, _, h => by
    simp only [Instr.findAsking, pureRun_pure, Option.some.injEq] at h
    subst h
    rfl
  | [], _ :: _, _, _, h, _ => by simp [SameKeys] at h
  | _ :: _, [], _, _, h, _ => by simp [SameKeys] at h
  | e :: l, e' :: l', i, r, hk, h => by
    obtain ⟨h1, h2⟩ := hk.cons_iff
    simp only [Instr.findAsking, pureRun_bind, h1] at h ⊢
    cases hq : pureRun P (Op.equal kt k e'.key) with
    | none => rw [hq] at h; cases h
    | some b =>
      rw [hq] at h
      simp only [Option.bind_some] at h ⊢
      cases b with
      | true =>
        simp only [if_true, pureRun_pure, Option.some.injEq] at h ⊢
        subst h
        exact ⟨e', Nat.le_refl _, by simp, rfl⟩
      | false =>
        simp only [Bool.false_eq_true, if_false] at h ⊢
        have ih := findAsking_same P kt k l l' (i + 1) r h2 h
        cases r with
        | none => exact ih
        | some p =>
          obtain ⟨j, v⟩ := p
          obtain ⟨x, a, b, c⟩ := ih
          refine ⟨x, by omega, ?_, c⟩
          rw [show j - i = (j - (i + 1)) + 1 from by omega]
          simpa using b

theorem findKey_same {P : Program} {kt : TypeId} {k : Value} {l l' : List MapEntry} {r : Option (Nat × Value)} (hk : SameKeys l l') (h : pureRun P (Instr.findKey kt k l) = some r) :
    match r with
    | none => pureRun P (Instr.findKey kt k l') = some none
    | some (j, _) => ∃ e, l'[j]? = some e ∧ pureRun P (Instr.findKey kt k l') = some (some (j, e.val)) := by
  unfold Instr.findKey at h ⊢
  simp only [pureRun_bind] at h ⊢
  cases hu : pureRun P (underlying kt) with
  | none => rw [hu] at h; cases h
  | some d =>
    rw [hu] at h
    simp only [Option.bind_some] at h ⊢
    have hs := findNow_same d k l l' 0 hk
    cases hf : Instr.findNow d k l 0 with
    | none =>
      rw [hf] at h hs
      simp only at h hs
      simp only [hs]
      have := findAsking_same P kt k l l' 0 r hk h
      cases r with
      | none => exact this
      | some p => obtain ⟨j, v⟩ := p; obtain ⟨e, _, b, c⟩ := this; exact ⟨e, by simpa using b, c⟩
    | some q =>
      rw [hf] at h hs
      simp only [pureRun_pure, Option.some.injEq] at h
      subst h
      cases q with
      | none => simp only at hs ⊢; rw [hs]; rfl
      | some p =>
        obtain ⟨j, v⟩ := p
        obtain ⟨e, _, b, c⟩ := hs
        exact ⟨e, by simpa using b, by rw [c]; rfl⟩

theorem EntR.keys {es : List MapEntry} {es' : Array MapEntry} (h : EntR γ es es') (hf : es.all (fun e => flat e.key) = true) : SameKeys (es.map fun e => { e with val := .nilIface }) es'.toList := by
  unfold SameKeys
  rw [List.map_map]
  apply List.ext_getElem?
  intro i
  rw [List.getElem?_map, List.getElem?_map]
  cases he : es[i]? with
  | none =>
    have : es'.toList[i]? = none := by
      rw [List.getElem?_eq_none_iff] at he ⊢
      have := h.1
      simp; omega
    rw [this]; rfl
  | some e =>
    have hi : i < es.length := (List.getElem?_eq_some_iff.1 he).1
    have hi' : i < es'.size := by have := h.1; omega
    have he' : es'.toList[i]? = some es'[i] := by simp [hi']
    rw [he']
    obtain ⟨h1, _, _⟩ := h.2 i e es'[i] he (by simp)
    have := h1.flat_eq (List.all_eq_true.1 hf e (List.mem_of_getElem? he))
    simp [this]

theorem findA_run {P : Program} {emp : Bool} {kt : TypeId} {k k' : Value} {es : List MapEntry} {es' : Array MapEntry} {r : Option Nat} (h : findA P emp kt k es = some r) (he : EntR γ es es') (hk : VR γ k k') :
    k' = k ∧ (∀ w : World, (Instr.checkKey emp 10000 kt k).run P w = .ok () w) ∧
    match r with
    | none => ∀ w : World, (Instr.findKey kt k es'.toList).run P w = .ok none w
    | some i => ∃ e e', es[i]? = some e ∧ es'[i]? = some e' ∧ VR γ e.val e'.val ∧ e'.key = e.key ∧ flat e.key = true ∧ e.born = e'.born ∧ ∀ w : World, (Instr.findKey kt k es'.toList).run P w = .ok (some (i, e'.val)) w := by
  unfold findA at h
  cases hc : (flat k && es.all fun e => flat e.key) with
  | false => rw [hc] at h; cases h
  | true =>
    rw [hc] at h
    simp only [cond_true] at h
    simp only [Bool.and_eq_true] at hc
    have hke := hk.flat_eq hc.1
    cases hck : pureRun P (Instr.checkKey emp 10000 kt k) with
    | none => rw [hck] at h; cases h
    | some u =>
      rw [hck] at h
      simp only [Option.map_eq_some_iff] at h
      obtain ⟨q, hq, rfl⟩ := h
      refine ⟨hke, fun w => pureRun_run P hck w, ?_⟩
      have hs := findKey_same (he.keys hc.2) hq
      cases q with
      | none => exact fun w => pureRun_run P hs w
      | some p =>
        obtain ⟨j, v⟩ := p
        obtain ⟨e', a, b⟩ := hs
        have hj' : es'[j]? = some e' := by simpa using a
        have hjl : j < es.length := by have := (Array.getElem?_eq_some_iff.1 hj').1; have := he.1; omega
        have hj : es[j]? = some es[j] := List.getElem?_eq_getElem hjl
        obtain ⟨x, y, z⟩ := he.2 j _ _ hj hj'
        have hfk := List.all_eq_true.1 hc.2 _ (List.getElem_mem hjl)
        exact ⟨es[j], e', hj, hj', y, x.flat_eq hfk, hfk, z, fun w => pureRun_run P b w⟩

theorem EntR.empty {es : List MapEntry} {es' : Array MapEntry} (h : EntR γ es es') : es'.isEmpty = es.isEmpty := by
  have := h.1
  cases hx : es'.isEmpty with
  | true =>
    have hz : es' = #[] := by simpa using hx
    subst hz
    cases es with
    | nil => rfl
    | cons a l => simp at this
  | false =>
    cases es with
    | nil =>
      have hz : es' = #[] := Array.eq_empty_of_size_eq_zero this.symm
      subst hz
      simp at hx
    | cons a l => rfl

theorem map_some {a : Option ABlk} {es : List MapEntry} {c : Nat} (h : map? a = some (es, c)) : a = some (.map es c) := by
  unfold map? at h
  split at h
  · simp at h; obtain ⟨rfl, rfl⟩ := h; rfl
  · cases h

theorem mapTy_some (hT : TabOk T) {t kt : TypeId} {z : Option Value} (h : mapTy T t = some (kt, z)) :
    ∃ et, T.P.underlying t = some (.map kt et) ∧ ∀ v, z = some v → ∃ i, T.P.info? et = some i ∧ i.zero = some v := by
  unfold mapTy at h
  split at h
  · rename_i k e _ _ _ _ _ _ hty
    simp only [Option.some.injEq, Prod.mk.injEq] at h
    obtain ⟨rfl, rfl⟩ := h
    obtain ⟨i, _, _, _, _, hu, _⟩ := hT.ty t _ hty
    refine ⟨e, hu, fun v hv => ?_⟩
    cases he : T.ty.get e with
    | none => rw [he] at hv; cases hv
    | some r =>
      rw [he] at hv
      obtain ⟨i', h1, _, _, h4, _⟩ := hT.ty e r he
      exact ⟨i', h1, h4.trans hv⟩
  · cases h

theorem blkOf_some {v : Value} {r : Nat} (h : blkOf v = some r) : v = .map (some r) := by
  unfold blkOf at h
  split at h
  · simp at h; subst h; rfl
  · cases h

/-- A map that is named by a value. -/
theorem map_at (h : HR γ g w) {m m' : Value} {r : Nat} {es : List MapEntry} {c : Nat} (hb : blkOf m = some r) (hm : map? (g r) = some (es, c)) (hv : VR γ m m') :
    ∃ b es', m' = .map (some b) ∧ γ.loc r = some (b, 0) ∧ γ.B ≤ b ∧ w.heap[b]? = some (.map es' c) ∧ EntR γ es es' ∧ (∀ P : Program, (getObj b).run P w = .ok (.map es' c) w) := by
  obtain rfl := blkOf_some hb
  cases hv with
  | flat hf => simp [flat1] at hf
  | map hl =>
    rename_i b
    obtain ⟨_, hB, es', hw, he⟩ := h.blk r b 0 _ (map_some hm) hl
    exact ⟨b, es', rfl, hl, hB, hw, he, fun P => by simp [getObj, Sem.run, hw]⟩

theorem lookupA_good (hT : TabOk T) (h : HR γ g w) {t : TypeId} {m m' k k' v : Value} {ok : Bool} (ho : lookupA T t m k ok g = some v) (hm : VR γ m m') (hk : VR γ k k') :
    OpGood T.P γ g w n (do Pure.pure (Next.value (← Instr.lookup t m' k' ok))) v .none := by
  unfold lookupA at ho
  cases hmt : mapTy T t with
  | none => rw [hmt] at ho; cases ho
  | some p =>
    obtain ⟨kt, z⟩ := p
    cases hb : blkOf m with
    | none => rw [hmt, hb] at ho; cases ho
    | some r =>
      cases hmp : map? (g r) with
      | none => rw [hmt, hb] at ho; simp only [Option.bind_some, hmp] at ho; cases ho
      | some q =>
        obtain ⟨es, c⟩ := q
        rw [hmt, hb] at ho
        simp only [Option.bind_some, hmp] at ho
        obtain ⟨b, es', rfl, hl, hB, hw, he, hgo⟩ := map_at h hb hmp hm
        obtain ⟨et, hu, hz⟩ := mapTy_some hT hmt
        unfold lookupB at ho
        cases hf : findA T.P es.isEmpty kt k es with
        | none => rw [hf] at ho; simp at ho
        | some r' =>
          obtain ⟨rfl, hck, hfk⟩ := findA_run hf he hk
          rw [← he.empty] at hck
          cases r' with
          | some i =>
            obtain ⟨e, e', he1, he2, hvv, _, _, _, hrun⟩ := hfk
            cases z with
            | none => rw [hf] at ho; simp at ho
            | some zv =>
              rw [hf] at ho
              simp only [he1, Option.map_some, Option.some.injEq] at ho
              subst ho
              refine .pure h (run_val (v := bif ok then .tuple #[e'.val, .bool true] else e'.val) ?_) ?_
              · cases ok <;> simp [Instr.lookup, run_und hu, hgo, hck, hrun]
              · cases ok with
                | false => exact hvv
                | true => exact VR.tuple_list (.cons hvv (.cons (.flat rfl) (.nil γ)))
          | none =>
            cases z with
            | none => rw [hf] at ho; simp at ho
            | some zv =>
              rw [hf] at ho
              simp only at ho
              obtain ⟨ie, hi1, hi2⟩ := hz zv rfl
              cases hfl : flat zv with
              | false => rw [hfl] at ho; cases ho
              | true =>
                rw [hfl] at ho
                simp only [cond_true, Option.some.injEq] at ho
                subst ho
                refine .pure h (run_val (v := bif ok then .tuple #[zv, .bool false] else zv) ?_) ?_
                · cases ok <;> simp [Instr.lookup, run_und hu, hgo, hck, hfk, run_zero hi1 hi2]
                · cases ok with
                  | false => exact VR.of_flat hfl
                  | true => exact VR.tuple_list (.cons (VR.of_flat hfl) (.cons (.flat rfl) (.nil γ)))

theorem EntR.modify {es : List MapEntry} {es' : Array MapEntry} (h : EntR γ es es') (i : Nat) (f f' : MapEntry → MapEntry)
    (hf : ∀ e e', es[i]? = some e → es'[i]? = some e' → VR γ (f e).key (f' e').key ∧ VR γ (f e).val (f' e').val ∧ (f e).born = (f' e').born) : EntR γ (es.modify i f) (es'.modify i f') := by
  refine ⟨by simp [h.1], fun j a b ha hb => ?_⟩
  rw [List.getElem?_modify] at ha
  rw [Array.getElem?_modify] at hb
  by_cases hij : i = j
  · subst hij
    simp only [if_true] at ha hb
    obtain ⟨e, h1, rfl⟩ := Option.map_eq_some_iff.1 ha
    obtain ⟨e', h2, rfl⟩ := Option.map_eq_some_iff.1 hb
    exact hf e e' h1 h2
  · simp only [hij, if_false] at ha hb
    have ha' : es[j]? = some a := by cases hx : es[j]? <;> simp_all
    exact h.2 j a b ha' hb

theorem EntR.push {es : List MapEntry} {es' : Array MapEntry} (h : EntR γ es es') {e e' : MapEntry} (he : VR γ e.key e'.key ∧ VR γ e.val e'.val ∧ e.born = e'.born) : EntR γ (es ++ [e]) (es'.push e') := by
  refine ⟨by simp [h.1], fun j a b ha hb => ?_⟩
  by_cases hj : j < es.length
  · rw [List.getElem?_append_left hj] at ha
    rw [Array.getElem?_push, if_neg (by have := h.1; omega)] at hb
    exact h.2 j a b ha hb
  · rw [List.getElem?_append_right (by omega)] at ha
    have hj2 : j - es.length = 0 := by
      have := (List.getElem?_eq_some_iff.1 ha).1
      simp at this; omega
    rw [hj2] at ha
    simp at ha
    subst ha
    rw [Array.getElem?_push, if_pos (by have := h.1; omega)] at hb
    cases hb
    exact he

/-- A map of the call's own is written. -/
theorem map_put (h : HR γ g w) {r b : Nat} {es es2 : List MapEntry} {c c2 : Nat} {es' es2' : Array MapEntry} (hm : map? (g r) = some (es, c)) (hl : γ.loc r = some (b, 0)) (hB : γ.B ≤ b)
    (hw : w.heap[b]? = some (.map es' c)) (he : EntR γ es2 es2') :
    HR γ (upd g r (.map es2 c2)) { w with heap := w.heap.setIfInBounds b (.map es2' c2) } ∧ Upd γ g w γ (upd g r (.map es2 c2)) { w with heap := w.heap.setIfInBounds b (.map es2' c2) } ∧
      (∀ P : Program, (setObj b (.map es2' c2)).run P w = .ok () { w with heap := w.heap.setIfInBounds b (.map es2' c2) }) := by
  have hlt : b < w.heap.size := (Array.getElem?_eq_some_iff.1 hw).1
  obtain ⟨q1, q2, _⟩ := put_obj (a := .map es2 c2) (obj := .map es2' c2) h (map_some hm) rfl hl hw rfl ⟨rfl, hB, es2', by simp [hlt], he⟩
  exact ⟨q1, q2, fun P => by simp [setObj, Sem.run, hw]⟩

theorem mapEntryA_good (hT : TabOk T) (h : HR γ g w) {t : TypeId} {m m' k k' v : Value} {e : Eff} (ho : mapEntryA T t m k g = some (v, e)) (hm : VR γ m m') (hk : VR γ k k') :
    OpGood T.P γ g w n (do Pure.pure (Next.value (← Instr.mapEntry t m' k'))) v e := by
  unfold mapEntryA at ho
  cases hmt : mapTy T t with
  | none => rw [hmt] at ho; cases ho
  | some p =>
    obtain ⟨kt, z⟩ := p
    cases hb : blkOf m with
    | none => rw [hmt, hb] at ho; cases ho
    | some r =>
      cases hmp : map? (g r) with
      | none => rw [hmt, hb] at ho; simp only [hmp] at ho; cases ho
      | some q =>
        obtain ⟨es, c⟩ := q
        rw [hmt, hb] at ho
        simp only [hmp] at ho
        obtain ⟨b, es', rfl, hl, hB, hw, he, hgo⟩ := map_at h hb hmp hm
        obtain ⟨et, hu, hz⟩ := mapTy_some hT hmt
        unfold mapEntryB at ho
        cases hf : findA T.P false kt k es with
        | none => rw [hf] at ho; simp at ho
        | some r' =>
          obtain ⟨rfl, hck, hfk⟩ := findA_run hf he hk
          have hflk : flat k' = true := by
            unfold findA at hf
            cases hc : (flat k' && es.all fun e => flat e.key) with
            | false => rw [hc] at hf; cases hf
            | true => simp only [Bool.and_eq_true] at hc; exact hc.1
          cases r' with
          | some i =>
            obtain ⟨x, x', he1, he2, hvv, hkk, hkf, hborn, hrun⟩ := hfk
            rw [hf] at ho
            simp only [he1] at ho
            cases hsb : Instr.sameBits 10000 x.key k' with
            | false => rw [hsb] at ho; cases ho
            | true =>
              rw [hsb] at ho
              simp only [cond_true, Option.some.injEq, Prod.mk.injEq] at ho
              obtain ⟨rfl, rfl⟩ := ho
              have hmod : EntR γ (es.modify i fun e => { e with key := k' }) (es'.modify i fun e => { e with key := k' }) :=
                he.modify i _ _ fun a a' h1 h2 => by obtain ⟨_, y, zz⟩ := he.2 i a a' h1 h2; exact ⟨VR.of_flat hflk, y, zz⟩
              obtain ⟨q1, q2, q3⟩ := map_put (c2 := c) h hmp hl hB hw hmod
              refine ⟨.tuple #[x'.val, .int .i64 x'.born], _, γ, .inl (run_val ?_), Gm.Le.refl γ, fun _ _ => rfl, q1, ?_, q2⟩
              · have hstay : (Instr.keyThatStays x'.key k').run T.P w = .ok k' w := by simp [Instr.keyThatStays, hkk, hsb]
                simp [Instr.mapEntry, run_und hu, hgo, hck, hrun, he2, hstay, q3, goInt]
              · rw [← hborn]
                exact VR.tuple_list (.cons hvv (.cons (.flat rfl) (.nil γ)))
          | none =>
            cases z with
            | none => rw [hf] at ho; simp at ho
            | some zv =>
              rw [hf] at ho
              simp only at ho
              obtain ⟨ie, hi1, hi2⟩ := hz zv rfl
              cases hfl : flat zv with
              | false => rw [hfl] at ho; cases ho
              | true =>
                rw [hfl] at ho
                simp only [cond_true, Option.some.injEq, Prod.mk.injEq] at ho
                obtain ⟨rfl, rfl⟩ := ho
                have hpush : EntR γ (es ++ [{ key := k', val := zv, born := c }]) (es'.push { key := k', val := zv, born := c }) := he.push ⟨VR.of_flat hflk, VR.of_flat hfl, rfl⟩
                obtain ⟨q1, q2, q3⟩ := map_put (c2 := c + 1) h hmp hl hB hw hpush
                refine ⟨.tuple #[zv, .int .i64 c], _, γ, .inl (run_val ?_), Gm.Le.refl γ, fun _ _ => rfl, q1, VR.tuple_list (.cons (VR.of_flat hfl) (.cons (.flat rfl) (.nil γ))), q2⟩
                simp [Instr.mapEntry, run_und hu, hgo, hck, hfk, run_zero hi1 hi2, q3, goInt]
end

end Go.RM
