/-
  The abstract machine: its operations are the model's, continued: maps gone through. Lemmas alone.
-/
import Derived.Test.YtmkaeohmdcoanaaR10
namespace Go.RM
open Go.RowKit

section
variable {T : Tab} {γ : Gm} {g : Getter} {w : World} {n : Nat}

/-- Lists of related entries. -/
def EntL (γ : Gm) : List MapEntry → List MapEntry → Prop
  | [], [] => True
  | e :: l, e' :: l' => (VR γ e.key e'.key ∧ VR γ e.val e'.val ∧ e.born = e'.born) ∧ EntL γ l l'
  | _, _ => False

theorem EntL.of_get {γ : Gm} : ∀ {l l' : List MapEntry}, l.length = l'.length →
    (∀ (i : Nat) (e e' : MapEntry), l[i]? = some e → l'[i]? = some e' → VR γ e.key e'.key ∧ VR γ e.val e'.val ∧ e.born = e'.born) → EntL γ l l'
  | [], [], _, _ => trivial
  | [], _ :: _, h, _ => by simp at h
  | _ :: _, [], h, _ => by simp at h
  | e :: l, e' :: l', h, hp => ⟨hp 0 e e' rfl rfl, EntL.of_get (by simpa using h) fun i a a' x y => hp (i + 1) a a' (by simpa using x) (by simpa using y)⟩

theorem EntR.list {es : List MapEntry} {es' : Array MapEntry} (h : EntR γ es es') : EntL γ es es'.toList :=
  EntL.of_get (by simpa using h.1) fun i e e' a b => h.2 i e e' a (by simpa using b)

theorem EntL.len {γ : Gm} : ∀ {l l' : List MapEntry}, EntL γ l l' → l.length = l'.length
  | [], [], _ => rfl
  | [], _ :: _, h => h.elim
  | _ :: _, [], h => h.elim
  | _ :: _, _ :: _, h => by simp [EntL.len h.2]

theorem EntL.get {γ : Gm} : ∀ {l l' : List MapEntry} {i : Nat} {e' : MapEntry}, EntL γ l l' → l'[i]? = some e' → ∃ e, l[i]? = some e ∧ VR γ e.key e'.key ∧ VR γ e.val e'.val ∧ e.born = e'.born
  | [], [], i, e', _, h => by simp at h
  | [], _ :: _, _, _, h, _ => h.elim
  | _ :: _, [], _, _, h, _ => h.elim
  | e :: l, x :: l', 0, e', h, hx => by simp at hx; subst hx; exact ⟨e, rfl, h.1⟩
  | e :: l, x :: l', i + 1, e', h, hx => by
    obtain ⟨y, a, b⟩ := EntL.get (i := i) h.2 (by simpa using hx)
    exact ⟨y, by simpa using a, b⟩

theorem EntL.filter {γ : Gm} (p : Nat → Bool) : ∀ {l l' : List MapEntry}, EntL γ l l' → EntL γ (l.filter fun e => p e.born) (l'.filter fun e => p e.born)
  | [], [], _ => trivial
  | [], _ :: _, h => h.elim
  | _ :: _, [], h => h.elim
  | e :: l, e' :: l', h => by
    have ih := EntL.filter p h.2
    have hb := h.1.2.2
    by_cases hp : p e.born = true
    · have hp' : p e'.born = true := by rw [← hb]; exact hp
      rw [List.filter_cons_of_pos (by simpa using hp), List.filter_cons_of_pos (by simpa using hp')]
      exact ⟨h.1, ih⟩
    · have hp' : ¬ p e'.born = true := by rw [← hb]; exact hp
      rw [List.filter_cons_of_neg (by simpa using hp), List.filter_cons_of_neg (by simpa using hp')]
      exact ih

theorem EntL.append {γ : Gm} : ∀ {a a' b b' : List MapEntry}, EntL γ a a' → EntL γ b b' → EntL γ (a ++ b) (a' ++ b')
  | [], [], _, _, _, h => h
  | [], _ :: _, _, _, h, _ => h.elim
  | _ :: _, [], _, _, h, _ => h.elim
  | _ :: _, _ :: _, _, _, h, k => ⟨h.1, EntL.append h.2 k⟩

theorem EntL.findIdx {γ : Gm} (p : Nat → Bool) : ∀ {l l' : List MapEntry}, EntL γ l l' → (l.findIdx? fun e => p e.born) = l'.findIdx? fun e => p e.born
  | [], [], _ => rfl
  | [], _ :: _, h => h.elim
  | _ :: _, [], h => h.elim
  | e :: l, e' :: l', h => by
    rw [List.findIdx?_cons, List.findIdx?_cons, h.1.2.2, EntL.findIdx p h.2]

theorem EntL.find {γ : Gm} (p : Nat → Bool) : ∀ {l l' : List MapEntry}, EntL γ l l' →
    match l.find? (fun e => p e.born) with
    | none => l'.find? (fun e => p e.born) = none
    | some e => ∃ e', l'.find? (fun e => p e.born) = some e' ∧ VR γ e.key e'.key ∧ VR γ e.val e'.val ∧ e.born = e'.born
  | [], [], _ => rfl
  | [], _ :: _, h => h.elim
  | _ :: _, [], h => h.elim
  | e :: l, e' :: l', h => by
    have hb := h.1.2.2
    cases hp : p e.born with
    | true =>
      rw [List.find?_cons_of_pos (by simpa using hp), List.find?_cons_of_pos (by rw [← hb]; simpa using hp)]
      exact ⟨e', rfl, h.1⟩
    | false =>
      rw [List.find?_cons_of_neg (by simp [hp]), List.find?_cons_of_neg (by rw [← hb]; simp [hp])]
      exact EntL.find p h.2

theorem entryStoreA_good (h : HR γ g w) {t : TypeId} {m m' s s' x x' : Value} {e : Eff} (ho : entryStoreA m s x g = some e) (hm : VR γ m m') (hs : VR γ s s') (hx : VR γ x x') :
    OpGood T.P γ g w n (do Instr.entryStore t m' s' x'; Pure.pure Next.skip) undef e := by
  unfold entryStoreA at ho
  cases hb : blkOf m with
  | none => rw [hb] at ho; simp at ho
  | some r =>
    cases hi : intOf? s with
    | none => rw [hb, hi] at ho; simp at ho
    | some born =>
      cases hmp : map? (g r) with
      | none => rw [hb, hi] at ho; simp only [hmp] at ho; cases ho
      | some q =>
        obtain ⟨es, c⟩ := q
        rw [hb, hi] at ho
        simp only [hmp] at ho
        obtain ⟨b, es', rfl, hl, hB, hw, he, hgo⟩ := map_at h hb hmp hm
        obtain ⟨kk, rfl⟩ := intOf_some hi
        obtain rfl := hs.flat1_eq rfl
        cases hf : es.findIdx? (fun e => (e.born : Int) == born) with
        | none => rw [hf] at ho; cases ho
        | some i =>
          rw [hf] at ho
          simp only [Option.some.injEq] at ho
          subst ho
          have hf' : es'.findIdx? (fun e => (e.born : Int) == born) = some i := by
            have := EntL.findIdx (fun k => (k : Int) == born) he.list
            rw [hf] at this
            obtain ⟨l⟩ := es'
            rw [List.findIdx?_toArray]
            exact this.symm
          have hmod : EntR γ (es.modify i fun e => { e with val := x }) (es'.modify i fun e => { e with val := x' }) :=
            he.modify i _ _ fun a a' h1 h2 => by obtain ⟨y, _, zz⟩ := he.2 i a a' h1 h2; exact ⟨y, hx, zz⟩
          obtain ⟨q1, q2, q3⟩ := map_put (c2 := c) h hmp hl hB hw hmod
          refine ⟨undef, _, γ, .inr ⟨run_unit ?_, rfl⟩, Gm.Le.refl γ, fun _ _ => rfl, q1, VR.undef γ, q2⟩
          simp [Instr.entryStore, hgo, asInt, asIntOf, hf', q3]

theorem mapUpdateA_good (hT : TabOk T) (h : HR γ g w) {t : TypeId} {m m' k k' x x' : Value} {e : Eff} (ho : mapUpdateA T t m k x g = some e) (hm : VR γ m m') (hk : VR γ k k') (hx : VR γ x x') :
    OpGood T.P γ g w n (do Instr.mapUpdate t m' k' x'; Pure.pure Next.skip) undef e := by
  unfold mapUpdateA at ho
  cases hmt : mapTy T t with
  | none => rw [hmt] at ho; simp at ho
  | some p =>
    obtain ⟨kt, z⟩ := p
    cases hb : blkOf m with
    | none => rw [hmt, hb] at ho; simp at ho
    | some r =>
      cases hmp : map? (g r) with
      | none => rw [hmt, hb] at ho; simp only [hmp] at ho; cases ho
      | some q =>
        obtain ⟨es, c⟩ := q
        rw [hmt, hb] at ho
        simp only [hmp] at ho
        obtain ⟨b, es', rfl, hl, hB, hw, he, hgo⟩ := map_at h hb hmp hm
        obtain ⟨et, hu, hz⟩ := mapTy_some hT hmt
        unfold mapUpdateB at ho
        cases hf : findA T.P false kt k es with
        | none => rw [hf] at ho; simp at ho
        | some r' =>
          obtain ⟨rfl, hck, hfk⟩ := findA_run hf he hk
          have hflk : flat k' = true := by
            unfold findA at hf
            cases hc : (flat k' && es.all fun e => flat e.key) with
            | false => rw [hc] at hf; cases hf
            | true => simp only [Bool.and_eq_true] at hc; exact hc.1
          cases r' with
          | some i =>
            obtain ⟨y, y', he1, he2, hvv, hkk, hkf, hborn, hrun⟩ := hfk
            rw [hf] at ho
            simp only [he1] at ho
            cases hsb : Instr.sameBits 10000 y.key k' with
            | false => rw [hsb] at ho; cases ho
            | true =>
              rw [hsb] at ho
              simp only [cond_true, Option.some.injEq] at ho
              subst ho
              have hmod : EntR γ (es.modify i fun e => { e with key := k', val := x }) (es'.modify i fun e => { e with key := k', val := x' }) :=
                he.modify i _ _ fun a a' h1 h2 => by obtain ⟨_, _, zz⟩ := he.2 i a a' h1 h2; exact ⟨VR.of_flat hflk, hx, zz⟩
              obtain ⟨q1, q2, q3⟩ := map_put (c2 := c) h hmp hl hB hw hmod
              refine ⟨undef, _, γ, .inr ⟨run_unit ?_, rfl⟩, Gm.Le.refl γ, fun _ _ => rfl, q1, VR.undef γ, q2⟩
              have hstay : (Instr.keyThatStays y'.key k').run T.P w = .ok k' w := by simp [Instr.keyThatStays, hkk, hsb]
              simp [Instr.mapUpdate, run_und hu, hgo, hck, hrun, he2, hstay, q3]
          | none =>
            rw [hf] at ho
            simp only [Option.some.injEq] at ho
            subst ho
            have hpush : EntR γ (es ++ [{ key := k', val := x, born := c }]) (es'.push { key := k', val := x', born := c }) := he.push ⟨VR.of_flat hflk, hx, rfl⟩
            obtain ⟨q1, q2, q3⟩ := map_put (c2 := c + 1) h hmp hl hB hw hpush
            refine ⟨undef, _, γ, .inr ⟨run_unit ?_, rfl⟩, Gm.Le.refl γ, fun _ _ => rfl, q1, VR.undef γ, q2⟩
            simp [Instr.mapUpdate, run_und hu, hgo, hck, hfk, q3]

theorem makeMap_good (h : HR γ g w) (hn : γ.loc n = none) {t : TypeId} :
    OpGood T.P γ g w n (do Pure.pure (Next.value (← Instr.makeMap t none))) (.map (some n)) (.new (.map [] 0)) := by
  have hle := Gm.le_add (b := w.heap.size) (c := 0) hn
  refine ⟨.map (some w.heap.size), w.alloc (.map #[] 0), γ.add n w.heap.size 0, .inl (run_val (by simp [Instr.makeMap])), hle, fun k hk => Gm.add_loc_ne _ _ _ (fun e => Bool.noConfusion (hk e : true = false)), ?_, VR.map (Gm.add_loc _ _ _ _), Upd.new (obj := _) rfl rfl rfl rfl⟩
  refine HR.new (w := w) h hn (obj := _) rfl ⟨rfl, h.base, #[], ?_, rfl, by simp⟩
  show (w.heap.push _)[w.heap.size]? = _
  simp

/-- An iterator over a map, and its map. -/
theorem iter_at (h : HR γ g w) {it it' : Value} {r m since last c : Nat} {seen : List Nat} {es : List MapEntry} (ha : addr? it = some (r, 0)) (hg : g r = some (.iter m since seen last))
    (hm : map? (g m) = some (es, c)) (hv : VR γ it it') :
    ∃ b bm es', it' = .pointer (some ⟨b, 0, none⟩) ∧ γ.loc r = some (b, 0) ∧ γ.B ≤ b ∧ γ.loc m = some (bm, 0) ∧ w.heap[b]? = some (.mapIter (some bm) since seen.toArray last) ∧
      w.heap[bm]? = some (.map es' c) ∧ EntR γ es es' := by
  obtain ⟨b, d, hl, rfl⟩ := hv.addr ha
  obtain ⟨rfl, hB, bm, hlm, hw⟩ := h.blk r b d _ hg hl
  obtain ⟨_, _, es', hw', he⟩ := h.blk m bm 0 _ (map_some hm) hlm
  exact ⟨b, bm, es', rfl, hl, hB, hlm, hw, hw', he⟩

theorem entryA_good (h : HR γ g w) {it it' v : Value} {e : Eff} (ho : entryA it g = some (v, e)) (hv : VR γ it it') :
    OpGood T.P γ g w n (do Pure.pure (Next.value (← Instr.entry it'))) v e := by
  unfold entryA at ho
  split at ho
  · rename_i r ha
    cases hg : g r with
    | none => rw [hg] at ho; cases ho
    | some blk =>
      rw [hg] at ho
      cases blk with
      | iter m since seen stepped =>
        simp only at ho
        cases hs : seen.getLast? with
        | none => rw [hs] at ho; simp at ho
        | some stamp =>
          cases hm : map? (g m) with
          | none => rw [hs, hm] at ho; simp at ho
          | some q =>
            obtain ⟨es, clock⟩ := q
            rw [hs, hm] at ho
            simp only at ho
            cases hc : Nat.beq clock stepped with
            | false => rw [hc] at ho; cases ho
            | true =>
              rw [hc] at ho
              simp only [cond_true, Option.map_eq_some_iff, Prod.mk.injEq] at ho
              obtain ⟨x, hx, rfl, rfl⟩ := ho
              have hcc := Nat.eq_of_beq_eq_true hc
              subst hcc
              obtain ⟨b, bm, es', rfl, hl, hB, hlm, hw, hw', he⟩ := iter_at h ha hg hm hv
              have hf := EntL.find (fun k => k == stamp) he.list
              rw [hx] at hf
              obtain ⟨x', h1, h2, h3, _⟩ := hf
              have h1' : es'.find? (fun e => e.born == stamp) = some x' := by rw [← Array.find?_toList]; exact h1
              have hg1 : (getObj b).run T.P w = .ok (.mapIter (some bm) since seen.toArray clock) w := by simp [getObj, Sem.run, hw]
              have hg2 : (getObj bm).run T.P w = .ok (.map es' clock) w := by simp [getObj, Sem.run, hw']
              have hback : seen.toArray.back? = some stamp := by simpa using hs
              refine .pure h (run_val (v := .tuple #[x'.key, x'.val]) ?_) (VR.tuple_list (.cons h2 (.cons h3 (.nil γ))))
              simp [Instr.entry, hg1, hg2, hback, h1']
      | _ => cases ho
  · cases ho

theorem nextA_good (h : HR γ g w) {it it' : Value} {ty : TypeId} {L : List (Value × Eff)} (ho : nextA it g = some L) (hv : VR γ it it') :
    ∃ v e, (v, e) ∈ L ∧ OpGood T.P γ g w n (do Pure.pure (Next.value (← Instr.next it' false ty))) v e := by
  unfold nextA at ho
  split at ho
  · rename_i r
    cases hg : g r with
    | none => rw [hg] at ho; cases ho
    | some blk =>
      rw [hg] at ho
      cases blk with
      | iter m since seen last =>
        simp only at ho
        cases hm : map? (g m) with
        | none => rw [hm] at ho; cases ho
        | some q =>
          obtain ⟨es, clock⟩ := q
          rw [hm] at ho
          simp only at ho
          obtain ⟨b, bm, es', rfl, hl, hB, hlm, hw, hw', he⟩ := iter_at h rfl hg hm hv
          have hg1 : (getObj b).run T.P w = .ok (.mapIter (some bm) since seen.toArray last) w := by simp [getObj, Sem.run, hw]
          have hg2 : (getObj bm).run T.P w = .ok (.map es' clock) w := by simp [getObj, Sem.run, hw']
          unfold nextB at ho
          cases hgone : (!seen.isEmpty && !es.isEmpty && es.all (fun e => Nat.ble last e.born)) with
          | true => rw [hgone] at ho; cases ho
          | false =>
            rw [hgone] at ho
            simp only [cond_false, Option.some.injEq] at ho
            subst ho
            -- the model's own lists
            have hleft : EntL γ (es.filter fun e => !seen.contains e.born) (es'.filter fun e => !seen.toArray.contains e.born).toList := by
              rw [Array.toList_filter]
              have := EntL.filter (fun k => !seen.contains k) he.list
              simpa using this
            have hold : EntL γ ((es.filter fun e => !seen.contains e.born).filter fun e => decide (e.born < since)) ((es'.filter fun e => !seen.toArray.contains e.born).filter (·.born < since)).toList := by
              rw [Array.toList_filter]
              exact EntL.filter (fun k => decide (k < since)) hleft
            have hnew : EntL γ ((es.filter fun e => !seen.contains e.born).filter fun e => decide (e.born ≥ since)) ((es'.filter fun e => !seen.toArray.contains e.born).filter (·.born ≥ since)).toList := by
              rw [Array.toList_filter]
              exact EntL.filter (fun k => decide (k ≥ since)) hleft
            have hgone' : (!seen.toArray.isEmpty && !es'.isEmpty && es'.all (·.born ≥ last)) = false := by
              have h1 : es'.all (·.born ≥ last) = es.all (fun e => Nat.ble last e.born) := by
                rw [← Array.all_toList]
                have : ∀ {l l' : List MapEntry}, EntL γ l l' → l'.all (fun e => decide (e.born ≥ last)) = l.all (fun e => Nat.ble last e.born) := by
                  intro l
                  induction l with
                  | nil => intro l' hh; cases l' with
                    | nil => rfl
                    | cons => exact hh.elim
                  | cons a l ih => intro l' hh; cases l' with
                    | nil => exact hh.elim
                    | cons a' l' =>
                      simp only [List.all_cons, ih hh.2, ble_eq, ← hh.1.2.2]
                exact this he.list
              rw [h1, he.empty]
              have h2 : seen.toArray.isEmpty = seen.isEmpty := by cases seen <;> rfl
              rw [h2]; exact hgone
            generalize hO : (es.filter fun e => !seen.contains e.born).filter (fun e => decide (e.born < since)) = old at hold ⊢
            generalize hN : (es.filter fun e => !seen.contains e.born).filter (fun e => decide (e.born ≥ since)) = new at hnew ⊢
            generalize hO' : (es'.filter fun e => !seen.toArray.contains e.born).filter (·.born < since) = old' at hold
            generalize hN' : (es'.filter fun e => !seen.toArray.contains e.born).filter (·.born ≥ since) = new' at hnew
            have hboth := hold.append hnew
            have hempty : old'.isEmpty = old.isEmpty := by
              have := hold.len
              cases old with
              | nil =>
                have hz : old' = #[] := Array.eq_empty_of_size_eq_zero (by simpa using this.symm)
                subst hz; rfl
              | cons a l =>
                cases hx : old'.isEmpty with
                | false => rfl
                | true =>
                  have hz : old' = #[] := by simpa using hx
                  subst hz
                  simp at this
            -- the choice
            let cand : Array (Option MapEntry) := (if old'.isEmpty then #[none] else #[]) ++ (old' ++ new').map some
            have hpos : 0 < cand.size := by
              show 0 < ((if old'.isEmpty then #[none] else #[]) ++ (old' ++ new').map some).size
              cases hx : old'.isEmpty with
              | true => simp; omega
              | false =>
                have : 0 < old'.size := by
                  rcases Nat.eq_zero_or_pos old'.size with h0 | h0
                  · have : old' = #[] := Array.eq_empty_of_size_eq_zero h0
                    subst this; simp at hx
                  · exact h0
                simp; omega
            obtain ⟨i, w1, hi, hw1, hch⟩ : ∃ i w1, i < cand.size ∧ (w1 = w ∨ w1 = w.drew) ∧ (choose (.mapNext cand.size)).run T.P w = .ok i w1 := by
              by_cases hf : cand.size ≤ 1
              · refine ⟨0, w, hpos, .inl rfl, ?_⟩
                simp [choose, Sem.run, Question.forced, hf]
              · refine ⟨_, w.drew, Nat.mod_lt (w.tape w.drawn (.mapNext cand.size)) hpos, .inr rfl, ?_⟩
                have hf' : decide (cand.size ≤ 1) = false := decide_eq_false hf
                simp only [choose, Sem.run, Question.forced, hf', Bool.false_eq_true, if_false, Question.cut]
                rfl
            have hw1h : w1.heap = w.heap := by rcases hw1 with rfl | rfl <;> rfl
            have hw1o : w1.os = w.os ∧ w1.tape = w.tape ∧ w1.output = w.output := by rcases hw1 with rfl | rfl <;> exact ⟨rfl, rfl, rfl⟩
            have hH1 : HR γ g w1 := h.same hw1h
            have hU1 : Upd γ g w γ g w1 := Upd.heap hw1h hw1o.1 hw1o.2.1 hw1o.2.2
            obtain ⟨x, hx⟩ : ∃ x, cand[i]? = some x := ⟨_, Array.getElem?_eq_getElem hi⟩
            have hmain : ∀ u wu, (match x with
                | some e => (do setObj b (.mapIter (some bm) since (seen.toArray.push e.born) clock); Pure.pure (.tuple #[.bool true, e.key, e.val]) : Sem Value)
                | none => Pure.pure (.tuple #[.bool false])).run T.P w1 = .ok u wu → (Instr.next (.pointer (some ⟨b, 0, none⟩)) false ty).run T.P w = .ok u wu := by
              intro u wu hu
              have hx' : ((if old'.isEmpty = true then #[none] else #[]) ++ Array.map some (old' ++ new'))[i]? = some x := hx
              simp only [Instr.next, Sem.run_bind, hg1, Result.andThen_ok, hg2, hgone', Bool.false_eq_true, if_false, hO', hN']
              have hch' : (choose (.mapNext ((if old'.isEmpty = true then #[none] else #[]) ++ Array.map some (old' ++ new')).size)).run T.P w = .ok i w1 := hch
              rw [hch']
              simp only [Result.andThen_ok, hx']
              cases x with
              | none => exact hu
              | some e => simpa using hu
            by_cases hover : old'.isEmpty = true ∧ i = 0
            · -- no further entry
              obtain ⟨ho1, rfl⟩ := hover
              have hxn : x = none := by
                have hx' : ((if old'.isEmpty = true then #[none] else #[]) ++ Array.map some (old' ++ new'))[0]? = some x := hx
                rw [if_pos ho1] at hx'
                rw [Array.getElem?_append_left (by simp)] at hx'
                simpa using hx'.symm
              subst hxn
              refine ⟨.tuple #[.bool false], .none, ?_, ?_⟩
              · rw [← hempty, ho1]; simp
              · refine ⟨.tuple #[.bool false], w1, γ, .inl (run_val (hmain _ _ rfl)), Gm.Le.refl γ, fun _ _ => rfl, hH1, VR.tuple_list (l := [.bool false]) (VRL.of_flat rfl), hU1⟩
            · -- one more
              obtain ⟨j, e', hj, rfl⟩ : ∃ (j : Nat) (e' : MapEntry), (old'.toList ++ new'.toList)[j]? = some e' ∧ x = some e' := by
                have hx' : ((if old'.isEmpty = true then #[none] else #[]) ++ Array.map some (old' ++ new'))[i]? = some x := hx
                cases hox : old'.isEmpty with
                | true =>
                  rw [hox] at hx' hover
                  simp only [if_true] at hx'
                  have hi0 : i ≠ 0 := fun e => hover ⟨rfl, e⟩
                  rw [Array.getElem?_append_right (by simp; omega)] at hx'
                  simp only [List.size_toArray, List.length_cons, List.length_nil, Array.getElem?_map] at hx'
                  obtain ⟨e', h1, h2⟩ := Option.map_eq_some_iff.1 hx'
                  exact ⟨i - 1, e', by rw [← Array.toList_append, Array.getElem?_toList]; simpa using h1, h2.symm⟩
                | false =>
                  rw [hox] at hx'
                  simp only [Bool.false_eq_true, if_false, Array.empty_append, Array.getElem?_map] at hx'
                  obtain ⟨e', h1, h2⟩ := Option.map_eq_some_iff.1 hx'
                  exact ⟨i, e', by rw [← Array.toList_append, Array.getElem?_toList]; exact h1, h2.symm⟩
              obtain ⟨e, he1, hk, hvv, hborn⟩ := hboth.get hj
              have hset : (setObj b (.mapIter (some bm) since (seen.toArray.push e'.born) clock)).run T.P w1 = .ok () { w1 with heap := w1.heap.setIfInBounds b (.mapIter (some bm) since (seen.toArray.push e'.born) clock) } := by
                simp [setObj, Sem.run, hw1h, hw]
              have hwb : w1.heap[b]? = some (.mapIter (some bm) since seen.toArray last) := by rw [hw1h]; exact hw
              have hltb : b < w1.heap.size := (Array.getElem?_eq_some_iff.1 hwb).1
              obtain ⟨q1, q2, _⟩ := put_obj (a := .iter m since (seen ++ [e.born]) clock) (obj := .mapIter (some bm) since (seen.toArray.push e'.born) clock) hH1 hg rfl hl hwb rfl
                ⟨rfl, hB, bm, hlm, by rw [hborn]; simp [hltb]⟩
              refine ⟨.tuple #[.bool true, e.key, e.val], .put r (.iter m since (seen ++ [e.born]) clock), ?_, ?_⟩
              · refine List.mem_append.2 (.inr ?_)
                exact List.mem_map.2 ⟨e, List.mem_of_getElem? he1, rfl⟩
              · refine ⟨.tuple #[.bool true, e'.key, e'.val], _, γ, .inl (run_val (hmain _ _ (by simp only [Sem.run_bind, hset, Result.andThen_ok, Sem.run_pure]))), Gm.Le.refl γ, fun _ _ => rfl, q1,
                  VR.tuple_list (.cons (.flat rfl) (.cons hk (.cons hvv (.nil γ)))), ?_⟩
                exact hU1.trans q2
      | _ => cases ho
  · cases ho
end

end Go.RM
