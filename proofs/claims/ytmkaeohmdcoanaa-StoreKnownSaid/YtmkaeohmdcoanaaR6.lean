/-
  The abstract machine: its operations are the model's, continued: sums and comparisons, aggregates, slices. Lemmas alone.
-/
import Derived.Test.YtmkaeohmdcoanaaR5
namespace Go.RM
open Go.RowKit

section
variable {T : Tab} {γ : Gm} {g : Getter} {w : World} {n : Nat}

theorem slowBin_good (h : HR γ g w) {o : BinOp} {t : TypeId} {x y : Operand} {a a' b b' v : Value} {e : Eff} (ho : slowBin T.P o t x y a b = some (v, e)) (ha : VR γ a a') (hb : VR γ b b') :
    OpGood T.P γ g w n (do Pure.pure (Next.value (← (do eqGuard o t x y a' b'; binOp o t a' b')))) v e := by
  unfold slowBin at ho
  cases hf : (flat a && flat b) with
  | false => rw [hf] at ho; cases ho
  | true =>
    rw [hf] at ho
    simp only [Bool.and_eq_true] at hf
    rw [ha.flat_eq hf.1, hb.flat_eq hf.2]
    exact OpGood.reckon h ho

theorem fastBin_run {P : Program} {o : BinOp} {m k : Int} {v : Value} (h : fastBin o m k = some v) (t : TypeId) (x y : Operand) (w : World) :
    flat v = true ∧ (do eqGuard o t x y (.int .i64 m) (.int .i64 k); binOp o t (.int .i64 m) (.int .i64 k) : Sem Value).run P w = .ok v w := by
  have wrapped : ∀ {c : Int} {v : Value}, wrapOk c = some v → v = .int .i64 c ∧ IntKind.i64.wrap c = c := fun {c v} hw => by
    unfold wrapOk at hw
    cases hc : inI64 c with
    | false => rw [hc] at hw; cases hw
    | true => rw [hc] at hw; simp at hw; exact ⟨hw.symm, IntWalk.i64_in c (inI64_iff hc)⟩
  cases o <;> simp only [fastBin] at h <;> first
    | (obtain ⟨rfl, e⟩ := wrapped h; exact ⟨rfl, by simp [eqGuard, binOp, Op.intArith]; exact e⟩)
    | (cases h; refine ⟨rfl, ?_⟩; simp [eqGuard, binOp, Op.intCmp, leI_eq, ltI_eq, eqI_eq, bne, BEq.beq])
    | cases h

theorem binA_good (h : HR γ g w) {o : BinOp} {t : TypeId} {x y : Operand} {a a' b b' v : Value} {e : Eff} (ho : binA T.P o t x y a b = some (v, e)) (ha : VR γ a a') (hb : VR γ b b') :
    OpGood T.P γ g w n (do Pure.pure (Next.value (← (do eqGuard o t x y a' b'; binOp o t a' b')))) v e := by
  unfold binA at ho
  split at ho
  · rename_i m k
    cases hf : fastBin o m k with
    | none => rw [hf] at ho; exact slowBin_good h ho ha hb
    | some u =>
      rw [hf] at ho
      simp only [Option.some.injEq, Prod.mk.injEq] at ho
      obtain ⟨rfl, rfl⟩ := ho
      obtain rfl := ha.flat1_eq rfl
      obtain rfl := hb.flat1_eq rfl
      obtain ⟨h1, h2⟩ := fastBin_run (P := T.P) hf t x y w
      exact .pure h (run_val h2) (VR.of_flat h1)
  · exact slowBin_good h ho ha hb

theorem flat_all {γ : Gm} : ∀ {l l' : List Value}, VRL γ l l' → l.all flat = true → l' = l
  | [], [], _, _ => rfl
  | [], _ :: _, h, _ => by simp [VRL] at h
  | _ :: _, [], h, _ => by simp [VRL] at h
  | v :: l, v' :: l', h, hf => by
    simp only [List.all_cons, Bool.and_eq_true] at hf
    have h1 := VR.flat_eq (h.2 0 v v' rfl rfl) hf.1
    have h2 : VRL γ l l' := ⟨by simpa using h.1, fun i a a' x y => h.2 (i + 1) a a' (by simpa using x) (by simpa using y)⟩
    rw [h1, flat_all h2 hf.2]

theorem minA_good (h : HR γ g w) {l l' : List Value} {tys : Array TypeId} {ty : TypeId} {v : Value} {e : Eff} (ho : minA T.P l = some (v, e)) (hl : VRL γ l l') :
    OpGood T.P γ g w n (do Pure.pure (Next.value (← Builtin.min_ tys ty l'.toArray))) v e := by
  unfold minA at ho
  split at ho
  · rename_i x y
    simp only [Option.some.injEq, Prod.mk.injEq] at ho
    obtain ⟨rfl, rfl⟩ := ho
    obtain rfl := flat_all hl rfl
    refine .pure h (run_val (v := .int .i64 (if y < x then y else x)) ?_) ?_
    · simp [Builtin.min_, Builtin.min2]
    · rw [ltI_eq]
      by_cases hxy : y < x <;> simp [hxy] <;> exact .flat rfl
  · cases hf : l.all flat with
    | false => rw [hf] at ho; cases ho
    | true =>
      rw [hf] at ho
      obtain rfl := flat_all hl hf
      exact OpGood.reckon h ho

theorem maxA_good (h : HR γ g w) {l l' : List Value} {tys : Array TypeId} {ty : TypeId} {v : Value} {e : Eff} (ho : maxA T.P l = some (v, e)) (hl : VRL γ l l') :
    OpGood T.P γ g w n (do Pure.pure (Next.value (← Builtin.max_ tys ty l'.toArray))) v e := by
  unfold maxA at ho
  split at ho
  · rename_i x y
    simp only [Option.some.injEq, Prod.mk.injEq] at ho
    obtain ⟨rfl, rfl⟩ := ho
    obtain rfl := flat_all hl rfl
    refine .pure h (run_val (v := .int .i64 (if y > x then y else x)) ?_) ?_
    · simp [Builtin.max_, Builtin.max2]
    · rw [ltI_eq]
      by_cases hxy : x < y <;> simp [hxy] <;> exact .flat rfl
  · cases hf : l.all flat with
    | false => rw [hf] at ho; cases ho
    | true =>
      rw [hf] at ho
      obtain rfl := flat_all hl hf
      exact OpGood.reckon h ho

theorem nilCheckA_some {x v : Value} {e : Eff} (ho : nilCheckA x = some (v, e)) : ∃ a, x = .pointer (some a) ∧ v = .pointer (some a) ∧ e = .none := by
  unfold nilCheckA at ho
  split at ho
  · simp only [Option.some.injEq, Prod.mk.injEq] at ho
    exact ⟨_, rfl, ho.1.symm, ho.2.symm⟩
  · cases ho

/-! ### Aggregates -/

def PartsR (γ : Gm) (l l' : List (Nat × Value)) : Prop := l.length = l'.length ∧ ∀ (i : Nat) (p p' : Nat × Value), l[i]? = some p → l'[i]? = some p' → p.1 = p'.1 ∧ VR γ p.2 p'.2

theorem PartsR.tail {γ : Gm} {p p' : Nat × Value} {l l' : List (Nat × Value)} (h : PartsR γ (p :: l) (p' :: l')) : PartsR γ l l' :=
  ⟨by simpa using h.1, fun i a a' x y => h.2 (i + 1) a a' (by simpa using x) (by simpa using y)⟩

theorem foldl_splice (c : List Value) : ∀ (cs : Array Value) (off k : Nat), off + k + c.length ≤ cs.size →
    ((c.zipIdx k).foldl (fun cs (p : Value × Nat) => cs.setIfInBounds (off + p.2) p.1) cs).toList = splice cs.toList c (off + k) := by
  induction c with
  | nil => intro cs off k h; simp [splice]
  | cons v rest ih =>
    intro cs off k h
    simp only [List.length_cons] at h
    rw [List.zipIdx_cons, List.foldl_cons, ih _ off (k + 1) (by simp; omega)]
    apply List.ext_getElem?
    intro j
    rw [getElem?_splice _ _ _ _ (by simp; omega), getElem?_splice _ _ _ _ (by simp; omega), Array.toList_setIfInBounds]
    simp only [List.length_cons]
    by_cases h1 : j < off + k
    · rw [if_pos (by omega), if_pos h1, List.getElem?_set_ne (by omega)]
    · rw [if_neg h1]
      by_cases h2 : j = off + k
      · subst h2
        rw [if_pos (by omega), if_pos (by omega), List.getElem?_set_self (by simp; omega)]
        simp
      · rw [if_neg (by omega)]
        by_cases h3 : j < off + (k + 1) + rest.length
        · rw [if_pos h3, if_pos (by omega), show j - (off + k) = (j - (off + (k + 1))) + 1 from by omega]
          simp
        · rw [if_neg h3, if_neg (by omega), List.getElem?_set_ne (by omega)]

theorem fill_good {place place' : Nat → Option (Nat × Nat)} (hp : ∀ i x, place i = some x → place' i = some x) :
    ∀ {parts parts' : List (Nat × Value)} {cs out : List Value} {cs' : Array Value}, fillA place cs parts = some out → PartsR γ parts parts' → VRL γ cs cs'.toList →
      ∃ out', Instr.fill place' cs' parts' = some out' ∧ VRL γ out out'.toList ∧ out'.size = cs'.size
  | [], [], cs, out, cs', h, _, hv => by
    simp only [fillA, Option.some.injEq] at h
    subst h
    exact ⟨cs', rfl, hv, rfl⟩
  | [], _ :: _, _, _, _, _, h, _ => by simp [PartsR] at h
  | _ :: _, [], _, _, _, _, h, _ => by simp [PartsR] at h
  | (i, v) :: rest, (i', v') :: rest', cs, out, cs', h, hr, hv => by
    obtain ⟨rfl, hvv⟩ := hr.2 0 _ _ rfl rfl
    simp only [fillA] at h
    cases hpi : place i with
    | none => rw [hpi] at h; cases h
    | some os =>
      obtain ⟨off, size⟩ := os
      rw [hpi] at h
      simp only at h
      cases hc : (Nat.beq v.cells.toList.length size && Nat.ble (off + size) cs.length) with
      | false => rw [hc] at h; cases h
      | true =>
        rw [hc] at h
        simp only [Bool.and_eq_true] at hc
        have h1 := Nat.eq_of_beq_eq_true hc.1
        have h2 := Nat.le_of_ble_eq_true hc.2
        have hcl := hvv.cells
        have h1' : v'.cells.size = size := by rw [← h1, hcl.1]; simp
        have h2' : off + size ≤ cs'.size := by have := hv.1; simp at this; omega
        have hsp := foldl_splice v'.cells.toList cs' off 0 (by simp only [Array.length_toList]; omega)
        simp only [Nat.add_zero] at hsp
        have hv2 : VRL γ (splice cs v.cells.toList off) ((v'.cells.toList.zipIdx 0).foldl (fun cs (p : Value × Nat) => cs.setIfInBounds (off + p.2) p.1) cs').toList := by
          rw [hsp]; exact hv.splice hcl off
        obtain ⟨out', e1, e2, e3⟩ := fill_good hp h hr.tail hv2
        have hsz : ((v'.cells.toList.zipIdx 0).foldl (fun cs (p : Value × Nat) => cs.setIfInBounds (off + p.2) p.1) cs').size = cs'.size := by
          have := congrArg List.length hsp
          rw [length_splice _ _ _ (by simp only [Array.length_toList]; omega)] at this
          simpa using this
        refine ⟨out', ?_, e2, e3.trans hsz⟩
        have hcond : (decide (v'.cells.size ≠ size) || decide (off + v'.cells.size > cs'.size)) = false := by
          rw [Bool.or_eq_false_iff]; exact ⟨decide_eq_false (by omega), decide_eq_false (by omega)⟩
        have hz : Array.foldl (fun cs (p : Value × Nat) => cs.setIfInBounds (off + p.2) p.1) cs' v'.cells.zipIdx = (v'.cells.toList.zipIdx 0).foldl (fun cs (p : Value × Nat) => cs.setIfInBounds (off + p.2) p.1) cs' := by
          rw [← Array.foldl_toList, Array.toList_zipIdx]
        simp only [Instr.fill, hp i _ hpi, hcond, Bool.false_eq_true, if_false]
        rw [← e1, ← hz]

theorem run_mapM_places {P : Program} (f : Field → Nat × Nat) (w : World) : ∀ (l : List Field), (∀ x ∈ l, ∃ i, P.info? x.type = some i ∧ f x = (x.offset, i.size)) →
    (l.mapM (m := Sem) fun x => do Pure.pure (x.offset, ← sizeOf x.type)).run P w = .ok (l.map f) w := by
  intro l
  induction l with
  | nil => intro _; rfl
  | cons x l ih =>
    intro h
    obtain ⟨i, hi, hf⟩ := h x (by simp)
    rw [List.mapM_cons]
    have ih' := ih (fun y hy => h y (by simp [hy]))
    simp only [Sem.run_bind, run_size hi, Result.andThen_ok, Sem.run_pure, ih', List.map_cons, hf]

theorem buildA_good (hT : TabOk T) (h : HR γ g w) {t : TypeId} {parts parts' : List (Nat × Value)} {v : Value} {e : Eff} (ho : buildA T t parts = some (v, e)) (hp : PartsR γ parts parts') :
    OpGood T.P γ g w n (do Pure.pure (Next.value (← Instr.build t parts'.toArray))) v e := by
  unfold buildA at ho
  cases hty : T.ty.get t with
  | none => rw [hty] at ho; cases ho
  | some r =>
    obtain ⟨i, hi, hsz, _, hz, hu, hm⟩ := hT.ty t r hty
    obtain ⟨und, s, bytes, zero, agg, flds, esz⟩ := r
    rw [hty] at ho
    simp only at hz hu hm
    cases zero with
    | none => cases ho
    | some z =>
      cases agg with
      | false => cases ho
      | true =>
        simp only at ho
        cases hc : z.cells.toList.all flat1 with
        | false => rw [hc] at ho; cases ho
        | true =>
          rw [hc] at ho
          simp only [cond_true, Option.map_eq_some_iff, Prod.mk.injEq] at ho
          obtain ⟨out, hfill, rfl, rfl⟩ := ho
          have hv0 : VRL γ z.cells.toList z.cells.toList := VRL.of_flat hc
          cases und with
          | struct fs =>
            obtain ⟨_, hlen, hf⟩ := hm
            have hmap : ∀ x ∈ fs.toList, ∃ i, T.P.info? x.type = some i ∧ (fun x : Field => (x.offset, T.P.cellsOf x.type)) x = (x.offset, i.size) := fun x hx => by
              obtain ⟨j, hj⟩ := List.mem_iff_getElem?.1 hx
              obtain ⟨i', h1, _⟩ := hf j x (by simpa using hj)
              exact ⟨i', h1, by simp [Program.cellsOf, h1]⟩
            have hplaces := run_mapM_places (P := T.P) _ w fs.toList hmap
            obtain ⟨out', e1, e2, _⟩ := fill_good (γ := γ) (place := buildPlace (.struct fs) flds esz) (place' := fun j => ((fs.toList.map fun x : Field => (x.offset, T.P.cellsOf x.type)).toArray)[j]?) (by
              intro j x hx
              simp only [buildPlace] at hx
              have hjl : j < fs.size := by rw [← hlen]; exact (List.getElem?_eq_some_iff.1 hx).1
              obtain ⟨i', h1, h2⟩ := hf j fs[j] (Array.getElem?_eq_getElem hjl)
              rw [hx] at h2
              simp only [Option.some.injEq] at h2
              subst h2
              simp [hjl, Program.cellsOf, h1]) hfill hp hv0
            refine .pure h (run_val (v := .agg out') ?_) (by have := VR.agg_list e2; simpa using this)
            have hpl : (fs.mapM (m := Sem) fun f => do Pure.pure (f.offset, ← sizeOf f.type)).run T.P w = .ok ((fs.toList.map fun x : Field => (x.offset, T.P.cellsOf x.type)).toArray) w := by
              rw [Array.mapM_eq_mapM_toList]
              simp only [Sem.run_map, hplaces, Result.andThen_ok]
            simp only [Instr.build, Sem.run_bind, run_zero hi hz, Result.andThen_ok, run_und hu, hpl, e1, Sem.run_pure]
          | array len el =>
            obtain ⟨_, i', hi', he⟩ := hm
            obtain ⟨out', e1, e2, _⟩ := fill_good (γ := γ) (place := buildPlace (.array len el) flds esz) (place' := fun j => some (j * i'.size, i'.size)) (by
              intro j x hx
              simp only [buildPlace] at hx
              rw [← hx, he]) hfill hp hv0
            refine .pure h (run_val (v := .agg out') ?_) (by have := VR.agg_list e2; simpa using this)
            simp only [Instr.build, Sem.run_bind, run_zero hi hz, Result.andThen_ok, run_und hu, run_size hi', e1, Sem.run_pure]
          | _ => exact absurd hm (by simp)
end

end Go.RM
