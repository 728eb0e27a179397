/-
  The abstract machine: its operations are the model's, continued: cuts of slices, strings, maps. Lemmas alone.
-/
import Derived.Test.YtmkaeohmdcoanaaR8
namespace Go.RM
open Go.RowKit

section
variable {T : Tab} {γ : Gm} {g : Getter} {w : World} {n : Nat}

/-- Two optional operands. -/
def OptR (γ : Gm) : Option Value → Option Value → Prop
  | none, none => True
  | some a, some b => VR γ a b
  | _, _ => False

theorem sliceBounds_run {P : Program} {lo hi lo' hi' : Option Value} {l hv len c' : Nat} (hl : optNat 0 lo = some l) (hh : optNat len hi = some hv) (c1 : l ≤ hv) (c2 : hv ≤ len) (hc' : len ≤ c')
    (rlo : OptR γ lo lo') (rhi : OptR γ hi hi') : (Instr.sliceBounds true len c' lo' hi' none).run P w = .ok (l, hv, c') w := by
  have q1 : ((0 : Int) ≤ (hv : Int) ∧ (hv : Int) ≤ (c' : Int)) = True := eq_true (by omega)
  have q2 : ((0 : Int) ≤ (l : Int) ∧ (l : Int) ≤ (hv : Int)) = True := eq_true (by omega)
  cases lo with
  | none =>
    cases lo' with
    | some _ => exact rlo.elim
    | none =>
      simp only [optNat, Option.some.injEq] at hl
      subst hl
      cases hi with
      | none =>
        cases hi' with
        | some _ => exact rhi.elim
        | none =>
          simp only [optNat, Option.some.injEq] at hh
          subst hh
          simp [Instr.sliceBounds]
      | some a =>
        cases hi' with
        | none => exact rhi.elim
        | some a' =>
          obtain ⟨kk, rfl⟩ := natOf_some hh
          obtain rfl := VR.flat1_eq rhi rfl
          simp only [Instr.sliceBounds, Instr.sliceBound, asIntOf, Sem.run_bind, Sem.run_pure, Result.andThen_ok, if_true, Int.toNat_natCast, q1]
  | some b =>
    cases lo' with
    | none => exact rlo.elim
    | some b' =>
      obtain ⟨kk, rfl⟩ := natOf_some hl
      obtain rfl := VR.flat1_eq rlo rfl
      cases hi with
      | none =>
        cases hi' with
        | some _ => exact rhi.elim
        | none =>
          simp only [optNat, Option.some.injEq] at hh
          subst hh
          simp only [Instr.sliceBounds, Instr.sliceBound, asIntOf, Sem.run_bind, Sem.run_pure, Result.andThen_ok, Option.isSome_none, Bool.false_eq_true, if_false, if_true, Int.toNat_natCast, q2]
      | some a =>
        cases hi' with
        | none => exact rhi.elim
        | some a' =>
          obtain ⟨kk, rfl⟩ := natOf_some hh
          obtain rfl := VR.flat1_eq rhi rfl
          simp only [Instr.sliceBounds, Instr.sliceBound, asIntOf, Sem.run_bind, Sem.run_pure, Result.andThen_ok, Option.isSome_none, Bool.false_eq_true, if_false, if_true, Int.toNat_natCast, q1, q2]

theorem sliceA_good (hT : TabOk T) (h : HR γ g w) {t : TypeId} {x x' : Value} {lo hi lo' hi' : Option Value} {v : Value}
    (ho : sliceA T t x lo hi = some v) (hx : VR γ x x') (rlo : OptR γ lo lo') (rhi : OptR γ hi hi') :
    OpGood T.P γ g w n (do Pure.pure (Next.value (← Instr.sliceAt t x' lo' hi' none))) v .none := by
  unfold sliceA at ho
  cases he : elem? T t with
  | none => rw [he] at ho; cases ho
  | some inf =>
    rw [he] at ho
    simp only at ho
    obtain ⟨el, i, hut, hii, hsz, _, _⟩ := elem_some hT he
    cases x with
    | slice base len cp =>
      simp only at ho
      cases hl : optNat 0 lo with
      | none => rw [hl] at ho; cases ho
      | some l =>
        cases hh : optNat len hi with
        | none => rw [hl, hh] at ho; cases ho
        | some hv =>
          rw [hl, hh] at ho
          simp only at ho
          cases hcd : (Nat.ble l hv && Nat.ble hv len && Nat.ble 1 inf.size) with
          | false => rw [hcd] at ho; cases ho
          | true =>
            rw [hcd] at ho
            simp only [cond_true] at ho
            simp only [Bool.and_eq_true] at hcd
            have c1 := Nat.le_of_ble_eq_true hcd.1.1
            have c2 := Nat.le_of_ble_eq_true hcd.1.2
            -- the bounds, as the model takes them
            have bounds : ∀ c', len ≤ c' → (Instr.sliceBounds true len c' lo' hi' none).run T.P w = .ok (l, hv, c') w := fun c' hc' => sliceBounds_run hl hh c1 c2 hc' rlo rhi
            have run : ∀ (a' : Option Addr) (c' : Nat), len ≤ c' → (Instr.sliceAt t (.slice a' len c') lo' hi' none).run T.P w = .ok (.slice (if c' = l then a' else a'.map (·.add (l * inf.size))) (hv - l) (c' - l)) w := by
              intro a' c' hc'
              simp only [Instr.sliceAt, Instr.slice, Sem.run_bind, run_und hut, Result.andThen_ok, bounds c' hc', run_size hii, hsz, Sem.run_pure]
            cases base with
            | none =>
              simp only at ho
              cases hz : (Nat.beq len 0 && Nat.beq cp 0) with
              | false => rw [hz] at ho; cases ho
              | true =>
                rw [hz] at ho
                simp only [cond_true, Option.some.injEq] at ho
                subst ho
                simp only [Bool.and_eq_true] at hz
                have z1 := Nat.eq_of_beq_eq_true hz.1
                have z2 := Nat.eq_of_beq_eq_true hz.2
                subst z1
                subst z2
                obtain rfl := hx.flat1_eq rfl
                have e1 : hv = 0 := by omega
                have e2 : l = 0 := by omega
                subst e1
                subst e2
                exact .pure h (run_val (by rw [run none 0 (Nat.le_refl _)]; simp)) (.flat rfl)
            | some ad =>
              obtain ⟨k, o, sp⟩ := ad
              cases sp with
              | some s => cases ho
              | none =>
                simp only [Option.some.injEq] at ho
                subst ho
                -- the capacity that is told of the cut
                have told : ∀ c', len ≤ c' → (cp = len → c' = len) →
                    ((bif Nat.beq hv len && Nat.beq cp len then hv - l else hv - l + 2) = hv - l → c' - l = hv - l) ∧ (bif Nat.beq hv len && Nat.beq cp len then hv - l else hv - l + 2) ≠ hv - l + 1 := by
                  intro c' hc' ht
                  cases hb : (Nat.beq hv len && Nat.beq cp len) with
                  | true =>
                    simp only [Bool.and_eq_true] at hb
                    have b1 := Nat.eq_of_beq_eq_true hb.1
                    have b2 := Nat.eq_of_beq_eq_true hb.2
                    have := ht b2
                    simp only [cond_true]
                    exact ⟨fun _ => by omega, by omega⟩
                  | false => simp only [cond_false]; exact ⟨fun e => by omega, by omega⟩
                cases hx with
                | flat hf => simp [flat1] at hf
                | slice0 hne ht0 =>
                  rename_i c' a'
                  have e1 : hv = 0 := by omega
                  have e2 : l = 0 := by omega
                  subst e1
                  subst e2
                  have tl := told c' (Nat.zero_le _) (fun e => ht0 e)
                  refine .pure h (run_val (run (some a') c' (Nat.zero_le _))) ?_
                  have hsome : ∃ a'', (if c' = 0 then some a' else (some a').map (·.add (0 * inf.size))) = some a'' := by split <;> exact ⟨_, rfl⟩
                  obtain ⟨a'', ha''⟩ := hsome
                  rw [ha'']
                  exact VR.slice0 (fun e => tl.2 (by simpa using e)) (fun e => by have := tl.1 (by simpa using e); simpa using this)
                | slice hl' hn ht hlo' =>
                  rename_i b d c'
                  have tl := told c' hn ht
                  refine .pure h (run_val (run _ c' hn)) ?_
                  by_cases hcl : c' = l
                  · rw [if_pos hcl]
                    have e1 : hv - l = 0 := by omega
                    rw [e1] at tl ⊢
                    exact VR.slice0 (fun e => tl.2 (by simpa using e)) (fun e => by have := tl.1 e; simpa using this)
                  · rw [if_neg hcl, Option.map_some, Addr.add_lit, Nat.add_assoc]
                    exact VR.slice hl' (by omega) tl.1 (fun e => absurd e tl.2)
    | _ => cases ho

theorem rangeStr_good (hT : TabOk T) (h : HR γ g w) {t : TypeId} {x x' v : Value} {e : Eff} (hn : e.news = true → γ.loc n = none) (ho : rangeA T n t x g = some (v, e)) (hx : VR γ x x') :
    OpGood T.P γ g w n (do Pure.pure (Next.value (← Instr.range t x'))) v e := by
  unfold rangeA at ho
  split at ho
  · rename_i kt et _ _ _ _ _ _ m hty
    cases hm : map? (g m) with
    | none => rw [hm] at ho; cases ho
    | some p =>
      obtain ⟨es, clock⟩ := p
      rw [hm] at ho
      simp only [Option.some.injEq, Prod.mk.injEq] at ho
      obtain ⟨rfl, rfl⟩ := ho
      obtain ⟨i, _, _, _, _, hu, _⟩ := hT.ty t _ hty
      have hgr : g m = some (.map es clock) := by
        unfold map? at hm
        split at hm
        · simp at hm; obtain ⟨rfl, rfl⟩ := hm; assumption
        · cases hm
      cases hx with
      | flat hf => simp [flat1] at hf
      | map hl =>
        rename_i b
        obtain ⟨_, _, es', hw, _⟩ := h.blk m b 0 _ hgr hl
        have hle := Gm.le_add (b := w.heap.size) (c := 0) (hn rfl)
        have hrun : (Instr.range t (.map (some b))).run T.P w = .ok (.pointer (some ⟨w.heap.size, 0, none⟩)) (w.alloc (.mapIter (some b) clock #[] clock)) := by
          have hgo : (getObj b).run T.P w = .ok (.map es' clock) w := by simp [getObj, Sem.run, hw]
          simp [Instr.range, run_und hu, hgo]
        refine ⟨_, _, γ.add n w.heap.size 0, .inl (run_val hrun), hle, fun k hk => Gm.add_loc_ne _ _ _ (fun e => Bool.noConfusion (hk e : true = false)), ?_, VR.ptr (o := 0) (Gm.add_loc _ _ _ _), Upd.new (obj := _) rfl rfl rfl rfl⟩
        refine HR.new (w := w) h (hn rfl) (obj := _) rfl ⟨rfl, h.base, b, hle.loc _ _ hl, ?_⟩
        show (w.heap.push _)[w.heap.size]? = _
        simp
  · rename_i s hty
    simp only [Option.some.injEq, Prod.mk.injEq] at ho
    obtain ⟨rfl, rfl⟩ := ho
    obtain ⟨i, _, _, _, _, hu, _⟩ := hT.ty t _ hty
    obtain rfl := hx.flat1_eq rfl
    have hle := Gm.le_add (b := w.heap.size) (c := 0) (hn rfl)
    have hrun : (Instr.range t (.string s)).run T.P w = .ok (.pointer (some ⟨w.heap.size, 0, none⟩)) (w.alloc (.stringIter s 0)) := by
      simp [Instr.range, run_und hu]
    refine ⟨_, _, γ.add n w.heap.size 0, .inl (run_val hrun), hle, fun k hk => Gm.add_loc_ne _ _ _ (fun e => Bool.noConfusion (hk e : true = false)), ?_, VR.ptr (o := 0) (Gm.add_loc _ _ _ _), Upd.new (obj := _) rfl rfl rfl rfl⟩
    refine HR.new (w := w) h (hn rfl) (obj := _) rfl ⟨rfl, h.base, ?_⟩
    show (w.heap.push _)[w.heap.size]? = _
    simp
  · cases ho

/-- An object of the call's own is written. -/
theorem put_obj {k b : Nat} {a0 a : ABlk} {obj0 obj : Obj} (h : HR γ g w) (h0 : g k = some a0) (ho : a0.own = true) (hl : γ.loc k = some (b, 0)) (hw : w.heap[b]? = some obj0)
    (hown : a.own = true) (ha : BlkR γ (w.heap.setIfInBounds b obj) k b 0 a) :
    HR γ (upd g k a) { w with heap := w.heap.setIfInBounds b obj } ∧ Upd γ g w γ (upd g k a) { w with heap := w.heap.setIfInBounds b obj } ∧ (w.heap.setIfInBounds b obj)[b]? = some obj := by
  have hlt : b < w.heap.size := (Array.getElem?_eq_some_iff.1 hw).1
  have hsz : (w.heap.setIfInBounds b obj).size = w.heap.size := by simp
  have hne : ∀ i, i ≠ b → (w.heap.setIfInBounds b obj)[i]? = w.heap[i]? := fun i hi => Array.getElem?_setIfInBounds_ne (Ne.symm hi)
  exact ⟨h.put h0 ho hl hsz hne (.inl hown) ha, Upd.put h0 ho hl rfl rfl rfl hsz hne, by simp [hlt]⟩

theorem nextStrA_good (h : HR γ g w) {x x' v : Value} {e : Eff} {ty : TypeId} (ho : nextStrA x g = some (v, e)) (hx : VR γ x x') :
    OpGood T.P γ g w n (do Pure.pure (Next.value (← Instr.next x' true ty))) v e := by
  unfold nextStrA at ho
  split at ho
  · rename_i r hk
    cases hg : g r with
    | none => rw [hg] at ho; cases ho
    | some blk =>
      rw [hg] at ho
      cases blk with
      | siter s pos =>
        simp only at ho
        obtain ⟨b, d, hl, rfl⟩ := hx.addr hk
        obtain ⟨rfl, hB, hw⟩ := h.blk r b d _ hg hl
        have hgo : (getObj b).run T.P w = .ok (.stringIter s pos) w := by simp [getObj, Sem.run, hw]
        cases hc : Nat.blt pos s.data.toList.length with
        | true =>
          rw [hc] at ho
          simp only [cond_true, Option.some.injEq, Prod.mk.injEq] at ho
          obtain ⟨rfl, rfl⟩ := ho
          have hlt : pos < s.size := Nat.le_of_ble_eq_true hc
          have hset : (setObj b (.stringIter s (pos + (Utf8.decode s pos).2))).run T.P w = .ok () { w with heap := w.heap.setIfInBounds b (.stringIter s (pos + (Utf8.decode s pos).2)) } := by simp [setObj, Sem.run, hw]
          obtain ⟨q1, q2, q3⟩ := put_obj (a := .siter s (pos + (Utf8.decode s pos).2)) (obj := .stringIter s (pos + (Utf8.decode s pos).2)) h hg rfl hl hw rfl ⟨rfl, hB, by simp [(Array.getElem?_eq_some_iff.1 hw).1]⟩
          refine ⟨.tuple #[.bool true, .int .i64 pos, .int .i32 (Utf8.decode s pos).1], _, γ, .inl (run_val ?_), Gm.Le.refl γ, fun _ _ => rfl, q1, ?_, q2⟩
          · simp [Instr.next, hgo, hlt, hset, goInt]
          · exact VR.tuple_list (l := [.bool true, .int .i64 pos, .int .i32 (Utf8.decode s pos).1]) (VRL.of_flat rfl)
        | false =>
          rw [hc] at ho
          simp only [cond_false, Option.some.injEq, Prod.mk.injEq] at ho
          obtain ⟨rfl, rfl⟩ := ho
          have hlt : ¬ (pos < s.size) := fun e => by
            have : Nat.blt pos s.data.toList.length = true := Nat.ble_eq_true_of_le e
            rw [this] at hc; cases hc
          refine .pure h (run_val (v := .tuple #[.bool false]) ?_) (VR.tuple_list (l := [.bool false]) (VRL.of_flat rfl))
          simp [Instr.next, hgo, hlt]
      | _ => cases ho
  · cases ho
end

end Go.RM
