/-
  The abstract machine: its operations are the model's. Lemmas alone; no condition but that the tables are the program's.
-/
import Derived.Test.YtmkaeohmdcoanaaR3
namespace Go.RM

structure TabOk (T : Tab) : Prop where
  ty : ∀ t r, T.ty.get t = some r → ∃ i, T.P.info? t = some i ∧ i.size = r.size ∧ i.bytes = r.bytes ∧ i.zero = r.zero ∧ T.P.underlying t = some r.und ∧
    (match r.und with
      | .struct fs => r.agg = true ∧ r.flds.length = fs.size ∧ ∀ (j : Nat) (f : Field), fs[j]? = some f → ∃ i', T.P.info? f.type = some i' ∧ r.flds[j]? = some (f.offset, i'.size)
      | .array _ e => r.agg = true ∧ ∃ i', T.P.info? e = some i' ∧ r.esz = i'.size
      | .slice e => r.agg = false ∧ ∃ i', T.P.info? e = some i' ∧ r.esz = i'.size
      | _ => r.agg = false)
  fn : ∀ f fn, T.fn.get f = some fn → T.P.funcs[f]? = some fn ∧ (fn.name == "runtime.NumGoroutine") = false ∧ ∀ c, fn.body = some c → codeOk fn.ntmps c = true

/-- Does it lay a new block. -/
def Eff.news : Eff → Bool
  | .new _ | .app .. => true
  | _ => false

def OpGood (P : Program) (γ : Gm) (g : Getter) (w : World) (n : Nat) (s : Sem Next) (v : Value) (e : Eff) : Prop :=
  ∃ v' w' γ', (s.run P w = .ok (.value v') w' ∨ (s.run P w = .ok .skip w' ∧ v' = undef)) ∧ γ.Le γ' ∧ (∀ k, (k = n → e.news = false) → γ'.loc k = γ.loc k) ∧
    HR γ' (e.on n g) w' ∧ VR γ' v v' ∧ Upd γ g w γ' (e.on n g) w'

section
variable {T : Tab} {γ : Gm} {g : Getter} {w : World} {n : Nat}

theorem OpGood.pure {s : Sem Next} {v v' : Value} (h : HR γ g w) (hs : s.run T.P w = .ok (.value v') w) (hv : VR γ v v') : OpGood T.P γ g w n s v .none :=
  ⟨v', w, γ, .inl hs, Gm.Le.refl γ, fun _ _ => rfl, h, hv, Upd.refl γ g w⟩

theorem pureRun_run {α : Type} (P : Program) {s : Sem α} : ∀ {a : α}, pureRun P s = some a → ∀ w, s.run P w = .ok a w := by
  induction s with
  | pure a => intro b h w; simp [pureRun] at h; subst h; rfl
  | program k ih => intro b h w; simp only [pureRun] at h; exact ih P h w
  | mark m k ih => intro b h w; simp only [pureRun] at h; exact ih h w
  | _ => intro b h; simp [pureRun] at h

theorem pureV_some {o : Option Value} {v : Value} {e : Eff} (h : pureV o = some (v, e)) : o = some v ∧ flat v = true ∧ e = .none := by
  unfold pureV at h
  cases o with
  | none => cases h
  | some x =>
    simp only at h
    cases hf : flat x with
    | false => rw [hf] at h; cases h
    | true => rw [hf] at h; simp at h; obtain ⟨rfl, rfl⟩ := h; exact ⟨rfl, hf, rfl⟩

/-- An operation that only reckons with values that name no memory. -/
theorem OpGood.reckon {s : Sem Value} {v : Value} {e : Eff} (h : HR γ g w) (hs : pureV (pureRun T.P s) = some (v, e)) : OpGood T.P γ g w n (do Pure.pure (Next.value (← s))) v e := by
  obtain ⟨h1, h2, rfl⟩ := pureV_some hs
  refine .pure h ?_ (VR.of_flat h2)
  simp [pureRun_run T.P h1]

theorem run_val {P : Program} {s : Sem Value} {v : Value} {w w' : World} (h : s.run P w = .ok v w') : (do Pure.pure (Next.value (← s)) : Sem Next).run P w = .ok (.value v) w' := by
  simp [h]

theorem run_unit {P : Program} {s : Sem Unit} {w w' : World} (h : s.run P w = .ok () w') : (do s; Pure.pure Next.skip : Sem Next).run P w = .ok .skip w' := by
  simp [h]

theorem run_info {P : Program} {t : TypeId} {i : TypeInfo} (h : P.info? t = some i) (w : World) : (typeInfo t).run P w = .ok i w := by
  unfold typeInfo
  simp [program, Sem.run, h]

theorem run_size {P : Program} {t : TypeId} {i : TypeInfo} (h : P.info? t = some i) (w : World) : (sizeOf t).run P w = .ok i.size w := by
  unfold sizeOf
  simp [run_info h]

theorem run_und {P : Program} {t : TypeId} {d : TypeDesc} (h : P.underlying t = some d) (w : World) : (underlying t).run P w = .ok d w := run_underlying h w

theorem run_zero {P : Program} {t : TypeId} {i : TypeInfo} {z : Value} (h : P.info? t = some i) (hz : i.zero = some z) (w : World) : (zeroValue t).run P w = .ok z w := by
  unfold zeroValue
  simp [run_info h, hz]

def aggOf : TypeDesc → Bool
  | .struct _ | .array _ _ => true
  | _ => false

theorem TabOk.agg (hT : TabOk T) {t : TypeId} {r : TyR} (h : T.ty.get t = some r) : r.agg = aggOf r.und := by
  obtain ⟨i, _, _, _, _, _, hm⟩ := hT.ty t r h
  cases hu : r.und <;> rw [hu] at hm <;> first | exact hm.1 | exact hm

theorem run_isAgg {P : Program} {t : TypeId} {d : TypeDesc} (h : P.underlying t = some d) (w : World) : (isAgg t).run P w = .ok (aggOf d) w := by
  unfold isAgg
  simp only [Sem.run_bind, run_und h, Result.andThen_ok]
  cases d <;> rfl

theorem addr_some {v : Value} {k o : Nat} (h : addr? v = some (k, o)) : v = .pointer (some ⟨k, o, none⟩) := by
  unfold addr? at h
  split at h
  · simp at h; obtain ⟨rfl, rfl⟩ := h; rfl
  · cases h

theorem VR.addr {v v' : Value} {k o : Nat} (h : VR γ v v') (ha : addr? v = some (k, o)) : ∃ b d, γ.loc k = some (b, d) ∧ v' = .pointer (some ⟨b, d + o, none⟩) := by
  obtain rfl := addr_some ha
  cases h with
  | flat h => simp [flat1] at h
  | ptr h => exact ⟨_, _, h, rfl⟩

theorem cells_some {a : Option ABlk} {cs : List Value} {own : Bool} {es : Nat} (h : cells? a = some (cs, own, es)) : a = some (.cells cs own es) := by
  unfold cells? at h
  split at h
  · simp at h; obtain ⟨rfl, rfl, rfl⟩ := h; rfl
  · cases h

/-- The cells that stand behind an abstract block. -/
theorem HR.cells (h : HR γ g w) {k b d : Nat} {cs : List Value} {own : Bool} {es : Nat} (hk : cells? (g k) = some (cs, own, es)) (hl : γ.loc k = some (b, d)) :
    ∃ cs' e fz, w.heap[b]? = some (.cells cs' e fz) ∧ CellsR γ cs cs' d ∧ (own = true → fz = (0, 0) ∧ d = 0 ∧ γ.B ≤ b ∧ γ.cap k * es ≤ cs'.size) :=
  h.blk k b d _ (cells_some hk) hl

theorem cell_at {b i : Nat} {cs : Array Value} {e : TypeId} {fz : Nat × Nat} (h : w.heap[b]? = some (.cells cs e fz)) : w.cell? ⟨b, i, none⟩ = cs[i]? := by
  simp [World.cell?, h]

/-- n related cells, read off. -/
theorem CellsR.cut_ {cs : List Value} {cs' : Array Value} {d o m : Nat} {c : List Value} (h : CellsR γ cs cs' d) (hc : cut cs o m = some c) :
    ∃ c' : List Value, VRL γ c c' ∧ c'.length = m ∧ (∀ (j : Nat) (v : Value), c'[j]? = some v → cs'[d + o + j]? = some v) ∧ c.length = m ∧ o + m ≤ cs.length := by
  unfold cut at hc
  cases hb : Nat.ble (o + m) cs.length with
  | false => rw [hb] at hc; cases hc
  | true =>
    rw [hb] at hc
    simp at hc
    have hle : o + m ≤ cs.length := Nat.le_of_ble_eq_true hb
    have hlen : c.length = m := by rw [← hc]; simp; omega
    have hat : ∀ j, j < m → ∃ v', cs'[d + (o + j)]? = some v' ∧ VR γ (c.getD j undef) v' := by
      intro j hj
      have hb1 : o + j < cs.length := by omega
      have h1 : cs[o + j]? = some (cs[o + j]'hb1) := List.getElem?_eq_getElem hb1
      obtain ⟨v', a, b⟩ := h _ _ h1
      refine ⟨v', a, ?_⟩
      have : c.getD j undef = cs[o + j]'hb1 := by
        clear hlen
        rw [← hc, List.getD_eq_getElem?_getD, List.getElem?_take_of_lt hj, List.getElem?_drop, h1]
        rfl
      rw [this]; exact b
    refine ⟨(List.range m).map fun j => cs'.getD (d + (o + j)) undef, ⟨by simp [hlen], fun i v v' hv hv' => ?_⟩, by simp, fun j v hv => ?_, hlen, hle⟩
    · obtain ⟨hi, e⟩ := List.getElem?_eq_some_iff.1 hv
      have hi' : i < m := by omega
      obtain ⟨x, h1, h2⟩ := hat i hi'
      rw [List.getElem?_map, List.getElem?_range hi'] at hv'
      simp [h1] at hv'
      rw [List.getD_eq_getElem?_getD, hv] at h2
      rw [← hv']; exact h2
    · have hj : j < m := by
        have := (List.getElem?_eq_some_iff.1 hv).1
        simpa using this
      obtain ⟨x, h1, h2⟩ := hat j hj
      rw [List.getElem?_map, List.getElem?_range hj] at hv
      simp [h1] at hv
      rw [← hv, Nat.add_assoc]; exact h1

theorem loadA_good (hT : TabOk T) (h : HR γ g w) {t : TypeId} {a a' v : Value} {e : Eff} (ho : loadA T t a g = some (v, e)) (ha : VR γ a a') :
    OpGood T.P γ g w n (do Pure.pure (Next.value (← Instr.loadAt t a'))) v e := by
  unfold loadA at ho
  cases hk : addr? a with
  | none => rw [hk] at ho; cases ho
  | some ko =>
    obtain ⟨k, o⟩ := ko
    rw [hk] at ho
    simp only at ho
    cases hc : cells? (g k) with
    | none => rw [hc] at ho; cases ho
    | some c0 =>
      obtain ⟨cs, own, es⟩ := c0
      cases hty : T.ty.get t with
      | none => rw [hc, hty] at ho; cases ho
      | some r =>
        obtain ⟨i, hi, hsz, _, _, hu, _⟩ := hT.ty t r hty
        have hag := hT.agg hty
        obtain ⟨und, s, bytes, zero, agg, flds, esz⟩ := r
        rw [hc, hty] at ho
        simp only at ho hsz hu hag
        obtain ⟨b, d, hl, rfl⟩ := ha.addr hk
        obtain ⟨cs', el, fz, hw, hcr, _⟩ := h.cells hc hl
        cases agg with
        | true =>
          simp only [cond_true, Option.map_eq_some_iff, Prod.mk.injEq] at ho
          obtain ⟨c, hcut, rfl, rfl⟩ := ho
          obtain ⟨c', hv, hlen, hat, _, _⟩ := hcr.cut_ hcut
          refine .pure h (run_val (v := .agg c'.toArray) ?_) (VR.agg_list hv)
          have hload := run_loadCells_list (P := T.P) w ⟨b, d + o, none⟩ c' (fun j v hj => by rw [Addr.add_lit, cell_at hw]; exact hat j v hj)
          rw [hlen, ← hsz] at hload
          simp [Instr.loadAt, Instr.sureAddr, loadVar, run_isAgg hu, ← hag, run_size hi, hload]
        | false =>
          simp only [cond_false, Option.map_eq_some_iff, Prod.mk.injEq] at ho
          obtain ⟨x, hx, rfl, rfl⟩ := ho
          obtain ⟨x', h1, h2⟩ := hcr o x hx
          refine .pure h (run_val (v := x') ?_) h2
          simp [Instr.loadAt, Instr.sureAddr, loadVar, run_isAgg hu, ← hag, load, Sem.run, cell_at hw, h1]
end

end Go.RM
