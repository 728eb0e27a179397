/-
  The abstract machine: its operations are the model's, continued: append, cuts of slices, strings. Lemmas alone.
-/
import Derived.Test.YtmkaeohmdcoanaaR7
namespace Go.RM
open Go.RowKit

section
variable {T : Tab} {γ : Gm} {g : Getter} {w : World} {n : Nat}

/-- The cells of a slice, read off: in any world with this heap. -/
theorem rowCells_run (h : HR γ g w) {size m : Nat} {x x' : Value} {l : List Value} (hr : rowCells g size x = some l) (hx : VR γ x x') (hm : lenA x = some m) :
    ∃ l', VRL γ l l' ∧ l.length = m * size ∧ (∀ (P : Program) w', w'.heap = w.heap → (Builtin.firstCells size m x').run P w' = .ok l'.toArray w') ∧ ∃ a' c', x' = .slice a' m c' := by
  have empty : ∀ (a' : Option Addr) (c' : Nat) (P : Program) (w' : World), (Builtin.firstCells size 0 (.slice a' 0 c')).run P w' = .ok #[] w' := by
    intro a' c' P w'
    cases a' <;> simp [Builtin.firstCells, loadCells, loadCellsFrom]
  cases x with
  | slice base ln cp =>
    simp only [lenA, Option.some.injEq] at hm
    subst hm
    cases base with
    | none =>
      cases ln with
      | succ k => simp [rowCells] at hr
      | zero =>
        simp only [rowCells, Option.some.injEq] at hr
        subst hr
        cases hx with
        | flat => exact ⟨[], VRL.nil γ, by simp, fun P w' _ => empty _ _ P w', _, _, rfl⟩
    | some ad =>
      obtain ⟨k, o, sp⟩ := ad
      cases sp with
      | some s => simp [rowCells] at hr
      | none =>
        simp only [rowCells] at hr
        cases hx with
        | flat hf => simp [flat1] at hf
        | slice0 =>
          have hl : l = [] := by
            cases hc : cells? (g k) with
            | none => rw [hc] at hr; simp at hr; exact hr
            | some p =>
              obtain ⟨cs, own, es⟩ := p
              rw [hc] at hr
              simp only [cut, Nat.zero_mul, Nat.add_zero, List.take_zero] at hr
              cases hb : Nat.ble o cs.length <;> rw [hb] at hr <;> simp at hr
              exact hr
          subst hl
          exact ⟨[], VRL.nil γ, by simp, fun P w' _ => empty _ _ P w', _, _, rfl⟩
        | slice hl hn ht hlo =>
          rename_i b d c'
          cases hc : cells? (g k) with
          | none =>
            rw [hc] at hr
            cases hb : Nat.beq ln 0 with
            | false => rw [hb] at hr; cases hr
            | true =>
              have := Nat.eq_of_beq_eq_true hb
              subst this
              simp at hr
              subst hr
              exact ⟨[], VRL.nil γ, by simp, fun P w' _ => empty _ _ P w', _, _, rfl⟩
          | some p =>
            obtain ⟨cs, own, es⟩ := p
            rw [hc] at hr
            obtain ⟨cs', el, fz, hw, hcr, _⟩ := h.cells hc hl
            obtain ⟨l', h1, h2, h3, h4, _⟩ := hcr.cut_ hr
            refine ⟨l', h1, h4, fun P w' hw' => ?_, _, _, rfl⟩
            refine run_firstCells_some w' size ln _ ln c' l' h2 (fun j v hj => ?_)
            rw [Addr.add_lit, cell_at (w := w') (by rw [hw']; exact hw)]
            exact h3 j v hj
  | _ => simp [lenA] at hm

/-- The row is handed on to another number; the old one is dead. -/
theorem HR.move {w' : World} (h : HR γ g w) {k b c : Nat} {a0 a : ABlk} (h0 : g k = some a0) (ho : a0.own = true) (hl : γ.loc k = some (b, 0)) (hn : γ.loc n = none)
    (hsz : w'.heap.size = w.heap.size) (hh : ∀ i, i ≠ b → w'.heap[i]? = w.heap[i]?) (_ : a.own = true) (ha : BlkR (γ.add n b c) w'.heap n b 0 a) : HR (γ.add n b c) (upd (upd g k .dead) n a) w' := by
  have hle := Gm.le_add (b := b) (c := c) hn
  have hkn : k ≠ n := fun e => by subst e; rw [hl] at hn; cases hn
  have hlb := h.lt k b 0 hl
  -- what lives under another number than k and n lies elsewhere
  have away : ∀ i x b' o, i ≠ n → upd (upd g k .dead) n a i = some x → x ≠ .dead → (γ.add n b c).loc i = some (b', o) → g i = some x ∧ γ.loc i = some (b', o) ∧ i ≠ k ∧ b' ≠ b := by
    intro i x b' o hi hx hd hli
    rw [upd_ne _ _ hi] at hx
    by_cases hik : i = k
    · subst hik; rw [upd_same] at hx; cases hx; exact absurd rfl hd
    · rw [upd_ne _ _ hik] at hx
      rw [Gm.add_loc_ne _ _ _ hi] at hli
      exact ⟨hx, hli, hik, fun e => by subst e; exact h.inj k i b' 0 o a0 x h0 ho hx hd (Ne.symm hik) hl hli⟩
  refine ⟨fun i b' o x hx hli => ?_, fun i i' b' o o' x x' hx hox hx' hd hne hli hli' => ?_, fun i b' o hli => ?_, ?_⟩
  · by_cases hi : i = n
    · subst hi
      rw [upd_same] at hx; cases hx
      rw [Gm.add_loc] at hli; cases hli
      exact ha
    · by_cases hd : x = .dead
      · subst hd; trivial
      · obtain ⟨hx0, hl0, _, hb⟩ := away i x b' o hi hx hd hli
        exact (h.blk i b' o x hx0 hl0).mono hle hl0 (hh b' hb)
  · have hxd : x ≠ .dead := fun e => by subst e; cases hox
    by_cases hi : i = n
    · subst hi
      have hb : b' = b := by rw [Gm.add_loc] at hli; cases hli; rfl
      exact (away i' x' b' o' (Ne.symm hne) hx' hd hli').2.2.2 hb
    · by_cases hi' : i' = n
      · subst hi'
        have hb : b' = b := by rw [Gm.add_loc] at hli'; cases hli'; rfl
        exact (away i x b' o hi hx hxd hli).2.2.2 hb
      · obtain ⟨a1, a2, _, _⟩ := away i x b' o hi hx hxd hli
        obtain ⟨b1, b2, _, _⟩ := away i' x' b' o' hi' hx' hd hli'
        exact h.inj i i' b' o o' x x' a1 hox b1 hd hne a2 b2
  · rw [hsz]
    by_cases hi : i = n
    · subst hi; rw [Gm.add_loc] at hli; cases hli; exact hlb
    · rw [Gm.add_loc_ne _ _ _ hi] at hli; exact h.lt i b' o hli
  · rw [hsz]; exact h.base

theorem HR.kill (h : HR γ g w) {k : Nat} {a0 : ABlk} (h0 : g k = some a0) (ho : a0.own = true) {b : Nat} (hl : γ.loc k = some (b, 0)) : HR γ (upd g k .dead) w :=
  h.put h0 ho hl rfl (fun _ _ => rfl) (.inr rfl) trivial

/-- append that lays a new row. -/
theorem run_append_new {P : Program} {t u ty e e2 : TypeId} {i : TypeInfo} {z : Value} (ht : P.underlying t = some (.slice e)) (hu : P.underlying u = some (.slice e2)) (hi : P.info? e = some i) (hz : i.zero = some z)
    {base : Option Addr} {ln cp m : Nat} {x' : Value} {olds news : List Value} {a' : Option Addr} {c' : Nat} (hx : x' = .slice a' m c')
    (hold : ∀ w', w'.heap = w.heap → (Builtin.firstCells i.size ln (.slice base ln cp)).run P w' = .ok olds.toArray w')
    (hnew : ∀ w', w'.heap = w.heap → (Builtin.firstCells i.size m x').run P w' = .ok news.toArray w')
    (hg : cp < ln + m) (h63 : ((ln + m : Nat) : Int) ≤ 9223372036854775807) (hb : (ln + m) * i.bytes ≤ 140737488355328) :
    (Builtin.append_ #[t, u] ty #[.slice base ln cp, x']).run P w =
      .ok (.slice (some ⟨w.heap.size, 0, none⟩) (ln + m) (grownCap w (ln + m) cp e))
        (w.drew.alloc (.cells (olds.toArray ++ news.toArray ++ Builtin.zeroCells z.cells (grownCap w (ln + m) cp e - (ln + m))) e)) := by
  subst hx
  have hn : ¬ (ln + m ≤ cp) := by omega
  have h63' : ¬ (9223372036854775807 < ((ln : Int) + (m : Int))) := by omega
  have hfit := growslice_fits hg hb
  have h48' : ¬ (281474976710656 < Builtin.nextslicecap (ln + m) cp * i.bytes) := by omega
  have h1 := hold w.drew rfl
  have h2 := hnew w.drew rfl
  simp [Builtin.append_, run_underlying ht, run_underlying hu, sizeOf, typeInfo, zeroValue, hi, hz, Builtin.lenOf, hn, h63', h48', Question.forced, h1, h2, newRow, grownCap]
  congr 2
  apply Array.ext'
  simp [List.append_assoc]

theorem askRoom_run {P : Program} (k : Nat) (w : World) : (askRoom k).run P w = .ok () w := by
  unfold askRoom
  split <;> rfl

/-- append within the capacity. -/
theorem run_append_in {P : Program} {t u ty e e2 el : TypeId} {i : TypeInfo} (ht : P.underlying t = some (.slice e)) (hu : P.underlying u = some (.slice e2)) (hi : P.info? e = some i)
    {b ln cp m : Nat} {x' : Value} {news : List Value} {a' : Option Addr} {c' : Nat} (hx : x' = .slice a' m c') {cur : Array Value} (hw : w.heap[b]? = some (.cells cur el (0, 0)))
    (hnew : (Builtin.firstCells i.size m x').run P w = .ok news.toArray w) (h1 : ∀ v ∈ news, v.oneCell' = true)
    (hroom : ln + m ≤ cp) (hfit : ln * i.size + news.length ≤ cur.size) :
    (Builtin.append_ #[t, u] ty #[.slice (some ⟨b, 0, none⟩) ln cp, x']).run P w =
      .ok (.slice (some ⟨b, 0, none⟩) (ln + m) cp) (w.setRow b (splice cur.toList news (ln * i.size)).toArray) := by
  subst hx
  have hst := run_storeCells_at P b (ln * i.size) el news 0 cur w hw (by simpa using hfit) h1
  simp only [Nat.add_zero] at hst
  simp [Builtin.append_, run_underlying ht, run_underlying hu, sizeOf, typeInfo, hi, Builtin.lenOf, hroom, hnew, Addr.add_lit, hst, splice]

theorem appendA_good (hT : TabOk T) (h : HR γ g w) {t u ty e2 : TypeId} (hu : T.P.underlying u = some (.slice e2)) {s s' x x' v : Value} {e : Eff}
    (hn : e.news = true → γ.loc n = none) (ho : appendA T n t s x g = some (v, e)) (hs : VR γ s s') (hx : VR γ x x') :
    OpGood T.P γ g w n (do Pure.pure (Next.value (← Builtin.append_ #[t, u] ty #[s', x']))) v e := by
  unfold appendA at ho
  cases he : elem? T t with
  | none => rw [he] at ho; cases ho
  | some inf =>
    rw [he] at ho
    simp only at ho
    obtain ⟨el, i, hut, hi, hsz, hby, hz⟩ := elem_some hT he
    cases s with
    | slice base ln cp =>
      simp only at ho
      cases hm : lenA x with
      | none => rw [hm] at ho; cases ho
      | some m =>
        cases hro : rowCells g inf.size (.slice base ln cp) with
        | none => rw [hm, hro] at ho; cases ho
        | some old =>
          cases hrn : rowCells g inf.size x with
          | none => rw [hm, hro, hrn] at ho; cases ho
          | some new =>
            rw [hm, hro, hrn] at ho
            simp only at ho
            cases hcd : (Nat.ble ((ln + m) * inf.bytes) 140737488355328 && Nat.ble (ln + m) 9223372036854775807 && new.all oneCell && zeroFits inf) with
            | false => rw [hcd] at ho; cases ho
            | true =>
              rw [hcd] at ho
              simp only [cond_true] at ho
              obtain ⟨c1, c2, c3, c4⟩ := band3 hcd
              have c1 := Nat.le_of_ble_eq_true c1
              have c2 := Nat.le_of_ble_eq_true c2
              obtain ⟨z, hzz, hzs, h1, hfl⟩ := zeroFits_some c4
              obtain ⟨old', ov, ol, orun, a0, k0, hs'⟩ := rowCells_run h hro hs rfl
              obtain ⟨new', nv, nl, nrun, a1, k1, hx'⟩ := rowCells_run h hrn hx hm
              have nl' : new'.length = m * inf.size := by rw [← nv.1]; exact nl
              have ol' : old'.length = ln * inf.size := by rw [← ov.1]; exact ol
              cases hm0 : Nat.beq m 0 with
              | true =>
                rw [hm0] at ho
                simp only [cond_true, Option.some.injEq, Prod.mk.injEq] at ho
                obtain ⟨rfl, rfl⟩ := ho
                have := Nat.eq_of_beq_eq_true hm0
                subst this
                refine .pure h (run_val (v := s') ?_) hs
                have hn0 : new' = [] := List.eq_nil_of_length_eq_zero (by rw [nl']; simp)
                have hcap : ln ≤ k0 := by
                  rw [hs'] at hs
                  cases hs with
                  | flat hf =>
                    cases ln with
                    | zero => exact Nat.zero_le _
                    | succ q => cases base <;> simp [flat1] at hf
                  | slice _ hc _ _ => exact hc
                  | slice0 => omega
                subst hn0
                have hrun := nrun T.P w rfl
                subst hs'
                subst hx'
                rw [← hsz] at hrun
                cases a0 with
                | none => simp [Builtin.append_, run_underlying hut, run_underlying hu, sizeOf, typeInfo, hi, Builtin.lenOf, hcap, hrun]
                | some ad => simp [Builtin.append_, run_underlying hut, run_underlying hu, sizeOf, typeInfo, hi, Builtin.lenOf, hcap, hrun, storeCells]
              | false =>
                rw [hm0] at ho
                simp only [cond_false] at ho
                have hmpos : 0 < m := Nat.pos_of_ne_zero (fun e => by subst e; cases hm0)
                -- a new row, whatever becomes of the old one
                have fresh : ∀ {g1 : Getter} {eff : Eff}, HR γ g1 w → (∀ k a, g1 k = some a → a ≠ .dead → g k = some a) → k0 < ln + m → eff.news = true → γ.loc n = none → (eff.on n g = upd g1 n (.cells (old ++ new) true inf.size)) →
                    OpGood T.P γ g w n (do Pure.pure (Next.value (← Builtin.append_ #[t, u] ty #[s', x']))) (.slice (some ⟨n, 0, none⟩) (ln + m) (ln + m + 1)) eff := by
                  intro g1 eff hg1 hgg hlt hnw hn heff
                  have hgr := grownCap_ge w (ln + m) k0 el
                  have hnew := run_append_new (P := T.P) (w := w) (ty := ty) hut hu hi (hz.trans hzz) (base := a0) (ln := ln) (cp := k0) (m := m) (olds := old') (news := new') hx'
                    (fun w' hw' => by rw [hsz, ← hs']; exact orun T.P w' hw') (fun w' hw' => by rw [hsz]; exact nrun T.P w' hw') hlt (by omega) (by rw [hby]; exact c1)
                  rw [← hs'] at hnew
                  have hle := Gm.le_add (b := w.heap.size) (c := grownCap w (ln + m) k0 el) hn
                  have hcr : CellsR γ (old ++ new) (old'.toArray ++ new'.toArray ++ Builtin.zeroCells z.cells (grownCap w (ln + m) k0 el - (ln + m))) 0 := by
                    intro j y hy
                    obtain ⟨y', e1, e2⟩ := (ov.append nv).get hy
                    refine ⟨y', ?_, e2⟩
                    rw [Nat.zero_add, ← Array.getElem?_toList]
                    simp only [Array.toList_append]
                    rw [List.getElem?_append_left (by have := (List.getElem?_eq_some_iff.1 e1).1; simpa using this)]
                    exact e1
                  refine ⟨_, _, γ.add n w.heap.size (grownCap w (ln + m) k0 el), .inl (run_val hnew), hle, fun k hk => Gm.add_loc_ne _ _ _ (fun e => Bool.noConfusion (hnw.symm.trans (hk e))), ?_, ?_, ?_⟩
                  · rw [heff]
                    refine HR.new (w := w) hg1 hn (obj := _) rfl ?_
                    refine ⟨_, el, (0, 0), by show (w.heap.push _)[w.heap.size]? = _; simp, hcr.mono hle, fun _ => ⟨rfl, rfl, h.base, ?_⟩⟩
                    rw [Gm.add_cap]
                    simp only [Array.size_append, List.size_toArray, size_zeroCells, hzs, ol', nl', ← Nat.add_mul]
                    apply Nat.mul_le_mul_right
                    omega
                  · exact VR.slice (o := 0) (Gm.add_loc _ _ _ _) hgr (fun e => by omega) (fun _ => ⟨rfl, (Gm.add_cap _ _ _ _).symm⟩)
                  · rw [heff]; exact Upd.newOn hgg (obj := _) rfl rfl rfl rfl
                unfold appendB at ho
                cases htight : Nat.beq cp ln with
                | true =>
                  rw [htight] at ho
                  simp only [cond_true, Option.some.injEq, Prod.mk.injEq] at ho
                  obtain ⟨rfl, rfl⟩ := ho
                  have hcp := Nat.eq_of_beq_eq_true htight
                  subst hcp
                  have hk0 : k0 = cp := by
                    rw [hs'] at hs
                    cases hs with
                    | flat => rfl
                    | slice _ _ ht _ => exact ht rfl
                    | slice0 _ ht => exact ht rfl
                  exact fresh h (fun _ _ h _ => h) (by omega) rfl (hn rfl) rfl
                | false =>
                  rw [htight] at ho
                  simp only [cond_false] at ho
                  split at ho
                  · rename_i k
                    cases hc : cells? (g k) with
                    | none => rw [hc] at ho; cases ho
                    | some p =>
                      obtain ⟨cs, own, es⟩ := p
                      rw [hc] at ho
                      simp only at ho
                      cases hcd2 : (own && Nat.beq cp (ln + 1) && Nat.beq cs.length (ln * inf.size) && Nat.beq es inf.size) with
                      | false => rw [hcd2] at ho; cases ho
                      | true =>
                        rw [hcd2] at ho
                        simp only [cond_true, Option.some.injEq, Prod.mk.injEq] at ho
                        obtain ⟨rfl, rfl⟩ := ho
                        obtain ⟨d1, d2, d3, d4⟩ := band3 hcd2
                        subst d1
                        have d2 := Nat.eq_of_beq_eq_true d2
                        have d3 := Nat.eq_of_beq_eq_true d3
                        have d4 := Nat.eq_of_beq_eq_true d4
                        subst d2
                        subst d4
                        have hgk := cells_some hc
                        rw [hs'] at hs
                        cases hs with
                        | flat hf => simp [flat1] at hf
                        | slice0 hne => exact absurd rfl hne
                        | slice hl hle0 ht hlo =>
                          rename_i b d
                          obtain ⟨cs', el', fz, hw, hcr, hown⟩ := h.cells hc hl
                          obtain ⟨rfl, rfl, hB, hcapsz⟩ := hown rfl
                          obtain ⟨_, hcap⟩ := hlo rfl
                          by_cases hroom : ln + m ≤ k0
                          · -- in place
                            have hfit : ln * inf.size + new'.length ≤ cs'.size := by
                              rw [nl', ← Nat.add_mul]
                              refine Nat.le_trans (Nat.mul_le_mul_right _ hroom) ?_
                              rw [hcap]; exact hcapsz
                            have hin := run_append_in (P := T.P) (w := w) (ty := ty) hut hu hi (b := b) (ln := ln) (cp := k0) hx' hw (by rw [hsz]; exact nrun T.P w rfl) (nv.oneCell c3) hroom (by rw [hsz]; exact hfit)
                            have hle := Gm.le_add (b := b) (c := k0) (hn rfl)
                            obtain ⟨o1, o2, o3, o4⟩ := setRow_os w b (splice cs'.toList new' (ln * i.size)).toArray
                            refine ⟨_, _, γ.add n b k0, .inl (run_val (by rw [hs']; exact hin)), hle, fun k hk => Gm.add_loc_ne _ _ _ (fun e => Bool.noConfusion (hk e : true = false)), ?_, ?_, ?_⟩
                            · refine h.move hgk rfl hl (hn rfl) o4 (fun j hj => setRow_other w b j _ hj) rfl ?_
                              refine ⟨_, el', (0, 0), setRow_heap w b cs' _ el' _ hw, ?_, fun _ => ⟨rfl, rfl, hB, ?_⟩⟩
                              · -- the cells: the old ones, then the new ones
                                have hov : CellsR γ old cs' 0 := by
                                  intro j y hy
                                  unfold rowCells at hro
                                  simp only [hc] at hro
                                  unfold cut at hro
                                  cases hb2 : Nat.ble (0 + ln * inf.size) cs.length with
                                  | false => rw [hb2] at hro; cases hro
                                  | true =>
                                    rw [hb2] at hro
                                    simp at hro
                                    rw [← hro] at hy
                                    rw [← d3, List.take_length] at hy
                                    exact hcr j y hy
                                intro j y hy
                                rw [Nat.zero_add, List.getElem?_toArray, getElem?_splice _ _ _ _ (by rw [hsz]; simpa using hfit), hsz]
                                by_cases hj : j < ln * inf.size
                                · rw [if_pos hj]
                                  rw [List.getElem?_append_left (by rw [ol]; exact hj)] at hy
                                  obtain ⟨y', e1, e2⟩ := hov j y hy
                                  exact ⟨y', by simpa using e1, e2.mono hle⟩
                                · rw [if_neg hj]
                                  rw [List.getElem?_append_right (by rw [ol]; omega), ol] at hy
                                  have hjn := (List.getElem?_eq_some_iff.1 hy).1
                                  rw [nl] at hjn
                                  rw [if_pos (by rw [nl']; omega)]
                                  obtain ⟨y', e1, e2⟩ := nv.get hy
                                  exact ⟨y', e1, e2.mono hle⟩
                              · rw [Gm.add_cap, List.size_toArray, length_splice _ _ _ (by rw [hsz]; simpa using hfit), hcap]
                                simpa using hcapsz
                            · exact VR.slice (o := 0) (Gm.add_loc _ _ _ _) hroom (fun e => by omega) (fun _ => ⟨rfl, (Gm.add_cap _ _ _ _).symm⟩)
                            · exact Upd.move hgk rfl hl o1 o2 o3 o4 (fun j hj => setRow_other w b j _ hj)
                          · exact fresh (h.kill hgk rfl hl) (fun i a hi hio => by
                              by_cases hik : i = k
                              · subst hik; rw [upd_same] at hi; cases hi; exact absurd rfl hio
                              · rw [upd_ne _ _ hik] at hi; exact hi) (by omega) rfl (hn rfl) rfl
                  · cases ho
    | _ => cases ho
end

end Go.RM
