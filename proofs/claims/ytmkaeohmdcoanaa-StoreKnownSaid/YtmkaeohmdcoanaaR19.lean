/-
  The abstract machine: a run of it is a run of the model's machine. One condition: the tables are the program's, and the program follows 'mixedOrders'.
-/
import Derived.Test.YtmkaeohmdcoanaaR18
namespace Go.RM
open Go

def cnt (D : Nat → Bool) : Nat → Nat
  | 0 => 0
  | n + 1 => cnt D n + (if D n = true then 0 else 1)

theorem cnt_set {D D' : Nat → Bool} {j : Nat} (hd : D j = false) (hd' : D' j = true) (h : ∀ m, m ≠ j → D' m = D m) : ∀ n, j < n → cnt D' n + 1 = cnt D n := by
  have hle : ∀ n, n ≤ j → cnt D' n = cnt D n := by
    intro n
    induction n with
    | zero => intro _; rfl
    | succ n ih => intro hn; rw [cnt, cnt, ih (by omega), h n (by omega)]
  intro n
  induction n with
  | zero => intro h; omega
  | succ n ih =>
    intro hn
    rw [cnt, cnt]
    by_cases hjn : n = j
    · subst hjn; rw [hle n (Nat.le_refl _), hd, hd']; simp
    · rw [h n hjn]; have := ih (by omega); omega

theorem cnt_zero {D : Nat → Bool} : ∀ n, cnt D n = 0 → ∀ i, i < n → D i = true := by
  intro n
  induction n with
  | zero => intro _ i h; omega
  | succ n ih =>
    intro h i hi
    rw [cnt] at h
    by_cases hin : i = n
    · subst hin
      cases hD : D i with
      | true => rfl
      | false => rw [hD] at h; simp at h
    · exact ih (by omega) i (by omega)

theorem cnt_le {D : Nat → Bool} : ∀ n, cnt D n ≤ n := by
  intro n
  induction n with
  | zero => exact Nat.le_refl _
  | succ n ih => rw [cnt]; split <;> omega

section
variable {T : Tab} {rec : Job → Option (List Res)} {m : Nat} {ops : Array Oper} {es : List Ev} {st0 stF : St} {γ0 : Gm} {w0 : World} {a0 : Act}

abbrev lst (listed : Array Bool) (i : Nat) : Bool := listed.getD i true

theorem ready_iff {listed : Array Bool} {i : Nat} : i ∈ Region.ready .any ops listed ↔ ∃ o, ops[i]? = some o ∧ lst listed i = false ∧ ∀ e ∈ o.after.toList, Region.binds .any e = true → listed.getD e.on false = true := by
  unfold Region.ready
  simp only [List.mem_filter, List.mem_range, Bool.and_eq_true, Bool.not_eq_true']
  constructor
  · rintro ⟨h1, h2, h3⟩
    have ho : ops[i]? = some ops[i] := Array.getElem?_eq_getElem h1
    rw [ho] at h3
    simp only [Option.map_some, Option.getD_some] at h3
    refine ⟨ops[i], ho, h2, fun e he hb => ?_⟩
    rw [← Array.all_toList, List.all_eq_true] at h3
    have := h3 e he
    simpa [hb] using this
  · rintro ⟨o, ho, h2, h3⟩
    refine ⟨(Array.getElem?_eq_some_iff.1 ho).1, h2, ?_⟩
    rw [ho]
    simp only [Option.map_some, Option.getD_some]
    rw [← Array.all_toList, List.all_eq_true]
    intro e he
    cases hb : Region.binds .any e with
    | false => rfl
    | true => simpa using h3 e he hb

theorem getD_true {listed : Array Bool} {i : Nat} (h : listed.getD i false = true) : lst listed i = true := by
  rw [lst, Array.getD_eq_getD_getElem?]
  rw [Array.getD_eq_getD_getElem?] at h
  cases hi : listed[i]? with
  | none => rw [hi] at h; cases h
  | some b => rw [hi] at h; exact h

/-- Edges go back: while some are not listed, one is ready. -/
theorem ready_ne {listed : Array Bool} (hsz : listed.size = ops.size) (hback : ∀ (i : Nat) (o : Oper), ops[i]? = some o → ∀ e ∈ o.after.toList, Region.binds .any e = true → e.on < i) (h : Region.ready .any ops listed = []) :
    ∀ i, lst listed i = true := by
  have key : ∀ n i, i < n → lst listed i = true := by
    intro n
    induction n with
    | zero => intro i h; omega
    | succ n ih =>
      intro i hi
      by_cases hin : i = n
      · subst hin
        cases hl : lst listed i with
        | true => rfl
        | false =>
          exfalso
          have hlt : i < listed.size := by
            apply Nat.lt_of_not_le
            intro hle
            rw [lst, Array.getD_eq_getD_getElem?, Array.getElem?_eq_none hle] at hl
            cases hl
          have ho : ops[i]? = some ops[i] := Array.getElem?_eq_getElem (hsz ▸ hlt)
          have : i ∈ Region.ready .any ops listed := ready_iff.2 ⟨_, ho, hl, fun e he hb => by
            have hlt' := hback i _ ho e he hb
            have := ih e.on hlt'
            rw [lst, Array.getD_eq_getD_getElem?] at this
            rw [Array.getD_eq_getD_getElem?]
            have hs : listed[e.on]? = some (listed[e.on]'(by omega)) := Array.getElem?_eq_getElem _
            rw [hs] at this ⊢
            exact this⟩
          rw [h] at this
          cases this
      · exact ih i (by omega)
  exact fun i => key (i + 1) i (by omega)

theorem any_sound (C : Ctx T rec m ops es st0 stF) {rd : Option Nat} {Q : Exit → Act → World → Prop} (hok : ∀ (j : Nat) (ev : Ev), es[j]? = some ev → operOk a0.tmps.size ev.o = true)
    (hback : ∀ (i : Nat) (o : Oper), ops[i]? = some o → ∀ e ∈ o.after.toList, Region.binds .any e = true → e.on < i)
    (hQ : ∀ D γ a w, (∀ i, D i = true) → Inv es st0 stF γ0 w0 a0 D γ a w → Q .normal a w) :
    ∀ (fuel : Nat) (listed : Array Bool) (γ : Gm) (a : Act) (w : World), listed.size = ops.size → cnt (lst listed) ops.size ≤ fuel → Cl ops.toList (lst listed) → Inv es st0 stF γ0 w0 a0 (lst listed) γ a w →
      wpAnyIn (FW rd) 0 T.P .any ops Q fuel listed a w := by
  have hend : ∀ (listed : Array Bool) (γ : Gm) (a : Act) (w : World), listed.size = ops.size → Inv es st0 stF γ0 w0 a0 (lst listed) γ a w → Region.ready .any ops listed = [] → Q .normal a w :=
    fun listed γ a w hsz I hr => hQ _ γ a w (ready_ne hsz hback hr) I
  intro fuel
  induction fuel with
  | zero =>
    intro listed γ a w hsz hc hcl I
    have hr : Region.ready .any ops listed = [] := by
      cases hl : Region.ready .any ops listed with
      | nil => rfl
      | cons i l =>
        have hi : i ∈ Region.ready .any ops listed := by rw [hl]; simp
        obtain ⟨o, ho, h2, _⟩ := ready_iff.1 hi
        have := cnt_zero _ (Nat.le_zero.1 hc) i (Array.getElem?_eq_some_iff.1 ho).1
        rw [h2] at this
        cases this
    exact ⟨hr, hend listed γ a w hsz I hr⟩
  | succ fuel ih =>
    intro listed γ a w hsz hc hcl I
    refine ⟨hend listed γ a w hsz I, fun j hj => ?_⟩
    obtain ⟨o, ho, h2, h3⟩ := ready_iff.1 hj
    have hlt : j < ops.size := (Array.getElem?_eq_some_iff.1 ho).1
    have hset : ∀ i, lst (listed.setIfInBounds j true) i = if i = j then true else lst listed i := by
      intro i
      rw [lst, lst, Array.getD_eq_getD_getElem?, Array.getD_eq_getD_getElem?, Array.getElem?_setIfInBounds]
      by_cases hij : i = j
      · subst hij; simp [hsz, hlt]
      · rw [if_neg (Ne.symm hij), if_neg hij]
    have hj' : lst (listed.setIfInBounds j true) j = true := by rw [hset, if_pos rfl]
    have hm : ∀ i, i ≠ j → lst (listed.setIfInBounds j true) i = lst listed i := fun i hi => by rw [hset, if_neg hi]
    have hcl' : Cl ops.toList (lst (listed.setIfInBounds j true)) := by
      intro i o' ho' hD e he hb
      have key : lst listed e.on = true := by
        by_cases hij : i = j
        · subst hij
          rw [Array.getElem?_toList, ho] at ho'
          cases ho'
          exact getD_true (h3 e he hb)
        · rw [hm i hij] at hD
          exact hcl i o' ho' hD e he hb
      rw [hset]
      split
      · rfl
      · exact key
    have hes : ∃ ev, es[j]? = some ev := by
      have : (es.map (·.o))[j]? = some o := by rw [C.os, Array.getElem?_toList]; exact ho
      rw [List.getElem?_map, Option.map_eq_some_iff] at this
      obtain ⟨ev, h, _⟩ := this
      exact ⟨ev, h⟩
    obtain ⟨ev, hev⟩ := hes
    refine exec_one C ⟨hev, h2, hj', hm, hcl, hcl'⟩ I (by rw [I.sz]; exact hok j ev hev) fun γ' a' w' I' => ?_
    refine ih _ γ' a' w' (by simp [hsz]) ?_ hcl' I'
    have := cnt_set h2 hj' hm ops.size hlt
    omega

theorem conflict_quiet {s t : Tc} (hs : s.wr.isEmpty = true) (ht : t.wr.isEmpty = true) (hs' : s.a = s.b) (ht' : t.a = t.b) : conflict s t = false := by
  have e1 : s.wr = [] := List.isEmpty_iff.1 hs
  have e2 : t.wr = [] := List.isEmpty_iff.1 ht
  simp [conflict, e1, e2, hs', ht', meets, within]

theorem draw_sound (hT : TabOk T) (hm : T.P.follows .mixedOrders = true) (hK : KeepRec rec) (hS : SoundRec T rec m) : DrawSound T rec := by
  intro id ops st L hx γ w a rd N0 N hp hc hf hN
  obtain ⟨es, stF, rfl, hch, hos, hdr⟩ := execDraw_chain ops ops.toList 0 st [] L hx
  rw [List.append_nil] at hdr
  simp only [codeOk, Bool.not_true, Bool.false_or, Bool.and_eq_true, List.all_eq_true] at hc
  obtain ⟨hdc, hopk⟩ := hc
  simp only [drawCode, Bool.and_eq_true, List.all_eq_true] at hdc
  obtain ⟨hsep, hedge⟩ := hdc
  have hzip : ∀ (i : Nat) (o : Oper), ops.toList[i]? = some o → ops.toList.zipIdx[i]? = some (o, i) := fun i o h => by
    rw [List.getElem?_zipIdx, h]; simp
  have hlen : es.length = ops.size := by rw [← List.length_map (f := (·.o)), hos, Array.length_toList]
  have hwf0 : Wf st.hp := hp.wf
  have hidx : ∀ (i : Nat) (ev : Ev), es[i]? = some ev → ev.t.idx = i := fun i ev h => by
    have := Chain.get hK hch hwf0 i ev h
    rw [Nat.zero_add] at this
    exact (this.1.facts hK this.2.1).1
  have C : Ctx T rec m ops es st stF := by
    refine ⟨hT, hK, hS, hch, hwf0, hos, fun i j x y hij hi hj => sepOk_get hsep i j _ _ hij (hzip i x hi) (hzip j y hj), fun i j ev ev' hij hi hj hcf => ?_⟩
    unfold drawOk at hdr
    cases hq : (es.reverse.all fun e => e.t.wr.isEmpty && Nat.beq e.t.a e.t.b) with
    | true =>
      exfalso
      rw [List.all_eq_true] at hq
      have h1 := hq ev (List.mem_reverse.2 (List.mem_of_getElem? hi))
      have h2 := hq ev' (List.mem_reverse.2 (List.mem_of_getElem? hj))
      simp only [Bool.and_eq_true] at h1 h2
      rw [conflict_quiet h1.1 h2.1 (Nat.eq_of_beq_eq_true h1.2) (Nat.eq_of_beq_eq_true h2.2)] at hcf
      cases hcf
    | false =>
      rw [hq] at hdr
      simp only [cond_false] at hdr
      have hlj : j < es.length := (List.getElem?_eq_some_iff.1 hj).1
      have rget : ∀ (i : Nat) (ev : Ev), es[i]? = some ev → es.reverse[es.length - 1 - i]? = some ev := fun i ev h => by
        have hli : i < es.length := (List.getElem?_eq_some_iff.1 h).1
        rw [List.getElem?_reverse (by omega)]
        rw [show es.length - 1 - (es.length - 1 - i) = i by omega, h]
      have := pairsOk_get hdr (es.length - 1 - j) (es.length - 1 - i) ev' ev (by omega) (rget j ev' hj) (rget i ev hi) hcf
      rw [hidx i ev hi, hidx j ev' hj] at this
      exact this
  have hback : ∀ (i : Nat) (o : Oper), ops[i]? = some o → ∀ e ∈ o.after.toList, Region.binds .any e = true → e.on < i := fun i o ho e he hb => by
    have := hedge (o, i) (List.mem_of_getElem? (hzip i o (by rw [Array.getElem?_toList]; exact ho))) e he
    simpa [hb] using this
  have hok : ∀ (j : Nat) (ev : Ev), es[j]? = some ev → operOk a.tmps.size ev.o = true := fun j ev h => by
    have ho : ev.o ∈ ops.toList := by rw [← hos]; exact List.mem_map.2 ⟨ev, List.mem_of_getElem? h, rfl⟩
    have := hopk ev.o ho
    rw [operOk, Bool.and_eq_true, List.all_eq_true]
    exact this
  refine wpIn_region_any hm ?_
  have hnone : ∀ i, i < ops.size → lst (Array.replicate ops.size false) i = false := fun i hi => by simp [lst, Array.getD_eq_getD_getElem?, hi]
  have hsel : ∀ {β : Type} (f : Ev → β → β) (x : β), sel f es (lst (Array.replicate ops.size false)) 0 x = x := fun {β} f x => sel_id es _ 0 x fun j ev hj hD => by
    rw [Nat.zero_add, hnone j (by rw [← hlen]; exact (List.getElem?_eq_some_iff.1 hj).1)] at hD
    cases hD
  refine any_sound (γ0 := γ) (w0 := w) (a0 := a) C hok hback (fun D γ' a' w' hD I => ?_) ops.size _ γ a _ (by simp) (cnt_le _) (fun j o ho hD => ?_) ?_
  · obtain ⟨g1, g2, g3, g4, g5⟩ := Chain.last hK hch hwf0 D fun j _ => hD _
    have hget : gD es st D = stF.hp.get := funext fun k => (g1 k).symm
    have hr := I.hr
    have hu := I.upd
    rw [hget] at hr hu
    have hstep : Step γ st.hp w γ' stF.hp w' := ⟨g4, I.le, I.out, hr, hu⟩
    refine ⟨(.normal, stF), by simp, γ', rfl, ⟨fun t => ?_, hr, g3.trans hp.rd, by rw [I.df]; exact hp.df.step hstep, g5⟩, I.sz, hstep⟩
    have := I.tm t
    have e : fD es st D t = stF.fr.get t := (g2 t).symm
    rw [e] at this
    exact this
  · exfalso
    rw [hnone j (by have := (List.getElem?_eq_some_iff.1 ho).1; simpa using this)] at hD
    cases hD
  · have hg : gD es st (lst (Array.replicate ops.size false)) = st.hp.get := funext fun k => hsel _ _
    refine ⟨Gm.Le.refl γ, fun _ _ => rfl, fun j ev hj _ k h1 h2 => ?_, by rw [hg]; exact hp.hr.same rfl, by rw [hg]; exact Upd.heap rfl rfl rfl rfl, fun t => ?_, rfl, rfl⟩
    · obtain ⟨_, f2, f3, f4, _⟩ := C.facts hj
      obtain ⟨_, _, b1, b2, _⟩ := C.at hj
      have := hN stF (by simp)
      exact hf k (by omega) (by omega)
    · have e : fD es st (lst (Array.replicate ops.size false)) t = st.fr.get t := hsel _ _
      rw [e]
      exact hp.fr t
end

/-- A RUN OF THE ABSTRACT MACHINE IS A RUN OF THE MODEL's. -/
theorem run_sound {T : Tab} (hT : TabOk T) (hm : T.P.follows .mixedOrders = true) (n : Nat) : SoundRec T (run T n) n :=
  sound_run hT (fun _ _ hK hS => draw_sound hT hm hK hS) n

/-- A call, from any memory that holds what the abstract heap says. -/
theorem run_call {T : Tab} (hT : TabOk T) (hm : T.P.follows .mixedOrders = true) {n : Nat} {f : FuncId} {args args' : List Value} {H : Hp} {L : List Res} (h : run T n (.call f args H) = some L)
    {γ : Gm} {w : World} (hw : Wf H) (hh : HR γ H.get w) (hf : ∀ k, H.n ≤ k → γ.loc k = none) (ha : VRL γ args args') : Calls T.P f args'.toArray w (RetR γ H w L) := by
  have hN : ∃ N, ∀ r ∈ L, r.hp.n ≤ N := by
    clear h
    induction L with
    | nil => exact ⟨0, fun r hr => by cases hr⟩
    | cons a l ih =>
      obtain ⟨N, hN⟩ := ih
      refine ⟨max a.hp.n N, fun r hr => ?_⟩
      rcases List.mem_cons.1 hr with rfl | hr
      · omega
      · have := hN r hr; omega
  obtain ⟨N, hN⟩ := hN
  have := ((run_sound hT hm n).call f args H L h).2 γ w args' N hw hh (fun k h1 _ => hf k h1) hN ha
  exact callsIn_wide.1 this

end Go.RM
