/-
  The abstract machine: its runs are the model's, but for the regions that draw their order. Lemmas alone; no condition but that the tables are the program's.
-/
import Derived.Test.YtmkaeohmdcoanaaR15
namespace Go.RM
open Go

/-- A scope of which no jump to a label is made. -/
theorem wpIn_scope {F : Fence} {n : Nat} {P : Program} {c : Code} {Q : Exit → Act → World → Prop} {a : Act} {w : World} (h : c.wpIn F n P Q a w) (hq : ∀ l a w, ¬ Q (.goto l) a w) : (Code.scope c).wpIn F n P Q a w := by
  intro b k cs hro hb hr
  have h0 : (lone (b.atR a (.code (.scope c) :: k)) cs w).fenced P F := fenced_calm hb hr rfl
  have s1 : step P (lone (b.atR a (.code (.scope c) :: k)) cs w) = .next (lone (b.atR a (.code c :: .inScope c :: k)) cs w) := step_lone_go (by simp [stepG, stepG.exec, Frame.atR])
  have s2 : ∀ a w, step P (lone (b.atR a (.inScope c :: k)) cs w) = .next (lone (b.atR a k) cs w) := fun a w => step_lone_go (by simp [stepG, stepG.exec, Frame.atR])
  obtain ⟨e, a₁, w₁, hq1, harr⟩ := h b (.inScope c :: k) cs hro hb hr
  cases e with
  | normal => exact ⟨.normal, a₁, w₁, hq1, .head h0 s1 (StepsIn.trans harr (.one (fenced_calm hb hr rfl) (s2 a₁ w₁)))⟩
  | exit id =>
    have hx : exitTo id (.inScope c :: k) = exitTo id k := by simp [exitTo]
    exact ⟨.exit id, a₁, w₁, hq1, fun k' hk => .head h0 s1 (harr.1 k' (by rw [hx]; exact hk)), fun hr' hk => let ⟨k₁, h1, h2⟩ := harr.2 hr' (by rw [hx]; exact hk); ⟨k₁, h1, .head h0 s1 h2⟩⟩
  | goto l => exact absurd hq1 (hq l a₁ w₁)
  | ret => exact ⟨_, a₁, w₁, hq1, .of_steps (.one h0 s1) harr⟩
  | panic ch => exact ⟨_, a₁, w₁, hq1, .of_steps (.one h0 s1) harr⟩
  | outgrown => exact ⟨_, a₁, w₁, hq1, .of_steps (.one h0 s1) harr⟩

section
variable {T : Tab} {rec : Job → Option (List Res)} {m : Nat}

theorem execC_sound (hT : TabOk T) (hK : KeepRec rec) (hS : SoundRec T rec m) (hD : DrawSound T rec) : ∀ (c : Code) (st : St) (L : List (Exit × St)), execC T rec c st = some L →
    ∀ {γ : Gm} {w : World} {a : Act} {rd : Option Nat} {N0 N : Nat}, Pre γ st a w rd N0 → codeOk a.tmps.size c = true → Fresh γ st.hp.n N → (∀ p ∈ L, p.2.hp.n ≤ N) → N0 ≤ w.heap.size →
    c.wpIn (FW rd) 0 T.P (CodeR γ st.hp w a.tmps.size rd N0 L) a w := by
  intro c
  induction c with
  | skip =>
    intro st L h γ w a rd N0 N hp hc hf hN h0
    rw [execC_skip] at h
    cases h
    exact wpIn_skip ⟨_, List.mem_singleton_self _, γ, rfl, hp, rfl, Step.refl hp.hr⟩
  | label l =>
    intro st L h γ w a rd N0 N hp hc hf hN h0
    rw [execC_label] at h
    cases h
    exact wpIn_label ⟨_, List.mem_singleton_self _, γ, rfl, hp, rfl, Step.refl hp.hr⟩
  | exit id =>
    intro st L h γ w a rd N0 N hp hc hf hN h0
    rw [execC_exit] at h
    cases h
    exact wpIn_exit ⟨_, List.mem_singleton_self _, γ, rfl, hp, rfl, Step.refl hp.hr⟩
  | ret =>
    intro st L h γ w a rd N0 N hp hc hf hN h0
    rw [execC_ret] at h
    cases h
    exact wpIn_ret ⟨_, List.mem_singleton_self _, γ, rfl, hp, rfl, Step.refl hp.hr⟩
  | region id ops draw =>
    intro st L h γ w a rd N0 N hp hc hf hN h0
    rw [execC_region] at h
    cases draw with
    | false =>
      simp only [cond_false] at h
      cases hx : execOps T rec ops.toList ops.toList st with
      | none => rw [hx] at h; cases h
      | some M =>
        rw [hx] at h
        simp only [Option.some.injEq] at h
        subst h
        simp only [codeOk, Bool.and_eq_true] at hc
        exact wpIn_region_list (execOps_sound hT hK hS ops ops.toList st M hx γ a w hp rfl (Step.refl hp.hr) hc.2 hf (fun s hs => hN (.normal, s) (List.mem_map.2 ⟨s, hs, rfl⟩)) fun s hs => List.mem_map.2 ⟨s, hs, rfl⟩)
    | true =>
      simp only [cond_true] at h
      cases hx : execDraw T rec ops ops.toList 0 st [] with
      | none => rw [hx] at h; cases h
      | some M =>
        rw [hx] at h
        simp only [Option.some.injEq] at h
        subst h
        exact hD id ops st M hx γ w a rd N0 N hp hc hf fun s hs => hN (.normal, s) (List.mem_map.2 ⟨s, hs, rfl⟩)
  | seq x y ihx ihy =>
    intro st L h γ w a rd N0 N hp hc hf hN h0
    simp only [codeOk, Bool.and_eq_true] at hc
    rw [execC_seq] at h
    cases hx : execC T rec x st with
    | none => rw [hx] at h; cases h
    | some A =>
      rw [hx] at h
      simp only at h
      have hsub : ∀ p ∈ A, ∃ M, seqK (execC T rec y) p = some M ∧ ∀ q ∈ M, q ∈ L := fun p hpm => bindL_sub h p hpm
      have hA : ∀ p ∈ A, p.2.hp.n ≤ N := by
        intro p hpm
        obtain ⟨M, h1, h2⟩ := hsub p hpm
        obtain ⟨e, s⟩ := p
        unfold seqK at h1
        cases e with
        | normal => exact Good.le (execC_keep hK y s M h1) fun q hq => hN q (h2 q hq)
        | _ => simp only [Option.some.injEq] at h1; subst h1; exact hN _ (h2 _ (List.mem_singleton_self _))
      refine wpIn_seq (Go.wpIn_mono (ihx st A hx hp hc.1 hf hA h0) fun e a1 w1 hq => ?_)
      obtain ⟨p, hpm, γ1, he, hp1, hsz, hs⟩ := hq
      obtain ⟨M, h1, h2⟩ := hsub p hpm
      obtain ⟨e', s⟩ := p
      simp only at he hp1 hs
      subst he
      unfold seqK at h1
      cases e with
      | normal =>
        refine Go.wpIn_mono (ihy s M h1 hp1 (by rw [hsz]; exact hc.2) (hs.fresh hf) (fun q hq => hN q (h2 q hq)) (Nat.le_trans h0 hs.upd.size)) fun e a2 w2 hq => ?_
        rw [hsz] at hq
        exact hq.trans hs h2
      | _ => simp only [Option.some.injEq] at h1; subst h1; exact ⟨_, h2 _ (List.mem_singleton_self _), γ1, rfl, hp1, hsz, hs⟩
  | cond x y z ihy ihz =>
    intro st L h γ w a rd N0 N hp hc hf hN h0
    simp only [codeOk, Bool.and_eq_true] at hc
    rw [execC_cond] at h
    cases hv : evalA st.fr x with
    | bool t =>
      rw [hv] at h
      simp only at h
      have he := (evalR hp.fr hc.1.1)
      rw [hv] at he
      refine wpIn_cond (he.flat_eq rfl) ?_
      cases t with
      | true => exact ihy st L h hp hc.1.2 hf hN h0
      | false => exact ihz st L h hp hc.2 hf hN h0
    | _ => rw [hv] at h; cases h
  | block id x ih =>
    intro st L h γ w a rd N0 N hp hc hf hN h0
    rw [execC_block] at h
    cases hx : execC T rec x st with
    | none => rw [hx] at h; cases h
    | some A =>
      rw [hx] at h
      simp only [Option.some.injEq] at h
      subst h
      have hhp : ∀ p : Exit × St, (atBlock id p).2 = p.2 := by
        intro p
        obtain ⟨e, s⟩ := p
        unfold atBlock
        cases e <;> rfl
      refine wpIn_block (Go.wpIn_mono (ih st A hx hp hc hf (fun p hpm => by
        have := hN _ (List.mem_map.2 ⟨p, hpm, rfl⟩)
        rw [hhp] at this
        exact this) h0) fun e a1 w1 hq => ?_)
      obtain ⟨p, hpm, γ1, he, hp1, hsz, hs⟩ := hq
      have hm : atBlock id p ∈ A.map (atBlock id) := List.mem_map.2 ⟨p, hpm, rfl⟩
      obtain ⟨e', s⟩ := p
      simp only at he hp1 hs
      subst he
      cases e with
      | exit i =>
        show if i = id then _ else _
        by_cases hi : i = id
        · subst hi
          rw [if_pos rfl]
          have hb : atBlock i (.exit i, s) = (.normal, s) := by unfold atBlock; simp
          rw [hb] at hm
          exact ⟨_, hm, γ1, rfl, hp1, hsz, hs⟩
        · rw [if_neg hi]
          have hb : atBlock id (.exit i, s) = (.exit i, s) := by
            unfold atBlock
            have : Nat.beq i id = false := by rw [Tr.beq_eq]; simpa using hi
            simp only [this, cond_false]
          rw [hb] at hm
          exact ⟨_, hm, γ1, rfl, hp1, hsz, hs⟩
      | _ => exact ⟨_, hm, γ1, rfl, hp1, hsz, hs⟩
  | loop x ih =>
    intro st L h γ w a rd N0 N hp hc hf hN h0
    rw [execC_loop] at h
    cases hx : rec (.loop x st) with
    | none => rw [hx] at h; cases h
    | some R =>
      rw [hx] at h
      simp only at h
      have hm : ∀ r ∈ R, ∃ p ∈ L, r = .out p.1 p.2 := by
        intro r hrm
        obtain ⟨M, h1, h2⟩ := bindL_sub h r hrm
        cases r with
        | ret v hp => cases h1
        | out e s => simp only [outOf, Option.some.injEq] at h1; subst h1; exact ⟨(e, s), h2 _ (List.mem_singleton_self _), rfl⟩
      exact wpIn_loop_rounds m (hS.loop x st R hx L hm γ w a rd N0 N hp hc hf (fun r hrm => by
        obtain ⟨p, h1, rfl⟩ := hm r hrm
        exact hN p h1) h0)
  | rangeFunc f ps as bd _ _ =>
    intro st L h γ w a rd N0 N hp hc hf hN h0
    rw [execC_range] at h
    exact range_sound hK hS h hp hc hf hN h0
  | goto l => intro st L h; rw [execC_goto] at h; cases h
  | scope c ih =>
    intro st L h γ w a rd N0 N hp hc hf hN h0
    rw [execC_scope] at h
    obtain ⟨h1, h2⟩ := scopeK_some h
    refine wpIn_scope (ih st L h1 hp hc hf hN h0) fun l a w hq => ?_
    obtain ⟨p, hpm, _, he, _⟩ := hq
    exact h2 p hpm l he.symm
  | refuse y => intro st L h; rw [execC_refuse] at h; cases h

/-- The marks are come to at the end of a call; no round has left anything there. -/
theorem leaves_marks {P : Program} {fn : Func} {tmps : Array Value} {R : Ending → World → Prop} {γ : Gm} : ∀ (rs : List Nat) (w : World), rs.Nodup →
    (∀ r ∈ rs, w.heap[r]? = some (.deferred (some [])) ∧ ∀ k o, γ.loc k ≠ some (r, o)) →
    (∀ w', w'.os = w.os → w'.tape = w.tape → w'.output = w.output → w'.heap.size = w.heap.size → (∀ i, i ∉ rs → w'.heap[i]? = w.heap[i]?) → LeavesIn (FW none) 0 P fn tmps R [] .returning w') →
    LeavesInM (FW none) 0 P fn tmps R (rs.map fun r => { target := .collected r, args := #[] }) .returning w := by
  intro rs
  induction rs with
  | nil => intro w _ _ h; exact h w rfl rfl rfl rfl (fun _ _ => rfl)
  | cons r rs ih =>
    intro w hnd hr h
    refine ⟨by simp, .inl ⟨r, w.putObj r (.deferred none), rfl, run_takeDeferred (hr r (by simp)).1, ?_⟩⟩
    have hnd' := List.nodup_cons.1 hnd
    refine ih _ hnd'.2 (fun r' hr' => ?_) fun w' h1 h2 h3 h4 h5 => ?_
    · have hne : r' ≠ r := fun e => by subst e; exact hnd'.1 hr'
      rw [World.putObj_heap_other hne]
      exact hr r' (List.mem_cons_of_mem _ hr')
    · refine h w' h1 h2 h3 (h4.trans World.putObj_size) fun i hi => ?_
      have h6 : i ≠ r ∧ i ∉ rs := ⟨fun e => hi (by rw [e]; simp), fun e => hi (List.mem_cons_of_mem _ e)⟩
      rw [h5 i h6.2, World.putObj_heap_other h6.1]

theorem call_sound (hT : TabOk T) (hK : KeepRec rec) (hS : SoundRec T rec m) (hD : DrawSound T rec) {f : FuncId} {args : List Value} {hp : Hp} {L : List Res} (h : stepJ T rec (.call f args hp) = some L) :
    (∃ fn c, T.P.funcs[f]? = some fn ∧ (fn.name == "runtime.NumGoroutine") = false ∧ fn.body = some c) ∧
    ∀ γ w args' N, Wf hp → HR γ hp.get w → Fresh γ hp.n N → (∀ r ∈ L, r.hp.n ≤ N) → VRL γ args args' → CallsIn (FW none) 0 T.P f args'.toArray w (RetR γ hp w L) := by
  obtain ⟨fn, c, R, h1, h2, h3, h4⟩ := stepJ_call_some h
  obtain ⟨q1, q2, q3⟩ := hT.fn f fn h1
  refine ⟨⟨fn, c, q1, q2, h2⟩, fun γ w args' N hw hh hf hN ha => ?_⟩
  refine callsIn_of_wp_marks (F := FW none) q1 h2 trivial ?_ rfl
  have hsub : ∀ p ∈ R, ∃ M, endCall T fn.results.toList p = some M ∧ ∀ q ∈ M, q ∈ L := fun p hpm => bindL_sub h4 p hpm
  have hR : ∀ p ∈ R, p.2.hp.n ≤ N := by
    intro p hpm
    obtain ⟨M, e1, e2⟩ := hsub p hpm
    obtain ⟨_, vs, _, rfl⟩ := endCall_some e1
    exact hN _ (e2 _ (List.mem_singleton_self _))
  have hok : codeOk (args'.toArray ++ Array.replicate (fn.ntmps - args'.toArray.size) undef).size c = true := codeOk_mono (by simp; omega) (q3 c h2)
  have hpre : Pre γ ⟨setArgs .leaf 0 args, hp, false⟩ { tmps := args'.toArray ++ Array.replicate (fn.ntmps - args'.toArray.size) undef, defers := [] } w none w.heap.size :=
    ⟨FrR.args ha _, hh, rfl, DefR.nil _ _ _, hw⟩
  refine Go.wpIn_mono (execC_sound hT hK hS hD c _ R h3 hpre hok hf hR (Nat.le_refl _)) fun e a' w' hq => ?_
  obtain ⟨p, hpm, γ', he, hp', hsz, hs⟩ := hq
  obtain ⟨M, e1, e2⟩ := hsub p hpm
  obtain ⟨hne, vs, hvs, rfl⟩ := endCall_some e1
  have hmem := e2 _ (List.mem_singleton.2 rfl)
  have key : LeavesInM (FW none) 0 T.P fn a'.tmps (RetR γ hp w L) a'.defers .returning w' := by
    obtain ⟨rs, d1, d2, d3⟩ := hp'.df
    rw [d1]
    refine leaves_marks (γ := γ') rs w' d2 (fun r hr => ⟨(d3 r hr).2.1, (d3 r hr).2.2⟩) fun w2 k1 k2 k3 k4 k5 => ?_
    have hh2 : HR γ' p.2.hp.get w2 := hp'.hr.off (by omega) fun k b o hl => k5 b fun hb => (d3 b hb).2.2 k o hl
    obtain ⟨v', r1, r2⟩ := results_R hT hh2 hp'.fr hvs
    refine ⟨v', r1, oneOrTuple vs, p.2.hp, v', γ', hmem, rfl, r2, hs.n, hs.le, hs.out, hh2, hs.upd.off k1 k2 k3 (by omega) fun b hb => k5 b fun hbm => ?_⟩
    have := (d3 b hbm).1
    omega
  obtain ⟨e', s⟩ := p
  simp only at he hne
  subst he
  rcases hne with rfl | rfl
  · exact key
  · exact key

theorem round_sound (hT : TabOk T) (hK : KeepRec rec) (hS : SoundRec T rec m) (hD : DrawSound T rec) {l : Nat} {args : List Value} {hp : Hp} {L : List Res} (h : stepJ T rec (.round l args hp) = some L)
    (γ : Gm) (w : World) (args' : List Value) (N b : Nat) (hw : Wf hp) (hl : γ.loc l = some (b, 0)) (hh : HR γ hp.get w) (hf : Fresh γ hp.n N) (hN : ∀ r ∈ L, r.hp.n ≤ N) (ha : VRL γ args args') :
    ∃ r : Loop, w.heap[b]? = some (.loop r) ∧ args'.length = r.params.size ∧
      RoundIn (FW none) 0 T.P b r.fn ((r.params.zip args'.toArray).foldl (fun tmps (t, a) => tmps.setIfInBounds t a) r.tmps) r.assign r.body w (RetR γ hp w L) := by
  obtain ⟨pend, fr, ps, as, bd, R, h1, h2, h3, h4⟩ := stepJ_round_some h
  obtain ⟨_, r, r1, r2, r3, r4, r5, r6, r7, r8, r9, r10⟩ := hh.loopBlk h1 hl
  subst r4 r5 r6
  refine ⟨r, r1, ha.1.symm.trans h2, ?_⟩
  refine roundIn_of_wpIn (F := FW none) trivial ?_
  have hz : (r.params.zip args'.toArray).foldl (fun tmps (t, a) => tmps.setIfInBounds t a) r.tmps = (r.params.toList.zip args').foldl (fun tmps (t, a) => tmps.setIfInBounds t a) r.tmps := by
    rw [← Array.foldl_toList, Array.toList_zip]
  rw [hz]
  have hlen : r.params.toList.length = args'.length := by rw [Array.length_toList]; exact (ha.1.symm.trans h2).symm
  obtain ⟨f1, f2⟩ := setParams_R (γ := γ) (r.params.toList.zip args) (r.params.toList.zip args') fr r.tmps r7 (by simp [ha.1]) fun i p p' x y => by
    rw [List.getElem?_zip_eq_some] at x y
    obtain ⟨x1, x2⟩ := x
    obtain ⟨y1, y2⟩ := y
    rw [x1] at y1
    simp only [Option.some.injEq] at y1
    exact ⟨y1, ha.2 i _ _ x2 y2, by rw [← y1]; exact r10 _ (by have := List.mem_of_getElem? x1; simpa using this)⟩
  have hsub : ∀ p ∈ R, ∃ M, beginRoundA T rec l r.body p = some M ∧ ∀ q ∈ M, q ∈ L := fun p hpm => bindL_sub h4 p hpm
  have endN : ∀ {q : Exit × St} {M : List Res}, endRoundA l q = some M → (∀ x ∈ M, x ∈ L) → q.2.hp.n ≤ N := by
    intro q M e1 e2
    obtain ⟨_, _, _, _, _, _, _, e3⟩ := endRoundA_some e1
    rcases e3 with ⟨_, rfl⟩ | ⟨_, rfl⟩ | ⟨_, _, rfl⟩ <;> exact hN _ (e2 _ (List.mem_singleton_self _))
  have hR : ∀ p ∈ R, p.2.hp.n ≤ N := by
    intro p hpm
    obtain ⟨M, e1, e2⟩ := hsub p hpm
    obtain ⟨_, _, _, _, _, _, R2, _, e4, e5⟩ := beginRoundA_some e1
    have hg := execC_keep hK _ _ _ e4
    have : (p.2.hp.put l _).n ≤ N := Good.le hg fun q hq => by
      obtain ⟨M', x1, x2⟩ := bindL_sub e5 q hq
      exact endN x1 fun x hx => e2 x (x2 x hx)
    exact this
  have hpre : Pre γ ⟨setParams fr (r.params.toList.zip args), hp, true⟩ { tmps := (r.params.toList.zip args').foldl (fun tmps (t, a) => tmps.setIfInBounds t a) r.tmps, defers := [] } w (some b) w.heap.size := ⟨f1, hh, rfl, DefR.nil _ _ _, hw⟩
  refine Go.wpIn_mono (execC_sound hT hK hS hD r.assign _ R h3 hpre (by rw [f2]; exact r8) hf hR (Nat.le_refl _)) fun e a1 w1 hq => ?_
  obtain ⟨p, hpm, γ1, he, hp1, hsz, hs⟩ := hq
  obtain ⟨M, e1, e2⟩ := hsub p hpm
  obtain ⟨hn, pend1, fr1, ps1, as1, bd1, R2, e3, e4, e5⟩ := beginRoundA_some e1
  rw [hn] at he
  subst he
  have hl1 := hs.le.loc _ _ hl
  obtain ⟨_, q, q1, q2, q3, _⟩ := hp1.hr.loopBlk e3 hl1
  have hs2 := Step.loopPut (s' := .busy) (pend' := pend1) hp1.hr e3 hl1 q1
  have hbr := run_beginRound (P := T.P) q1 q2
  have hweq : w1.putObj b (.loop { q with state := .busy }) = w1.putObj b (.loop { q with state := .busy, pending := pend1 }) := by rw [← q3]
  rw [hweq] at hbr
  refine ⟨_, hbr, ?_⟩
  have hs12 := hs.trans hs2
  have hpre2 : Pre γ1 ⟨p.2.fr, p.2.hp.put l (.loop .busy pend1 fr1 ps1 as1 bd1), true⟩ a1 (w1.putObj b (.loop { q with state := .busy, pending := pend1 })) (some b) w.heap.size :=
    ⟨hp1.fr, hs2.hr, rfl, hp1.df.step hs2, (Keep.put p.2.hp _ _ (by rw [e3]; simp)).wf hp1.wf⟩
  have hsz' : a1.tmps.size = r.tmps.size := hsz.trans f2
  refine Go.wpIn_mono (execC_sound hT hK hS hD r.body _ R2 e4 hpre2 (by rw [hsz']; exact r9) (hs12.fresh hf) (fun x hx => by
    obtain ⟨M', x1, x2⟩ := bindL_sub e5 x hx
    exact endN x1 fun y hy => e2 y (x2 y hy)) hs12.upd.size) fun e a2 w2 hq2 => ?_
  obtain ⟨p2, hpm2, γ2, he2, hp2, hsz2, hs3⟩ := hq2
  obtain ⟨M2, x1, x2⟩ := bindL_sub e5 p2 hpm2
  obtain ⟨st4, pend4, fr4, ps4, as4, bd4, y1, y2⟩ := endRoundA_some x1
  have hl2 := hs3.le.loc _ _ hl1
  obtain ⟨_, t, t1, _⟩ := hp2.hr.loopBlk y1 hl2
  obtain ⟨e6, s6⟩ := p2
  simp only at he2 y2
  subst he2
  have fin : ∀ (jump : Option Code) (s' : LoopState) (bo : Bool), s' = (if jump.isNone then .ready else .done) → bo = jump.isNone → (Res.ret (.bool bo) (s6.hp.put l (.loop s' jump fr4 ps4 as4 bd4))) ∈ L →
      ∃ v w', (Instr.endRound b jump).run T.P w2 = .ok v w' ∧ RetR γ hp w L (.returned v) w' := by
    intro jump s' bo hs' hbo hmem
    subst hs' hbo
    refine ⟨_, _, run_endRound jump t1, .bool jump.isNone, _, .bool jump.isNone, γ2, hmem, rfl, .flat rfl, ?_⟩
    exact (hs12.trans hs3).trans (Step.loopPut hp2.hr y1 hl2 t1)
  rcases y2 with ⟨rfl, rfl⟩ | ⟨rfl, rfl⟩ | ⟨id, rfl, rfl⟩
  · exact fin none .ready true rfl rfl (e2 _ (x2 _ (List.mem_singleton_self _)))
  · exact fin (some .ret) .done false rfl rfl (e2 _ (x2 _ (List.mem_singleton_self _)))
  · exact fin (some (.exit id)) .done false rfl rfl (e2 _ (x2 _ (List.mem_singleton_self _)))

theorem loop_sound (hT : TabOk T) (hK : KeepRec rec) (hS : SoundRec T rec m) (hD : DrawSound T rec) {c : Code} {st : St} {Lr : List Res} (h : stepJ T rec (.loop c st) = some Lr)
    (L : List (Exit × St)) (hL : ∀ r ∈ Lr, ∃ p ∈ L, r = .out p.1 p.2) (γ : Gm) (w : World) (a : Act) (rd : Option Nat) (N0 N : Nat) (hp : Pre γ st a w rd N0) (hc : codeOk a.tmps.size c = true) (hf : Fresh γ st.hp.n N)
    (hN : ∀ r ∈ Lr, r.hp.n ≤ N) (h0 : N0 ≤ w.heap.size) : Code.roundsIn (FW rd) 0 T.P c (CodeR γ st.hp w a.tmps.size rd N0 L) (m + 1) a w := by
  obtain ⟨R, h1, h2⟩ := stepJ_loop_some h
  have hsub : ∀ p ∈ R, ∃ M, nextRound rec c p = some M ∧ ∀ q ∈ M, q ∈ Lr := fun p hpm => bindL_sub h2 p hpm
  have hR : ∀ p ∈ R, p.2.hp.n ≤ N := by
    intro p hpm
    obtain ⟨M, e1, e2⟩ := hsub p hpm
    rcases nextRound_some e1 with ⟨_, e3⟩ | ⟨_, rfl⟩
    · exact Good.le (hK _ _ e3) fun q hq => hN q (e2 q hq)
    · exact hN _ (e2 _ (List.mem_singleton_self _))
  rw [roundsIn_succ]
  refine Go.wpIn_mono (execC_sound hT hK hS hD c st R h1 hp hc hf hR h0) fun e a1 w1 hq => ?_
  obtain ⟨p, hpm, γ1, he, hp1, hsz, hs⟩ := hq
  obtain ⟨M, e1, e2⟩ := hsub p hpm
  rcases nextRound_some e1 with ⟨e3, e4⟩ | ⟨e3, rfl⟩
  · rw [e3] at he
    subst he
    have := hS.loop c p.2 M e4 L (fun r hr => hL r (e2 r hr)) γ1 w1 a1 rd N0 N hp1 (by rw [hsz]; exact hc) (hs.fresh hf) (fun r hr => hN r (e2 r hr)) (Nat.le_trans h0 hs.upd.size)
    rw [hsz] at this
    show Code.roundsIn _ _ _ _ _ _ _ _
    have mono : ∀ k a' w', Code.roundsIn (FW rd) 0 T.P c (CodeR γ1 p.2.hp w1 a.tmps.size rd N0 L) k a' w' → Code.roundsIn (FW rd) 0 T.P c (CodeR γ st.hp w a.tmps.size rd N0 L) k a' w' := by
      intro k
      induction k with
      | zero => intro a' w' h; exact h
      | succ k ih =>
        intro a' w' h
        rw [roundsIn_succ] at h ⊢
        refine Go.wpIn_mono h fun e a2 w2 hq => ?_
        cases e with
        | normal => exact ih _ _ hq
        | _ => exact CodeR.trans hs hq fun _ h => h
    exact mono _ _ _ this
  · obtain ⟨q, hq, hqe⟩ := hL _ (e2 _ (List.mem_singleton_self _))
    obtain ⟨e', s⟩ := p
    simp only at he e3 hqe
    subst he
    cases hqe
    have : CodeR γ st.hp w a.tmps.size rd N0 L q.1 a1 w1 := ⟨q, hq, γ1, rfl, hp1, hsz, hs⟩
    revert e3
    generalize q.1 = e0 at this
    intro e3
    cases e0 <;> first | exact absurd rfl e3 | exact this

theorem sound_succ (hT : TabOk T) (hK : KeepRec rec) (hS : SoundRec T rec m) (hD : DrawSound T rec) : SoundRec T (stepJ T rec) (m + 1) :=
  ⟨fun _ _ _ _ h => call_sound hT hK hS hD h, fun _ _ _ _ h => round_sound hT hK hS hD h, fun _ _ _ h => loop_sound hT hK hS hD h⟩

theorem sound_run (hT : TabOk T) (hD : ∀ rec m, KeepRec rec → SoundRec T rec m → DrawSound T rec) (n : Nat) : SoundRec T (run T n) n := by
  induction n with
  | zero => exact { call := fun _ _ _ _ h => (by rw [run_zero'] at h; cases h), round := fun _ _ _ _ h => (by rw [run_zero'] at h; cases h), loop := fun _ _ _ h => (by rw [run_zero'] at h; cases h) }
  | succ n ih =>
    have := sound_succ hT (run_keep n) ih (hD _ _ (run_keep n) ih)
    exact this
end
end Go.RM
