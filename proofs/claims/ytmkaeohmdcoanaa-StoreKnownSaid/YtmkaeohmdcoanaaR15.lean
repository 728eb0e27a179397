/-
  The abstract machine: its code is the model's. Lemmas alone; no condition but that the tables are the program's.
-/
import Derived.Test.YtmkaeohmdcoanaaR14
import Derived.LoopNIn
namespace Go.RM
open Go

theorem codeOk_mono {n m : Nat} (h : n ≤ m) : ∀ {c : Code}, codeOk n c = true → codeOk m c = true := by
  intro c
  induction c with
  | region id ops draw =>
    intro hc
    simp only [codeOk, Bool.and_eq_true, List.all_eq_true] at hc ⊢
    refine ⟨hc.1, fun o ho => ⟨(hc.2 o ho).1, ?_⟩⟩
    have := (hc.2 o ho).2
    cases hd : o.dst with
    | none => rfl
    | some d =>
      rw [hd] at this
      simp only at this ⊢
      have h1 := Nat.le_of_ble_eq_true this
      exact Nat.ble_eq_true_of_le (Nat.le_trans h1 h)
  | seq a b iha ihb => intro hc; simp only [codeOk, Bool.and_eq_true] at hc ⊢; exact ⟨iha hc.1, ihb hc.2⟩
  | cond x a b iha ihb => intro hc; simp only [codeOk, Bool.and_eq_true] at hc ⊢; exact ⟨⟨hc.1.1, iha hc.1.2⟩, ihb hc.2⟩
  | block id c ih => intro hc; simp only [codeOk] at hc ⊢; exact ih hc
  | loop c ih => intro hc; simp only [codeOk] at hc ⊢; exact ih hc
  | scope c ih => intro hc; simp only [codeOk] at hc ⊢; exact ih hc
  | rangeFunc f ps a b iha ihb =>
    intro hc
    simp only [codeOk, Bool.and_eq_true, List.all_eq_true] at hc ⊢
    exact ⟨⟨⟨hc.1.1.1, fun p hp => Nat.ble_eq_true_of_le (Nat.le_trans (Nat.le_of_ble_eq_true (hc.1.1.2 p hp)) h)⟩, iha hc.1.2⟩, ihb hc.2⟩
  | _ => intro _; rfl

structure Pre (γ : Gm) (st : St) (a : Act) (w : World) (rd : Option Nat) (N0 : Nat) : Prop where
  fr : FrR γ st.fr a.tmps
  hr : HR γ st.hp.get w
  rd : st.rd = rd.isSome
  df : DefR γ w N0 a.defers
  wf : Wf st.hp

def RetR (γ : Gm) (H : Hp) (w : World) (L : List Res) (e : Ending) (w' : World) : Prop :=
  ∃ v hp v' γ', Res.ret v hp ∈ L ∧ e = .returned v' ∧ VR γ' v v' ∧ Step γ H w γ' hp w'

def CodeR (γ : Gm) (H : Hp) (w : World) (sz : Nat) (rd : Option Nat) (N0 : Nat) (L : List (Exit × St)) (e : Exit) (a' : Act) (w' : World) : Prop :=
  ∃ p ∈ L, ∃ γ', e = p.1 ∧ Pre γ' p.2 a' w' rd N0 ∧ a'.tmps.size = sz ∧ Step γ H w γ' p.2.hp w'

theorem CodeR.trans {γ γ1 : Gm} {H H1 : Hp} {w w1 w2 : World} {sz : Nat} {rd : Option Nat} {N0 : Nat} {L M : List (Exit × St)} {e : Exit} {a : Act}
    (s : Step γ H w γ1 H1 w1) (h : CodeR γ1 H1 w1 sz rd N0 M e a w2) (hs : ∀ p ∈ M, p ∈ L) : CodeR γ H w sz rd N0 L e a w2 := by
  obtain ⟨p, hp, γ', h1, h2, h3, h4⟩ := h
  exact ⟨p, hs p hp, γ', h1, h2, h3, s.trans h4⟩

structure SoundRec (T : Tab) (rec : Job → Option (List Res)) (m : Nat) : Prop where
  call : ∀ f args hp L, rec (.call f args hp) = some L → (∃ fn c, T.P.funcs[f]? = some fn ∧ (fn.name == "runtime.NumGoroutine") = false ∧ fn.body = some c) ∧
    ∀ γ w args' N, Wf hp → HR γ hp.get w → Fresh γ hp.n N → (∀ r ∈ L, r.hp.n ≤ N) → VRL γ args args' → CallsIn (FW none) 0 T.P f args'.toArray w (RetR γ hp w L)
  round : ∀ l args hp L, rec (.round l args hp) = some L → ∀ γ w args' N b, Wf hp → γ.loc l = some (b, 0) → HR γ hp.get w → Fresh γ hp.n N → (∀ r ∈ L, r.hp.n ≤ N) → VRL γ args args' →
    ∃ r : Loop, w.heap[b]? = some (.loop r) ∧ args'.length = r.params.size ∧
      RoundIn (FW none) 0 T.P b r.fn ((r.params.zip args'.toArray).foldl (fun tmps (t, a) => tmps.setIfInBounds t a) r.tmps) r.assign r.body w (RetR γ hp w L)
  loop : ∀ c st Lr, rec (.loop c st) = some Lr → ∀ L, (∀ r ∈ Lr, ∃ p ∈ L, r = .out p.1 p.2) → ∀ γ w a rd N0 N, Pre γ st a w rd N0 → codeOk a.tmps.size c = true → Fresh γ st.hp.n N → (∀ r ∈ Lr, r.hp.n ≤ N) →
    N0 ≤ w.heap.size → Code.roundsIn (FW rd) 0 T.P c (CodeR γ st.hp w a.tmps.size rd N0 L) m a w

def DrawSound (T : Tab) (rec : Job → Option (List Res)) : Prop :=
  ∀ id ops st L, execDraw T rec ops ops.toList 0 st [] = some L → ∀ γ w a rd N0 N, Pre γ st a w rd N0 → codeOk a.tmps.size (.region id ops true) = true → Fresh γ st.hp.n N → (∀ s ∈ L, s.hp.n ≤ N) →
    (Code.region id ops true).wpIn (FW rd) 0 T.P (CodeR γ st.hp w a.tmps.size rd N0 (L.map fun s => (.normal, s))) a w

section
variable {T : Tab} {rec : Job → Option (List Res)} {m : Nat}

theorem VR.func_inv {γ : Gm} {f : FuncId} {fs cs : Array Value} {v : Value} (h : VR γ (.func (.func f) fs cs) v) : ∃ fs' cs', v = .func (.func f) fs' cs' ∧ VRL γ fs.toList fs'.toList ∧ VRL γ cs.toList cs'.toList := by
  cases h with
  | flat h => cases h
  | func h1 h2 hf hc => exact ⟨_, _, rfl, .of_arr h1 hf, .of_arr h2 hc⟩

theorem VR.yield_inv {γ : Gm} {l : Nat} {fs cs : Array Value} {v : Value} (h : VR γ (.func (.yield l) fs cs) v) : fs = #[] ∧ ∃ b, v = .func (.yield b) #[] #[] ∧ γ.loc l = some (b, 0) := by
  cases h with
  | flat h => cases h
  | yield h => exact ⟨rfl, _, rfl, h⟩

theorem goalOf_fn {v : Value} {args : List Value} {f : FuncId} {as : List Value} (h : goalOf v args = some (.fn f as)) : ∃ fs cs, v = .func (.func f) fs cs ∧ as = fs.toList ++ args ++ cs.toList := by
  unfold goalOf at h
  split at h
  · simp only [Option.some.injEq, Goal.fn.injEq] at h
    obtain ⟨rfl, rfl⟩ := h
    exact ⟨_, _, rfl, rfl⟩
  · simp at h
  · cases h

theorem goalOf_yield {v : Value} {args : List Value} {l : Nat} {as : List Value} (h : goalOf v args = some (.yield l as)) : ∃ fs cs, v = .func (.yield l) fs cs ∧ as = fs.toList ++ args := by
  unfold goalOf at h
  split at h
  · simp at h
  · simp only [Option.some.injEq, Goal.yield.injEq] at h
    obtain ⟨rfl, rfl⟩ := h
    exact ⟨_, _, rfl, rfl⟩
  · cases h

theorem run_callFunc {P : Program} {f : FuncId} {fn : Func} {c : Code} (h : P.funcs[f]? = some fn) (hn : (fn.name == "runtime.NumGoroutine") = false) (hb : fn.body = some c) (args : Array Value) (w : World) :
    (callFunc f args).run P w = .ok (.enter f args) w := by
  unfold callFunc
  have hn' : ¬ fn.name = "runtime.NumGoroutine" := by simpa using hn
  simp [program, Sem.run, h, hn', hb]

/-- A call of a function value. -/
theorem goal_run (hS : SoundRec T rec m) {γ : Gm} {H : Hp} {w : World} {v v' : Value} {args args' : List Value} {g : Goal} {L : List Res} {N : Nat} (hg : goalOf v args = some g) (hv : VR γ v v') (ha : VRL γ args args')
    (hr : rec (jobOf H g) = some L) (hw : Wf H) (hh : HR γ H.get w) (hf : Fresh γ H.n N) (hN : ∀ r ∈ L, r.hp.n ≤ N) {d : Deferred} (hd : (Deferred.ofValue v' args'.toArray).run T.P w = .ok d w) :
    (∃ f as, (invoke d.target d.args).run T.P w = .ok (.enter f as) w ∧ CallsIn (FW none) 0 T.P f as w (RetR γ H w L)) ∨
    (∃ l f tm asg bd, (invoke d.target d.args).run T.P w = .ok (.round l f tm asg bd) w ∧ RoundIn (FW none) 0 T.P l f tm asg bd w (RetR γ H w L)) := by
  cases g with
  | fn f as =>
    obtain ⟨fs, cs, rfl, rfl⟩ := goalOf_fn hg
    obtain ⟨fs', cs', rfl, e1, e2⟩ := hv.func_inv
    obtain ⟨⟨fn, c, h1, h2, h3⟩, hcall⟩ := hS.call _ _ _ _ hr
    have hd' : d = { target := .fn (.func f) cs', args := fs' ++ args'.toArray } := by
      simp only [Deferred.ofValue] at hd
      cases hd; rfl
    subst hd'
    refine .inl ⟨f, fs' ++ args'.toArray ++ cs', run_callFunc h1 h2 h3 _ w, ?_⟩
    have := hcall γ w (fs'.toList ++ args' ++ cs'.toList) N hw hh hf hN ((e1.append ha).append e2)
    have he : (fs'.toList ++ args' ++ cs'.toList).toArray = fs' ++ args'.toArray ++ cs' := by apply Array.ext'; simp
    rw [he] at this
    exact this
  | yield l as =>
    obtain ⟨fs, cs, rfl, rfl⟩ := goalOf_yield hg
    obtain ⟨rfl, b, rfl, hl⟩ := hv.yield_inv
    have hd' : d = { target := .fn (.yield b) #[], args := #[] ++ args'.toArray } := by
      simp only [Deferred.ofValue] at hd
      cases hd; rfl
    subst hd'
    obtain ⟨r, h1, h2, h3⟩ := hS.round _ _ _ _ hr γ w args' N b hw hl hh hf hN (by simpa using ha)
    refine .inr ⟨b, r.fn, _, r.assign, r.body, ?_, h3⟩
    show (Instr.yield b (#[] ++ args'.toArray)).run T.P w = _
    rw [Array.empty_append]
    exact run_yield h1 (by simpa using h2)

theorem kindOf_call {o : Op} {f : Operand} {as : List Operand} (h : kindOf o = .call f as) : ∃ args tys, o = .call ⟨.value f, args, tys⟩ ∧ as = args.toList := by
  unfold kindOf at h
  split at h
  · simp only [Kind.call.injEq] at h; obtain ⟨rfl, rfl⟩ := h; exact ⟨_, _, rfl, rfl⟩
  · cases h
  · cases h

theorem kindOf_next {o : Op} {it : Operand} (h : kindOf o = .next it) : o = .next it false := by
  unfold kindOf at h
  split at h
  · cases h
  · simp only [Kind.next.injEq] at h; rw [h]
  · cases h

theorem opA_defer {n : Nat} {o : Op} {ρ : Operand → Value} {g : Getter} {v : Value} {e : Eff} (h : opA T n o ρ g = some (v, e)) : ∀ c, o ≠ .defer c := by
  intro c hc
  subst hc
  cases h

theorem Oper.plainIn {rd : Option Nat} {P : Program} {o : Oper} {a : Act} {w w' : World} {next : Act → World → Prop} {Q : Exit → Act → World → Prop} {v' : Value} (hp : ∀ c, o.op ≠ .defer c)
    (hr : (execOp a.eval o).run P w = .ok (.value v') w' ∨ ((execOp a.eval o).run P w = .ok .skip w' ∧ v' = undef)) (h : next (a.put o.dst v') w') : o.wpIn (FW rd) 0 P a w next Q := by
  refine ⟨fun _ _ => trivial, ?_⟩
  have he : o.semAt rd a.eval = execOp a.eval o := Oper.semAt_plain (FW rd) _ _ hp
  show o.uponIn _ _ _ _ _ _ ((o.semAt rd a.eval).run P w)
  rw [he]
  rcases hr with hr | ⟨hr, rfl⟩
  · rw [hr]; exact h
  · rw [hr]; exact h

/-- One operation of a region in the text's order. -/
theorem anyOp_sound (hT : TabOk T) (hS : SoundRec T rec m) {o : Oper} {st : St} {L : List (Value × Hp)} (ho : anyOp T rec o.op st = some L) {γ : Gm} {w : World} {a : Act} {rd : Option Nat} {N : Nat}
    (hfr : FrR γ st.fr a.tmps) (hw : Wf st.hp) (hh : HR γ st.hp.get w) (hops : o.op.operands.toList.all opdOk = true) (hf : Fresh γ st.hp.n N) (hN : ∀ p ∈ L, p.2.n ≤ N) {next : Act → World → Prop} {Q : Exit → Act → World → Prop}
    (hnext : ∀ v hp v' γ' w', (v, hp) ∈ L → VR γ' v v' → Step γ st.hp w γ' hp w' → next (a.put o.dst v') w') : o.wpIn (FW rd) 0 T.P a w next Q := by
  have hev : ∀ x ∈ o.op.operands, VR γ (evalA st.fr x) (a.eval x) := fun x hx => evalR hfr (List.all_eq_true.1 hops x (by simpa using hx))
  unfold anyOp at ho
  split at ho
  · rename_i f as hk
    obtain ⟨args, tys, hop, rfl⟩ := kindOf_call hk
    split at ho
    · rename_i g hg
      cases hr : rec (jobOf st.hp g) with
      | none => rw [hr] at ho; cases ho
      | some R =>
        rw [hr] at ho
        simp only at ho
        have hmem : ∀ r ∈ R, ∃ v hp, r = .ret v hp ∧ (v, hp) ∈ L := by
          intro r hrm
          obtain ⟨Ma, h1, h2⟩ := bindL_sub ho r hrm
          cases r with
          | ret v hp => simp only [valOf, Option.some.injEq] at h1; subst h1; exact ⟨v, hp, rfl, h2 _ (by simp)⟩
          | out e s => cases h1
        have hv := hev f (by rw [hop]; simp [Op.operands, Call.operands])
        have ha : VRL γ (args.toList.map (evalA st.fr)) (args.toList.map a.eval) := VRL.map fun x hx => hev x (by rw [hop]; simp [Op.operands, Call.operands]; exact .inr (by simpa using hx))
        have hN' : ∀ r ∈ R, r.hp.n ≤ N := fun r hrm => by
          obtain ⟨v, hp, rfl, hm⟩ := hmem r hrm
          exact hN _ hm
        have hd : ∃ d, (Deferred.ofValue (a.eval f) (args.toList.map a.eval).toArray).run T.P w = .ok d w := by
          cases g with
          | fn f' as' =>
            obtain ⟨fs, cs, e, _⟩ := goalOf_fn hg
            rw [e] at hv
            obtain ⟨fs', cs', e', _, _⟩ := hv.func_inv
            rw [e']
            exact ⟨_, rfl⟩
          | yield l as' =>
            obtain ⟨fs, cs, e, _⟩ := goalOf_yield hg
            rw [e] at hv
            obtain ⟨_, b, e', _⟩ := hv.yield_inv
            rw [e']
            exact ⟨_, rfl⟩
        obtain ⟨d, hd⟩ := hd
        have hback : ∀ e w', RetR γ st.hp w R e w' → (match e with
            | .returned v => next (a.put o.dst v) w'
            | .panicked chain => Q (.panic chain) a w'
            | .outgrown => LetsOut Q) := by
          intro e w' ⟨v, hp, v', γ', hm, he, hv', hs⟩
          subst he
          obtain ⟨v0, hp0, e0, hm0⟩ := hmem _ hm
          cases e0
          exact hnext v hp v' γ' w' hm0 hv' hs
        refine ⟨fun _ _ => trivial, ?_⟩
        have he : o.semAt rd a.eval = execOp a.eval o := Oper.semAt_plain (FW rd) _ _ (by rw [hop]; intro c hc; cases hc)
        show o.uponIn _ _ _ _ _ _ ((o.semAt rd a.eval).run T.P w)
        rw [he]
        have hx : (execOp a.eval o).run T.P w = (invoke d.target d.args).run T.P w := by
          obtain ⟨dst, op, ty, pos, after, guard⟩ := o
          simp only at hop
          subst hop
          show (do let d ← resolve a.eval ⟨.value f, args, tys⟩ ty; invoke d.target d.args : Sem Next).run T.P w = _
          refine run_bind_ok ?_
          have e2 : (args.toList.map a.eval).toArray = args.map a.eval := by apply Array.ext'; simp
          rw [e2] at hd
          exact hd
        rw [hx]
        rcases goal_run hS hg hv ha hr hw hh hf hN' hd with ⟨f', as', h1, h2⟩ | ⟨l, f', tm, asg, bd, h1, h2⟩
        · rw [h1]
          refine ⟨fun h => Bool.noConfusion h, ?_⟩
          exact CallsIn.mono (F := FW none) h2 fun e w' he => by
            have := hback e w' he
            cases e <;> exact this
        · rw [h1]
          refine ⟨fun h => Bool.noConfusion h, ?_⟩
          exact RoundIn.mono (F := FW none) h2 fun e w' he => by
            have := hback e w' he
            cases e <;> exact this
    · cases ho
  · rename_i it hk
    have hop := kindOf_next hk
    simp only [Option.map_eq_some_iff] at ho
    obtain ⟨M, hM, rfl⟩ := ho
    obtain ⟨v, e, hm, hg⟩ := nextA_good (T := T) (n := st.hp.n) (ty := o.type) hh hM (hev it (by rw [hop]; simp [Op.operands]))
    obtain ⟨v', w', γ', h1, h2, h3⟩ := hg.step
    refine Oper.plainIn (w' := w') (v' := v') (by rw [hop]; intro c hc; cases hc) ?_ (hnext v _ v' γ' w' (List.mem_map.2 ⟨(v, e), hm, rfl⟩) h2 h3)
    obtain ⟨dst, op, ty, pos, after, guard⟩ := o
    simp only at hop
    subst hop
    exact h1
  · split at ho
    · rename_i v e hop
      simp only [Option.some.injEq] at ho
      subst ho
      have hn : e.news = true → γ.loc st.hp.n = none := fun he => hf _ (Nat.le_refl _) (by
        have := hN (v, st.hp.app e) (by simp)
        simp only [app_n, he, if_true] at this
        omega)
      obtain ⟨v', w', γ', h1, h2, h3⟩ := (opA_good (n := st.hp.n) hT hh hn hop hev).step
      exact Oper.plainIn (w' := w') (v' := v') (opA_defer hop) h1 (hnext v _ v' γ' w' (by simp) h2 h3)
    · cases ho

theorem Good.le {β : Type} {H : Hp} {f : β → Hp} {M : List β} (h : Good H f M) {N : Nat} (hN : ∀ b ∈ M, (f b).n ≤ N) : H.n ≤ N := by
  obtain ⟨h1, h2⟩ := h
  cases M with
  | nil => exact absurd rfl h1
  | cons b l => exact Nat.le_trans (h2 b (by simp)).n (hN b (by simp))

theorem Pre.put {γ γ' : Gm} {st : St} {a : Act} {w w' : World} {rd : Option Nat} {N0 : Nat} (h : Pre γ st a w rd N0) {hp : Hp} {v v' : Value} {dst : Option Tmp} (hv : VR γ' v v') (hs : Step γ st.hp w γ' hp w')
    (hd : ∀ d, dst = some d → d < a.tmps.size) (hk : Keep st.hp hp) : Pre γ' ⟨putA st.fr dst v, hp, st.rd⟩ (a.put dst v') w' rd N0 :=
  ⟨(h.fr.mono hs.le).put hv hd, hs.hr, h.rd, by rw [put_defers]; exact h.df.step hs, hk.wf h.wf⟩

def operOk (n : Nat) (o : Oper) : Bool := o.op.operands.toList.all opdOk && (match o.dst with | some d => Nat.blt d n | none => true)

theorem operOk_dst {n : Nat} {o : Oper} (h : operOk n o = true) : ∀ d, o.dst = some d → d < n := by
  intro d hd
  simp only [operOk, Bool.and_eq_true, hd] at h
  exact Nat.le_of_ble_eq_true h.2

theorem execOps_sound (hT : TabOk T) (hK : KeepRec rec) (hS : SoundRec T rec m) (ops : Array Oper) {γ0 : Gm} {H0 : Hp} {w0 : World} {sz : Nat} {rd : Option Nat} {N0 N : Nat} {Lb : List (Exit × St)} :
    ∀ (l : List Oper) (st : St) (L : List St), execOps T rec ops.toList l st = some L → ∀ γ a w, Pre γ st a w rd N0 → a.tmps.size = sz → Step γ0 H0 w0 γ st.hp w → l.all (operOk sz) = true → Fresh γ st.hp.n N →
      (∀ s ∈ L, s.hp.n ≤ N) → (∀ s ∈ L, (Exit.normal, s) ∈ Lb) → wpListIn (FW rd) 0 T.P ops (CodeR γ0 H0 w0 sz rd N0 Lb) l a w := by
  intro l
  induction l with
  | nil =>
    intro st L h γ a w hp hsz hs _ _ _ hb
    rw [execOps_nil] at h
    cases h
    exact ⟨_, hb st (by simp), γ, rfl, hp, hsz, hs⟩
  | cons o l ih =>
    intro st L h γ a w hp hsz hs hok hf hN hb
    rw [execOps_cons] at h
    simp only [List.all_cons, Bool.and_eq_true] at hok
    have hdst : ∀ d, o.dst = some d → d < a.tmps.size := by rw [hsz]; exact operOk_dst hok.1
    rw [wpListIn, guardR hp.fr]
    cases hg : guardA ops.toList st.fr o.guard with
    | false =>
      rw [hg] at h
      simp only [cond_false] at h
      refine ⟨fun _ _ => trivial, ?_⟩
      have hr := Step.refl hp.hr
      exact ih _ L h γ _ w (hp.put (VR.undef γ) hr hdst (.refl _)) ((put_size _ _ _).trans hsz) hs hok.2 hf hN hb
    | true =>
      rw [hg] at h
      simp only [cond_true] at h
      simp only [if_true]
      cases ha : anyOp T rec o.op st with
      | none => rw [ha] at h; cases h
      | some A =>
        rw [ha] at h
        simp only at h
        have hsub : ∀ p ∈ A, ∃ M, execOps T rec ops.toList l ⟨putA st.fr o.dst p.1, p.2, st.rd⟩ = some M ∧ ∀ s ∈ M, s ∈ L := fun p hpm => bindL_sub h p hpm
        have hle : ∀ p ∈ A, p.2.n ≤ N := fun p hpm => by
          obtain ⟨M, h1, h2⟩ := hsub p hpm
          exact Good.le (execOps_keep hK _ _ _ _ h1).1 (fun s hsm => hN s (h2 s hsm))
        have hops : o.op.operands.toList.all opdOk = true := by
          have := hok.1
          simp only [operOk, Bool.and_eq_true] at this
          exact this.1
        refine anyOp_sound hT hS ha hp.fr hp.wf hp.hr hops hf hle fun v hp' v' γ' w' hm hv hst => ?_
        obtain ⟨M, h1, h2⟩ := hsub _ hm
        exact ih _ M h1 γ' _ w' (hp.put hv hst hdst ((anyOp_keep hK ha).2 _ hm)) ((put_size _ _ _).trans hsz) (hs.trans hst) hok.2 (hst.fresh hf) (fun s hsm => hN s (h2 s hsm)) fun s hsm => hb s (h2 s hsm)

theorem HR.loopBlk {γ : Gm} {g : Getter} {w : World} (h : HR γ g w) {l b o : Nat} {s : LoopState} {pend : Option Code} {fr : Tr Value} {ps : Array Tmp} {as bd : Code} (hg : g l = some (.loop s pend fr ps as bd)) (hl : γ.loc l = some (b, o)) :
    o = 0 ∧ ∃ r : Loop, w.heap[b]? = some (.loop r) ∧ r.state = s ∧ r.pending = pend ∧ r.params = ps ∧ r.assign = as ∧ r.body = bd ∧
      FrR γ fr r.tmps ∧ codeOk r.tmps.size as = true ∧ codeOk r.tmps.size bd = true ∧ (∀ p ∈ ps, p < r.tmps.size) := by
  obtain ⟨h0, _, fn, tm, df', h1, h2, h3, h4, h5⟩ := h.blk l b o _ hg hl
  exact ⟨h0, _, h1, rfl, rfl, rfl, rfl, rfl, h2, h3, h4, h5⟩

/-- A loop's record turns. -/
theorem Step.loopPut {γ : Gm} {H : Hp} {w : World} (h : HR γ H.get w) {l b : Nat} {s s' : LoopState} {pend pend' : Option Code} {fr : Tr Value} {ps : Array Tmp} {as bd : Code} (hg : H.get l = some (.loop s pend fr ps as bd)) (hl : γ.loc l = some (b, 0))
    {r : Loop} (hr : w.heap[b]? = some (.loop r)) : Step γ H w γ (H.put l (.loop s' pend' fr ps as bd)) (w.putObj b (.loop { r with state := s', pending := pend' })) := by
  obtain ⟨_, _, fn, tm, df', h1, h2, h3⟩ := h.blk l b 0 _ hg hl
  rw [hr] at h1
  cases h1
  have hlt := h.lt _ _ _ hl
  have hoth : ∀ i, i ≠ b → (w.putObj b (.loop { state := s', pending := pend', fn, tmps := tm, params := ps, assign := as, body := bd, defers := df' })).heap[i]? = w.heap[i]? := fun i hi => World.putObj_heap_other hi
  have hB : γ.B ≤ b := (h.blk l b 0 _ hg hl).2.1
  refine ⟨Nat.le_refl _, Gm.Le.refl γ, fun _ _ => rfl, ?_, ?_⟩
  · rw [Hp.get_put_fun]
    exact h.put hg rfl hl World.putObj_size hoth (.inl rfl) ⟨rfl, hB, fn, tm, df', World.putObj_heap_same hlt, h2, h3⟩
  · rw [Hp.get_put_fun]
    exact Upd.put hg rfl hl rfl rfl rfl World.putObj_size hoth

theorem goalOf_args {v : Value} {args : List Value} {f : FuncId} {as : List Value} (h : goalOf v args = some (.fn f as)) {γ : Gm} {v' : Value} (hv : VR γ v v') (args' : Array Value) (P : Program) (w : World) :
    ∃ d, (Deferred.ofValue v' args').run P w = .ok d w := by
  obtain ⟨fs, cs, e, _⟩ := goalOf_fn h
  rw [e] at hv
  obtain ⟨fs', cs', e', _, _⟩ := hv.func_inv
  rw [e']
  exact ⟨_, rfl⟩

theorem range_sound (hK : KeepRec rec) (hS : SoundRec T rec m) {f : Operand} {ps : Array Tmp} {as bd : Code} {st : St} {L : List (Exit × St)} (h : rangeA' rec f ps as bd st = some L)
    {γ : Gm} {w : World} {a : Act} {rd : Option Nat} {N0 N : Nat} (hp : Pre γ st a w rd N0) (hc : codeOk a.tmps.size (.rangeFunc f ps as bd) = true) (hf : Fresh γ st.hp.n N) (hN : ∀ p ∈ L, p.2.hp.n ≤ N) (h0 : N0 ≤ w.heap.size) :
    (Code.rangeFunc f ps as bd).wpIn (FW rd) 0 T.P (CodeR γ st.hp w a.tmps.size rd N0 L) a w := by
  simp only [codeOk, Bool.and_eq_true, List.all_eq_true] at hc
  obtain ⟨⟨⟨hc1, hc2⟩, hc3⟩, hc4⟩ := hc
  unfold rangeA' at h
  cases hrd : st.rd with
  | true => rw [hrd] at h; simp at h
  | false =>
    rw [hrd] at h
    have hrd' : rd = none := by
      have := hp.rd
      rw [hrd] at this
      cases rd with
      | none => rfl
      | some x => cases this
    subst hrd'
    split at h
    · rename_i g args hg0 hg
      cases hr : rec (.call g args (st.hp.push (.loop .ready none st.fr ps as bd))) with
      | none => rw [hr] at h; cases h
      | some R =>
        rw [hr] at h
        simp only at h
        have hsub : ∀ r ∈ R, ∃ M, endLoopA st.hp.n st.fr r = some M ∧ ∀ q ∈ M, q ∈ L := fun r hrm => bindL_sub h r hrm
        have hNR : ∀ r ∈ R, r.hp.n ≤ N := by
          intro r hrm
          obtain ⟨M, h1, h2⟩ := hsub r hrm
          obtain ⟨v, hp', s, pend, fr0, ps0, as0, bd0, rfl, _, _, h3⟩ := endLoopA_some h1
          rcases h3 with ⟨_, rfl⟩ | ⟨_, rfl⟩ | ⟨id, _, rfl⟩ <;> exact hN _ (h2 _ (List.mem_singleton_self _))
        have hn1 : st.hp.n < N := by
          have := Good.le (hK _ _ hr) hNR
          exact this
        have hnone : γ.loc st.hp.n = none := hf _ (Nat.le_refl _) hn1
        -- the mark's block and the record
        let w1 := w.alloc (.deferred (some []))
        have hh1 : HR γ st.hp.get w1 := hp.hr.off (by show _ ≤ (w.heap.push _).size; simp) fun k b o hl => by
          show (w.heap.push _)[b]? = _
          rw [Array.getElem?_push, if_neg (by have := hp.hr.lt _ _ _ hl; omega)]
        have hsz1 : w1.heap.size = w.heap.size + 1 := by show (w.heap.push _).size = _; simp
        have hu1 : Upd γ st.hp.get w γ st.hp.get w1 := (Upd.refl _ _ _).off rfl rfl rfl (by omega) fun b hb => by
          show (w.heap.push _)[b]? = _
          rw [Array.getElem?_push, if_neg (by omega)]
        refine wpIn_rangeFunc fun fn _ => ?_
        let rcd : Loop := { state := .ready, pending := none, fn, tmps := a.tmps, params := ps, assign := as, body := bd, defers := w.heap.size }
        let w2 := w1.alloc (.loop rcd)
        let γ1 := γ.add st.hp.n w1.heap.size 0
        have hle : γ.Le γ1 := Gm.le_add hnone
        have hh2 : HR γ1 (st.hp.push (.loop .ready none st.fr ps as bd)).get w2 := by
          rw [Hp.get_push_fun]
          refine hh1.new hnone (obj := .loop rcd) rfl ⟨rfl, by rw [hle.B]; exact hh1.base, fn, a.tmps, w.heap.size, ?_, hp.fr.mono hle, hc3, hc4, fun p hpp => Nat.le_of_ble_eq_true (hc2 p (by simpa using hpp))⟩
          show (w1.heap.push _)[w1.heap.size]? = _
          simp [rcd]
        have hs1 : Step γ st.hp w γ1 (st.hp.push (.loop .ready none st.fr ps as bd)) w2 :=
          ⟨Nat.le_succ _, hle, fun k hk => Gm.add_loc_ne _ _ _ (by
            have : (st.hp.push (.loop .ready none st.fr ps as bd)).n = st.hp.n + 1 := rfl
            omega), hh2, by
            rw [Hp.get_push_fun]
            exact hu1.trans (Upd.new (obj := .loop rcd) rfl rfl rfl rfl)⟩
        have hf1 : Fresh γ1 (st.hp.push (.loop .ready none st.fr ps as bd)).n N := hs1.fresh hf
        have hl1 : γ1.loc st.hp.n = some (w.heap.size + 1, 0) := by rw [← hsz1]; exact Gm.add_loc _ _ _ _
        have hw1 : Wf (st.hp.push (.loop .ready none st.fr ps as bd)) := (Keep.push _ _).wf hp.wf
        have hv := (evalR hp.fr hc1).mono hle
        have ha : VRL γ1 [.func (.yield st.hp.n) #[] #[]] [.func (.yield (w.heap.size + 1)) #[] #[]] := .cons (.yield hl1) (VRL.nil _)
        obtain ⟨d, hd⟩ := goalOf_args hg hv #[.func (.yield (w.heap.size + 1)) #[] #[]] T.P w2
        have hcall : ∃ f' as', (invoke d.target d.args).run T.P w2 = .ok (.enter f' as') w2 ∧ CallsIn (FW none) 0 T.P f' as' w2 (RetR γ1 (st.hp.push (.loop .ready none st.fr ps as bd)) w2 R) := by
          rcases goal_run hS (g := .fn g args) hg hv ha hr hw1 hh2 hf1 hNR hd with x | ⟨l', f', tm, asg, bd', h1, _⟩
          · exact x
          · exfalso
            obtain ⟨fs, cs, e, _⟩ := goalOf_fn hg
            rw [e] at hv
            obtain ⟨fs', cs', e', _, _⟩ := hv.func_inv
            rw [e'] at hd
            simp only [Deferred.ofValue] at hd
            cases hd
            obtain ⟨⟨fn', c', q1, q2, q3⟩, _⟩ := hS.call _ _ _ _ hr
            have := run_callFunc q1 q2 q3 (fs' ++ #[Value.func (.yield (w.heap.size + 1)) #[] #[]] ++ cs') w2
            have h1' : (callFunc g (fs' ++ #[Value.func (.yield (w.heap.size + 1)) #[] #[]] ++ cs')).run T.P w2 = _ := h1
            rw [this] at h1'
            cases h1'
        obtain ⟨f', as', hinv, hcl⟩ := hcall
        refine ⟨w.heap.size + 1, _, w2, d, w2, f', as', w2, run_enterLoop_outer fn a.tmps ps as bd, ?_, fun _ _ => trivial, hinv, fun h => Bool.noConfusion h, ?_⟩
        · have hres0 : resolve a.eval (rangeCall f (w.heap.size + 1)) 0 = Deferred.ofValue (a.eval f) #[.func (.yield (w.heap.size + 1)) #[] #[]] := by simp [resolve, Act.eval]
          rw [hres0]; exact hd
        refine CallsIn.mono (F := FW none) hcl fun e w3 hR => ?_
        obtain ⟨v, hp', v', γ', hm, rfl, _, hs2⟩ := hR
        obtain ⟨M, h1, h2⟩ := hsub _ hm
        obtain ⟨v0, hp0, s, pend, fr0, ps0, as0, bd0, e0, hget, hbusy, hres⟩ := endLoopA_some h1
        cases e0
        have hl3 : γ'.loc st.hp.n = some (w.heap.size + 1, 0) := hs2.le.loc _ _ hl1
        obtain ⟨_, r, hr1, hr2, hr3, _⟩ := hs2.hr.loopBlk hget hl3
        have hs3 := Step.loopPut (s' := .exhausted) (pend' := pend) hs2.hr hget hl3 hr1
        have hend := run_endLoop (P := T.P) hr1 (by rw [hr2]; exact hbusy)
        have hsall := (hs1.trans hs2).trans hs3
        have hwe : w3.putObj (w.heap.size + 1) (.loop { r with state := .exhausted }) = w3.putObj (w.heap.size + 1) (.loop { r with state := .exhausted, pending := pend }) := by rw [← hr3]
        rw [hwe] at hend
        rw [hr3] at hend
        let st' : St := ⟨st.fr, hp'.put st.hp.n (.loop .exhausted pend fr0 ps0 as0 bd0), false⟩
        have hpre : Pre γ' st' { a with defers := [{ target := .collected w.heap.size, args := #[] }] ++ a.defers } (w3.putObj (w.heap.size + 1) (.loop { r with state := .exhausted, pending := pend })) none N0 := by
          refine ⟨hp.fr.mono hsall.le, hsall.hr, rfl, ?_, (Keep.put hp' _ _ (by rw [hget]; simp)).wf (((hK _ _ hr).2 _ hm).wf hw1)⟩
          have hd2 : DefR γ1 w2 N0 ([{ target := .collected w.heap.size, args := #[] }] ++ a.defers) := by
            obtain ⟨rs, e1, e2, e3⟩ := hp.df.step hs1
            refine ⟨w.heap.size :: rs, by rw [e1]; rfl, List.nodup_cons.2 ⟨fun hmem => ?_, e2⟩, fun r hrm => ?_⟩
            · obtain ⟨rs0, q1, q2, q3⟩ := hp.df
              have hrr : rs0 = rs := by
                have hinj : ∀ (l l' : List Nat), l.map (fun r => ({ target := .collected r, args := #[] } : Deferred)) = l'.map (fun r => ({ target := .collected r, args := #[] } : Deferred)) → l = l' := by
                  intro l
                  induction l with
                  | nil => intro l' he; cases l' with
                    | nil => rfl
                    | cons => cases he
                  | cons x l ih => intro l' he; cases l' with
                    | nil => cases he
                    | cons y l' =>
                      simp only [List.map_cons, List.cons.injEq, Deferred.mk.injEq, Target.collected.injEq, and_true] at he
                      rw [he.1, ih l' he.2]
                exact hinj _ _ (q1.symm.trans e1)
              subst hrr
              have := (Array.getElem?_eq_some_iff.1 (q3 _ hmem).2.1).1
              omega
            · rcases List.mem_cons.1 hrm with rfl | hrm
              · refine ⟨h0, ?_, fun k o hl => ?_⟩
                · show (w1.heap.push _)[w.heap.size]? = _
                  rw [Array.getElem?_push, if_neg (by omega)]
                  show (w.heap.push _)[w.heap.size]? = _
                  simp
                · by_cases hk : k = st.hp.n
                  · subst hk
                    rw [hl1] at hl
                    simp at hl
                  · have := hp.hr.lt k _ o (by rw [← hl]; exact (Gm.add_loc_ne _ _ _ hk).symm)
                    omega
              · exact e3 r hrm
          exact (hd2.step hs2).step hs3
        refine ⟨pend, _, hend, ?_⟩
        rcases hres with ⟨e, rfl⟩ | ⟨e, rfl⟩ | ⟨id, e, rfl⟩
        · subst e
          exact ⟨_, h2 _ (List.mem_singleton_self _), γ', rfl, hpre, rfl, hsall⟩
        · subst e
          exact wpIn_ret ⟨_, h2 _ (List.mem_singleton_self _), γ', rfl, hpre, rfl, hsall⟩
        · subst e
          exact wpIn_exit ⟨_, h2 _ (List.mem_singleton_self _), γ', rfl, hpre, rfl, hsall⟩
    · cases h
end
end Go.RM
