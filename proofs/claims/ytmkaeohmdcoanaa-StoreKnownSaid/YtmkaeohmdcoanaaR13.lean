/-
  The abstract machine: a run lays blocks upwards, and tells what it has written. Lemmas alone.
-/
import Derived.Test.YtmkaeohmdcoanaaE1
namespace Go.RM

/-- Behind its end a heap is empty. -/
def Wf (h : Hp) : Prop := ∀ k, h.n ≤ k → h.get k = none

/-- From one heap to a later one: the numbers go up; below 'lo' nothing old was written. -/
structure Keep (a b : Hp) : Prop where
  n : a.n ≤ b.n
  lo : b.lo ≤ a.lo
  same : ∀ k, k < a.n → k < b.lo → b.get k = a.get k
  wf : Wf a → Wf b

theorem Keep.refl (a : Hp) : Keep a a := ⟨Nat.le_refl _, Nat.le_refl _, fun _ _ _ => rfl, id⟩
theorem Keep.trans {a b c : Hp} (h : Keep a b) (k : Keep b c) : Keep a c :=
  ⟨Nat.le_trans h.n k.n, Nat.le_trans k.lo h.lo, fun i hi hl => (k.same i (Nat.lt_of_lt_of_le hi h.n) hl).trans (h.same i hi (Nat.lt_of_lt_of_le hl k.lo)), fun hw => k.wf (h.wf hw)⟩
theorem Keep.push (a : Hp) (b : ABlk) : Keep a (a.push b) :=
  ⟨Nat.le_succ _, Nat.le_refl _, fun k hk _ => by rw [Hp.get_push, if_neg (by omega)], fun hw k hk => by
    have hk' : a.n + 1 ≤ k := hk
    rw [Hp.get_push, if_neg (by omega)]; exact hw k (by omega)⟩
theorem Keep.put (a : Hp) (i : Nat) (b : ABlk) (hi : a.get i ≠ none) : Keep a (a.put i b) :=
  ⟨Nat.le_refl _, Nat.min_le_left _ _, fun k _ hl => by
    have : k < i := Nat.lt_of_lt_of_le hl (Nat.min_le_right _ _)
    rw [Hp.get_put, if_neg (by omega)], fun hw k hk => by
    have hk' : a.n ≤ k := hk
    rw [Hp.get_put, if_neg (fun e => hi (by rw [← e]; exact hw k hk'))]; exact hw k hk'⟩
theorem Keep.app (a : Hp) (e : Eff) (he : EffOk a.get e) : Keep a (a.app e) := by
  cases e with
  | none => exact .refl a
  | new b => exact .push a b
  | put k b => exact .put a k b he
  | app k b => exact (Keep.put a k .dead he).trans (Keep.push _ _)

section bind
variable {α β : Type}

theorem bindL_nil (f : α → Option (List β)) : bindL [] f = some [] := rfl
theorem bindL_one (a : α) (f : α → Option (List β)) : bindL [a] f = f a := rfl
theorem bindL_cons (a b : α) (l : List α) (f : α → Option (List β)) : bindL (a :: b :: l) f = match f a with
    | some x => (bindL (b :: l) f).map (x ++ ·)
    | none => none := rfl

theorem bindL_sub {f : α → Option (List β)} : ∀ {L : List α} {M : List β}, bindL L f = some M → ∀ a ∈ L, ∃ Ma, f a = some Ma ∧ ∀ b ∈ Ma, b ∈ M
  | [], _, _, a, ha => by cases ha
  | [x], M, h, a, ha => by
    rw [bindL_one] at h
    obtain rfl := List.mem_singleton.1 ha
    exact ⟨M, h, fun _ hb => hb⟩
  | x :: y :: l, M, h, a, ha => by
    rw [bindL_cons] at h
    cases hx : f x with
    | none => rw [hx] at h; cases h
    | some X =>
      rw [hx] at h
      simp only [Option.map_eq_some_iff] at h
      obtain ⟨Y, hY, rfl⟩ := h
      rcases List.mem_cons.1 ha with rfl | ha
      · exact ⟨X, hx, fun b hb => List.mem_append.2 (.inl hb)⟩
      · obtain ⟨Ma, h1, h2⟩ := bindL_sub hY a ha
        exact ⟨Ma, h1, fun b hb => List.mem_append.2 (.inr (h2 b hb))⟩

theorem bindL_from {f : α → Option (List β)} : ∀ {L : List α} {M : List β}, bindL L f = some M → ∀ b ∈ M, ∃ a ∈ L, ∃ Ma, f a = some Ma ∧ b ∈ Ma
  | [], M, h, b, hb => by rw [bindL_nil] at h; cases h; cases hb
  | [x], M, h, b, hb => by
    rw [bindL_one] at h
    exact ⟨x, by simp, M, h, hb⟩
  | x :: y :: l, M, h, b, hb => by
    rw [bindL_cons] at h
    cases hx : f x with
    | none => rw [hx] at h; cases h
    | some X =>
      rw [hx] at h
      simp only [Option.map_eq_some_iff] at h
      obtain ⟨Y, hY, rfl⟩ := h
      rcases List.mem_append.1 hb with hb | hb
      · exact ⟨x, by simp, X, hx, hb⟩
      · obtain ⟨a, ha, Ma, h1, h2⟩ := bindL_from hY b hb
        exact ⟨a, List.mem_cons_of_mem _ ha, Ma, h1, h2⟩

theorem bindL_ne {f : α → Option (List β)} {L : List α} {M : List β} (h : bindL L f = some M) (hL : L ≠ []) (hf : ∀ a ∈ L, ∀ Ma, f a = some Ma → Ma ≠ []) : M ≠ [] := by
  cases L with
  | nil => exact absurd rfl hL
  | cons a l =>
    obtain ⟨Ma, h1, h2⟩ := bindL_sub h a (by simp)
    have := hf a (by simp) Ma h1
    cases Ma with
    | nil => exact absurd rfl this
    | cons x _ => intro e; subst e; exact absurd (h2 x (by simp)) (by simp)
end bind

def Job.hp : Job → Hp
  | .call _ _ h => h
  | .round _ _ h => h
  | .loop _ st => st.hp

def Res.hp : Res → Hp
  | .ret _ h => h
  | .out _ st => st.hp

/-- No way is lost, and the heap only grows. -/
def Good (a : Hp) {β : Type} (f : β → Hp) (M : List β) : Prop := M ≠ [] ∧ ∀ b ∈ M, Keep a (f b)

def KeepRec (rec : Job → Option (List Res)) : Prop := ∀ j L, rec j = some L → Good j.hp Res.hp L

theorem Good.one {a : Hp} {β : Type} {f : β → Hp} {b : β} (h : Keep a (f b)) : Good a f [b] := ⟨by simp, fun x hx => by obtain rfl := List.mem_singleton.1 hx; exact h⟩

theorem Good.bind {a : Hp} {α β : Type} {f : α → Hp} {f' : β → Hp} {L : List α} {M : List β} {k : α → Option (List β)} (h : bindL L k = some M) (hL : Good a f L) (hk : ∀ x, ∀ Mx, k x = some Mx → Good (f x) f' Mx) : Good a f' M :=
  ⟨bindL_ne h hL.1 fun x _ Mx hx => (hk x Mx hx).1, fun b hb => by
    obtain ⟨x, hx, Mx, h1, h2⟩ := bindL_from h b hb
    exact (hL.2 x hx).trans ((hk x Mx h1).2 b h2)⟩

theorem Good.map {a : Hp} {α β : Type} {f : α → Hp} {f' : β → Hp} {L : List α} {k : α → β} (hL : Good a f L) (hk : ∀ x, f' (k x) = f x) : Good a f' (L.map k) :=
  ⟨by intro e; exact hL.1 (List.map_eq_nil_iff.1 e), fun b hb => by
    obtain ⟨x, hx, rfl⟩ := List.mem_map.1 hb
    rw [hk]; exact hL.2 x hx⟩

section
variable {T : Tab} {rec : Job → Option (List Res)}

theorem jobOf_hp (H : Hp) (g : Goal) : (jobOf H g).hp = H := by cases g <;> rfl

theorem nextA_ne {it : Value} {g : Getter} {L : List (Value × Eff)} (h : nextA it g = some L) : L ≠ [] := by
  have key : ∀ {r m since last clock : Nat} {seen : List Nat} {es : List MapEntry}, nextB r m since seen last es clock = some L → L ≠ [] := by
    intro r m since last clock seen es h
    unfold nextB at h
    cases hb : (!seen.isEmpty && !es.isEmpty && es.all (fun e => Nat.ble last e.born)) with
    | true => rw [hb] at h; cases h
    | false =>
      rw [hb] at h
      simp only [cond_false, Option.some.injEq] at h
      rw [← h]
      generalize (es.filter fun e => !seen.contains e.born).filter (fun e => decide (e.born < since)) = old
      cases old with
      | nil => simp
      | cons x l => simp
  unfold nextA at h
  split at h
  · split at h
    · split at h
      · exact key h
      · cases h
    · cases h
  · cases h

theorem anyOp_keep (hr : KeepRec rec) {o : Op} {st : St} {L : List (Value × Hp)} (h : anyOp T rec o st = some L) : Good st.hp (fun p => p.2) L := by
  unfold anyOp at h
  split at h
  · rename_i f args _
    split at h
    · rename_i g _
      cases hj : rec (jobOf st.hp g) with
      | none => rw [hj] at h; cases h
      | some R =>
        rw [hj] at h
        have := hr _ _ hj
        rw [jobOf_hp] at this
        refine Good.bind h this fun x Mx hx => ?_
        cases x with
        | ret v hp => simp only [valOf, Option.some.injEq] at hx; subst hx; exact .one (.refl _)
        | out e s => cases hx
    · cases h
  · rename_i it _
    simp only [Option.map_eq_some_iff] at h
    obtain ⟨N, hN, rfl⟩ := h
    refine ⟨by intro e; exact nextA_ne hN (List.map_eq_nil_iff.1 e), fun p hp => ?_⟩
    obtain ⟨⟨v, e⟩, hm, rfl⟩ := List.mem_map.1 hp
    exact Keep.app _ _ (nextA_effOk hN _ hm)
  · split at h
    · rename_i hop
      simp only [Option.some.injEq] at h
      subst h
      exact .one (Keep.app _ _ (opA_eff hop).1)
    · cases h

theorem execOps_nil (ops : List Oper) (st : St) : execOps T rec ops [] st = some [st] := rfl
theorem execOps_cons (ops : List Oper) (o : Oper) (l : List Oper) (st : St) : execOps T rec ops (o :: l) st =
    cond (guardA ops st.fr o.guard)
      (match anyOp T rec o.op st with
        | some L => bindL L fun p => execOps T rec ops l ⟨putA st.fr o.dst p.1, p.2, st.rd⟩
        | none => none)
      (execOps T rec ops l ⟨putA st.fr o.dst undef, st.hp, st.rd⟩) := rfl

theorem execOps_keep (hr : KeepRec rec) (ops : List Oper) : ∀ (l : List Oper) (st : St) (L : List St), execOps T rec ops l st = some L → Good st.hp St.hp L ∧ ∀ s ∈ L, s.rd = st.rd := by
  intro l
  induction l with
  | nil => intro st L h; rw [execOps_nil] at h; cases h; exact ⟨.one (.refl _), by simp⟩
  | cons o l ih =>
    intro st L h
    rw [execOps_cons] at h
    cases hg : guardA ops st.fr o.guard with
    | false => rw [hg] at h; simp only [cond_false] at h; exact ih ⟨putA st.fr o.dst undef, st.hp, st.rd⟩ _ h
    | true =>
      rw [hg] at h
      simp only [cond_true] at h
      cases ha : anyOp T rec o.op st with
      | none => rw [ha] at h; cases h
      | some A =>
        rw [ha] at h
        refine ⟨Good.bind h (anyOp_keep hr ha) fun p Mx hx => (ih _ _ hx).1, fun s hs => ?_⟩
        obtain ⟨p, _, Mx, h1, h2⟩ := bindL_from h s hs
        exact (ih _ _ h1).2 s h2

theorem execDraw_nil (ops : Array Oper) (i : Nat) (st : St) (acc : List Ev) : execDraw T rec ops [] i st acc = cond (drawOk T ops acc) (some [st]) none := rfl
theorem execDraw_cons (ops : Array Oper) (o : Oper) (l : List Oper) (i : Nat) (st : St) (acc : List Ev) : execDraw T rec ops (o :: l) i st acc =
    cond (guardA ops.toList st.fr o.guard)
      (match drawOp T rec o.op i st with
        | some (v, hp, t) => execDraw T rec ops l (i + 1) ⟨putA st.fr o.dst v, hp, st.rd⟩ (⟨o, st, v, hp, t⟩ :: acc)
        | none => none)
      (execDraw T rec ops l (i + 1) ⟨putA st.fr o.dst undef, st.hp, st.rd⟩ (⟨o, st, undef, st.hp, ⟨i, [], [], false, st.hp.n, st.hp.n⟩⟩ :: acc)) := rfl

theorem drawOp_keep (hr : KeepRec rec) {o : Op} {i : Nat} {st : St} {v : Value} {hp : Hp} {t : Tc} (h : drawOp T rec o i st = some (v, hp, t)) : Keep st.hp hp := by
  unfold drawOp at h
  split at h
  · split at h
    · rename_i g _
      split at h
      · rename_i v' hp' hj
        cases hc : Nat.ble st.hp.n hp'.lo with
        | false => rw [hc] at h; cases h
        | true =>
          rw [hc] at h
          simp only [cond_true, Option.some.injEq, Prod.mk.injEq] at h
          obtain ⟨rfl, rfl, rfl⟩ := h
          have := hr _ _ hj
          rw [jobOf_hp] at this
          have hk := this.2 _ (List.mem_singleton.2 rfl)
          have hle := Nat.le_of_ble_eq_true hc
          exact ⟨hk.n, Nat.le_refl _, fun k hk1 _ => hk.same k hk1 (Nat.lt_of_lt_of_le hk1 hle), hk.wf⟩
      · cases h
    · cases h
  · cases h
  · split at h
    · rename_i hop
      simp only [Option.some.injEq, Prod.mk.injEq] at h
      obtain ⟨_, rfl, _⟩ := h
      exact Keep.app _ _ (opA_eff hop).1
    · cases h

theorem execDraw_keep (hr : KeepRec rec) (ops : Array Oper) : ∀ (l : List Oper) (i : Nat) (st : St) (acc : List Ev) (L : List St), execDraw T rec ops l i st acc = some L → Good st.hp St.hp L ∧ ∀ s ∈ L, s.rd = st.rd := by
  intro l
  induction l with
  | nil =>
    intro i st acc L h
    rw [execDraw_nil] at h
    cases hc : drawOk T ops acc with
    | false => rw [hc] at h; cases h
    | true => rw [hc] at h; simp at h; subst h; exact ⟨.one (.refl _), by simp⟩
  | cons o l ih =>
    intro i st acc L h
    rw [execDraw_cons] at h
    cases hg : guardA ops.toList st.fr o.guard with
    | false => rw [hg] at h; simp only [cond_false] at h; exact ih _ ⟨putA st.fr o.dst undef, st.hp, st.rd⟩ _ _ h
    | true =>
      rw [hg] at h
      simp only [cond_true] at h
      cases ha : drawOp T rec o.op i st with
      | none => rw [ha] at h; cases h
      | some p =>
        obtain ⟨v, hp, t⟩ := p
        rw [ha] at h
        have := ih _ _ _ _ h
        have hk := drawOp_keep hr ha
        exact ⟨⟨this.1.1, fun s hs => hk.trans (this.1.2 s hs)⟩, this.2⟩

theorem execC_skip (st : St) : execC T rec .skip st = some [(.normal, st)] := rfl
theorem execC_label (l : Nat) (st : St) : execC T rec (.label l) st = some [(.normal, st)] := rfl
theorem execC_region (id : Nat) (ops : Array Oper) (draw : Bool) (st : St) : execC T rec (.region id ops draw) st =
    match cond draw (execDraw T rec ops ops.toList 0 st []) (execOps T rec ops.toList ops.toList st) with
      | some L => some (L.map fun s => (.normal, s))
      | none => none := rfl
theorem execC_seq (a b : Code) (st : St) : execC T rec (.seq a b) st = match execC T rec a st with
      | some L => bindL L (seqK (execC T rec b))
      | none => none := rfl
theorem execC_cond (c : Operand) (a b : Code) (st : St) : execC T rec (.cond c a b) st = match evalA st.fr c with
      | .bool t => cond t (execC T rec a st) (execC T rec b st)
      | _ => none := rfl
theorem execC_block (id : Nat) (c : Code) (st : St) : execC T rec (.block id c) st = match execC T rec c st with
      | some L => some (L.map (atBlock id))
      | none => none := rfl
theorem execC_loop (c : Code) (st : St) : execC T rec (.loop c) st = match rec (.loop c st) with
      | some L => bindL L outOf
      | none => none := rfl
theorem execC_exit (id : Nat) (st : St) : execC T rec (.exit id) st = some [(.exit id, st)] := rfl
theorem execC_ret (st : St) : execC T rec .ret st = some [(.ret, st)] := rfl
theorem execC_range (f : Operand) (ps : Array Tmp) (a b : Code) (st : St) : execC T rec (.rangeFunc f ps a b) st = rangeA' rec f ps a b st := rfl
theorem execC_scope (c : Code) (st : St) : execC T rec (.scope c) st = scopeK (execC T rec c st) := rfl
theorem scopeK_some {o : Option (List (Exit × St))} {L : List (Exit × St)} (h : scopeK o = some L) : o = some L ∧ ∀ p ∈ L, ∀ l, p.1 ≠ .goto l := by
  unfold scopeK at h
  split at h
  · rename_i M
    cases hb : M.all noGoto with
    | false => rw [hb] at h; cases h
    | true =>
      rw [hb] at h
      simp only [cond_true, Option.some.injEq] at h
      subst h
      refine ⟨rfl, fun p hp l e => ?_⟩
      have := List.all_eq_true.1 hb p hp
      unfold noGoto at this
      rw [e] at this
      cases this
  · cases h
theorem execC_goto (l : Nat) (st : St) : execC T rec (.goto l) st = none := rfl
theorem execC_refuse (y : String) (st : St) : execC T rec (.refuse y) st = none := rfl

theorem endLoopA_some {l : Nat} {fr : Tr Value} {r : Res} {M : List (Exit × St)} (h : endLoopA l fr r = some M) :
    ∃ v hp s pend fr0 ps as bd, r = .ret v hp ∧ hp.get l = some (.loop s pend fr0 ps as bd) ∧ s ≠ .busy ∧
      ((pend = none ∧ M = [(.normal, ⟨fr, hp.put l (.loop .exhausted pend fr0 ps as bd), false⟩)]) ∨ (pend = some .ret ∧ M = [(.ret, ⟨fr, hp.put l (.loop .exhausted pend fr0 ps as bd), false⟩)]) ∨
        ∃ id, pend = some (.exit id) ∧ M = [(.exit id, ⟨fr, hp.put l (.loop .exhausted pend fr0 ps as bd), false⟩)]) := by
  cases r with
  | out e s => cases h
  | ret v hp =>
    unfold endLoopA at h
    simp only at h
    split at h
    · rename_i s pend fr0 ps as bd hl
      refine ⟨v, hp, s, pend, fr0, ps, as, bd, rfl, hl, ?_⟩
      have hs : s ≠ .busy := fun e => by subst e; simp at h
      refine ⟨hs, ?_⟩
      cases pend with
      | none => cases s <;> simp at h hs ⊢ <;> exact h.symm
      | some c =>
        cases c with
        | ret => refine .inr (.inl ⟨rfl, ?_⟩); cases s <;> simp at h hs ⊢ <;> exact h.symm
        | exit id => refine .inr (.inr ⟨id, rfl, ?_⟩); cases s <;> simp at h hs ⊢ <;> exact h.symm
        | _ => cases s <;> simp at h
    · cases h

theorem execC_keep (hr : KeepRec rec) : ∀ (c : Code) (st : St) (L : List (Exit × St)), execC T rec c st = some L → Good st.hp (fun p => p.2.hp) L := by
  intro c
  induction c with
  | skip => intro st L h; rw [execC_skip] at h; cases h; exact .one (.refl _)
  | label l => intro st L h; rw [execC_label] at h; cases h; exact .one (.refl _)
  | exit id => intro st L h; rw [execC_exit] at h; cases h; exact .one (.refl _)
  | ret => intro st L h; rw [execC_ret] at h; cases h; exact .one (.refl _)
  | scope c ih => intro st L h; rw [execC_scope] at h; exact ih st L (scopeK_some h).1
  | goto l => intro st L h; rw [execC_goto] at h; cases h
  | refuse y => intro st L h; rw [execC_refuse] at h; cases h
  | region id ops draw =>
    intro st L h
    rw [execC_region] at h
    cases draw with
    | true =>
      simp only [cond_true] at h
      cases hx : execDraw T rec ops ops.toList 0 st [] with
      | none => rw [hx] at h; cases h
      | some R => rw [hx] at h; simp only [Option.some.injEq] at h; subst h; exact (execDraw_keep hr _ _ _ _ _ _ hx).1.map fun _ => rfl
    | false =>
      simp only [cond_false] at h
      cases hx : execOps T rec ops.toList ops.toList st with
      | none => rw [hx] at h; cases h
      | some R => rw [hx] at h; simp only [Option.some.injEq] at h; subst h; exact (execOps_keep hr _ _ _ _ hx).1.map fun _ => rfl
  | seq a b iha ihb =>
    intro st L h
    rw [execC_seq] at h
    cases hx : execC T rec a st with
    | none => rw [hx] at h; cases h
    | some R =>
      rw [hx] at h
      refine Good.bind h (iha _ _ hx) fun p Mx hp => ?_
      unfold seqK at hp
      split at hp
      · exact ihb _ _ hp
      · simp only [Option.some.injEq] at hp; subst hp; exact .one (.refl _)
  | cond c a b iha ihb =>
    intro st L h
    rw [execC_cond] at h
    split at h
    · rename_i t _
      cases t with
      | true => exact iha _ _ h
      | false => exact ihb _ _ h
    · cases h
  | block id c ih =>
    intro st L h
    rw [execC_block] at h
    cases hx : execC T rec c st with
    | none => rw [hx] at h; cases h
    | some R =>
      rw [hx] at h
      simp only [Option.some.injEq] at h
      subst h
      refine (ih _ _ hx).map fun p => ?_
      unfold atBlock
      split <;> rfl
  | loop c _ =>
    intro st L h
    rw [execC_loop] at h
    cases hx : rec (.loop c st) with
    | none => rw [hx] at h; cases h
    | some R =>
      rw [hx] at h
      refine Good.bind h (hr _ _ hx) fun p Mx hp => ?_
      cases p with
      | ret => cases hp
      | out e s => simp only [outOf, Option.some.injEq] at hp; subst hp; exact .one (.refl _)
  | rangeFunc f ps a b _ _ =>
    intro st L h
    rw [execC_range] at h
    unfold rangeA' at h
    split at h
    · rename_i g args _ _
      cases hx : rec (.call g args (st.hp.push (.loop .ready none st.fr ps a b))) with
      | none => rw [hx] at h; cases h
      | some R =>
        rw [hx] at h
        have hk := hr _ _ hx
        have hk' : Good st.hp Res.hp R := ⟨hk.1, fun r hr' => (Keep.push _ _).trans (hk.2 r hr')⟩
        refine Good.bind h hk' fun p Mx hp => ?_
        obtain ⟨v, hp2, s, pend, fr0, ps', as', bd', rfl, hgt, _, h1 | h1 | ⟨_, h1⟩⟩ := endLoopA_some hp <;> (obtain ⟨_, rfl⟩ := h1; exact .one (Keep.put hp2 _ _ (by rw [hgt]; simp)))
    · cases h

theorem stepJ_call (f : FuncId) (args : List Value) (hp : Hp) : stepJ T rec (.call f args hp) = match T.fn.get f with
    | some fn => match fn.body with
      | some c => match execC T rec c ⟨setArgs .leaf 0 args, hp, false⟩ with
        | some L => bindL L (endCall T fn.results.toList)
        | none => none
      | none => none
    | none => none := rfl

theorem stepJ_round (l : Nat) (args : List Value) (hp : Hp) : stepJ T rec (.round l args hp) = match hp.get l with
    | some (.loop .ready _ fr ps as bd) => cond (Nat.beq args.length ps.toList.length)
        (match execC T rec as ⟨setParams fr (ps.toList.zip args), hp, true⟩ with
        | some L => bindL L (beginRoundA T rec l bd)
        | none => none) none
    | _ => none := rfl

theorem stepJ_loop (c : Code) (st : St) : stepJ T rec (.loop c st) = match execC T rec c st with
    | some L => bindL L (nextRound rec c)
    | none => none := rfl

theorem endCall_some {rs : List ResultVar} {p : Exit × St} {M : List Res} (h : endCall T rs p = some M) : (p.1 = .normal ∨ p.1 = .ret) ∧ ∃ vs, resList T p.2.fr p.2.hp rs = some vs ∧ M = [.ret (oneOrTuple vs) p.2.hp] := by
  obtain ⟨e, s⟩ := p
  unfold endCall at h
  cases e with
  | normal => simp only [Option.map_eq_some_iff] at h; obtain ⟨vs, a, b⟩ := h; exact ⟨.inl rfl, vs, a, b.symm⟩
  | ret => simp only [Option.map_eq_some_iff] at h; obtain ⟨vs, a, b⟩ := h; exact ⟨.inr rfl, vs, a, b.symm⟩
  | _ => simp at h

theorem endRoundA_some {l : Nat} {p : Exit × St} {M : List Res} (h : endRoundA l p = some M) : ∃ st pend fr ps as bd, p.2.hp.get l = some (.loop st pend fr ps as bd) ∧
    ((p.1 = .normal ∧ M = [.ret (.bool true) (p.2.hp.put l (.loop .ready none fr ps as bd))]) ∨
     (p.1 = .ret ∧ M = [.ret (.bool false) (p.2.hp.put l (.loop .done (some .ret) fr ps as bd))]) ∨
     ∃ id, p.1 = .exit id ∧ M = [.ret (.bool false) (p.2.hp.put l (.loop .done (some (.exit id)) fr ps as bd))]) := by
  obtain ⟨e, s⟩ := p
  unfold endRoundA at h
  simp only at h
  split at h
  · rename_i st pend fr ps as bd hl
    refine ⟨st, pend, fr, ps, as, bd, hl, ?_⟩
    cases e with
    | normal => simp only [Option.some.injEq] at h; exact .inl ⟨rfl, h.symm⟩
    | ret => simp only [Option.some.injEq] at h; exact .inr (.inl ⟨rfl, h.symm⟩)
    | exit id => simp only [Option.some.injEq] at h; exact .inr (.inr ⟨id, rfl, h.symm⟩)
    | _ => simp at h
  · cases h

theorem beginRoundA_some {l : Nat} {body : Code} {p : Exit × St} {M : List Res} (h : beginRoundA T rec l body p = some M) : p.1 = .normal ∧ ∃ pend fr ps as bd R, p.2.hp.get l = some (.loop .ready pend fr ps as bd) ∧
    execC T rec body ⟨p.2.fr, p.2.hp.put l (.loop .busy pend fr ps as bd), true⟩ = some R ∧ bindL R (endRoundA l) = some M := by
  obtain ⟨e, s⟩ := p
  unfold beginRoundA at h
  have he : e = .normal := by cases e <;> first | rfl | simp at h
  subst he
  simp only at h
  split at h
  · rename_i pend fr ps as bd hl
    cases hy : execC T rec body ⟨s.fr, s.hp.put l (.loop .busy pend fr ps as bd), true⟩ with
    | none => rw [hy] at h; cases h
    | some R => rw [hy] at h; exact ⟨rfl, pend, fr, ps, as, bd, R, hl, hy, h⟩
  · cases h

theorem stepJ_call_some {f : FuncId} {args : List Value} {hp : Hp} {L : List Res} (h : stepJ T rec (.call f args hp) = some L) :
    ∃ fn c R, T.fn.get f = some fn ∧ fn.body = some c ∧ execC T rec c ⟨setArgs .leaf 0 args, hp, false⟩ = some R ∧ bindL R (endCall T fn.results.toList) = some L := by
  rw [stepJ_call] at h
  cases hf : T.fn.get f with
  | none => rw [hf] at h; cases h
  | some fn =>
    rw [hf] at h
    simp only at h
    cases hb : fn.body with
    | none => rw [hb] at h; cases h
    | some c =>
      rw [hb] at h
      simp only at h
      cases hx : execC T rec c ⟨setArgs .leaf 0 args, hp, false⟩ with
      | none => rw [hx] at h; cases h
      | some R => rw [hx] at h; exact ⟨fn, c, R, rfl, hb, hx, h⟩

theorem stepJ_round_some {l : Nat} {args : List Value} {hp : Hp} {L : List Res} (h : stepJ T rec (.round l args hp) = some L) :
    ∃ pend fr ps as bd R, hp.get l = some (.loop .ready pend fr ps as bd) ∧ args.length = ps.size ∧ execC T rec as ⟨setParams fr (ps.toList.zip args), hp, true⟩ = some R ∧ bindL R (beginRoundA T rec l bd) = some L := by
  rw [stepJ_round] at h
  split at h
  · rename_i pend fr ps as bd hl
    cases hlen : Nat.beq args.length ps.toList.length with
    | false => rw [hlen] at h; cases h
    | true =>
      rw [hlen] at h
      simp only [cond_true] at h
      cases hx : execC T rec as ⟨setParams fr (ps.toList.zip args), hp, true⟩ with
      | none => rw [hx] at h; cases h
      | some R => rw [hx] at h; exact ⟨pend, fr, ps, as, bd, R, hl, by simpa using Nat.eq_of_beq_eq_true hlen, hx, h⟩
  · cases h

theorem stepJ_loop_some {c : Code} {st : St} {L : List Res} (h : stepJ T rec (.loop c st) = some L) : ∃ R, execC T rec c st = some R ∧ bindL R (nextRound rec c) = some L := by
  rw [stepJ_loop] at h
  cases hx : execC T rec c st with
  | none => rw [hx] at h; cases h
  | some R => rw [hx] at h; exact ⟨R, rfl, h⟩

theorem nextRound_some {c : Code} {p : Exit × St} {M : List Res} (h : nextRound rec c p = some M) : (p.1 = .normal ∧ rec (.loop c p.2) = some M) ∨ (p.1 ≠ .normal ∧ M = [.out p.1 p.2]) := by
  obtain ⟨e, s⟩ := p
  unfold nextRound at h
  cases e <;> simp only [Option.some.injEq] at h <;> first
    | exact .inl ⟨rfl, h⟩
    | exact .inr ⟨by simp, h.symm⟩

theorem stepJ_keep (hr : KeepRec rec) : KeepRec (stepJ T rec) := by
  intro j L h
  cases j with
  | call f args hp =>
    obtain ⟨fn, c, R, _, _, hx, h⟩ := stepJ_call_some h
    refine Good.bind h (execC_keep hr _ _ _ hx) fun p Mx hq => ?_
    obtain ⟨_, vs, _, rfl⟩ := endCall_some hq
    exact .one (.refl _)
  | round l args hp =>
    obtain ⟨pend, fr, ps, as, bd, R, _, _, hx, h⟩ := stepJ_round_some h
    refine Good.bind h (execC_keep hr _ _ _ hx) fun p Mx hq => ?_
    obtain ⟨_, pend', fr', ps', as', bd', R2, hgt, hy, hz⟩ := beginRoundA_some hq
    have hk := execC_keep hr _ _ _ hy
    have hk' : Good p.2.hp (fun q => q.2.hp) R2 := ⟨hk.1, fun r hr' => (Keep.put p.2.hp _ _ (by rw [hgt]; simp)).trans (hk.2 r hr')⟩
    refine Good.bind hz hk' fun q My hw => ?_
    obtain ⟨_, _, _, _, _, _, hgt2, h1 | h1 | ⟨_, h1⟩⟩ := endRoundA_some hw <;> (obtain ⟨_, rfl⟩ := h1; exact .one (Keep.put q.2.hp _ _ (by rw [hgt2]; simp)))
  | loop c st =>
    obtain ⟨R, hx, h⟩ := stepJ_loop_some h
    refine Good.bind h (execC_keep hr _ _ _ hx) fun p Mx hq => ?_
    rcases nextRound_some hq with ⟨_, h1⟩ | ⟨_, rfl⟩
    · exact hr _ _ h1
    · exact .one (.refl _)

theorem run_zero' (j : Job) : run T 0 j = none := rfl
theorem run_succ (n : Nat) (j : Job) : run T (n + 1) j = stepJ T (run T n) j := rfl

theorem run_keep (n : Nat) : KeepRec (run T n) := by
  induction n with
  | zero => intro j L h; rw [run_zero'] at h; cases h
  | succ n ih => exact fun j L h => stepJ_keep ih j L h
end

end Go.RM
