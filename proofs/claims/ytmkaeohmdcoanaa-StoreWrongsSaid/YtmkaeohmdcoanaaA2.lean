/-
  A layer of contracts over the abstract machine. Lemmas alone; no condition.
-/
import Derived.Test.YtmkaeohmdcoanaaR2
import Derived.Test.YtmkaeohmdcoanaaA1
import Derived.ProofKit
import Derived.Carry
import Derived.IntWalk
namespace Go.RM
open Go
section
variable {P : Program} {w : World} {D : Type} {enc : TypeId × Value → D} {base : Nat} {spare : Nat → Bool} {held : Bool}
/-- An argument, by its cells. -/
def argOf : Sh → List AV → AV
  | .nil, l => .ag l
  | .cons _ _, l => .ag l
  | .arr _ _, l => .ag l
  | _, l => l.headD .junk
def ArgsTV : List Sh → List AV → Prop
  | [], [] => True
  | s :: l, a :: as => (∃ avs, TV s avs ∧ a = argOf s avs) ∧ ArgsTV l as
  | _, _ => False
theorem arg_one {s : Sh} {v : Value} (hv : v.cells.toList = [v]) (hs : ∀ l, argOf s l = l.headD .junk) (h1 : s.cells = 1) (hl : Lk w s v.cells.toList) (γ : Gm) (H : Hp) (h : LS γ H w) :
    ∃ γ' H' u a, LE γ H γ' H' ∧ LS γ' H' w ∧ VR γ' u v ∧ DR H'.get noO a u ∧ ∃ avs, TV s avs ∧ a = argOf s avs := by
  rw [hv] at hl
  obtain ⟨γ', H', us, avs, e, q, l1, v1, d1, t1, c1⟩ := hl γ H h
  match us, l1 with
  | [u], _ =>
    match avs, c1.trans h1 with
    | [a], _ => exact ⟨γ', H', u, a, e, q, v1.2 0 u v rfl rfl, d1.2 0 a u rfl rfl, [a], t1, by rw [hs]; rfl⟩
theorem arg_agg {s : Sh} {cs : Array Value} (hs : ∀ l, argOf s l = .ag l) (hl : Lk w s cs.toList) (γ : Gm) (H : Hp) (h : LS γ H w) :
    ∃ γ' H' u a, LE γ H γ' H' ∧ LS γ' H' w ∧ VR γ' u (.agg cs) ∧ DR H'.get noO a u ∧ ∃ avs, TV s avs ∧ a = argOf s avs := by
  obtain ⟨γ', H', us, avs, e, q, l1, v1, d1, t1, c1⟩ := hl γ H h
  refine ⟨γ', H', .agg us.toArray, .ag avs, e, q, ?_, .ag (by simpa using d1.1) (fun i a u x y => d1.2 i a u x (by simpa using y)), avs, t1, (hs _).symm⟩
  have := VR.agg_list v1
  simpa using this
theorem one_arg {d : Nat} {s : Sh} {t : TypeId} (hsh : shOk P d s t = true) {v : Value} {x : DataW D} {ps : List MemPlace} {r : Reach} {b : Nat} (hok : Value.okWide P w r b t v) (ht : DataW.Trod enc P w base spare held t v x ps) (γ : Gm) (H : Hp) (h : LS γ H w) :
    ∃ γ' H' u a, LE γ H γ' H' ∧ LS γ' H' w ∧ VR γ' u v ∧ DR H'.get noO a u ∧ ∃ avs, TV s avs ∧ a = argOf s avs := by
  obtain ⟨fuel, ht⟩ := ht
  obtain ⟨hl, _⟩ := lk P d s t hsh fuel _ _ ht
  have agg : (∃ cs, v = .agg cs) → (∀ l, argOf s l = .ag l) → ∃ γ' H' u a, LE γ H γ' H' ∧ LS γ' H' w ∧ VR γ' u v ∧ DR H'.get noO a u ∧ ∃ avs, TV s avs ∧ a = argOf s avs := by
    rintro ⟨cs, rfl⟩ hs
    exact arg_agg hs hl γ H h
  cases d with
  | zero => simp [shOk] at hsh
  | succ d =>
    cases s with
    | int k =>
      unfold shOk at hsh
      split at hsh
      · rename_i k' hu
        unfold Value.okWide at hok
        rw [hu] at hok
        simp only [Cell.okWide, hu, Cell.ok] at hok
        cases v <;> simp at hok
        exact arg_one rfl (fun _ => rfl) rfl hl γ H h
      · cases hsh
    | bool =>
      unfold shOk at hsh
      split at hsh
      · rename_i hu
        unfold Value.okWide at hok
        rw [hu] at hok
        simp only [Cell.okWide, hu, Cell.ok] at hok
        cases v <;> simp at hok
        exact arg_one rfl (fun _ => rfl) rfl hl γ H h
      · cases hsh
    | str =>
      unfold shOk at hsh
      split at hsh
      · rename_i hu
        unfold Value.okWide at hok
        rw [hu] at hok
        simp only [Cell.okWide, hu, Cell.ok] at hok
        cases v <;> simp at hok
        exact arg_one rfl (fun _ => rfl) rfl hl γ H h
      · cases hsh
    | slice s =>
      unfold shOk at hsh
      split at hsh
      · rename_i e hu
        unfold Value.okWide at hok
        rw [hu] at hok
        simp only [Cell.okWide, hu, Cell.ok] at hok
        cases v <;> simp at hok
        exact arg_one rfl (fun _ => rfl) rfl hl γ H h
      · cases hsh
    | nil =>
      unfold shOk at hsh
      split at hsh
      · rename_i fs hu
        unfold Value.okWide at hok
        rw [hu] at hok
        exact agg ⟨_, hok.choose_spec.1⟩ (fun _ => rfl)
      · cases hsh
    | cons s l =>
      unfold shOk at hsh
      split at hsh
      · rename_i fs hu
        unfold Value.okWide at hok
        rw [hu] at hok
        exact agg ⟨_, hok.choose_spec.1⟩ (fun _ => rfl)
      · cases hsh
    | arr n s =>
      unfold shOk at hsh
      split at hsh
      · rename_i m e hu
        unfold Value.okWide at hok
        rw [hu] at hok
        exact agg ⟨_, hok.choose_spec.1⟩ (fun _ => rfl)
      · cases hsh
def shAll (P : Program) (d : Nat) : List Sh → List TypeId → Bool
  | [], [] => true
  | s :: l, t :: ts => shOk P d s t && shAll P d l ts
  | _, _ => false
theorem all_args {d : Nat} {r : Reach} {b : Nat} : ∀ {ss : List Sh} {ts : List TypeId} {vs : List Value} {ds : List (DataW D)} {ps : List MemPlace}, shAll P d ss ts = true → DataW.TrodAll enc P w base spare held ts vs ds ps →
    (∀ (j : Nat) t v, ts[j]? = some t → vs[j]? = some v → Value.okWide P w r b t v) → ∀ (γ : Gm) (H : Hp), LS γ H w → ∃ γ' H' us as, LE γ H γ' H' ∧ LS γ' H' w ∧ VRL γ' us vs ∧ DRL H'.get noO as us ∧ ArgsTV ss as
  | [], [], [], [], ps, _, _, _, γ, H, h => ⟨γ, H, [], [], .refl, h, VRL.nil γ, ⟨rfl, fun i a u x => by cases x⟩, trivial⟩
  | s :: ss, t :: ts, v :: vs, x :: ds, ps, hs, ht, hok, γ, H, h => by
    simp only [shAll, Bool.and_eq_true] at hs
    obtain ⟨p, q, h1, h2, _⟩ := ht
    obtain ⟨γ1, H1, u, a, e1, q1, v1, d1, t1⟩ := one_arg hs.1 (hok 0 t v rfl rfl) h1 γ H h
    obtain ⟨γ2, H2, us, as, e2, q2, v2, d2, t2⟩ := all_args hs.2 h2 (fun j t v a b => hok (j + 1) t v (by simpa using a) (by simpa using b)) γ1 H1 q1
    refine ⟨γ2, H2, u :: us, a :: as, e1.trans e2, q2, VRL.cons (v1.mono e2.le) v2, ⟨by simp [d2.1], fun i b w hb hw => ?_⟩, t1, t2⟩
    cases i with
    | zero => cases hb; cases hw; exact e2.dr q1.wf d1
    | succ i => exact d2.2 i b w (by simpa using hb) (by simpa using hw)
  | [], _ :: _, _, _, _, h, _, _, _, _, _ => by simp [shAll] at h
  | _ :: _, [], _, _, _, h, _, _, _, _, _ => by simp [shAll] at h
  | [], [], _ :: _, _, _, _, h, _, _, _, _ => by simp [DataW.TrodAll] at h
  | [], [], [], _ :: _, _, _, h, _, _, _, _ => by simp [DataW.TrodAll] at h
  | _ :: _, _ :: _, [], _, _, _, h, _, _, _, _ => by simp [DataW.TrodAll] at h
  | _ :: _, _ :: _, _ :: _, [], _, _, h, _, _, _, _ => by simp [DataW.TrodAll] at h
theorem LS.empty (w : World) : LS ⟨fun _ => none, fun _ => 0, w.heap.size⟩ Hp.empty w :=
  ⟨⟨fun k b o a h _ => (by cases h), fun k k' b o o' a a' h => (by cases h), fun k b o h => (by cases h), Nat.le_refl _⟩, wf_empty, fun _ _ => rfl, fun k a h => (by cases h)⟩
end
section
variable {T : Tab} {tab : List XE} {one : Bool}
open Go.RowKit in
/-- WHAT THE LAYER SAYS OF A FUNCTION IS SO, from any world in which its arguments read as data. -/
theorem pure_calls (hT : TabOk T) (hm : T.P.follows .mixedOrders = true) (ht : ∀ e ∈ tab, XSound T e) {f : FuncId} {v : Value} (hf : flat1 v = true) {D : Type} {enc : TypeId × Value → D} {base : Nat} {spare : Nat → Bool} {held : Bool} {d : Nat} {r : Reach} {b : Nat}
    {ss : List Sh} {ts : List TypeId} {args : Array Value} {ds : List (DataW D)} {ps : List MemPlace} {w : World} (hs : shAll T.P d ss ts = true) (htr : DataW.TrodAll enc T.P w base spare held ts args.toList ds ps)
    (hok : ∀ (j : Nat) t v, ts[j]? = some t → args.toList[j]? = some v → Value.okWide T.P w r b t v) (hp : ∀ as, ArgsTV ss as → PureV T tab one (.fn f [] []) as (.fl v)) :
    Calls T.P f args w fun e w' => e = .returned v ∧ Below w.heap.size w w' := by
  obtain ⟨γ, H, us, as, e, q, v1, d1, t1⟩ := all_args hs htr hok _ _ (LS.empty w)
  obtain ⟨goal, hg, m, L, h1, _, h3⟩ := (hp as t1).2 noO H (.func (.func f) #[] #[]) us q.wf (fun k h => h.elim) (.fn rfl rfl (fun i x u h => by cases h) (fun i x u h => by cases h)) d1
  have hgoal : goal = .fn f us := by
    have : goalOf (.func (.func f) #[] #[]) us = some (.fn f us) := by simp [goalOf]
    rw [this] at hg
    exact (Option.some.inj hg).symm
  subst hgoal
  have hS : SoundRec T (RX T tab m) m := rx_sound ht (runX_sound hT hm ht m)
  have hN : ∃ N, ∀ r ∈ L, r.hp.n ≤ N := by
    clear h3 h1
    rename_i hone
    clear hone
    induction L with
    | nil => exact ⟨0, fun r hr => by cases hr⟩
    | cons a l ih =>
      obtain ⟨N, hN⟩ := ih
      refine ⟨max a.hp.n N, fun r hr => ?_⟩
      rcases List.mem_cons.1 hr with rfl | hr
      · omega
      · have := hN r hr; omega
  obtain ⟨N, hN⟩ := hN
  have hB : γ.B = w.heap.size := e.le.B
  have hc := (hS.call f us H L h1).2 γ w args.toList N q.wf q.hr (fun k hk _ => q.fr k hk) hN v1
  refine callsIn_wide.1 (CallsIn.mono (F := FW none) hc fun en w' hR => ?_)
  obtain ⟨x, hp', x', γ1, hmem, rfl, hv, hst⟩ := hR
  obtain ⟨y, H', hy, _, _, _, _, hdr⟩ := h3 _ hmem
  cases hy
  have hx : x = v := by
    cases hdr with
    | fl h => rfl
  subst hx
  refine ⟨by rw [hv.flat1_eq hf], ?_⟩
  rw [← hB]
  exact hst.upd.below q.hr
end
end Go.RM
namespace Go.RM
open Go Go.ChangeShapes Go.WideShapes Go.ChangeAt Go.RowKit
section
variable {P : Program} {D : Type} {enc : TypeId × Value → D}
theorem trodAll_again (hl : laidOutB P = true) {W W' : World} (hb : Below W.heap.size W W') : ∀ {ts : List TypeId} {vs : List Value} {ds : List (DataW D)} {ps : List MemPlace}, (ts.all fun t => P.readableRec t && decide (t < P.types.size)) = true →
    DataW.TrodAll enc P W 0 (fun _ => true) true ts vs ds ps → (∀ p ∈ ps, p.block < W.heap.size) → ∀ sp : Nat → Bool, (∀ p ∈ ps, sp p.block = true) → DataW.TrodAll enc P W' 0 sp true ts vs ds ps
  | [], [], [], ps, _, h, _, sp, _ => h
  | t :: ts, v :: vs, d :: ds, ps, hr, h, hlt, sp, hs => by
    obtain ⟨p, q, h1, h2, rfl⟩ := h
    simp only [List.all_cons, Bool.and_eq_true, decide_eq_true_eq] at hr
    refine ⟨p, q, WideElems.Trod_stays hl hr.1.1 hr.1.2 h1 (fun x hx => hb.same (hlt x (List.mem_append_left _ hx))) (fun x hx => hs x (List.mem_append_left _ hx)), ?_, rfl⟩
    exact trodAll_again hl hb hr.2 h2 (fun x hx => hlt x (List.mem_append_right _ hx)) sp (fun x hx => hs x (List.mem_append_right _ hx))
  | [], _ :: _, _, _, _, h, _, _, _ => by simp [DataW.TrodAll] at h
  | [], [], _ :: _, _, _, h, _, _, _ => by simp [DataW.TrodAll] at h
  | _ :: _, [], _, _, _, h, _, _, _ => by simp [DataW.TrodAll] at h
  | _ :: _, _ :: _, [], _, _, h, _, _, _ => by simp [DataW.TrodAll] at h
theorem trodAll_len {W : World} {base : Nat} {spare : Nat → Bool} {held : Bool} : ∀ {ts : List TypeId} {vs : List Value} {ds : List (DataW D)} {ps : List MemPlace}, DataW.TrodAll enc P W base spare held ts vs ds ps → ds.length = ts.length
  | [], [], [], _, _ => rfl
  | _ :: _, _ :: _, _ :: _, _, h => by
    obtain ⟨p, q, _, h2, _⟩ := h
    simp [trodAll_len h2]
  | [], _ :: _, _, _, h => by simp [DataW.TrodAll] at h
  | [], [], _ :: _, _, h => by simp [DataW.TrodAll] at h
  | _ :: _, [], _, _, h => by simp [DataW.TrodAll] at h
  | _ :: _, _ :: _, [], _, h => by simp [DataW.TrodAll] at h
/-- A LAW'S ROW: true is returned, and nothing of what lay before is changed. -/
theorem law_post (hl : laidOutB P = true) {f : FuncId} {fn : Func} {s : ChangeSpec} {tb : TypeId} (hr : (fn.params.toList.all fun t => P.readableRec t && decide (t < P.types.size)) = true) (hres : fn.resultTypes = #[tb])
    (hb : P.underlying tb = some .bool) (hv : s.vars = []) (hs : ∀ (ds : List (DataW D)), ds.length = fn.params.toList.length → s.fn D ds = { results := [.lit (.bool true)], args := ds })
    {W : World} {args : Array Value} {ds gs : List (DataW D)} {before : List MemPlace} (hW : DataW.Whole enc P fn.params.toList s.vars false W args.toList ds gs before)
    (hc : Calls P f args W fun e w' => e = .returned (.bool true) ∧ Below W.heap.size W w') :
    Calls P f args W fun e W' => ∃ v, e = .returned v ∧ s.post enc P fn false true false false W args v W' := by
  have hlt := hW.lt
  have hW' := hW
  obtain ⟨p, q, hA, hV, rfl, hfz, hnd⟩ := hW
  rw [hv] at hV
  obtain ⟨rfl, rfl⟩ := trodVars_none hV
  have hds := hs ds (trodAll_len hA)
  refine hc.mono fun e W' ⟨he, hw⟩ => ?_
  subst he
  have hp : ∀ x ∈ p, x.block < W.heap.size := fun x hx => hlt x (List.mem_append_left _ hx)
  have hold : ∀ x ∈ p, (fun b => decide (b < W.heap.size)) x.block = true := fun x hx => by simpa using hp x hx
  have hone : DataW.TrodAll enc P W' 0 (fun _ => false) false fn.resultTypes.toList ((Value.bool true).resultList fn.resultTypes.size) [.lit (.bool true)] [] := by
    rw [hres]
    exact trodAll_mk1 (shut_bool hb true)
  have hone' : DataW.TrodAll enc P W' 0 (fun _ => true) true fn.resultTypes.toList ((Value.bool true).resultList fn.resultTypes.size) [.lit (.bool true)] [] := by
    rw [hres]
    exact trodAll_mk1 (shut_bool hb true)
  have hnow := trodAll_again hl hw hr hA hp
  simp only [List.append_nil] at hW' hfz hnd
  refine ⟨_, rfl, ds, [], p, [], p, [], by simpa using hW', ?_, ?_, ?_, hw.frame _, fun _ => ⟨ok_one hres rfl (okWide_bool_mk hb true), _, [], ([] ++ p) ++ [], ⟨[] ++ p, [], trodAll_append (hnow _ (fun _ _ => rfl)) hone', ?_, rfl, ?_, ?_⟩, ?_⟩⟩
  · rw [List.append_nil, hds, hres]
    exact trodAll_mk1 (shut_bool hb true)
  · rw [List.append_nil, hds]
    exact hnow _ hold
  · rw [List.append_nil, hds, hv]
    rfl
  · rw [hv]
    rfl
  · intro b off hx
    have hx' : MemPlace.cell b off ∈ p := by simpa using hx
    have hb' : b < W.heap.size := hp _ hx'
    rw [hw.frozen hb']
    exact hfz b off hx'
  · intro ha
    cases ha
  · intro x hx _
    simpa using hx
end
end Go.RM
namespace Go.RM
open Go
def Soft (a b : AV) : Prop := ∀ (ρ : Nat → Nat → Option Nat) (g : Getter) (O : Nat → Prop) (u : Value), AR ρ g O a u → AR ρ g O b u
theorem Soft.refl (a : AV) : Soft a a := fun _ _ _ _ h => h
theorem Soft.of {a b : AV} (h : a = b) : Soft a b := h ▸ .refl a
theorem Soft.nil (b : Bool) : Soft (.fl (.slice none 0 0)) (.sl [] b) := fun _ _ _ u h => by
  rw [h.flEq.1]
  exact .d .nil
theorem Soft.full {els : List (List AV)} {f : Bool} : Soft (.sl els f) (.sl els false) := fun _ _ _ u h => by
  have h := h.deep rfl
  cases h with
  | nil => exact .d .nil
  | sl h1 h2 h3 h4 h5 h6 h7 => exact .d (.sl h1 h2 h3 h4 h5 h6 (fun h => by cases h))
def SSlots (fr : Nat → AV) : List (Nat × AV) → Prop
  | [] => True
  | (i, v) :: l => Soft (fr i) v ∧ SSlots fr l
theorem mkFr_soft {fr : Nat → AV} : ∀ {l : List (Nat × AV)}, SSlots fr l → ∀ t, Soft (fr t) (mkFr l t)
  | [], _, t => fun _ _ _ _ _ => .junk
  | (i, v) :: l, h, t => by
    unfold mkFr
    rw [Tr.beq_eq]
    by_cases hti : t = i
    · rw [decide_eq_true hti, hti]
      exact h.1
    · rw [decide_eq_false hti]
      exact mkFr_soft h.2 t
variable {T : Tab} {tab : List XE} {one : Bool}
theorem Weaker.soft {st : ASt} {l : List (Nat × AV)} (h : SSlots st.fr l) : Weaker st ⟨mkFr l, st.hp, st.amb, st.rd, st.fl⟩ :=
  ⟨rfl, fun E _ _ hs => ⟨E, ⟨hs.h, hs.rd, fun t => mkFr_soft h t _ _ _ _ (hs.fr t)⟩, .refl⟩⟩
theorem Weaker.toS {st : ASt} {l : List (Nat × AV)} {hp : List AB} (n : Nat) (hh : st.hp.take n = hp) (hs : SSlots st.fr l) (hn : st.fl ≤ n) (hl : (l.all fun p => p.2.inb n) = true) (hb : hp.all (AB.inb n) = true) : Weaker st ⟨mkFr l, hp, st.amb, st.rd, st.fl⟩ := by
  subst hh
  exact (Weaker.soft hs).trans (Weaker.cut hn (mkFr_inb hl) hb)
def SoftL : List AV → List AV → Prop
  | [], [] => True
  | a :: l, b :: m => Soft a b ∧ SoftL l m
  | _, _ => False
theorem SoftL.two {a b x y : AV} (h : Soft a x) (k : Soft b y) : SoftL [a, b] [x, y] := ⟨h, k, trivial⟩
theorem SoftL.three {a b c x y z : AV} (h : Soft a x) (k : Soft b y) (l : Soft c z) : SoftL [a, b, c] [x, y, z] := ⟨h, k, l, trivial⟩
theorem SoftL.cons {a x : AV} {as xs : List AV} (h : Soft a x) (k : SoftL as xs) : SoftL (a :: as) (x :: xs) := ⟨h, k⟩
theorem SoftL.nil : SoftL [] [] := trivial
theorem SoftL.arl {ρ : Nat → Nat → Option Nat} {g : Getter} {O : Nat → Prop} : ∀ {as bs : List AV} {us : List Value}, SoftL as bs → ARL ρ g O as us → ARL ρ g O bs us
  | [], [], _, _, h => h
  | a :: as, b :: bs, [], _, h => absurd h.1 (by simp)
  | a :: as, b :: bs, u :: us, hs, h => by
    have := SoftL.arl hs.2 (us := us) ⟨by simpa using h.1, fun i a u x y => h.2 (i + 1) a u (by simpa using x) (by simpa using y)⟩
    refine ⟨by simp [this.1], fun i c w hc hw => ?_⟩
    cases i with
    | zero => cases hc; cases hw; exact hs.1 _ _ _ _ (h.2 0 a u rfl rfl)
    | succ i => exact this.2 i c w (by simpa using hc) (by simpa using hw)
  | [], _ :: _, _, hs, _ => hs.elim
  | _ :: _, [], _, hs, _ => hs.elim
theorem CallV.soft {F : AV} {args vs : List AV} {hp : List AB} {amb : Amb} {Q : AV → List AB → Amb → Prop} (hs : SoftL args vs) (h : CallV T tab one F vs hp amb Q) : CallV T tab one F args hp amb Q :=
  fun E base H u us hr hf ha => h E base H u us hr hf (hs.arl ha)
theorem wpC_skip {mu : Tmp → Bool} {st : ASt} {K : Exit → ASt → Prop} (h : K .normal st) : wpC T tab one mu .skip st K := h
theorem wpC_seq {mu : Tmp → Bool} {a b : Code} {st : ASt} {K : Exit → ASt → Prop} (h : wpC T tab one mu a st (seqQ (fun s => wpC T tab one mu b s K) K)) : wpC T tab one mu (.seq a b) st K := h
theorem wpC_block {mu : Tmp → Bool} {id : Nat} {c : Code} {st : ASt} {K : Exit → ASt → Prop} (h : wpC T tab one mu c st (blockK id K)) : wpC T tab one mu (.block id c) st K := h
theorem wpC_draw {mu : Tmp → Bool} {id : Nat} {ops : Array Oper} {st : ASt} {K : Exit → ASt → Prop} (h : wpDraw T tab mu ops ops.toList 0 (fun _ => 0) [] st (K .normal)) : wpC T tab one mu (.region id ops true) st K := h
theorem wpC_ops {mu : Tmp → Bool} {id : Nat} {ops : Array Oper} {st : ASt} {K : Exit → ASt → Prop} (h : wpOps T tab one mu ops.toList ops.toList st (K .normal)) : wpC T tab one mu (.region id ops false) st K := h
theorem seqQ_normal {Q : ASt → Prop} {K : Exit → ASt → Prop} {s : ASt} (h : Q s) : seqQ Q K .normal s := h
theorem Free.fl (v : Value) : Free (.fl v) := ⟨rfl, fun _ _ _ _ h => by cases h with | fl h => exact .fl h⟩
theorem Free.list {l : List AV} (h : ∀ a ∈ l, Free a) {g : Getter} {O O' : Nat → Prop} {us : List Value} (hd : ∀ (i : Nat) (a : AV) (u : Value), l[i]? = some a → us[i]? = some u → DR g O a u) :
    ∀ (i : Nat) (a : AV) (u : Value), l[i]? = some a → us[i]? = some u → DR g O' a u := fun i a u h1 h2 => (h a (List.mem_of_getElem? h1)).2 g O O' u (hd i a u h1 h2)
theorem deepL_of {l : List AV} (h : ∀ a ∈ l, a.deep = true) : deepL l = true := by
  induction l with
  | nil => rfl
  | cons a l ih =>
    simp only [deepL, Bool.and_eq_true]
    exact ⟨h a (by simp), ih fun b hb => h b (List.mem_cons_of_mem _ hb)⟩
theorem Free.tp {l : List AV} (h : ∀ a ∈ l, Free a) : Free (.tp l) := ⟨by simp only [AV.deep]; exact deepL_of fun a ha => (h a ha).1, fun _ _ _ _ hd => by
  cases hd with
  | tp h1 h2 => exact .tp h1 (Free.list h h2)⟩
theorem Free.ag {l : List AV} (h : ∀ a ∈ l, Free a) : Free (.ag l) := ⟨by simp only [AV.deep]; exact deepL_of fun a ha => (h a ha).1, fun _ _ _ _ hd => by
  cases hd with
  | ag h1 h2 => exact .ag h1 (Free.list h h2)⟩
theorem FzL.two {hp : List AB} {a b x y : AV} (h : Fz hp a x) (k : Fz hp b y) : FzL hp [a, b] [x, y] := ⟨h, k, trivial⟩
theorem FzL.three {hp : List AB} {a b c x y z : AV} (h : Fz hp a x) (k : Fz hp b y) (l : Fz hp c z) : FzL hp [a, b, c] [x, y, z] := ⟨h, k, l, trivial⟩
theorem FzL.cons {hp : List AB} {a x : AV} {as xs : List AV} (h : Fz hp a x) (k : FzL hp as xs) : FzL hp (a :: as) (x :: xs) := ⟨h, k⟩
theorem FzL.nil {hp : List AB} : FzL hp [] [] := trivial
theorem PureV.lend {F : AV} {args vs : List AV} {v : AV} {hp : List AB} {amb : Amb} (h : PureV T tab one F vs v) (hF : F.deep = true) (hz : FzL hp args vs) (hfree : Free v) {Q : AV → List AB → Amb → Prop} (hq : Q v hp amb) : CallV T tab one F args hp amb Q := by
  intro E base H u us hr hf ha
  obtain ⟨hd, h⟩ := h
  obtain ⟨goal, hg, m, L, h1, h2, h3⟩ := h E.X H u us hr.wf (fun k hk => hr.xn k hk) ((hf.deep hF).mono fun k b hk ho => ⟨hk, fun hx => ho (.inr hx)⟩) (hz.dr hr (fun _ h => h) ha)
  refine ⟨goal, hg, m, L, h1, h2, fun r hm => ?_⟩
  obtain ⟨w, H', rfl, hn, hwf, hsame, hlo, hv⟩ := h3 r hm
  have e : Ext base E hp H E hp H' := ⟨hn, rfl, rfl, rfl, fun _ _ _ h => h, fun _ h => .inl h, fun k hk _ => hsame k hk, by have := hr.bn; omega⟩
  refine ⟨w, H', rfl, E, v, hp, amb, hq, ⟨hwf, fun j x ver hj hvx => ?_, hr.inj, fun j v k hk => Nat.lt_of_lt_of_le (hr.rn j v k hk) hn, hr.fresh, hr.new, hr.sup, hr.excl, hr.dx, hr.ds, fun k hk => Nat.lt_of_lt_of_le (hr.sn k hk) hn, fun k hk => Nat.lt_of_lt_of_le (hr.xn k hk) hn, hr.bas, Nat.le_trans hr.bn hn, amb.st hr.amb (fun k hk => hsame k (hr.sn k hk)) hn⟩, .d (hfree.2 _ _ _ _ hv), e.frm⟩
  rcases hr.blk j x ver hj hvx with ⟨k, b', q1, q2, q3⟩ | q
  · exact .inl ⟨k, b', q1, by rw [hsame k (hr.wf.lt q2)]; exact q2, e.br hr.wf q3⟩
  · exact .inr q
end Go.RM
namespace Go.RM
open Go
section
variable {T : Tab} {tab : List XE} {one : Bool} {fl base base1 : Nat} {E E' E1 E2 E4 : Env} {hp hp' hp1 hp2 hp4 : List AB} {amb amb' amb4 : Amb} {H H' H1 H2 H4 : Hp} {ρ ρ' : Nat → Nat → Option Nat} {g g' : Getter} {O O' : Nat → Prop}
theorem BR.mono {b : AB} {b' : ABlk} (h : BR ρ g O b b') (hr : ∀ j v k, ρ j v = some k → ρ' j v = some k) (hg : ∀ k b, g k = some b → ¬ O k → g' k = some b ∧ ¬ O' k) : BR ρ' g' O' b b' := by
  cases b with
  | cells cs es ver => obtain ⟨cs', rfl, h⟩ := h; exact ⟨cs', rfl, h.mono hr hg⟩
  | siter s p => exact h
  | map ents clock =>
    obtain ⟨es, rfl, h1, h2⟩ := h
    exact ⟨es, rfl, h1, fun i k v born x hx hy => ⟨(h2 i k v born x hx hy).1.mono hr hg, (h2 i k v born x hx hy).2.1.mono hr hg, (h2 i k v born x hx hy).2.2⟩⟩
  | iter j since seen stepped => obtain ⟨m, rfl, h⟩ := h; exact ⟨m, rfl, hr _ _ _ h⟩
  | gone => exact h
/-- The same blocks in another heap: what differs is X's. -/
theorem HRel.view (h : HRel E base hp amb H) {X' : Nat → Prop} (hwf : Wf H1) (hn : H.n ≤ H1.n) (hX : ∀ k, E.X k → X' k) (hX2 : ∀ k, X' k → E.X k ∨ H.n ≤ k) (hXn : ∀ k, X' k → k < H1.n)
    (heq : ∀ k, k < H.n → (¬ E.X k ∨ E.S k) → H1.get k = H.get k) (hb : ∀ k, Own E.ρ hp k ∨ E.D k → base1 ≤ k) (hbn : base1 ≤ H1.n) : HRel { E with X := X' } base1 hp amb H1 := by
  have keep : ∀ k b, H.get k = some b → ¬ E.O hp k → H1.get k = some b ∧ ¬ ({ E with X := X' } : Env).O hp k := fun k b hk ho => by
    have hlt := h.wf.lt hk
    refine ⟨by rw [heq k hlt (.inl fun hx => ho (.inr hx))]; exact hk, fun ho' => ?_⟩
    rcases ho' with h1 | h1
    · exact ho (.inl h1)
    · rcases hX2 k h1 with h2 | h2
      · exact ho (.inr h2)
      · omega
  refine ⟨hwf, fun j x ver hj hv => ?_, h.inj, fun j v k hk => Nat.lt_of_lt_of_le (h.rn j v k hk) hn, h.fresh, h.new, h.sup, fun k hk hx => ?_, fun k hd => hX k (h.dx k hd), h.ds, fun k hk => Nat.lt_of_lt_of_le (h.sn k hk) hn, hXn, hb, hbn, amb.st h.amb (fun k hk => heq k (h.sn k hk) (.inr hk)) hn⟩
  · rcases h.blk j x ver hj hv with ⟨k, b', q1, q2, q3⟩ | q
    · have hok : Own E.ρ hp k := ⟨j, x, ver, hj, hv, q1⟩
      exact .inl ⟨k, b', q1, by rw [heq k (h.wf.lt q2) (.inl (h.excl k hok))]; exact q2, q3.mono (fun _ _ _ h => h) keep⟩
    · exact .inr q
  · rcases hX2 k hx with h2 | h2
    · exact h.excl k hk h2
    · have := h.ownlt hk; omega
theorem HRel.base0 (h : HRel E base hp amb H) : HRel E 0 hp amb H := { h with bas := fun _ _ => Nat.zero_le _, bn := Nat.zero_le _ }
theorem Frm.base0 (h : Frm fl base E hp H E' hp' H') : Frm fl 0 E hp H E' hp' H' := { h with lo := by omega }
/-- What holds of a loop's owner while the function that it ranges over runs. -/
def LoopP (fl0 : Nat) (E0 : Env) (hp0 : List AB) (H0 : Hp) (blk : ABlk) (Q : List AB → Amb → Prop) : Amb where
  P D S g n := (∀ k, k ≤ H0.n → S k) ∧ g H0.n = some blk ∧ ∃ (E' : Env) (b' : Nat) (hp' : List AB) (amb' : Amb) (H' : Hp), Q hp' amb' ∧ HRel E' b' hp' amb' H' ∧ Frm fl0 0 E0 hp0 H0 E' hp' H' ∧ H'.n ≤ n ∧ (E'.X H0.n ∧ ¬ E'.S H0.n) ∧
    (∀ k, k < H'.n → S k ∨ E'.X k) ∧ (∀ k, E'.S k → S k) ∧ (∀ k, S k → k ≠ H0.n → g k = H'.get k) ∧ (∀ k, Own E'.ρ hp' k ∨ E'.D k ∨ k = H0.n → D k)
  st := by
    rintro D S g g' n n' ⟨h1, h2, E', b', hp', amb', H', q1, q2, q3, q4, q5, q6, q7, q8, q9⟩ hs hn
    exact ⟨h1, by rw [hs _ (h1 _ (Nat.le_refl _))]; exact h2, E', b', hp', amb', H', q1, q2, q3, Nat.le_trans q4 hn, q5, q6, q7, fun k hk hne => by rw [hs k hk]; exact q8 k hk hne, q9⟩
/-- Behind a round: the one who yields goes on. -/
theorem loop_back {fl0 : Nat} {E0 : Env} {hp0 : List AB} {H0 : Hp} {blk blk' b0 : ABlk} {Q Q' : List AB → Amb → Prop} (hr : HRel E1 base1 hp (LoopP fl0 E0 hp0 H0 blk Q) H)
    (hX : ∀ k, k < H.n → E1.S k ∨ E.X k) (hXl : E.X H0.n) (hSl : ¬ E.S H0.n) (hS : ∀ k, E.S k → E1.S k) (hD : ∀ k, Own E.ρ hp1 k ∨ E.D k ∨ k = H0.n → E1.D k) (hlow : ∀ k, k ≤ H0.n → E1.S k)
    (f0 : Frm fl0 0 E0 hp0 H0 E hp1 H) (h4 : HRel E4 base1 hp4 amb4 H4) (F : Frm fl0 base1 E hp1 (H.put H0.n b0) E4 hp4 H4) (hQ : Q' hp4 amb4) :
    ∃ E5, HRel E5 base1 hp (LoopP fl0 E0 hp0 H0 blk' Q') (H4.put H0.n blk') ∧ Frm hp.length base1 E1 hp H E5 hp (H4.put H0.n blk') := by
  have hln : H0.n < H.n := hr.sn _ (hlow _ (Nat.le_refl _))
  have hn : H.n ≤ H4.n := F.n
  have hD1 : E1.D H0.n := hD _ (.inr (.inr rfl))
  have same : ∀ k, k < H.n → ¬ E1.D k → (H4.put H0.n blk').get k = H.get k := fun k hk hd => by
    have hne : k ≠ H0.n := fun e => hd (e ▸ hD1)
    rw [put_get_ne hne, F.same k hk (fun h => hd (hD k (.inl h))) (fun h => hd (hD k (.inr (.inl h)))), put_get_ne hne]
  let X' : Nat → Prop := fun k => E1.X k ∨ (H.n ≤ k ∧ k < H4.n)
  let S' : Nat → Prop := fun k => E1.S k ∨ (H.n ≤ k ∧ k < H4.n)
  let D' : Nat → Prop := fun k => E1.D k ∨ (H.n ≤ k ∧ (Own E4.ρ hp4 k ∨ E4.D k))
  have hnew : ∀ k, Own E4.ρ hp4 k ∨ E4.D k → k < H4.n := fun k h => h.elim (fun h => h4.ownlt h) (fun h => h4.sn k (h4.ds k h))
  have keep : ∀ k b, H.get k = some b → ¬ E1.O hp k → (H4.put H0.n blk').get k = some b ∧ ¬ (⟨E1.ρ, D', S', X'⟩ : Env).O hp k := fun k b hk ho => by
    have hlt := hr.wf.lt hk
    refine ⟨by rw [same k hlt (fun hd => ho (.inr (hr.dx k hd)))]; exact hk, fun ho' => ?_⟩
    rcases ho' with h1 | h1 | h1
    · exact ho (.inl h1)
    · exact ho (.inr h1)
    · omega
  refine ⟨⟨E1.ρ, D', S', X'⟩, ⟨fun k hk => ?_, fun j x ver hj hv => ?_, hr.inj, fun j v k hk => Nat.lt_of_lt_of_le (hr.rn j v k hk) hn, hr.fresh, hr.new, fun k hk hs => ?_, fun k hk hx => ?_, fun k hd => ?_, fun k hd => ?_, fun k hs => ?_, fun k hx => ?_, fun k hd => ?_, Nat.le_trans hr.bn hn, ?_⟩,
    ⟨hn, fun _ _ _ _ h => h, fun k hk => .inl hk, fun k hd => hd.imp id And.left, fun k hd => hd.imp id And.left, fun k hx => .inl hx, fun k hd => hd.imp id And.left, fun k hk _ hd => same k hk hd, ?_⟩⟩
  · have hk : H4.n ≤ k := hk
    rw [put_get_ne (by omega)]; exact h4.wf k hk
  · rcases hr.blk j x ver hj hv with ⟨k, b', q1, q2, q3⟩ | q
    · have hok : Own E1.ρ hp k := ⟨j, x, ver, hj, hv, q1⟩
      exact .inl ⟨k, b', q1, by rw [same k (hr.wf.lt q2) (fun hd => hr.excl k hok (hr.dx k hd))]; exact q2, q3.mono (fun _ _ _ h => h) keep⟩
    · exact .inr q
  · rcases hs with h1 | h1
    · exact hr.sup k hk h1
    · have := hr.ownlt hk; omega
  · rcases hx with h1 | h1
    · exact hr.excl k hk h1
    · have := hr.ownlt hk; omega
  · rcases hd with h1 | h1
    · exact .inl (hr.dx k h1)
    · exact .inr ⟨h1.1, hnew k h1.2⟩
  · rcases hd with h1 | h1
    · exact .inl (hr.ds k h1)
    · exact .inr ⟨h1.1, hnew k h1.2⟩
  · rcases hs with h1 | h1
    · exact Nat.lt_of_lt_of_le (hr.sn k h1) hn
    · exact h1.2
  · rcases hx with h1 | h1
    · exact Nat.lt_of_lt_of_le (hr.xn k h1) hn
    · exact h1.2
  · rcases hd with h1 | h1 | h1
    · exact hr.bas k (.inl h1)
    · exact hr.bas k (.inr h1)
    · exact h4.bas k h1.2
  · have f0' : Frm fl0 0 E0 hp0 H0 E hp1 (H.put H0.n b0) := ⟨f0.n, f0.rho, f0.own, f0.d, f0.x, f0.xk, f0.s, fun k hk h1 h2 => by rw [put_get_ne (by omega)]; exact f0.same k hk h1 h2, by omega⟩
    refine ⟨fun k hk => .inl (hlow k hk), put_get_same, E4, base1, hp4, amb4, H4, hQ, h4, f0'.trans F.base0, Nat.le_refl _, ⟨F.xk _ hXl, fun hs => ?_⟩, fun k hk => ?_, fun k hs => ?_, fun k _ hne => put_get_ne hne, fun k hk => ?_⟩
    · rcases F.s _ hs with h1 | h1
      · exact hSl h1
      · have : H.n ≤ H0.n := h1; omega
    · by_cases hlt : k < H.n
      · exact (hX k hlt).imp .inl (F.xk k)
      · exact .inl (.inr ⟨by omega, hk⟩)
    · rcases F.s k hs with h1 | h1
      · exact .inl (hS k h1)
      · exact .inr ⟨h1, h4.sn k hs⟩
    · rcases hk with h1 | h1 | h1
      · rcases F.own k h1 with h2 | h2
        · exact .inl (hD k (.inl h2))
        · exact .inr ⟨h2, .inl h1⟩
      · rcases F.d k h1 with h2 | h2
        · exact .inl (hD k (.inr (.inl h2)))
        · exact .inr ⟨h2, .inr h1⟩
      · exact .inl (hD k (.inr (.inr h1)))
  · have h1 := F.lo
    have h2 := hr.bas _ (.inr hD1)
    have h3 : (H.put H0.n b0).lo = min H.lo H0.n := rfl
    have h4 : (H4.put H0.n blk').lo = min H4.lo H0.n := rfl
    omega
def YieldV (T : Tab) (tab : List XE) (one : Bool) (u : Value) (x : List AV) (a : Amb) (Q : Bool → Amb → Prop) : Prop :=
  ∀ hp, CallV T tab one (.oq u) x hp a fun v hp' a' => hp' = hp ∧ ∃ b, v = .fl (.bool b) ∧ Q b a'
/-- Goes it on, or does it stop. -/
def OnOr (J : Amb) (Stop : Amb → Prop) (b : Bool) (a : Amb) : Prop := (b = true ∧ a = J) ∨ (b = false ∧ Stop a)
/-- A function that yields just these, one behind the other. -/
def GenV (T : Tab) (tab : List XE) (one : Bool) (F : AV) (xs : List (List AV)) : Prop :=
  (∃ f a b, F = .fn f a b) ∧ F.deep = true ∧ (∀ x ∈ xs, ∀ a ∈ x, Free a) ∧ ∀ (u : Value) (J : Nat → Amb) (Stop : Amb → Prop), (∀ (i : Nat) (x : List AV), xs[i]? = some x → YieldV T tab one u x (J i) (OnOr (J (i + 1)) Stop)) →
    CallV T tab one F [.oq u] [] (J 0) fun _ _ a' => a' = J xs.length ∨ Stop a'
def GenQ (T : Tab) (rs : List ResultVar) (Q : Amb → Prop) (e : Exit) (s : ASt) : Prop :=
  match e with
  | .normal | .ret => resVs T s rs fun _ => Q s.amb
  | _ => False
theorem GenV.body {f : FuncId} {fn : Func} {c : Code} {first caps : List AV} {xs : List (List AV)} (hf : T.fn.get f = some fn) (hb : fn.body = some c) (hn : noEntry tab f = true) (hd : (AV.fn f first caps).deep = true) (hfree : ∀ x ∈ xs, ∀ a ∈ x, Free a)
    (hw : ∀ (u : Value) (J : Nat → Amb) (Stop : Amb → Prop), (∀ (i : Nat) (x : List AV), xs[i]? = some x → YieldV T tab one u x (J i) (OnOr (J (i + 1)) Stop)) →
      SemC T tab one c ⟨argFr (first ++ [.oq u] ++ caps), [], J 0, false, 0⟩ (GenQ T fn.results.toList fun a' => a' = J xs.length ∨ Stop a')) : GenV T tab one (.fn f first caps) xs := by
  refine ⟨⟨f, first, caps, rfl⟩, hd, hfree, fun u J Stop hy E base H v us hr hF ha => ?_⟩
  have hF := hF.deep hd
  cases hF with
  | fn l1 l2 d1 d2 =>
    rename_i a' b'
    have hall : ARL E.ρ H.get (E.O []) (first ++ [.oq u] ++ caps) (a'.toList ++ us ++ b'.toList) := ARL.append (ARL.append (DRL.arl ⟨l1, d1⟩) ha) (DRL.arl ⟨l2, d2⟩)
    refine ⟨.fn f (a'.toList ++ us ++ b'.toList), rfl, ?_⟩
    obtain ⟨m, L, h1, h2, h3⟩ := hw u J Stop hy E base ⟨setArgs .leaf 0 (a'.toList ++ us ++ b'.toList), H, false⟩ ⟨hr, rfl, argFr_ar hall⟩
    obtain ⟨m', M, hm, q1, q2, q3⟩ := bindL_ex (one := one) (L := L) (f := fun _ (p : Exit × St) => endCall T fn.results.toList p) (P := fun r => ∃ w H', r = .ret w H' ∧ ∃ E' a hp' amb', (amb' = J xs.length ∨ Stop amb') ∧ HRel E' base hp' amb' H' ∧ AR E'.ρ H'.get (E'.O hp') a w ∧ Frm ([] : List AB).length base E [] H E' hp' H')
      (fun _ _ _ _ _ h => h) m h2 (fun p hp => by
        obtain ⟨E', st', k1, _, k2, k3⟩ := h3 p hp
        obtain ⟨e, s'⟩ := p
        have done : (e = .normal ∨ e = .ret) → (resVs T st' fn.results.toList fun _ => st'.amb = J xs.length ∨ Stop st'.amb) → ∃ (_ : Nat) (M : List Res), endCall T fn.results.toList (e, s') = some M ∧ Res1 one M fun r => ∃ w H', r = .ret w H' ∧ ∃ E' a hp' amb', (amb' = J xs.length ∨ Stop amb') ∧ HRel E' base hp' amb' H' ∧ AR E'.ρ H'.get (E'.O hp') a w ∧ Frm ([] : List AB).length base E [] H E' hp' H' := by
          intro he hr
          obtain ⟨ws, as, r1, r2, r3⟩ := resVs_sound k2 hr
          refine ⟨0, [.ret (oneOrTuple ws) s'.hp], ?_, .single ⟨_, _, rfl, E', .junk, st'.hp, st'.amb, r2, k2.h, .junk, k3⟩⟩
          unfold endCall
          rcases he with rfl | rfl <;> simp only [r1, Option.map_some]
        cases e with
        | normal => exact done (.inl rfl) k1
        | ret => exact done (.inr rfl) k1
        | _ => exact k1.elim)
    refine ⟨m' + 1, M, ?_, q2, q3⟩
    show RX T tab (m' + 1) (.call f _ H) = _
    rw [RX_call, look_none _ _ hn]
    simp only
    rw [stepJ_call, hf]
    simp only [hb]
    rw [execC_le (RX_le hm) _ _ _ h1]
    exact q1
def setPV (fr : Nat → AV) : List (Tmp × AV) → Nat → AV
  | [] => fr
  | (d, v) :: l => setPV (fun t => bif Nat.beq t d then v else fr t) l
theorem setPV_fr : ∀ (ps : List Tmp) {x : List AV} {us : List Value} {fr : Nat → AV} {tm : Tr Value}, FrR' ρ g O fr tm → ARL ρ g O x us → FrR' ρ g O (setPV fr (ps.zip x)) (setParams tm (ps.zip us))
  | [], _, _, _, _, h, _ => h
  | p :: ps, [], [], _, _, h, _ => h
  | p :: ps, a :: x, u :: us, fr, tm, h, ha => by
    simp only [List.zip_cons_cons, setPV, setParams]
    exact setPV_fr ps (putV_fr h (ha.2 0 a u rfl rfl) (some p)) ⟨by simpa using ha.1, fun i a u x y => ha.2 (i + 1) a u (by simpa using x) (by simpa using y)⟩
  | p :: ps, [], _ :: _, _, _, _, ha => absurd ha.1 (by simp)
  | p :: ps, _ :: _, [], _, _, _, ha => absurd ha.1 (by simp)
def asK (P : ASt → Prop) (e : Exit) (s : ASt) : Prop :=
  match e with
  | .normal => s.rd = true ∧ P s
  | _ => False
def roundK (K : Exit → ASt → Prop) (st : ASt) (hpn : List AB) (an : Amb) (pn : Prop) (e : Exit) (s : ASt) : Prop :=
  match e with
  | .normal => pn ∧ ∃ fr', Weaker s ⟨fr', hpn, an, s.rd, s.fl⟩
  | .ret => K .ret ⟨st.fr, s.hp, s.amb, false, st.fl⟩
  | .exit id => K (.exit id) ⟨st.fr, s.hp, s.amb, false, st.fl⟩
  | _ => False
theorem beginRoundA_le {a b : Rec} (h : RecLe a b) {l : Nat} {bd : Code} {p : Exit × St} {M : List Res} (e : beginRoundA T a l bd p = some M) : beginRoundA T b l bd p = some M := by
  unfold beginRoundA at e ⊢
  split at e
  · split at e
    · rename_i pend2 fr2 ps2 as2 bd2 hl2
      cases hq : execC T a bd ⟨p.2.fr, p.2.hp.put l (.loop .busy pend2 fr2 ps2 as2 bd2), true⟩ with
      | none => rw [hq] at e; cases e
      | some M2 => rw [hq] at e; rw [execC_le h _ _ _ hq]; exact e
    · cases e
  · cases e
theorem Weaker.keepn {st : ASt} {fr' : Nat → AV} {hp : List AB} {a : Amb} {rd : Bool} {n : Nat} (h : Weaker st ⟨fr', hp, a, rd, n⟩) {s : St} (hs : SRel E base st s) : ∃ E', HRel E' base hp a s.hp ∧ Frm st.fl base E st.hp s.hp E' hp s.hp := by
  obtain ⟨E', h1, h2⟩ := h.2 E base s hs
  exact ⟨E', h1.h, h2⟩
theorem SemC.range {f : Operand} {ps : Array Tmp} {as bd : Code} {st : ASt} {K : Exit → ASt → Prop} {xs : List (List AV)} (Hs : Nat → List AB) (As : Nat → Amb) (Ps : Nat → Prop) (hrd : st.rd = false) (hgen : GenV T tab one (evA st.fr f) xs) (h0 : Hs 0 = st.hp) (ha0 : As 0 = st.amb) (hp0 : Ps 0)
    (hround : ∀ (i : Nat) (x : List AV), xs[i]? = some x → Ps i → x.length = ps.toList.length ∧ SemC T tab one as ⟨setPV st.fr (ps.toList.zip x), Hs i, As i, true, st.hp.length⟩ (asK fun s => SemC T tab one bd s (roundK K st (Hs (i + 1)) (As (i + 1)) (Ps (i + 1)))))
    (hend : Ps xs.length → K .normal ⟨st.fr, Hs xs.length, As xs.length, false, st.fl⟩) : SemC T tab one (.rangeFunc f ps as bd) st K := by
  intro E base s hs
  obtain ⟨⟨gf, ga, gb, hF⟩, hdeep, hfree, hgen⟩ := hgen
  have hsrd : s.rd = false := hs.rd.trans hrd
  let l := s.hp.n
  let LP : ABlk → (List AB → Amb → Prop) → Amb := LoopP st.hp.length E st.hp s.hp
  let blkR : ABlk := .loop .ready none s.fr ps as bd
  let J : Nat → Amb := fun i => LP blkR fun hp' amb' => hp' = Hs i ∧ amb' = As i ∧ Ps i
  let Stop : Amb → Prop := fun a => ∃ pend e, ((e = Exit.ret ∧ pend = Code.ret) ∨ ∃ id, e = Exit.exit id ∧ pend = Code.exit id) ∧ a = LP (.loop .done (some pend) s.fr ps as bd) fun hp' amb' => K e ⟨st.fr, hp', amb', false, st.fl⟩
  let u : Value := .func (.yield l) #[] #[]
  -- a round
  have hy : ∀ (i : Nat) (x : List AV), xs[i]? = some x → YieldV T tab one u x (J i) (OnOr (J (i + 1)) Stop) := by
    intro i x hx hp E1 base1 H w us hr hw ha
    have hwu : w = u := by
      cases hw with
      | d h => cases h; rfl
    subst hwu
    obtain ⟨hlow, hl, E', b', hp', amb', H', ⟨rfl, rfl, hPi⟩, q2, q3, q4, ⟨q5, q5'⟩, q6, q7, q8, q9⟩ := hr.amb
    obtain ⟨hxl, hround⟩ := hround i x hx hPi
    refine ⟨.yield l ([] ++ us), rfl, ?_⟩
    rw [List.nil_append]
    have hln : l < H.n := hr.sn _ (hlow _ (Nat.le_refl _))
    let X2 : Nat → Prop := fun k => E'.X k ∨ (k < H.n ∧ ¬ E1.S k)
    have hv : HRel { E' with X := X2 } base1 (Hs i) (As i) H := q2.view hr.wf q4 (fun k h => .inl h) (fun k h => by
        rcases h with h | h
        · exact .inl h
        · by_cases hk : k < H'.n
          · exact .inl ((q6 k hk).resolve_left h.2)
          · exact .inr (by omega)) (fun k h => h.elim (fun h => Nat.lt_of_lt_of_le (q2.xn k h) q4) And.left)
      (fun k hk h => by
        rcases h with h | h
        · exact q8 k ((q6 k hk).resolve_right h) (fun e => h (e ▸ q5))
        · exact q8 k (q7 k h) (fun e => q5' (e ▸ h))) (fun k hk => hr.bas k (.inr (q9 k (hk.imp id .inl)))) hr.bn
    have f0 : Frm st.hp.length 0 E st.hp s.hp { E' with X := X2 } (Hs i) H := ⟨Nat.le_trans q3.n q4, q3.rho, q3.own, q3.d, fun k h => by
        rcases h with h | h
        · exact q3.x k h
        · by_cases hk : k < s.hp.n
          · exact absurd (hlow k (Nat.le_of_lt hk)) h.2
          · exact .inr (by omega), fun k h => .inl (q3.xk k h), q3.s, fun k hk h1 h2 => by rw [q8 k (hlow k (Nat.le_of_lt hk)) (by omega)]; exact q3.same k hk h1 h2, by omega⟩
    have hfrm : FrR' E'.ρ H.get (({ E' with X := X2 } : Env).O (Hs i)) st.fr s.fr := fun t => f0.ar hs.h.base0 (hs.fr t)
    have hargs : ARL E'.ρ H.get (({ E' with X := X2 } : Env).O (Hs i)) x us := ⟨ha.1, fun i a u h1 h2 => .d ((hfree x (List.mem_of_getElem? hx) a (List.mem_of_getElem? h1)).2 _ _ _ _ ((ha.2 i a u h1 h2).deep (hfree x (List.mem_of_getElem? hx) a (List.mem_of_getElem? h1)).1))⟩
    obtain ⟨m1, L1, a1, a2, a3⟩ := hround { E' with X := X2 } base1 ⟨setParams s.fr (ps.toList.zip us), H, true⟩ ⟨hv, rfl, setPV_fr _ hfrm hargs⟩
    have hXl2 : X2 s.hp.n := .inl q5
    obtain ⟨m, M, hm, z1, z2⟩ := bindL_ex (one := one) (L := L1) (f := fun m (p : Exit × St) => beginRoundA T (RX T tab m) l bd p) (P := fun r => ∃ w H', r = .ret w H' ∧ ∃ E5 a hp5 amb5, (hp5 = hp ∧ ∃ b, a = .fl (.bool b) ∧ OnOr (J (i + 1)) Stop b amb5) ∧ HRel E5 base1 hp5 amb5 H' ∧ AR E5.ρ H'.get (E5.O hp5) a w ∧ Frm hp.length base1 E1 hp H E5 hp5 H')
      (fun n m x M hnm hx => beginRoundA_le (RX_le hnm) hx) m1 a2 (fun p hp0 => by
        obtain ⟨E2, st2, k1, k2, k3, k4⟩ := a3 p hp0
        obtain ⟨e, p⟩ := p
        cases e with
        | normal =>
          obtain ⟨hrd2, hbd⟩ := k1
          have gl : p.hp.get l = some blkR := by
            rw [k4.same l hln (fun h => hv.excl _ h hXl2) (fun h => q5' (q2.ds _ h))]; exact hl
          have hl2 : l < p.hp.n := Nat.lt_of_lt_of_le hln k4.n
          have hX2l : E2.X l := k4.xk l hXl2
          have hS2l : ¬ E2.S l := fun h => by
            rcases k4.s l h with h | h
            · exact q5' h
            · have : H.n ≤ l := h; omega
          let bB : ABlk := .loop .busy none s.fr ps as bd
          have hv2 : HRel E2 base1 st2.hp st2.amb (p.hp.put l bB) := k3.h.view (X' := E2.X) (fun k hk => by
              have hk : p.hp.n ≤ k := hk
              rw [put_get_ne (by omega)]; exact k3.h.wf k hk) (Nat.le_refl _) (fun _ h => h) (fun _ h => .inl h) k3.h.xn (fun k hk h => put_get_ne fun e => by
              subst e
              exact h.elim (fun h => h hX2l) hS2l) k3.h.bas k3.h.bn
          have har2 : FrR' E2.ρ (p.hp.put l bB).get (E2.O st2.hp) st2.fr p.fr := fun t => (k3.fr t).mono (fun _ _ _ h => h) (fun k b hk ho => ⟨by rw [put_get_ne (fun e => by subst e; exact ho (.inr hX2l))]; exact hk, ho⟩)
          obtain ⟨m2, L2, b1, b2, b3⟩ := hbd E2 base1 ⟨p.fr, p.hp.put l bB, true⟩ ⟨hv2, hrd2.symm, har2⟩
          -- from the round's start to its body
          have F1 : Frm st.hp.length base1 { E' with X := X2 } (Hs i) (H.put l bB) E2 st2.hp (p.hp.put l bB) := ⟨k4.n, k4.rho, k4.own, k4.d, k4.x, k4.xk, k4.s, fun k hk h1 h2 => by
              by_cases hkl : k = l
              · subst hkl; rw [put_get_same, put_get_same]
              · rw [put_get_ne hkl, put_get_ne hkl]; exact k4.same k hk h1 h2, by
              have h5 : min H.lo base1 ≤ p.hp.lo := k4.lo
              have h3 : (H.put l bB).lo = min H.lo l := rfl
              have h4 : (p.hp.put l bB).lo = min p.hp.lo l := rfl
              omega⟩
          have back : ∀ {E4 : Env} {hp4 : List AB} {amb4 : Amb} {q : St} (blk' : ABlk) {Q' : List AB → Amb → Prop}, HRel E4 base1 hp4 amb4 q.hp → Frm st.hp.length base1 E2 st2.hp (p.hp.put l bB) E4 hp4 q.hp → Q' hp4 amb4 →
              ∃ E5, HRel E5 base1 hp (LP blk' Q') (q.hp.put l blk') ∧ Frm hp.length base1 E1 hp H E5 hp (q.hp.put l blk') := by
            intro E4 hp4 amb4 q blk' Q' h4 f4 hQ
            exact loop_back (E := { E' with X := X2 }) hr (fun k hk => by
                by_cases hs1 : E1.S k
                · exact .inl hs1
                · exact .inr (.inr ⟨hk, hs1⟩)) hXl2 q5' q7 q9 hlow f0 h4 (F1.trans f4) hQ
          refine ⟨max m2 0, ?_⟩
          obtain ⟨m3, M3, hm3, y1, y2⟩ := bindL_ex (one := one) (L := L2) (f := fun _ (q : Exit × St) => endRoundA l q) (P := fun r => ∃ w H', r = .ret w H' ∧ ∃ E5 a hp5 amb5, (hp5 = hp ∧ ∃ b, a = .fl (.bool b) ∧ OnOr (J (i + 1)) Stop b amb5) ∧ HRel E5 base1 hp5 amb5 H' ∧ AR E5.ρ H'.get (E5.O hp5) a w ∧ Frm hp.length base1 E1 hp H E5 hp5 H')
            (fun _ _ _ _ _ h => h) 0 b2 (fun q hq => by
              obtain ⟨E3, st3, j1, j2, j3, j4⟩ := b3 q hq
              obtain ⟨e, q⟩ := q
              have gl2 : q.hp.get l = some bB := by
                rw [j4.same l hl2 (fun h => hv2.excl _ h hX2l) (fun h => hS2l (hv2.ds _ h))]; exact put_get_same
              have jfl : st2.fl = st.hp.length := k2
              cases e with
              | normal =>
                obtain ⟨hPn, fr', hwk⟩ := j1
                obtain ⟨E4, h4, f4⟩ := hwk.keepn j3
                rw [j2, jfl] at f4
                rw [jfl] at j4
                obtain ⟨E5, x1, x2⟩ := back (q := q) (.loop .ready none s.fr ps as bd) (Q' := fun hp' amb' => hp' = Hs (i + 1) ∧ amb' = As (i + 1) ∧ Ps (i + 1)) h4 (j4.trans f4) ⟨rfl, rfl, hPn⟩
                exact ⟨0, [.ret (.bool true) (q.hp.put l (.loop .ready none s.fr ps as bd))], by unfold endRoundA; simp only [gl2, bB], .single ⟨_, _, rfl, E5, .fl (.bool true), hp, _, ⟨rfl, true, rfl, .inl ⟨rfl, rfl⟩⟩, x1, .d (.fl rfl), x2⟩⟩
              | ret =>
                rw [jfl] at j4
                obtain ⟨E5, x1, x2⟩ := back (q := q) (.loop .done (some .ret) s.fr ps as bd) (Q' := fun hp' amb' => K .ret ⟨st.fr, hp', amb', false, st.fl⟩) j3.h j4 j1
                exact ⟨0, [.ret (.bool false) (q.hp.put l (.loop .done (some .ret) s.fr ps as bd))], by unfold endRoundA; simp only [gl2, bB], .single ⟨_, _, rfl, E5, .fl (.bool false), hp, _, ⟨rfl, false, rfl, .inr ⟨rfl, .ret, .ret, .inl ⟨rfl, rfl⟩, rfl⟩⟩, x1, .d (.fl rfl), x2⟩⟩
              | exit id =>
                rw [jfl] at j4
                obtain ⟨E5, x1, x2⟩ := back (q := q) (.loop .done (some (.exit id)) s.fr ps as bd) (Q' := fun hp' amb' => K (.exit id) ⟨st.fr, hp', amb', false, st.fl⟩) j3.h j4 j1
                exact ⟨0, [.ret (.bool false) (q.hp.put l (.loop .done (some (.exit id)) s.fr ps as bd))], by unfold endRoundA; simp only [gl2, bB], .single ⟨_, _, rfl, E5, .fl (.bool false), hp, _, ⟨rfl, false, rfl, .inr ⟨rfl, .exit id, .exit id, .inr ⟨id, rfl, rfl⟩, rfl⟩⟩, x1, .d (.fl rfl), x2⟩⟩
              | _ => exact j1.elim)
          refine ⟨M3, ?_, y2⟩
          unfold beginRoundA
          simp only [gl, blkR]
          rw [execC_le (RX_le (Nat.le_max_left m2 0)) _ _ _ b1]
          exact y1
        | _ => exact k1.elim)
    refine ⟨m + 1, M, ?_, z2⟩
    show RX T tab (m + 1) (.round l us H) = _
    rw [RX_round, stepJ_round, hl]
    simp only [blkR]
    rw [show Nat.beq us.length ps.toList.length = true by rw [← ha.1, hxl]; exact Nat.beq_refl _]
    simp only [cond_true]
    rw [execC_le (RX_le hm) _ _ _ a1]
    exact z1
  -- the function that is ranged over
  let E1 : Env := ⟨fun _ _ => none, fun k => Own E.ρ st.hp k ∨ E.D k ∨ k = l, fun k => k ≤ l, fun k => Own E.ρ st.hp k ∨ E.X k ∨ k = l⟩
  have hno : ∀ k, ¬ Own E1.ρ [] k := fun k ⟨j, b, ver, h, _⟩ => by cases h
  have hwf1 : Wf (s.hp.push blkR) := (Keep.push s.hp blkR).wf hs.h.wf
  have hrel1 : HRel E1 base [] (J 0) (s.hp.push blkR) :=
    { wf := hwf1, blk := fun j b ver h _ => (by cases h), inj := fun j j' ver ver' k h => (by cases h), rn := fun j v k h => (by cases h), fresh := fun j b ver v h => (by cases h), new := fun _ _ _ => rfl,
      sup := fun k h => (hno k h).elim, excl := fun k h => (hno k h).elim, dx := fun k h => h.imp id (fun h => h.imp (hs.h.dx k) id),
      ds := fun k h => by
        rcases h with h | h | h
        · exact Nat.le_of_lt (hs.h.ownlt h)
        · exact Nat.le_of_lt (hs.h.sn k (hs.h.ds k h))
        · exact Nat.le_of_eq h
      sn := fun k h => Nat.lt_succ_of_le h
      xn := fun k h => by
        show k < s.hp.n + 1
        rcases h with h | h | h
        · exact Nat.lt_succ_of_lt (hs.h.ownlt h)
        · exact Nat.lt_succ_of_lt (hs.h.xn k h)
        · have : k = s.hp.n := h; omega
      bas := fun k h => by
        rcases h with h | h | h | h
        · exact (hno k h).elim
        · exact hs.h.bas k (.inl h)
        · exact hs.h.bas k (.inr h)
        · rw [h]; exact hs.h.bn
      bn := Nat.le_succ_of_le hs.h.bn
      amb := by
        refine ⟨fun k h => h, push_get_n, { E with X := fun k => E.X k ∨ k = s.hp.n }, base, st.hp, st.amb, s.hp.push blkR, ⟨h0.symm, ha0.symm, hp0⟩, hs.h.view hwf1 (Nat.le_succ _) (fun k h => .inl h) (fun k h => h.imp id (fun h => Nat.le_of_eq h.symm)) (fun k h => ?_) (fun k hk _ => push_get_lt hk) hs.h.bas (Nat.le_succ_of_le hs.h.bn),
          ⟨Nat.le_succ _, fun _ _ _ _ h => h, fun _ h => .inl h, fun _ h => .inl h, fun k h => h.imp id (fun h => Nat.le_of_eq h.symm), fun _ h => .inl h, fun _ h => .inl h, fun k hk _ _ => push_get_lt hk, by omega⟩, Nat.le_refl _, ⟨.inr rfl, fun h => Nat.lt_irrefl _ (hs.h.sn _ h)⟩, fun k hk => .inl (Nat.le_of_lt_succ hk), fun k h => Nat.le_of_lt (hs.h.sn k h), fun _ _ _ => rfl, fun k h => h⟩
        show k < s.hp.n + 1
        rcases h with h | h
        · exact Nat.lt_succ_of_lt (hs.h.xn k h)
        · omega }
  have hFv := evA_ar hs.fr f
  have hdF := hFv.deep hdeep
  have hF1 : AR E1.ρ (s.hp.push blkR).get (E1.O []) (evA st.fr f) (evalA s.fr f) := .d (hdF.mono fun k b hk ho => by
    have hlt := hs.h.wf.lt hk
    refine ⟨by rw [push_get_lt hlt]; exact hk, fun h => ?_⟩
    rcases h with h | h | h | h
    · exact hno k h
    · exact ho (.inl h)
    · exact ho (.inr h)
    · have : k = s.hp.n := h; omega)
  obtain ⟨goal, hgo, m, L, c1, c2, c3⟩ := hgen u J Stop hy E1 base (s.hp.push blkR) _ [u] hrel1 hF1 (.cons (.d .oq) .nil)
  have hgfn : ∃ as', goal = .fn gf as' := by
    rw [hF] at hdF
    generalize evalA s.fr f = fv at hdF hgo
    cases hdF with
    | fn _ _ _ _ => exact ⟨_, by cases hgo; rfl⟩
  obtain ⟨as', rfl⟩ := hgfn
  obtain ⟨m', M, hm, z1, z2⟩ := bindL_ex (one := one) (L := L) (f := fun _ (r : Res) => endLoopA l s.fr r) (P := fun p => StOk E base st s (K p.1) p.2) (fun _ _ _ _ _ h => h) m c2 (fun r hr => by
    obtain ⟨w, H2, rfl, E2, a, hp2, amb2, k1, k2, k3, k4⟩ := c3 r hr
    have fin : ∀ {blk : ABlk} (blk' : ABlk) {Q : List AB → Amb → Prop} {e : Exit}, amb2 = LP blk Q → (∀ hp' amb', Q hp' amb' → K e ⟨st.fr, hp', amb', false, st.fl⟩) → H2.get l = some blk ∧ StOk E base st s (K e) ⟨s.fr, H2.put l blk', false⟩ := by
      intro blk blk' Q e ha hQ
      subst ha
      obtain ⟨hlow, hl, E', b', hp', amb', H', q1, q2, q3, q4, ⟨q5, q5'⟩, q6, q7, q8, q9⟩ := k2.amb
      have hln : l < H2.n := k2.sn _ (hlow _ (Nat.le_refl _))
      have hbl : base ≤ l := k2.bas _ (.inr (q9 _ (.inr (.inr rfl))))
      have hg2 : ∀ k, E2.S k → k ≠ l → (H2.put l blk').get k = H'.get k := fun k h1 h2 => by rw [put_get_ne h2]; exact q8 k h1 h2
      have hfin : HRel { E' with X := fun k => E'.X k ∨ (k < H2.n ∧ ¬ E2.S k) } base hp' amb' (H2.put l blk') := q2.view (fun k hk => by
            have hk : H2.n ≤ k := hk
            rw [put_get_ne (by omega)]; exact k2.wf k hk) q4 (fun k h => .inl h) (fun k h => by
          rcases h with h | h
          · exact .inl h
          · by_cases hk : k < H'.n
            · exact .inl ((q6 k hk).resolve_left h.2)
            · exact .inr (by omega)) (fun k h => h.elim (fun h => Nat.lt_of_lt_of_le (q2.xn k h) q4) And.left)
        (fun k hk h => by
          rcases h with h | h
          · exact hg2 k ((q6 k hk).resolve_right h) (fun e => h (e ▸ q5))
          · exact hg2 k (q7 k h) (fun e => q5' (by have e : k = s.hp.n := e; rw [← e]; exact h))) (fun k hk => k2.bas k (.inr (q9 k (hk.imp id .inl)))) k2.bn
      have ff : Frm st.hp.length base E st.hp s.hp { E' with X := fun k => E'.X k ∨ (k < H2.n ∧ ¬ E2.S k) } hp' (H2.put l blk') := ⟨Nat.le_trans q3.n q4, q3.rho, q3.own, q3.d, fun k h => by
          rcases h with h | h
          · exact q3.x k h
          · by_cases hk : k < s.hp.n
            · exact absurd (hlow k (Nat.le_of_lt hk)) h.2
            · exact .inr (by omega), fun k h => .inl (q3.xk k h), q3.s, fun k hk h1 h2 => by rw [hg2 k (hlow k (Nat.le_of_lt hk)) (Nat.ne_of_lt hk)]; exact q3.same k hk h1 h2, by
          have h1 := k4.lo
          have h2 : (s.hp.push blkR).lo = s.hp.lo := rfl
          have h3 : (H2.put l blk').lo = min H2.lo l := rfl
          omega⟩
      exact ⟨hl, _, ⟨st.fr, hp', amb', false, st.fl⟩, hQ _ _ q1, rfl, ⟨hfin, rfl, fun t => ff.ar hs.h (hs.fr t)⟩, ff.low hs.h _⟩
    rcases k1 with k1 | ⟨pend, e, hpe, k1⟩
    · obtain ⟨g1, g2⟩ := fin (.loop .exhausted none s.fr ps as bd) (e := .normal) k1 (fun hp' amb' ⟨h1, h2, h3⟩ => by subst h1; subst h2; exact hend h3)
      exact ⟨0, [(.normal, ⟨s.fr, H2.put l (.loop .exhausted none s.fr ps as bd), false⟩)], by unfold endLoopA; simp only [g1, blkR], .single g2⟩
    · obtain ⟨g1, g2⟩ := fin (.loop .exhausted (some pend) s.fr ps as bd) (e := e) k1 (fun _ _ h => h)
      rcases hpe with ⟨rfl, rfl⟩ | ⟨id, rfl, rfl⟩
      · exact ⟨0, [(.ret, ⟨s.fr, H2.put l (.loop .exhausted (some .ret) s.fr ps as bd), false⟩)], by unfold endLoopA; simp only [g1], .single g2⟩
      · exact ⟨0, [(.exit id, ⟨s.fr, H2.put l (.loop .exhausted (some (.exit id)) s.fr ps as bd), false⟩)], by unfold endLoopA; simp only [g1], .single g2⟩)
  refine ⟨m', M, ?_, z2⟩
  rw [execC_range]
  unfold rangeA'
  have hgo' : goalOf (evalA s.fr f) [Value.func (Fn.yield s.hp.n) #[] #[]] = some (.fn gf as') := hgo
  simp only [hsrd, hgo']
  have : RX T tab m' (.call gf as' (s.hp.push (.loop .ready none s.fr ps as bd))) = some L := RX_le hm _ _ c1
  rw [this]
  exact z1
/-- What the oracle says of a call without arguments. -/
theorem PureV.closed {f : FuncId} {v : Value} (h : ∀ H, look tab f [] H = some (v, H)) (hv : flat1 v = true) : PureV T tab one (.fn f [] []) [] (.fl v) := by
  refine ⟨rfl, fun X H u us hwf hX hF ha => ?_⟩
  cases hF with
  | fn l1 l2 d1 d2 =>
    rename_i a' b'
    have h1 : a'.toList = [] := List.length_eq_zero_iff.1 l1.symm
    have h2 : b'.toList = [] := List.length_eq_zero_iff.1 l2.symm
    have h3 : us = [] := List.length_eq_zero_iff.1 ha.1.symm
    refine ⟨.fn f [], by simp [goalOf, h1, h2, h3], 0, [.ret v H], ?_, fun _ => ⟨_, rfl⟩, fun r hr => ?_⟩
    · show rx tab (runX tab T 0) (.call f [] H) = _
      unfold rx
      simp only [h H]
    · obtain rfl := List.mem_singleton.1 hr
      exact ⟨v, H, rfl, Nat.le_refl _, hwf, fun _ _ => rfl, Nat.min_le_left _ _, .fl hv⟩
end
end Go.RM
namespace Go.RM
open Go
theorem bin_rem {P : Program} {t : TypeId} {x y : Operand} {m n : Int} (h0 : 0 ≤ m) (h2 : 1 ≤ n) : binA P .rem t x y (.int .i64 m) (.int .i64 n) = some (.int .i64 (m % n), .none) := by
  have hn : n ≠ 0 := by omega
  have h : binA P .rem t x y (.int .i64 m) (.int .i64 n) = some (.int .i64 (m.tmod n), .none) := by
    show slowBin P .rem t x y (.int .i64 m) (.int .i64 n) = _
    unfold slowBin
    simp only [flat, flat1, Bool.and_self, cond_true]
    have : (do eqGuard BinOp.rem t x y (Value.int IntKind.i64 m) (Value.int IntKind.i64 n); binOp BinOp.rem t (Value.int IntKind.i64 m) (Value.int IntKind.i64 n) : Sem Value) = pure (.int .i64 (m.tmod n)) := by
      show Op.intDiv .rem .i64 m n = _
      unfold Op.intDiv
      rw [if_neg hn]
    rw [this]
    rfl
  rw [h, IntWalk.rem_in m n h0]
theorem bin_quo {P : Program} {t : TypeId} {x y : Operand} {m n : Int} (h0 : 0 ≤ m) (h1 : m ≤ 9223372036854775807) (h2 : 1 ≤ n) : binA P .quo t x y (.int .i64 m) (.int .i64 n) = some (.int .i64 (m / n), .none) := by
  have hn : n ≠ 0 := by omega
  have h : binA P .quo t x y (.int .i64 m) (.int .i64 n) = some (.int .i64 (IntKind.i64.wrap (m.tdiv n)), .none) := by
    show slowBin P .quo t x y (.int .i64 m) (.int .i64 n) = _
    unfold slowBin
    simp only [flat, flat1, Bool.and_self, cond_true]
    have : (do eqGuard BinOp.quo t x y (Value.int IntKind.i64 m) (Value.int IntKind.i64 n); binOp BinOp.quo t (Value.int IntKind.i64 m) (Value.int IntKind.i64 n) : Sem Value) = pure (.int .i64 (IntKind.i64.wrap (m.tdiv n))) := by
      show Op.intDiv .quo .i64 m n = _
      unfold Op.intDiv
      rw [if_neg hn]
    rw [this]
    rfl
  rw [h, IntWalk.i64_quo m n ⟨h0, h1, h2⟩]
section
variable {T : Tab} {tab : List XE} {one : Bool} {mu : Tmp → Bool}
theorem wpGuard_yes {ops : List Oper} {j : Nat} {want : Bool} {fr : Nat → AV} {yes no : Prop} {d : Tmp} {a0 a1 a2 a3 a4} {b : Bool} (h1 : ops[j]? = some ⟨some d, a0, a1, a2, a3, a4⟩) (h2 : fr d = .fl (.bool b)) (h3 : b = want) (y : yes) : wpGuard ops (some (j, want)) fr yes no := by
  unfold wpGuard
  simp only [h1, h2]
  exact guardYes h3 y
theorem wpGuard_no {ops : List Oper} {j : Nat} {want : Bool} {fr : Nat → AV} {yes no : Prop} {d : Tmp} {a0 a1 a2 a3 a4} {b : Bool} (h1 : ops[j]? = some ⟨some d, a0, a1, a2, a3, a4⟩) (h2 : fr d = .fl (.bool b)) (h3 : b = !want) (n : no) : wpGuard ops (some (j, want)) fr yes no := by
  unfold wpGuard
  simp only [h1, h2]
  exact guardNo h3 n
theorem wpGuard_split {ops : List Oper} {j : Nat} {want : Bool} {fr : Nat → AV} {yes no : Prop} {d : Tmp} {a0 a1 a2 a3 a4} {b : Bool} (h1 : ops[j]? = some ⟨some d, a0, a1, a2, a3, a4⟩) (h2 : fr d = .fl (.bool b)) (y : b = want → yes) (n : b = (!want) → no) : wpGuard ops (some (j, want)) fr yes no := by
  unfold wpGuard
  simp only [h1, h2]
  exact ⟨y, n⟩
theorem wpGuard_skip {ops : List Oper} {j : Nat} {want : Bool} {fr : Nat → AV} {yes no : Prop} {d : Tmp} {a0 a1 a2 a3 a4} {vs : List AV} (h1 : ops[j]? = some ⟨some d, a0, a1, a2, a3, a4⟩) (h2 : fr d = .tp vs) (n : no) : wpGuard ops (some (j, want)) fr yes no := by
  unfold wpGuard
  simp only [h1, h2]
  exact n
end
end Go.RM
namespace Go.RM
open Go
theorem force_in {v : AV} {K : AV → Prop} (h : K v) : force v K := by cases v <;> exact h
section
variable {T : Tab} {tab : List XE} {one : Bool} {mu : Tmp → Bool} {own : Bool} {fr : Nat → AV} {hp : List AB} {amb : Amb} {rd : Bool} {fl : Nat} {K : AV → List AB → Prop} {KE : Exit → ASt → Prop} {KS : ASt → Prop} {st : ASt} {dst : Option Tmp}
theorem c1 (h : KE .normal st) : wpC T tab one mu .skip st KE := h
theorem c2 {a b : Code} (h : wpC T tab one mu a st (seqQ (fun s => wpC T tab one mu b s KE) KE)) : wpC T tab one mu (.seq a b) st KE := h
theorem c3 {id : Nat} {c : Code} (h : wpC T tab one mu c st (blockK id KE)) : wpC T tab one mu (.block id c) st KE := h
theorem c4 {id : Nat} {l : List Oper} (h : wpOps T tab one mu l l st (KE .normal)) : wpC T tab one mu (.region id l.toArray false) st KE := h
theorem c5 {id : Nat} {l : List Oper} (h : wpDraw T tab mu l.toArray l 0 (fun _ => 0) [] st (KE .normal)) : wpC T tab one mu (.region id l.toArray true) st KE := h
theorem c6 {id : Nat} (h : KE (.exit id) st) : wpC T tab one mu (.exit id) st KE := h
theorem c7 (h : KE .ret st) : wpC T tab one mu .ret st KE := h
theorem c9 {Q : ASt → Prop} (h : Q st) : seqQ Q KE .normal st := h
theorem d1 {Q : ASt → Prop} (h : KE .ret st) : seqQ Q KE .ret st := h
theorem d2 {Q : ASt → Prop} {id : Nat} (h : KE (.exit id) st) : seqQ Q KE (.exit id) st := h
theorem d3 {id : Nat} (h : KE .normal st) : blockK id KE .normal st := h
theorem d4 {id : Nat} (h : KE .ret st) : blockK id KE .ret st := h
theorem d5 {id id' : Nat} (hb : Nat.beq id' id = true) (h : KE .normal st) : blockK id KE (.exit id') st := by unfold blockK; simp only [hb, cond_true]; exact h
theorem d6 {id id' : Nat} (hb : Nat.beq id' id = false) (h : KE (.exit id') st) : blockK id KE (.exit id') st := by unfold blockK; simp only [hb, cond_false]; exact h
theorem d8 (h : KE .ret st) : scopeQ KE .ret st := h
/-- a branch that is not decided -/
theorem e1 {c : Operand} {a b : Code} {t : Bool} (hc : evA st.fr c = .fl (.bool t)) (h : (t = true → wpC T tab one mu a st KE) ∧ (t = false → wpC T tab one mu b st KE)) : wpC T tab one mu (.cond c a b) st KE := by
  show (match evA st.fr c with | .fl (.bool t) => _ | _ => False)
  rw [hc]; exact h
theorem e2 {c : Operand} {a b : Code} {t : Bool} (hc : evA st.fr c = .fl (.bool t)) (ht : t = true) (h : wpC T tab one mu a st KE) : wpC T tab one mu (.cond c a b) st KE := e1 hc (condYes ht h)
theorem e3 {c : Operand} {a b : Code} {t : Bool} (hc : evA st.fr c = .fl (.bool t)) (ht : t = false) (h : wpC T tab one mu b st KE) : wpC T tab one mu (.cond c a b) st KE := e1 hc (condNo ht h)
theorem o1 {ops : List Oper} (h : KS st) : wpOps T tab one mu ops [] st KS := h
theorem o2 {ops : List Oper} {op : Op} {a1 a2 a3 gd} {l : List Oper}
    (h : wpGuard ops gd fr (wpOne T tab one mu dst op fr hp amb rd fl fun st' => wpOps T tab one mu ops l st' KS) (putS dst fr (.tp []) fun fr' => wpOps T tab one mu ops l ⟨fr', hp, amb, rd, fl⟩ KS)) : wpOps T tab one mu ops (⟨dst, op, a1, a2, a3, gd⟩ :: l) ⟨fr, hp, amb, rd, fl⟩ KS := h
theorem o3 {ops : Array Oper} {op : Op} {a1 a2 a3 gd} {l : List Oper} {i : Nat} {bt : Nat → Nat} {acc : List AEv}
    (h : wpGuard ops.toList gd fr (wpDOne T tab mu dst op i bt fr hp fun fr' hp' bt' x => wpDraw T tab mu ops l (i + 1) bt' (x :: acc) ⟨fr', hp', amb, rd, fl⟩ KS)
      (putS dst fr (.tp []) fun fr' => wpDraw T tab mu ops l (i + 1) (putB dst bt 0) (⟨i, [], false, false⟩ :: acc) ⟨fr', hp, amb, rd, fl⟩ KS)) : wpDraw T tab mu ops (⟨dst, op, a1, a2, a3, gd⟩ :: l) i bt acc ⟨fr, hp, amb, rd, fl⟩ KS := h
theorem o4 {ops : List Oper} {yes no : Prop} (h : yes) : wpGuard ops none fr yes no := h
theorem o5 {d : Tmp} {v : AV} {P : (Nat → AV) → Prop} (h : P fun t => bif Nat.beq t d then v else fr t) : putS (some d) fr v P := h
theorem o6 {v : AV} {P : (Nat → AV) → Prop} (h : P fr) : putS none fr v P := h
theorem o7 {f : Operand} {l : List Operand} {tys} (h : force (evA fr f) fun F => forceL (l.map (evA fr)) fun as => CallV T tab one F as hp amb fun v hp' amb' => putS dst fr v fun fr' => KS ⟨fr', hp', amb', rd, fl⟩) :
    wpOne T tab one mu dst (.call ⟨.value f, l.toArray, tys⟩) fr hp amb rd fl KS := h
theorem o8 {op : Op} (hk : kindOf op = .plain) (h : wpOp T (isMu mu dst) op fr hp fun v hp' => force v fun v => putS dst fr v fun fr' => KS ⟨fr', hp', amb, rd, fl⟩) : wpOne T tab one mu dst op fr hp amb rd fl KS := by
  unfold wpOne; rw [hk]; exact h
theorem o9 {x : Operand} {l : List Operand} {f : Operand → AV} {P : List AV → Prop} (h : force (f x) fun a => forceL (l.map f) fun l => P (a :: l)) : forceL ((x :: l).map f) P := h
theorem p1 {f : Operand → AV} {P : List AV → Prop} (h : P []) : forceL (([] : List Operand).map f) P := h
theorem p2 {x : Operand} (h : K (evA fr x) hp) : wpOp T own (.move x) fr hp K := h
theorem p3 {x : Operand} (h : K (evA fr x) hp) : wpOp T own (.assign x) fr hp K := h
theorem p4 {c a b : Operand} (h : wpPick (evA fr c) (evA fr a) (evA fr b) hp K) : wpOp T own (.pick c a b) fr hp K := h
theorem p5 {o : BinOp} {t e : TypeId} {x y : Operand} (h : wpBin T o t x y (evA fr x) (evA fr y) hp K) : wpOp T own (.binOp o t x y e) fr hp K := h
theorem p6 {x : Operand} {t : TypeId} (h : force (evA fr x) fun v => wpLen T t v hp K) : wpOp T own (.call ⟨.builtin .len, [x].toArray, [t].toArray⟩) fr hp K := force_in (force_of h)
theorem p7 {f : FuncId} {a b : List Operand} (h : forceL (a.map (evA fr)) fun a => forceL (b.map (evA fr)) fun b => K (.fn f a b) hp) : wpOp T own (.makeFunc (.func f) a.toArray b.toArray) fr hp K := h
theorem p9 {op : Op} {i : Nat} {bt : Nat → Nat} {KD : (Nat → AV) → List AB → (Nat → Nat) → AEv → Prop} (hk : kindOf op = .plain) (h : ∃ a, accs op fr (brx bt) = some a ∧ wpOp T (isMu mu dst) op fr hp fun v hp' => force v fun v => putS dst fr v fun fr' => KD fr' hp' (putB dst bt (birth op fr bt i)) ⟨i, a, news? op, false⟩) :
    wpDOne T tab mu dst op i bt fr hp KD := by
  unfold wpDOne; rw [hk]; exact h
theorem force_to {v : AV} {P : AV → Prop} (h : P v) : force v P := by cases v <;> exact h
theorem forceL_to : ∀ {l : List AV} {P : List AV → Prop}, P l → forceL l P
  | [], _, h => h
  | _ :: _, _, h => force_to (forceL_to (P := fun _ => _) h)
theorem handed1 {f : Operand} {l : List Operand} {tys} {i : Nat} {bt : Nat → Nat} {KD : (Nat → AV) → List AB → (Nat → Nat) → AEv → Prop} (h : (evA fr f).deep = true ∧ ∃ vs v, Handed hp (l.map (evA fr)) vs v ∧ PureV T tab true (evA fr f) vs v ∧ putS dst fr v fun fr' => KD fr' hp (putB dst bt (i + 1)) ⟨i, [], true, true⟩) :
    wpDOne T tab mu dst (.call ⟨.value f, l.toArray, tys⟩) i bt fr hp KD := by
  show force (evA fr f) fun F => forceL (l.map (evA fr)) fun as => F.deep = true ∧ ∃ vs v, Handed hp as vs v ∧ PureV T tab true F vs v ∧ putS dst fr v fun fr' => KD fr' hp (putB dst bt (i + 1)) ⟨i, [], true, true⟩
  generalize evA fr f = F at h ⊢
  generalize l.map (evA fr) = as at h ⊢
  exact force_to (forceL_to (P := fun as => F.deep = true ∧ ∃ vs v, Handed hp as vs v ∧ PureV T tab true F vs v ∧ putS dst fr v fun fr' => KD fr' hp (putB dst bt (i + 1)) ⟨i, [], true, true⟩) h)
theorem n1 {f : Operand} {l : List Operand} {tys} {i : Nat} {bt : Nat → Nat} {KD : (Nat → AV) → List AB → (Nat → Nat) → AEv → Prop} (h : force (evA fr f) fun F => forceL (l.map (evA fr)) fun as => F.deep = true ∧ deepL as = true ∧ ∃ v, PureV T tab true F as v ∧ putS dst fr v fun fr' => KD fr' hp (putB dst bt (i + 1)) ⟨i, [], true, true⟩) :
    wpDOne T tab mu dst (.call ⟨.value f, l.toArray, tys⟩) i bt fr hp KD := by
  have h := forceL_of (force_of h)
  obtain ⟨h1, h2, v, h3, h4⟩ := h
  exact handed1 ⟨h1, _, v, .inl ⟨rfl, h2⟩, h3, h4⟩
/-- A call that is lent what is the caller's own. -/
theorem n2 {f : Operand} {l : List Operand} {tys} {i : Nat} {bt : Nat → Nat} {KD : (Nat → AV) → List AB → (Nat → Nat) → AEv → Prop} {F v : AV} {as vs : List AV} (hp' : PureV T tab true F vs v) (hf : evA fr f = F) (ha : l.map (evA fr) = as) (hF : F.deep = true) (hz : FzL hp as vs) (hv : Free v) (h : putS dst fr v fun fr' => KD fr' hp (putB dst bt (i + 1)) ⟨i, [], true, true⟩) :
    wpDOne T tab mu dst (.call ⟨.value f, l.toArray, tys⟩) i bt fr hp KD := by
  subst hf ha
  exact handed1 ⟨hF, vs, v, .inr ⟨hz, hv⟩, hp', h⟩
theorem n3 {x : Operand} {t : TypeId} {b : Bool} (hb : evA fr x = .fl (.bool b)) (h : K (.fl (.bool (!b))) hp) : wpOp T own (.unOp .not t x) fr hp K := by
  show wpUn T .not (evA fr x) hp K
  rw [hb]; exact h
theorem n4 {x y : Operand} {tys : Array TypeId} {m n : Int} (hx : evA fr x = .fl (.int .i64 m)) (hy : evA fr y = .fl (.int .i64 n)) (h : K (.fl (.int .i64 (min m n))) hp) : wpOp T own (.call ⟨.builtin .min, [x, y].toArray, tys⟩) fr hp K := by
  show force (evA fr x) fun a => force (evA fr y) fun b => wpMin T [a, b] hp K
  rw [hx, hy]; exact h
theorem n5 {x y : Operand} {tys : Array TypeId} {m n : Int} (hx : evA fr x = .fl (.int .i64 m)) (hy : evA fr y = .fl (.int .i64 n)) (h : K (.fl (.int .i64 (max m n))) hp) : wpOp T own (.call ⟨.builtin .max, [x, y].toArray, tys⟩) fr hp K := by
  show force (evA fr x) fun a => force (evA fr y) fun b => wpMax T [a, b] hp K
  rw [hx, hy]; exact h
section
variable {v : AV} {P : AV → Prop}
theorem f1 {x : Value} (hv : v = .fl x) (h : P (.fl x)) : force v P := by subst hv; exact h
theorem f2 {a : List (List AV)} {b : Bool} (hv : v = .sl a b) (h : P (.sl a b)) : force v P := by subst hv; exact h
theorem f3 {a : List AV} {b : Nat} (hv : v = .pt a b) (h : P (.pt a b)) : force v P := by subst hv; exact h
theorem f4 {a : FuncId} {b c : List AV} (hv : v = .fn a b c) (h : P (.fn a b c)) : force v P := by subst hv; exact h
theorem f5 {a : List AV} (hv : v = .ag a) (h : P (.ag a)) : force v P := by subst hv; exact h
theorem f6 {a : List AV} (hv : v = .tp a) (h : P (.tp a)) : force v P := by subst hv; exact h
theorem f7 {a b c : Nat} (hv : v = .ptr a b c) (h : P (.ptr a b c)) : force v P := by subst hv; exact h
theorem f8 {a b c d e : Nat} (hv : v = .osl a b c d e) (h : P (.osl a b c d e)) : force v P := by subst hv; exact h
theorem f9 {a : Nat} (hv : v = .om a) (h : P (.om a)) : force v P := by subst hv; exact h
theorem g1 {a : Value} (hv : v = .oq a) (h : P (.oq a)) : force v P := by subst hv; exact h
theorem g2 (hv : v = .junk) (h : P .junk) : force v P := by subst hv; exact h
end
section
variable {c a b : AV} {t x y : Bool}
theorem k1 (hc : c = .fl (.bool t)) (h : wpPickB t a b hp K) : wpPick c a b hp K := by subst hc; exact h
theorem k2 (ht : t = true) (h : K a hp) : wpPickB t a b hp K := by
  subst ht
  unfold wpPickB
  split
  · exact h
  · exact And.intro (fun _ => h) (fun e => Bool.noConfusion e)
theorem k3 (ht : t = false) (h : K b hp) : wpPickB t a b hp K := by
  subst ht
  unfold wpPickB
  split
  · exact h
  · exact And.intro (fun e => Bool.noConfusion e) (fun _ => h)
theorem k4 (ha : a = .fl (.bool x)) (hb : b = .fl (.bool y)) (h : K (.fl (.bool (bif t then x else y))) hp) : wpPickB t a b hp K := by subst ha hb; exact h
end
section
variable {a b : AV} {m n : Int} {t : TypeId} {x y : Operand}
theorem b1 (ha : a = .fl (.int .i64 m)) (hb : b = .fl (.int .i64 n)) (hh : -9223372036854775808 ≤ m + n ∧ m + n ≤ 9223372036854775807) (h : K (.fl (.int .i64 (m + n))) hp) : wpBin T .add t x y a b hp K := by subst ha hb; exact ⟨hh, h⟩
theorem b2 (ha : a = .fl (.int .i64 m)) (hb : b = .fl (.int .i64 n)) (hh : -9223372036854775808 ≤ m - n ∧ m - n ≤ 9223372036854775807) (h : K (.fl (.int .i64 (m - n))) hp) : wpBin T .sub t x y a b hp K := by subst ha hb; exact ⟨hh, h⟩
theorem b3 (ha : a = .fl (.int .i64 m)) (hb : b = .fl (.int .i64 n)) (hh : -9223372036854775808 ≤ m * n ∧ m * n ≤ 9223372036854775807) (h : K (.fl (.int .i64 (m * n))) hp) : wpBin T .mul t x y a b hp K := by subst ha hb; exact ⟨hh, h⟩
theorem b4 (ha : a = .fl (.int .i64 m)) (hb : b = .fl (.int .i64 n)) (h : K (.fl (.bool (decide (m = n)))) hp) : wpBin T .eql t x y a b hp K := by subst ha hb; exact h
theorem b5 (ha : a = .fl (.int .i64 m)) (hb : b = .fl (.int .i64 n)) (h : K (.fl (.bool (!decide (m = n)))) hp) : wpBin T .neq t x y a b hp K := by subst ha hb; exact h
theorem b6 (ha : a = .fl (.int .i64 m)) (hb : b = .fl (.int .i64 n)) (h : K (.fl (.bool (decide (m < n)))) hp) : wpBin T .lss t x y a b hp K := by subst ha hb; exact h
theorem b7 (ha : a = .fl (.int .i64 m)) (hb : b = .fl (.int .i64 n)) (h : K (.fl (.bool (decide (m ≤ n)))) hp) : wpBin T .leq t x y a b hp K := by subst ha hb; exact h
theorem b8 (ha : a = .fl (.int .i64 m)) (hb : b = .fl (.int .i64 n)) (h : K (.fl (.bool (decide (n < m)))) hp) : wpBin T .gtr t x y a b hp K := by subst ha hb; exact h
theorem b9 (ha : a = .fl (.int .i64 m)) (hb : b = .fl (.int .i64 n)) (h : K (.fl (.bool (decide (n ≤ m)))) hp) : wpBin T .geq t x y a b hp K := by subst ha hb; exact h
theorem r1 (ha : a = .fl (.int .i64 m)) (hb : b = .fl (.int .i64 n)) (h0 : 0 ≤ m ∧ 1 ≤ n) (h : K (.fl (.int .i64 (m % n))) hp) : wpBin T .rem t x y a b hp K := by
  subst ha hb; exact ⟨_, bin_rem h0.1 h0.2, rfl, h⟩
theorem r2 (ha : a = .fl (.int .i64 m)) (hb : b = .fl (.int .i64 n)) (h0 : (0 ≤ m ∧ m ≤ 9223372036854775807) ∧ 1 ≤ n) (h : K (.fl (.int .i64 (m / n))) hp) : wpBin T .quo t x y a b hp K := by
  subst ha hb; exact ⟨_, bin_quo h0.1.1 h0.1.2 h0.2, rfl, h⟩
end
section
variable {v : AV} {t : TypeId}
theorem l1 {e : TypeId} {a1 a2 a3 a4 a5 a6} {els : List (List AV)} {f : Bool} (ht : T.ty.get t = some ⟨.slice e, a1, a2, a3, a4, a5, a6⟩) (h : K (.fl (.int .i64 els.length)) hp) : wpLen T t (.sl els f) hp K := by
  unfold wpLen; rw [ht]; exact h
theorem l2 {e : TypeId} {a1 a2 a3 a4 a5 a6} {j ver o n c : Nat} (ht : T.ty.get t = some ⟨.slice e, a1, a2, a3, a4, a5, a6⟩) (h : K (.fl (.int .i64 n)) hp) : wpLen T t (.osl j ver o n c) hp K := by
  unfold wpLen; rw [ht]; exact h
theorem l3 {a : List AV} {b : Nat} (hv : v = .pt a b) (h : K (.pt a b) hp) : wpNil v hp K := by subst hv; exact h
theorem l4 {a b c : Nat} (hv : v = .ptr a b c) (h : K (.ptr a b c) hp) : wpNil v hp K := by subst hv; exact h
end
end
end Go.RM
namespace Go.RM
open Go
section
variable {T : Tab} {tab : List XE} {one : Bool} {mu : Tmp → Bool} {base : Nat} {E : Env} {hp : List AB} {amb : Amb} {H : Hp} {ρ : Nat → Nat → Option Nat} {g : Getter} {O O' : Nat → Prop}
/-- A step to the next part, as a part of its own. -/
theorem c2s {a b : Code} {st : ASt} {K : Exit → ASt → Prop} (h : wpC T tab one mu a st (seqQ (fun s => SemC T tab one b s K) K)) : SemC T tab one (.seq a b) st K := .seq (wpC_sound h)
def dropρ (j : Nat) (ρ : Nat → Nat → Option Nat) : Nat → Nat → Option Nat := fun i v => if i = j then none else ρ i v
mutual
/-- Does it not name block j. -/
def AV.noj (j : Nat) : AV → Bool
  | .fl _ => true
  | .sl _ _ => true
  | .pt _ _ => true
  | .fn _ a b => nojL j a && nojL j b
  | .ag a => nojL j a
  | .tp a => nojL j a
  | .oq _ => true
  | .junk => true
  | .ptr i _ _ => !Nat.beq i j
  | .osl i _ _ _ _ => !Nat.beq i j
  | .om i => !Nat.beq i j
def nojL (j : Nat) : List AV → Bool
  | [] => true
  | a :: l => a.noj j && nojL j l
end
theorem nojL_get {j : Nat} : ∀ {l : List AV}, nojL j l = true → ∀ (i : Nat) (a : AV), l[i]? = some a → a.noj j = true
  | [], _, i, a, h => by cases h
  | x :: l, h, i, a, ha => by
    simp only [nojL, Bool.and_eq_true] at h
    cases i with
    | zero => cases ha; exact h.1
    | succ i => exact nojL_get h.2 i a (by simpa using ha)
theorem beq_not {i j : Nat} (h : (!Nat.beq i j) = true) : i ≠ j := by
  intro e
  subst e
  rw [Nat.beq_refl] at h
  cases h
theorem AR.noj {j : Nat} (hO : ∀ k, O' k → O k) {v : AV} {u : Value} (h : AR ρ g O v u) : v.noj j = true → AR (dropρ j ρ) g O' v u := by
  induction h with
  | d h => intro _; exact .d (h.mono fun k b hk ho => ⟨hk, fun h => ho (hO k h)⟩)
  | junk => intro _; exact .junk
  | ptr h => intro hd; simp only [AV.noj] at hd; exact .ptr (by rw [dropρ, if_neg (beq_not hd)]; exact h)
  | osl h => intro hd; simp only [AV.noj] at hd; exact .osl (by rw [dropρ, if_neg (beq_not hd)]; exact h)
  | osl0 => intro _; exact .osl0
  | om h => intro hd; simp only [AV.noj] at hd; exact .om (by rw [dropρ, if_neg (beq_not hd)]; exact h)
  | fn ha hb h1 h2 ih1 ih2 =>
    intro hd
    simp only [AV.noj, Bool.and_eq_true] at hd
    exact .fn ha hb (fun i x u hx hu => ih1 i x u hx hu (nojL_get hd.1 i x hx)) (fun i x u hx hu => ih2 i x u hx hu (nojL_get hd.2 i x hx))
  | ag ha h1 ih => intro hd; simp only [AV.noj] at hd; exact .ag ha (fun i x u hx hu => ih i x u hx hu (nojL_get hd i x hx))
  | tp ha h1 ih => intro hd; simp only [AV.noj] at hd; exact .tp ha (fun i x u hx hu => ih i x u hx hu (nojL_get hd i x hx))
def AB.noj (j : Nat) : AB → Bool
  | .cells cs _ _ => nojL j cs
  | .siter _ _ => true
  | .map ents _ => ents.all fun p => p.1.noj j && p.2.1.noj j
  | .iter i _ _ _ => !Nat.beq i j
  | .gone => true
/-- A value, as it is when block j (with these cells) is given up. -/
inductive Gv (j ver : Nat) (cs : List AV) : AV → AV → Prop
  | same {a : AV} : a.noj j = true → Gv j ver cs a a
  | ptr {o : Nat} : Gv j ver cs (.ptr j ver o) (.pt cs o)
  | row {o n c : Nat} {els : List (List AV)} {b : Bool} (es : Nat) : o + n * es ≤ cs.length → els.length = n → (∀ el ∈ els, el.length = es) → els.flatten = (cs.drop o).take (n * es) → (b = true → c = n) → Gv j ver cs (.osl j ver o n c) (.sl els b)
  | junk {a : AV} : Gv j ver cs a .junk
def GSlots (j ver : Nat) (cs : List AV) (fr : Nat → AV) : List (Nat × AV) → Prop
  | [] => True
  | (i, v) :: l => Gv j ver cs (fr i) v ∧ GSlots j ver cs fr l
theorem mkFr_gv {j ver : Nat} {cs : List AV} {fr : Nat → AV} : ∀ {l : List (Nat × AV)}, GSlots j ver cs fr l → ∀ t, Gv j ver cs (fr t) (mkFr l t)
  | [], _, t => .junk
  | (i, v) :: l, h, t => by
    unfold mkFr
    rw [Tr.beq_eq]
    by_cases hti : t = i
    · rw [decide_eq_true hti, hti]
      exact h.1
    · rw [decide_eq_false hti]
      exact mkFr_gv h.2 t
/-- A BLOCK IS GIVEN UP: nobody writes it any more. -/
theorem Weaker.give {st : ASt} {l : List (Nat × AV)} {j ver es : Nat} {cs : List AV} (hj : st.hp[j]? = some (.cells cs es ver)) (hn : st.fl ≤ j) (hd : deepL cs = true) (hs : GSlots j ver cs st.fr l) (hb : ∀ (i : Nat) (b : AB), st.hp[i]? = some b → i ≠ j → b.noj j = true) :
    Weaker st ⟨mkFr l, st.hp.set j .gone, st.amb, st.rd, st.fl⟩ := by
  have hlt : j < st.hp.length := (List.getElem?_eq_some_iff.1 hj).1
  refine ⟨rfl, fun E base s hs' => ?_⟩
  have hr := hs'.h
  have hget : ∀ (i : Nat) (b : AB) (ver : Nat), (st.hp.set j .gone)[i]? = some b → b.ver? = some ver → i ≠ j ∧ st.hp[i]? = some b := by
    intro i b ver hi hv
    by_cases hij : i = j
    · subst hij; rw [List.getElem?_set_self hlt] at hi; cases hi; cases hv
    · rw [List.getElem?_set_ne (Ne.symm hij)] at hi; exact ⟨hij, hi⟩
  have hdr : ∀ {i v k : Nat}, dropρ j E.ρ i v = some k → i ≠ j ∧ E.ρ i v = some k := by
    intro i v k h
    unfold dropρ at h
    split at h
    · cases h
    · rename_i hne; exact ⟨hne, h⟩
  have hown : ∀ k, Own (dropρ j E.ρ) (st.hp.set j .gone) k → Own E.ρ st.hp k := by
    rintro k ⟨i, b, v, h1, h2, h3⟩
    exact ⟨i, b, v, (hget i b v h1 h2).2, h2, (hdr h3).2⟩
  have hOs : ∀ k, ({ E with ρ := dropρ j E.ρ } : Env).O (st.hp.set j .gone) k → E.O st.hp k := fun k h => h.imp (hown k) id
  -- what the block's pointers are
  have hpt : ∀ {o : Nat} {u : Value}, AR E.ρ s.hp.get (E.O st.hp) (.ptr j ver o) u → AR (dropρ j E.ρ) s.hp.get (({ E with ρ := dropρ j E.ρ } : Env).O (st.hp.set j .gone)) (.pt cs o) u := by
    intro o u h
    obtain ⟨k, hk, rfl⟩ := h.ptr_inv
    obtain ⟨cs', q1, q2⟩ := hr.cells hj hk
    have hnO : ¬ ({ E with ρ := dropρ j E.ρ } : Env).O (st.hp.set j .gone) k := by
      rintro (⟨i, b, v, h1, h2, h3⟩ | hx)
      · have := hdr h3
        exact this.1 (hr.inj i j v ver k this.2 hk)
      · exact hr.excl k ⟨j, _, ver, hj, rfl, hk⟩ hx
    have := q2.deep hd
    refine .d (?_ : DR _ _ (.pt cs o) (.pointer (some ⟨k, o, none⟩)))
    have h0 : DR s.hp.get (({ E with ρ := dropρ j E.ρ } : Env).O (st.hp.set j .gone)) (.pt cs o) (.pointer (some ⟨k, 0 + o, none⟩)) :=
      .pt q1 hnO (by rw [Nat.zero_add, this.1]; exact Nat.le_refl _) (fun i a u x y => (this.2 i a u x (by rw [Nat.zero_add] at y; exact y)).mono fun k b hk ho => ⟨hk, fun h => ho (hOs k h)⟩)
    rw [Nat.zero_add] at h0
    exact h0
  have hrow : ∀ {o n c : Nat} {els : List (List AV)} {b : Bool} {u : Value} (es : Nat), o + n * es ≤ cs.length → els.length = n → (∀ el ∈ els, el.length = es) → els.flatten = (cs.drop o).take (n * es) → (b = true → c = n) → AR E.ρ s.hp.get (E.O st.hp) (.osl j ver o n c) u →
      AR (dropρ j E.ρ) s.hp.get (({ E with ρ := dropρ j E.ρ } : Env).O (st.hp.set j .gone)) (.sl els b) u := by
    intro o n c els b u es g1 g2 g3 g4 g5 h
    rcases h.osl_inv with ⟨k, hk, rfl⟩ | ⟨rfl, rfl, rfl⟩
    · obtain ⟨cs', q1, q2⟩ := hr.cells hj hk
      have hnO : ¬ ({ E with ρ := dropρ j E.ρ } : Env).O (st.hp.set j .gone) k := by
        rintro (⟨i, b, v, h1, h2, h3⟩ | hx)
        · have := hdr h3
          exact this.1 (hr.inj i j v ver k this.2 hk)
        · exact hr.excl k ⟨j, _, ver, hj, rfl, hk⟩ hx
      have hdp := q2.deep hd
      refine .d (.sl (es := es) q1 hnO (by rw [← q2.1]; exact g1) g2 (fun i el he => g3 el (List.mem_of_getElem? he)) (fun i el jj a u he hx hu => ?_) g5)
      have hjj : jj < es := by rw [← g3 el (List.mem_of_getElem? he)]; exact (List.getElem?_eq_some_iff.1 hx).1
      have hat := flatten_at g3 i el jj he hjj
      have hi : i < n := by rw [← g2]; exact (List.getElem?_eq_some_iff.1 he).1
      rw [g4, List.getElem?_take, List.getElem?_drop] at hat
      have hlt : i * es + jj < n * es := by
        have : (i + 1) * es ≤ n * es := Nat.mul_le_mul_right _ hi
        rw [Nat.add_mul, Nat.one_mul] at this
        omega
      rw [if_pos hlt, hx, ← Nat.add_assoc] at hat
      exact (hdp.2 _ a u hat hu).mono fun k b hk ho => ⟨hk, fun h => ho (hOs k h)⟩
    · simp only [List.length_eq_zero_iff] at g2
      subst g2
      exact .d .nil
  have hgv : ∀ {a b : AV} {u : Value}, Gv j ver cs a b → AR E.ρ s.hp.get (E.O st.hp) a u → AR (dropρ j E.ρ) s.hp.get (({ E with ρ := dropρ j E.ρ } : Env).O (st.hp.set j .gone)) b u := by
    intro a b u hg h
    cases hg with
    | same hn => exact h.noj hOs hn
    | ptr => exact hpt h
    | row es g1 g2 g3 g4 g5 => exact hrow es g1 g2 g3 g4 g5 h
    | junk => exact .junk
  refine ⟨{ E with ρ := dropρ j E.ρ }, ⟨⟨hr.wf, fun i b v hi hv => ?_, fun i i' v v' k h1 h2 => hr.inj i i' v v' k (hdr h1).2 (hdr h2).2, fun i v k hk => hr.rn i v k (hdr hk).2, fun i b v w h1 h2 h3 => ?_, fun i v hi => ?_, fun k hk => hr.sup k (hown k hk), fun k hk => hr.excl k (hown k hk), hr.dx, hr.ds, hr.sn, hr.xn, fun k hk => hr.bas k (hk.imp (hown k) id), hr.bn, hr.amb⟩, hs'.rd, fun t => hgv (mkFr_gv hs t) (hs'.fr t)⟩,
    ⟨Nat.le_refl _, fun i v k hi hk => ?_, fun k hk => .inl (hown k hk), fun _ h => .inl h, fun _ h => .inl h, fun _ h => h, fun _ h => .inl h, fun _ _ _ _ => rfl, Nat.min_le_left _ _⟩⟩
  · obtain ⟨hij, hi'⟩ := hget i b v hi hv
    have hbn := hb i b hi' hij
    rcases hr.blk i b v hi' hv with ⟨k, b', q1, q2, q3⟩ | ⟨q1, q2⟩
    · refine .inl ⟨k, b', by show dropρ j E.ρ i v = _; rw [dropρ, if_neg hij]; exact q1, q2, ?_⟩
      cases b with
      | cells cs2 es2 ver2 =>
        obtain ⟨cs', rfl, h⟩ := q3
        exact ⟨cs', rfl, h.1, fun i a u ha hu => (h.2 i a u ha hu).noj hOs (nojL_get hbn i a ha)⟩
      | siter p q => exact q3
      | map ents clock =>
        obtain ⟨es, rfl, h1, h2⟩ := q3
        refine ⟨es, rfl, h1, fun i k v born x hx hy => ?_⟩
        simp only [AB.noj, List.all_eq_true, Bool.and_eq_true] at hbn
        have := hbn _ (List.mem_of_getElem? hx)
        exact ⟨(h2 i k v born x hx hy).1.noj hOs this.1, (h2 i k v born x hx hy).2.1.noj hOs this.2, (h2 i k v born x hx hy).2.2⟩
      | iter i2 since seen stepped =>
        obtain ⟨m, rfl, h⟩ := q3
        exact ⟨m, rfl, by show dropρ j E.ρ i2 0 = _; rw [dropρ, if_neg (beq_not hbn)]; exact h⟩
      | gone => exact q3
    · exact .inr ⟨by show dropρ j E.ρ i v = _; rw [dropρ, if_neg hij]; exact q1, q2⟩
  · obtain ⟨hij, h1⟩ := hget i b v h1 h2
    show dropρ j E.ρ i w = none
    rw [dropρ, if_neg hij]; exact hr.fresh i b v w h1 h2 h3
  · show dropρ j E.ρ i v = none
    unfold dropρ
    split
    · rfl
    · exact hr.new i v (by simpa using hi)
  · show dropρ j E.ρ i v = some k
    rw [dropρ, if_neg (by omega)]; exact hk
def nojAll (j : Nat) : Nat → List AB → Bool
  | _, [] => true
  | i, b :: l => (Nat.beq i j || b.noj j) && nojAll j (i + 1) l
theorem nojAll_get {j : Nat} : ∀ {l : List AB} {i0 : Nat}, nojAll j i0 l = true → ∀ (i : Nat) (b : AB), l[i]? = some b → i0 + i ≠ j → b.noj j = true
  | [], _, _, i, b, h, _ => by cases h
  | x :: l, i0, h, i, b, hb, hne => by
    simp only [nojAll, Bool.and_eq_true, Bool.or_eq_true] at h
    cases i with
    | zero =>
      cases hb
      rcases h.1 with h | h
      · exact absurd (Nat.eq_of_beq_eq_true h) hne
      · exact h
    | succ i => exact nojAll_get h.2 i b (by simpa using hb) (by omega)
theorem Weaker.giveUp {st : ASt} {l : List (Nat × AV)} (j : Nat) {ver es : Nat} {cs : List AV} {hp : List AB} (hj : st.hp[j]? = some (.cells cs es ver)) (hn : st.fl ≤ j) (hd : deepL cs = true) (hs : GSlots j ver cs st.fr l) (hb : nojAll j 0 st.hp = true) (hh : st.hp.set j .gone = hp) :
    Weaker st ⟨mkFr l, hp, st.amb, st.rd, st.fl⟩ := by
  subst hh
  exact Weaker.give hj hn hd hs fun i b h hne => nojAll_get hb i b h (by omega)
theorem bin_shr1 {P : Program} {t : TypeId} {x y : Operand} {n : Int} : binA P .shr t x y (.int .u64 n) (.int .u64 1) = some (.int .u64 (n / 2), .none) := by
  have h : binA P .shr t x y (.int .u64 n) (.int .u64 1) = some (.int .u64 (n.fdiv (2 ^ 1)), .none) := rfl
  rw [h, Int.fdiv_eq_ediv_of_nonneg n (by decide)]
  rfl
end
end Go.RM
namespace Go.RM
open Go
theorem Soft.nilRow {j ver c : Nat} : Soft (.fl (.slice none 0 0)) (.osl j ver 0 0 c) := fun _ _ _ u h => by
  rw [h.flEq.1]
  exact .osl0
/-- A ROW OF THE CALL's OWN, as long as it is nil: a block that is not there. -/
theorem Weaker.addNil {st : ASt} (es : Nat) : Weaker st ⟨st.fr, st.hp ++ [.cells [] es 0], st.amb, st.rd, st.fl⟩ := by
  refine ⟨rfl, fun E base s hs => ?_⟩
  have hr := hs.h
  have hget : ∀ (i : Nat) (b : AB), (st.hp ++ [AB.cells [] es 0])[i]? = some b → (i < st.hp.length ∧ st.hp[i]? = some b) ∨ (i = st.hp.length ∧ b = .cells [] es 0) := by
    intro i b hi
    by_cases hlt : i < st.hp.length
    · rw [List.getElem?_append_left hlt] at hi; exact .inl ⟨hlt, hi⟩
    · rw [List.getElem?_append_right (by omega)] at hi
      have h0 : i - st.hp.length = 0 := by
        apply Nat.eq_zero_of_not_pos
        intro hp0
        rw [List.getElem?_eq_none (by simp; omega)] at hi
        cases hi
      rw [h0] at hi
      cases hi
      exact .inr ⟨by omega, rfl⟩
  have hown : ∀ k, Own E.ρ (st.hp ++ [.cells [] es 0]) k → Own E.ρ st.hp k := by
    rintro k ⟨i, b, v, h1, h2, h3⟩
    rcases hget i b h1 with ⟨_, h1⟩ | ⟨rfl, rfl⟩
    · exact ⟨i, b, v, h1, h2, h3⟩
    · rw [hr.new _ v (Nat.le_refl _)] at h3; cases h3
  have hO : ∀ k, E.O (st.hp ++ [.cells [] es 0]) k → E.O st.hp k := fun k h => h.imp (hown k) id
  have keep : ∀ k b, s.hp.get k = some b → ¬ E.O st.hp k → s.hp.get k = some b ∧ ¬ E.O (st.hp ++ [.cells [] es 0]) k := fun k b hk ho => ⟨hk, fun h => ho (hO k h)⟩
  have har : ∀ {v : AV} {u : Value}, AR E.ρ s.hp.get (E.O st.hp) v u → AR E.ρ s.hp.get (E.O (st.hp ++ [.cells [] es 0])) v u := fun h => h.mono (fun _ _ _ h => h) keep
  refine ⟨E, ⟨⟨hr.wf, fun i b v hi hv => ?_, hr.inj, hr.rn, fun i b v w h1 h2 h3 => ?_, fun i v hi => hr.new i v (by simp at hi; omega), fun k hk => hr.sup k (hown k hk), fun k hk => hr.excl k (hown k hk), hr.dx, hr.ds, hr.sn, hr.xn, fun k hk => hr.bas k (hk.imp (hown k) id), hr.bn, hr.amb⟩, hs.rd, fun t => har (hs.fr t)⟩,
    ⟨Nat.le_refl _, fun _ _ _ _ h => h, fun k hk => .inl (hown k hk), fun _ h => .inl h, fun _ h => .inl h, fun _ h => h, fun _ h => .inl h, fun _ _ _ _ => rfl, Nat.min_le_left _ _⟩⟩
  · rcases hget i b hi with ⟨_, hi'⟩ | ⟨rfl, rfl⟩
    · rcases hr.blk i b v hi' hv with ⟨k, b', q1, q2, q3⟩ | q
      · refine .inl ⟨k, b', q1, q2, ?_⟩
        cases b with
        | cells cs2 es2 ver2 =>
          obtain ⟨cs', rfl, h⟩ := q3
          exact ⟨cs', rfl, h.1, fun i a u ha hu => har (h.2 i a u ha hu)⟩
        | siter p q => exact q3
        | map ents clock =>
          obtain ⟨es, rfl, h1, h2⟩ := q3
          exact ⟨es, rfl, h1, fun i k v born x hx hy => ⟨har (h2 i k v born x hx hy).1, har (h2 i k v born x hx hy).2.1, (h2 i k v born x hx hy).2.2⟩⟩
        | iter i2 since seen stepped => exact q3
        | gone => exact q3
      · exact .inr q
    · cases hv
      exact .inr ⟨hr.new _ _ (Nat.le_refl _), es, rfl⟩
  · rcases hget i b h1 with ⟨_, h1⟩ | ⟨rfl, rfl⟩
    · exact hr.fresh i b v w h1 h2 h3
    · exact hr.new _ _ (Nat.le_refl _)
theorem q1 {σ : Type} {P : σ → Prop} {I : σ → ASt} {m : σ → Nat} {K : Exit → ASt → Prop} {x : σ} {s : ASt} (h : K .ret s) : LoopK P I m K x .ret s := h
theorem q2 {σ : Type} {P : σ → Prop} {I : σ → ASt} {m : σ → Nat} {K : Exit → ASt → Prop} {x : σ} {s : ASt} {id : Nat} (h : K (.exit id) s) : LoopK P I m K x (.exit id) s := h
end Go.RM
namespace Go.RM
open Go
end Go.RM
namespace Go.RM
open Go
theorem set_same {α : Type} {l : List α} {j : Nat} {a : α} (h : l[j]? = some a) : l.set j a = l := by
  apply List.ext_getElem?
  intro i
  rw [List.getElem?_set]
  split
  · rename_i hij
    subst hij
    rw [h]
    split
    · rfl
    · rename_i hn
      exact absurd (List.getElem?_eq_some_iff.1 h).1 hn
  · rfl
theorem app_gen {hp : List AB} {es bs : Nat} {x : AV} {els : List (List AV)} {j ver n c : Nat} {cs : List AV} {K : AV → List AB → Prop} (hx : ElsIs hp es x els) (h1 : els.flatten.all AV.one = true) (hj : hp[j]? = some (.cells cs es ver)) (hl : cs.length = n * es) (hc : c = n ∨ c = n + 1)
    (hb : (n + els.length) * bs ≤ 140737488355328 ∧ n + els.length ≤ 9223372036854775807) (hk : ∀ v c', (c' = n + els.length ∨ c' = n + els.length + 1) → K (.osl j v 0 (n + els.length) c') (hp.set j (.cells (cs ++ els.flatten) es v))) :
    ∃ els, ElsIs hp es x els ∧ els.flatten.all AV.one = true ∧ ∃ cs, hp[j]? = some (.cells cs es ver) ∧ cs.length = n * es ∧ (c = n ∨ c = n + 1) ∧ ((n + els.length) * bs ≤ 140737488355328 ∧ n + els.length ≤ 9223372036854775807) ∧ (els = [] → K (.osl j ver 0 n c) hp) ∧
      (els ≠ [] → K (.osl j (ver + 1) 0 (n + els.length) (n + els.length + 1)) (hp.set j (.cells (cs ++ els.flatten) es (ver + 1)))) := by
  refine ⟨els, hx, h1, cs, hj, hl, hc, hb, fun he => ?_, fun _ => hk _ _ (.inr rfl)⟩
  subst he
  have h2 := hk ver c (by simpa using hc)
  rw [List.flatten_nil, List.append_nil, set_same hj] at h2
  exact h2
theorem appG {T : Tab} {own : Bool} {fr : Nat → AV} {hp : List AB} {K : AV → List AB → Prop} {s x : Operand} {t u e : TypeId} {a1 a2 a3 a4 a5 a6} {j ver n c : Nat} {els : List (List AV)} {f : Bool} {cs : List AV} {inf : TyR} (hs : evA fr s = .osl j ver 0 n c) (hx : evA fr x = .sl els f)
    (hu : T.ty.get u = some ⟨.slice e, a1, a2, a3, a4, a5, a6⟩) (hi : elem? T t = some inf) (hz : zeroFits inf = true) (hel : ∀ el ∈ els, el.length = inf.size) (h1 : els.flatten.all AV.one = true) (hj : hp[j]? = some (.cells cs inf.size ver)) (hl : cs.length = n * inf.size) (hc : c = n ∨ c = n + 1)
    (hb : (n + els.length) * inf.bytes ≤ 140737488355328 ∧ n + els.length ≤ 9223372036854775807) (hk : ∀ v c', (c' = n + els.length ∨ c' = n + els.length + 1) → K (.osl j v 0 (n + els.length) c') (hp.set j (.cells (cs ++ els.flatten) inf.size v))) :
    RM.wpOp T own (.call ⟨.builtin .append, [s, x].toArray, [t, u].toArray⟩) fr hp K := by
  show force (evA fr s) fun a => force (evA fr x) fun b => wpBuiltin T own .append [a, b] [t, u] hp K
  rw [hs, hx]
  show (match T.ty.get u with | some ⟨.slice _, _, _, _, _, _, _⟩ => wpApp T own t (.osl j ver 0 n c) (.sl els f) hp K | _ => False)
  rw [hu]
  show wpApp T own t (.osl j ver 0 n c) (.sl els f) hp K
  unfold wpApp
  rw [hi]
  exact ⟨hz, app_gen (hp := hp) (K := K) ⟨hel, rfl⟩ h1 hj hl hc hb hk⟩
end Go.RM
namespace Go.RM
open Go
section
variable {T : Tab} {tab : List XE} {one : Bool} {base : Nat} {E : Env} {hp : List AB} {amb : Amb} {H : Hp} {ρ : Nat → Nat → Option Nat} {g : Getter} {O O' : Nat → Prop}
/-- Block b is named a. -/
def moveρ (a b : Nat) (ρ : Nat → Nat → Option Nat) : Nat → Nat → Option Nat := fun i v => if i = a then ρ b v else if i = b then none else ρ i v
theorem AR.move {a b : Nat} (hO : ∀ k, O' k → O k) {v : AV} {u : Value} (h : AR ρ g O v u) : v.noj a = true → v.noj b = true → AR (moveρ a b ρ) g O' v u := by
  have hm : ∀ {i w : Nat}, i ≠ a → i ≠ b → moveρ a b ρ i w = ρ i w := fun {i w} h1 h2 => by unfold moveρ; rw [if_neg h1, if_neg h2]
  induction h with
  | d h => intro _ _; exact .d (h.mono fun k b hk ho => ⟨hk, fun hx => ho (hO k hx)⟩)
  | junk => intro _ _; exact .junk
  | ptr h => intro h1 h2; exact .ptr (by rw [hm (beq_not h1) (beq_not h2)]; exact h)
  | osl h => intro h1 h2; exact .osl (by rw [hm (beq_not h1) (beq_not h2)]; exact h)
  | osl0 => intro _ _; exact .osl0
  | om h => intro h1 h2; exact .om (by rw [hm (beq_not h1) (beq_not h2)]; exact h)
  | fn ha hb h1 h2 ih1 ih2 =>
    intro n1 n2
    simp only [AV.noj, Bool.and_eq_true] at n1 n2
    exact .fn ha hb (fun i x u hx hu => ih1 i x u hx hu (nojL_get n1.1 i x hx) (nojL_get n2.1 i x hx)) (fun i x u hx hu => ih2 i x u hx hu (nojL_get n1.2 i x hx) (nojL_get n2.2 i x hx))
  | ag ha h1 ih => intro n1 n2; simp only [AV.noj] at n1 n2; exact .ag ha (fun i x u hx hu => ih i x u hx hu (nojL_get n1 i x hx) (nojL_get n2 i x hx))
  | tp ha h1 ih => intro n1 n2; simp only [AV.noj] at n1 n2; exact .tp ha (fun i x u hx hu => ih i x u hx hu (nojL_get n1 i x hx) (nojL_get n2 i x hx))
/-- A value, as it is when block b is named a. -/
inductive Mv (a b : Nat) : AV → AV → Prop
  | same {v : AV} : v.noj a = true → v.noj b = true → Mv a b v v
  | ptr {ver o : Nat} : Mv a b (.ptr b ver o) (.ptr a ver o)
  | osl {ver o n c : Nat} : Mv a b (.osl b ver o n c) (.osl a ver o n c)
  | junk {v : AV} : Mv a b v .junk
def MSlots (a b : Nat) (fr : Nat → AV) : List (Nat × AV) → Prop
  | [] => True
  | (i, v) :: l => Mv a b (fr i) v ∧ MSlots a b fr l
theorem mkFr_mv {a b : Nat} {fr : Nat → AV} : ∀ {l : List (Nat × AV)}, MSlots a b fr l → ∀ t, Mv a b (fr t) (mkFr l t)
  | [], _, t => .junk
  | (i, v) :: l, h, t => by
    unfold mkFr
    rw [Tr.beq_eq]
    by_cases hti : t = i
    · rw [decide_eq_true hti, hti]
      exact h.1
    · rw [decide_eq_false hti]
      exact mkFr_mv h.2 t
/-- A BLOCK TAKES ANOTHER'S PLACE (a: the place; b: the block that comes there). -/
theorem Weaker.move {st : ASt} {l : List (Nat × AV)} (a b : Nat) {x y : AB} (hab : a ≠ b) (hja : st.hp[a]? = some y) (hjb : st.hp[b]? = some x) (hn : st.fl ≤ a) (hn2 : st.fl ≤ b) (hs : MSlots a b st.fr l)
    (hb : ∀ (i : Nat) (z : AB), st.hp[i]? = some z → i ≠ a → z.noj a = true ∧ z.noj b = true) :
    Weaker st ⟨mkFr l, (st.hp.set a x).set b .gone, st.amb, st.rd, st.fl⟩ := by
  have hla : a < st.hp.length := (List.getElem?_eq_some_iff.1 hja).1
  have hlb : b < st.hp.length := (List.getElem?_eq_some_iff.1 hjb).1
  refine ⟨rfl, fun E base s hs' => ?_⟩
  have hr := hs'.h
  have hget : ∀ (i : Nat) (z : AB) (ver : Nat), ((st.hp.set a x).set b .gone)[i]? = some z → z.ver? = some ver → (i = a ∧ z = x) ∨ (i ≠ a ∧ i ≠ b ∧ st.hp[i]? = some z) := by
    intro i z ver hi hv
    by_cases hib : i = b
    · subst hib
      rw [List.getElem?_set_self (by rw [List.length_set]; exact hlb)] at hi
      cases hi; cases hv
    · rw [List.getElem?_set_ne (Ne.symm hib)] at hi
      by_cases hia : i = a
      · subst hia
        rw [List.getElem?_set_self hla] at hi
        cases hi; exact .inl ⟨rfl, rfl⟩
      · rw [List.getElem?_set_ne (Ne.symm hia)] at hi
        exact .inr ⟨hia, hib, hi⟩
  have hma : ∀ {v : Nat}, moveρ a b E.ρ a v = E.ρ b v := fun {v} => by unfold moveρ; rw [if_pos rfl]
  have hmo : ∀ {i v : Nat}, i ≠ a → i ≠ b → moveρ a b E.ρ i v = E.ρ i v := fun {i v} h1 h2 => by unfold moveρ; rw [if_neg h1, if_neg h2]
  have hmi : ∀ {i v k : Nat}, moveρ a b E.ρ i v = some k → (i = a ∧ E.ρ b v = some k) ∨ (i ≠ a ∧ i ≠ b ∧ E.ρ i v = some k) := by
    intro i v k h
    unfold moveρ at h
    split at h
    · rename_i h1; exact .inl ⟨h1, h⟩
    · split at h
      · cases h
      · rename_i h1 h2; exact .inr ⟨h1, h2, h⟩
  have hown : ∀ k, Own (moveρ a b E.ρ) ((st.hp.set a x).set b .gone) k → Own E.ρ st.hp k := by
    rintro k ⟨i, z, v, h1, h2, h3⟩
    rcases hget i z v h1 h2 with ⟨rfl, rfl⟩ | ⟨n1, n2, h4⟩
    · rw [hma] at h3; exact ⟨b, _, v, hjb, h2, h3⟩
    · rw [hmo n1 n2] at h3; exact ⟨i, z, v, h4, h2, h3⟩
  have hOs : ∀ k, ({ E with ρ := moveρ a b E.ρ } : Env).O ((st.hp.set a x).set b .gone) k → E.O st.hp k := fun k h => h.imp (hown k) id
  have hmv : ∀ {v w : AV} {u : Value}, Mv a b v w → AR E.ρ s.hp.get (E.O st.hp) v u → AR (moveρ a b E.ρ) s.hp.get (({ E with ρ := moveρ a b E.ρ } : Env).O ((st.hp.set a x).set b .gone)) w u := by
    intro v w u hm h
    cases hm with
    | same n1 n2 => exact h.move hOs n1 n2
    | ptr =>
      obtain ⟨k, hk, rfl⟩ := h.ptr_inv
      exact .ptr (by rw [hma]; exact hk)
    | osl =>
      rcases h.osl_inv with ⟨k, hk, rfl⟩ | ⟨rfl, rfl, rfl⟩
      · exact .osl (by rw [hma]; exact hk)
      · exact .osl0
    | junk => exact .junk
  have hbr : ∀ (z : AB) (z' : ABlk), z.noj a = true → z.noj b = true → BR E.ρ s.hp.get (E.O st.hp) z z' → BR (moveρ a b E.ρ) s.hp.get (({ E with ρ := moveρ a b E.ρ } : Env).O ((st.hp.set a x).set b .gone)) z z' := by
    intro z z' n1 n2 q3
    cases z with
    | cells cs2 es2 ver2 =>
      obtain ⟨cs', rfl, h⟩ := q3
      exact ⟨cs', rfl, h.1, fun i v u ha hu => (h.2 i v u ha hu).move hOs (nojL_get n1 i v ha) (nojL_get n2 i v ha)⟩
    | siter p q => exact q3
    | map ents clock =>
      obtain ⟨es, rfl, h1, h2⟩ := q3
      refine ⟨es, rfl, h1, fun i k v born e hx hy => ?_⟩
      simp only [AB.noj, List.all_eq_true, Bool.and_eq_true] at n1 n2
      have m1 := n1 _ (List.mem_of_getElem? hx)
      have m2 := n2 _ (List.mem_of_getElem? hx)
      exact ⟨(h2 i k v born e hx hy).1.move hOs m1.1 m2.1, (h2 i k v born e hx hy).2.1.move hOs m1.2 m2.2, (h2 i k v born e hx hy).2.2⟩
    | iter i2 since seen stepped =>
      obtain ⟨m, rfl, h⟩ := q3
      exact ⟨m, rfl, by show moveρ a b E.ρ i2 0 = _; rw [hmo (beq_not n1) (beq_not n2)]; exact h⟩
    | gone => exact q3
  refine ⟨{ E with ρ := moveρ a b E.ρ }, ⟨⟨hr.wf, fun i z v hi hv => ?_, fun i i' v v' k h1 h2 => ?_, fun i v k hk => ?_, fun i z v w h1 h2 h3 => ?_, fun i v hi => ?_, fun k hk => hr.sup k (hown k hk), fun k hk => hr.excl k (hown k hk), hr.dx, hr.ds, hr.sn, hr.xn, fun k hk => hr.bas k (hk.imp (hown k) id), hr.bn, hr.amb⟩, hs'.rd, fun t => hmv (mkFr_mv hs t) (hs'.fr t)⟩,
    ⟨Nat.le_refl _, fun i v k hi hk => ?_, fun k hk => .inl (hown k hk), fun _ h => .inl h, fun _ h => .inl h, fun _ h => h, fun _ h => .inl h, fun _ _ _ _ => rfl, Nat.min_le_left _ _⟩⟩
  · rcases hget i z v hi hv with ⟨rfl, rfl⟩ | ⟨n1, n2, h4⟩
    · have hz := hb b _ hjb (Ne.symm hab)
      rcases hr.blk b _ v hjb hv with ⟨k, b', q1, q2, q3⟩ | ⟨q1, q2⟩
      · exact .inl ⟨k, b', by show moveρ _ b E.ρ _ v = _; rw [hma]; exact q1, q2, hbr _ _ hz.1 hz.2 q3⟩
      · exact .inr ⟨by show moveρ _ b E.ρ _ v = _; rw [hma]; exact q1, q2⟩
    · have hz := hb i z h4 n1
      rcases hr.blk i z v h4 hv with ⟨k, b', q1, q2, q3⟩ | ⟨q1, q2⟩
      · exact .inl ⟨k, b', by show moveρ a b E.ρ i v = _; rw [hmo n1 n2]; exact q1, q2, hbr _ _ hz.1 hz.2 q3⟩
      · exact .inr ⟨by show moveρ a b E.ρ i v = _; rw [hmo n1 n2]; exact q1, q2⟩
  · rcases hmi h1 with ⟨e1, p1⟩ | ⟨n1, n2, p1⟩
    · rcases hmi h2 with ⟨e2, p2⟩ | ⟨m1, m2, p2⟩
      · rw [e1, e2]
      · exact absurd (hr.inj b i' v v' k p1 p2).symm m2
    · rcases hmi h2 with ⟨e2, p2⟩ | ⟨m1, m2, p2⟩
      · exact absurd (hr.inj i b v v' k p1 p2) n2
      · exact hr.inj i i' v v' k p1 p2
  · rcases hmi hk with ⟨rfl, h⟩ | ⟨_, _, h⟩
    · exact hr.rn b v k h
    · exact hr.rn i v k h
  · rcases hget i z v h1 h2 with ⟨rfl, rfl⟩ | ⟨n1, n2, h4⟩
    · show moveρ _ b E.ρ _ w = none
      rw [hma]; exact hr.fresh b _ v w hjb h2 h3
    · show moveρ a b E.ρ i w = none
      rw [hmo n1 n2]; exact hr.fresh i z v w h4 h2 h3
  · show moveρ a b E.ρ i v = none
    have hi : st.hp.length ≤ i := by simpa using hi
    rw [hmo (by omega) (by omega)]
    exact hr.new i v hi
  · show moveρ a b E.ρ i v = some k
    rw [hmo (by omega) (by omega)]; exact hk
def nojAll2 (a b : Nat) : Nat → List AB → Bool
  | _, [] => true
  | i, z :: l => (Nat.beq i a || (z.noj a && z.noj b)) && nojAll2 a b (i + 1) l
theorem nojAll2_get {a b : Nat} : ∀ {l : List AB} {i0 : Nat}, nojAll2 a b i0 l = true → ∀ (i : Nat) (z : AB), l[i]? = some z → i0 + i ≠ a → z.noj a = true ∧ z.noj b = true
  | [], _, _, i, z, h, _ => by cases h
  | x :: l, i0, h, i, z, hb, hne => by
    simp only [nojAll2, Bool.and_eq_true, Bool.or_eq_true] at h
    cases i with
    | zero =>
      cases hb
      rcases h.1 with h | h
      · exact absurd (Nat.eq_of_beq_eq_true h) hne
      · exact h
    | succ i => exact nojAll2_get h.2 i z (by simpa using hb) (by omega)
theorem Weaker.moveTo {st : ASt} {l : List (Nat × AV)} (a b : Nat) {x y : AB} {hp : List AB} (hab : a ≠ b) (hja : st.hp[a]? = some y) (hjb : st.hp[b]? = some x) (hn : st.fl ≤ a) (hn2 : st.fl ≤ b) (hs : MSlots a b st.fr l) (hb : nojAll2 a b 0 st.hp = true) (hh : (st.hp.set a x).set b .gone = hp) :
    Weaker st ⟨mkFr l, hp, st.amb, st.rd, st.fl⟩ := by
  subst hh
  exact Weaker.move a b hab hja hjb hn hn2 hs fun i z h hne => nojAll2_get hb i z h (by omega)
def RetC (T : Tab) (rs : List ResultVar) (Q : AV → List AB → Amb → Prop) (e : Exit) (s : ASt) : Prop :=
  match e with
  | .normal | .ret => resVs T s rs fun as => Q (oneT as) s.hp s.amb
  | _ => False
theorem oneT_ar {vs : List AV} {us : List Value} (h : ARL ρ g O vs us) : AR ρ g O (oneT vs) (oneOrTuple us) := by
  match vs, us, h with
  | [], [], _ => exact .tp rfl (fun i x u hx => by cases hx)
  | [v], [u], h => exact h.2 0 v u rfl rfl
  | a :: b :: l, c :: d :: m, h => exact .tp (by simpa using h.1) (fun i x u hx hu => h.2 i x u hx (by simpa using hu))
  | [], u :: us, h => exact absurd h.1 (by simp)
  | v :: vs, [], h => exact absurd h.1 (by simp)
  | [v], a :: b :: l, h => exact absurd h.1 (by simp)
  | a :: b :: l, [v], h => exact absurd h.1 (by simp)
/-- A FUNCTION THAT MAY WRITE WHAT IT IS HANDED. -/
theorem CallV.body {f : FuncId} {fn : Func} {c : Code} {first caps args : List AV} {Q : AV → List AB → Amb → Prop} (hf : T.fn.get f = some fn) (hb : fn.body = some c) (hn : noEntry tab f = true)
    (hw : SemC T tab one c ⟨argFr (first ++ args ++ caps), hp, amb, false, hp.length⟩ (RetC T fn.results.toList Q)) : CallV T tab one (.fn f first caps) args hp amb Q := by
  intro E base H u us hr hF ha
  obtain ⟨fs, cs, rfl, h1, h2⟩ : ∃ fs cs, u = .func (.func f) fs cs ∧ ARL E.ρ H.get (E.O hp) first fs.toList ∧ ARL E.ρ H.get (E.O hp) caps cs.toList := by
    cases hF with
    | d h => cases h with
      | fn ha hb h1 h2 => exact ⟨_, _, rfl, ⟨ha, fun i x u hx hu => .d (h1 i x u hx hu)⟩, ⟨hb, fun i x u hx hu => .d (h2 i x u hx hu)⟩⟩
    | fn ha hb h1 h2 => exact ⟨_, _, rfl, ⟨ha, h1⟩, ⟨hb, h2⟩⟩
  refine ⟨.fn f (fs.toList ++ us ++ cs.toList), rfl, ?_⟩
  have hargs := (h1.append ha).append h2
  obtain ⟨m, L, h1, h2, h3⟩ := hw E base ⟨setArgs .leaf 0 (fs.toList ++ us ++ cs.toList), H, false⟩ ⟨hr, rfl, argFr_ar hargs⟩
  obtain ⟨m', M, hm, q1, q2, q3⟩ := bindL_ex (one := one) (L := L) (f := fun _ (p : Exit × St) => endCall T fn.results.toList p)
    (P := fun r => ∃ w H', r = .ret w H' ∧ ∃ E' a hp' amb', Q a hp' amb' ∧ HRel E' base hp' amb' H' ∧ AR E'.ρ H'.get (E'.O hp') a w ∧ Frm hp.length base E hp H E' hp' H')
    (fun _ _ _ _ _ h => h) m h2 (fun p hp' => by
      obtain ⟨E', st', k1, k0, k2, k3⟩ := h3 p hp'
      obtain ⟨e, s'⟩ := p
      have done : (e = .normal ∨ e = .ret) → (resVs T st' fn.results.toList fun as => Q (oneT as) st'.hp st'.amb) → ∃ (_ : Nat) (M : List Res), endCall T fn.results.toList (e, s') = some M ∧
          Res1 one M fun r => ∃ w H', r = .ret w H' ∧ ∃ E' a hp' amb', Q a hp' amb' ∧ HRel E' base hp' amb' H' ∧ AR E'.ρ H'.get (E'.O hp') a w ∧ Frm hp.length base E hp H E' hp' H' := by
        intro he hr
        obtain ⟨ws, as, r1, r2, r4⟩ := resVs_sound k2 hr
        refine ⟨0, [.ret (oneOrTuple ws) s'.hp], ?_, .single ⟨_, _, rfl, E', oneT as, st'.hp, st'.amb, r2, k2.h, oneT_ar r4, k3⟩⟩
        unfold endCall
        rcases he with rfl | rfl <;> simp only [r1, Option.map_some]
      cases e with
      | normal => exact done (.inl rfl) k1
      | ret => exact done (.inr rfl) k1
      | _ => exact k1.elim)
  refine ⟨m' + 1, M, ?_, q2, q3⟩
  show RX T tab (m' + 1) (.call f _ H) = _
  rw [RX_call, look_none _ _ hn]
  simp only
  rw [stepJ_call, hf]
  simp only [hb]
  rw [execC_le (RX_le hm) _ _ _ h1]
  exact q1
end
end Go.RM
namespace Go.RM
open Go
section
variable {T : Tab} {tab : List XE} {one : Bool}
end
end Go.RM
namespace Go.RM
open Go
section
variable {T : Tab} {tab : List XE} {one : Bool}
def DSoft (a b : AV) : Prop := ∀ (g : Getter) (O : Nat → Prop) (u : Value), DR g O a u → DR g O b u
theorem DSoft.refl (a : AV) : DSoft a a := fun _ _ _ h => h
theorem DSoft.nil (b : Bool) : DSoft (.fl (.slice none 0 0)) (.sl [] b) := fun _ _ u h => by
  cases h with
  | fl => exact .nil
theorem DSoft.full {els : List (List AV)} : DSoft (.sl els true) (.sl els false) := fun _ _ u h => by
  cases h with
  | nil => exact .nil
  | sl q1 q2 q3 q4 q5 q6 q7 => exact .sl q1 q2 q3 q4 q5 q6 (fun h => Bool.noConfusion h)
def DSoftL : List AV → List AV → Prop
  | [], [] => True
  | a :: l, b :: m => DSoft a b ∧ DSoftL l m
  | _, _ => False
theorem DSoftL.drl {g : Getter} {O : Nat → Prop} : ∀ {as bs : List AV} {us : List Value}, DSoftL as bs → DRL g O as us → DRL g O bs us
  | [], [], us, _, h => h
  | a :: l, b :: m, [], _, h => absurd h.1 (by simp)
  | a :: l, b :: m, u :: us, hs, h => by
    have ih := DSoftL.drl (g := g) (O := O) (us := us) hs.2 ⟨by simpa using h.1, fun i a v x y => h.2 (i + 1) a v (by simpa using x) (by simpa using y)⟩
    refine ⟨by simpa using ih.1, fun i x v hx hv => ?_⟩
    cases i with
    | zero => cases hx; cases hv; exact hs.1 _ _ _ (h.2 0 a u rfl rfl)
    | succ i => exact ih.2 i x v (by simpa using hx) (by simpa using hv)
  | [], _ :: _, _, hs, _ => hs.elim
  | _ :: _, [], _, hs, _ => hs.elim
/-- A contract, where an argument is nil. -/
theorem PureV.soft {F : AV} {args args' : List AV} {v : AV} (h : PureV T tab one F args v) (hs : DSoftL args' args) : PureV T tab one F args' v :=
  ⟨h.1, fun X H u us hw hX hF ha => h.2 X H u us hw hX hF (hs.drl ha)⟩
end
theorem deep_noj (n : Nat) : ∀ (v : AV), v.deep = true → v.noj n = true := by
  apply AV.rec (motive_1 := fun v => v.deep = true → v.noj n = true) (motive_2 := fun _ => True) (motive_3 := fun l => deepL l = true → nojL n l = true)
  · intro v _; rfl
  · intro a b _ _; rfl
  · intro a b _ _; rfl
  · intro f a b ha hb h
    simp only [AV.deep, Bool.and_eq_true] at h
    simp only [AV.noj, Bool.and_eq_true]
    exact ⟨ha h.1, hb h.2⟩
  · intro a ha h
    simp only [AV.deep] at h
    simp only [AV.noj]
    exact ha h
  · intro a ha h
    simp only [AV.deep] at h
    simp only [AV.noj]
    exact ha h
  · intro j v o h; simp [AV.deep] at h
  · intro j v o n c h; simp [AV.deep] at h
  · intro j h; simp [AV.deep] at h
  · intro u _; rfl
  · intro h; simp [AV.deep] at h
  · trivial
  · intros; trivial
  · intro _; rfl
  · intro a l ha hl h
    simp only [deepL, Bool.and_eq_true] at h
    simp only [nojL, Bool.and_eq_true]
    exact ⟨ha h.1, hl h.2⟩
theorem deepL_noj (n : Nat) : ∀ {l : List AV}, deepL l = true → nojL n l = true
  | [], _ => rfl
  | a :: l, h => by
    simp only [deepL, Bool.and_eq_true] at h
    simp only [nojL, Bool.and_eq_true]
    exact ⟨deep_noj n a h.1, deepL_noj n h.2⟩
theorem allInb {a : AB} {l : List AB} {n : Nat} (h : a.inb n = true) (k : l.all (AB.inb n) = true) : (a :: l).all (AB.inb n) = true := by
  rw [List.all_cons, h, k]; rfl
end Go.RM
namespace Go.RM
open Go
section
variable {T : Tab} {tab : List XE} {one : Bool} {base : Nat} {E : Env} {hp : List AB} {amb : Amb} {H : Hp}
theorem within_self (a : Nat) (l : List Nat) : within a a l = false := by
  unfold within
  rw [List.any_eq_false]
  intro k _ h
  rw [Bool.and_eq_true] at h
  have h1 := Nat.le_of_ble_eq_true h.1
  have h2 : Nat.ble (k + 1) a = true := h.2
  have h2 := Nat.le_of_ble_eq_true h2
  omega
theorem pair_free {B S : Bool} {i j n : Nat} {r r' w : List Nat} (h : w = [] ∨ r = []) : (!conflict ⟨i, r, [], false, n, n⟩ ⟨j, r', w, false, n, n⟩ || B || S) = true := by
  have : conflict ⟨i, r, [], false, n, n⟩ ⟨j, r', w, false, n, n⟩ = false := by
    unfold conflict
    rcases h with rfl | rfl
    · simp [within_self, meets]
    · simp [within_self, meets]
  rw [this]; rfl
theorem pair_bit {B S C : Bool} (h : B = true) : (!C || B || S) = true := by
  rw [h, Bool.or_true, Bool.true_or]
theorem pair_sp {B S C : Bool} (h : S = true) : (!C || B || S) = true := by
  rw [h, Bool.or_true]
/-- One plain operation that lays no block. -/
theorem op_step {rec : Job → Option (List Res)} {o : Op} {fr : Nat → AV} {tm : Tr Value} {i : Nat} {rd : Bool} {r w : List Nat} {d : Option Tmp} {K : AV → List AB → Prop} (hr : HRel E base hp amb H) (hf : FrR' E.ρ H.get (E.O hp) fr tm) (hk : kindOf o = .plain) (hn : news? o = false) (ht : touch o (evalA tm) = some (r, w))
    (hw : wpOp T false o fr hp K) : ∃ u e E' v hp', drawOp T rec o i ⟨tm, H, rd⟩ = some (u, H.app e, ⟨i, r, w, false, H.n, H.n⟩) ∧ K v hp' ∧ HRel E' base hp' amb (H.app e) ∧ Ext base E hp H E' hp' (H.app e) ∧ AR E'.ρ (H.app e).get (E'.O hp') v u ∧
      FrR' E'.ρ (H.app e).get (E'.O hp') (putV fr d v) (putA tm d u) ∧ (H.app e).n = H.n ∧ opA T H.n o (evalA tm) H.get = some (u, e) := by
  obtain ⟨u, e, E', v, hp', r1, r2, r3, r4, r5⟩ := wpOp_sound hr hf hw
  have hnn : (H.app e).n = H.n := news_none (opA_news r1 hn)
  refine ⟨u, e, E', v, hp', ?_, r2, r3, r4, r5, putV_fr (fun t => r4.ar hr.wf (hf t)) r5 d, hnn, r1⟩
  unfold drawOp
  simp only [hk, ht, r1, hnn]
/-- What has to be shown of m[k]++. -/
def opAsg (T : Tab) (t1 t2 mt t3 t4 : TypeId) (p0 p1 q : Operand) (x0 x1 x2 x3 x4 x5 : Tmp) (st : ASt) (K : ASt → Prop) : Prop :=
  wpOp T false (.load t1 p0) st.fr st.hp fun v0 h0 => force v0 fun v0 => putS (some x0) st.fr v0 fun f0 =>
  wpOp T false (.load t2 p1) f0 h0 fun v1 h1 => force v1 fun v1 => putS (some x1) f0 v1 fun f1 =>
  wpOp T false (.lookup mt (.tmp x0) (.tmp x1) false) f1 h1 fun v2 h2 => ∃ c : Int, v2 = .fl (.int .i64 c) ∧ putS (some x2) f1 (.fl (.int .i64 c)) fun f2 =>
  wpOp T false (.binOp .add t3 (.tmp x2) q t4) f2 h2 fun v3 h3 => force v3 fun v3 => putS (some x3) f2 v3 fun f3 =>
  wpOp T false (.mapEntry mt (.tmp x0) (.tmp x1)) f3 h3 fun v4 h4 => wpOp T false (.lookup mt (.tmp x0) (.tmp x1) false) f1 h4 (fun v _ => v = .fl (.int .i64 c)) ∧ (force v4 fun v4 => putS (some x4) f3 v4 fun f4 =>
  wpOp T false (.extract (.tmp x4) 1) f4 h4 fun v5 h5 => force v5 fun v5 => putS (some x5) f4 v5 fun f5 =>
  wpOp T false (.entryStore mt (.tmp x0) (.tmp x5) (.tmp x3)) f5 h5 fun _ h6 => K ⟨f5, h6, st.amb, st.rd, st.fl⟩)
def opBits (b : List Nat) : Bool := (b.getD 4 0).testBit 0 && ((b.getD 6 0).testBit 0 && ((b.getD 4 0).testBit 1 && ((b.getD 6 0).testBit 1 && ((b.getD 6 0).testBit 2 && ((b.getD 5 0).testBit 4 && (b.getD 6 0).testBit 4)))))
theorem lookup_om {mt : TypeId} {m k : Operand} {fr : Nat → AV} {K : AV → List AB → Prop} {own : Bool} (hw : wpOp T own (.lookup mt m k false) fr hp K) : ∃ j, evA fr m = .om j := by
  have hw : wpLookup T mt (evA fr m) (evA fr k) false hp K := hw
  unfold wpLookup at hw
  split at hw
  · rename_i j h; exact ⟨j, h⟩
  · exact hw.elim
theorem SemC.opAssign {id : Nat} {ops : Array Oper} {t1 t2 mt t3 t4 : TypeId} {p0 p1 q : Operand} {x0 x1 x2 x3 x4 x5 : Tmp} {y0 z0 w0 y1 z1 w1 y2 z2 w2 y3 z3 w3 y4 z4 w4 y5 z5 w5 y6 z6 w6} {st : ASt} {K : Exit → ASt → Prop}
    (hops : ops.toList = [⟨some x0, .load t1 p0, y0, z0, w0, none⟩, ⟨some x1, .load t2 p1, y1, z1, w1, none⟩, ⟨some x2, .lookup mt (.tmp x0) (.tmp x1) false, y2, z2, w2, none⟩, ⟨some x3, .binOp .add t3 (.tmp x2) q t4, y3, z3, w3, none⟩,
      ⟨some x4, .mapEntry mt (.tmp x0) (.tmp x1), y4, z4, w4, none⟩, ⟨some x5, .extract (.tmp x4) 1, y5, z5, w5, none⟩, ⟨none, .entryStore mt (.tmp x0) (.tmp x5) (.tmp x3), y6, z6, w6, none⟩])
    (hb : opBits (bef ops) = true) (hw : opAsg T t1 t2 mt t3 t4 p0 p1 q x0 x1 x2 x3 x4 x5 st (K .normal)) : SemC T tab one (.region id ops true) st K := by
  intro E base s hs
  obtain ⟨sfr, shp, srd⟩ := s
  unfold opAsg at hw
  obtain ⟨u0, e0, E0, v0, h0, d0, k0, g0, ex0, a0, f0, n0, _⟩ := op_step (rec := RX T tab 0) (i := 0) (rd := srd) (d := some x0) hs.h hs.fr rfl rfl rfl hw
  have k0 := putS_of (force_of k0)
  obtain ⟨u1, e1, E1, v1, h1, d1, k1, g1, ex1, a1, f1, n1, _⟩ := op_step (rec := RX T tab 0) (i := 1) (rd := srd) (d := some x1) g0 f0 rfl rfl rfl k0
  have k1 := putS_of (force_of k1)
  obtain ⟨j, hj⟩ := lookup_om k1
  obtain ⟨km, _, hkm⟩ : ∃ km, E1.ρ j 0 = some km ∧ evalA (putA (putA sfr (some x0) u0) (some x1) u1) (.tmp x0) = .map (some km) := by
    have := evA_ar f1 (.tmp x0)
    rw [hj] at this
    exact this.om_inv
  obtain ⟨u2, e2, E2, v2, h2, d2, k2, g2, ex2, a2, f2, n2, o2⟩ := op_step (rec := RX T tab 0) (i := 2) (rd := srd) (d := some x2) g1 f1 rfl rfl rfl k1
  obtain ⟨c, hc, k2⟩ := k2
  rw [← hc] at k2
  have k2 := putS_of k2
  obtain ⟨u3, e3, E3, v3, h3, d3, k3, g3, ex3, a3, f3, n3, _⟩ := op_step (rec := RX T tab 0) (i := 3) (rd := srd) (d := some x3) g2 f2 rfl rfl rfl k2
  have k3 := putS_of (force_of k3)
  obtain ⟨u4, e4, E4, v4, h4, d4, k4, g4, ex4, a4, f4, n4, _⟩ := op_step (rec := RX T tab 0) (i := 4) (rd := srd) (d := some x4) g3 f3 rfl rfl rfl k3
  obtain ⟨hlook, k4⟩ := k4
  have k4 := putS_of (force_of k4)
  obtain ⟨u5, e5, E5, v5, h5, d5, k5, g5, ex5, a5, f5, n5, _⟩ := op_step (rec := RX T tab 0) (i := 5) (rd := srd) (d := some x5) g4 f4 rfl rfl rfl k4
  have k5 := putS_of (force_of k5)
  obtain ⟨u6, e6, E6, v6, h6, d6, k6, g6, ex6, a6, f6, n6, _⟩ := op_step (rec := RX T tab 0) (i := 6) (rd := srd) (d := none) g5 f5 rfl rfl rfl k5
  -- the lookup behind the entry
  have ex24 := (ex2.trans ex3).trans ex4
  have f1' : FrR' E4.ρ ((((((shp.app e0).app e1).app e2).app e3).app e4)).get (E4.O h4) _ _ := fun t => ex24.ar g1.wf (f1 t)
  obtain ⟨u', e', E', v', hp', q1, q2, q3, q4, q5⟩ := wpOp_sound g4 f1' hlook
  have hu2 : u2 = .int .i64 c := by rw [hc] at a2; exact a2.flEq.1
  have hu' : u' = .int .i64 c := by rw [q2, hc] at q5; exact q5.flEq.1
  have he' : e' = .none := by
    have q1 : (lookupA T mt _ _ false _).map (fun v => (v, Eff.none)) = some (u', e') := q1
    rw [Option.map_eq_some_iff] at q1
    obtain ⟨_, _, h⟩ := q1
    cases h; rfl
  rw [hu', he'] at q1
  simp only [opBits, Bool.and_eq_true] at hb
  obtain ⟨b04, b06, b14, b16, b26, b45, b46⟩ := hb
  rw [n0] at d1 n1
  rw [n1] at d2 n2
  rw [n2] at d3 n3
  rw [n3] at d4 n4
  rw [n4] at d5 n5
  rw [n5] at d6 n6
  rw [n4] at q1
  refine ⟨0, [(.normal, ⟨_, _, srd⟩)], ?_, .single ⟨E6, _, k6, rfl, ⟨g6, hs.rd, f6⟩, ((((((ex0.trans ex1).trans ex2).trans ex3).trans ex4).trans ex5).trans ex6).frm⟩⟩
  rw [execC_region]
  simp only [cond_true, hops]
  rw [execDraw_cons]
  simp only [guardA, cond_true]
  rw [d0]
  simp only
  rw [execDraw_cons]
  simp only [guardA, cond_true]
  rw [d1]
  simp only
  rw [execDraw_cons]
  simp only [guardA, cond_true]
  rw [d2]
  simp only
  rw [execDraw_cons]
  simp only [guardA, cond_true]
  rw [d3]
  simp only
  rw [execDraw_cons]
  simp only [guardA, cond_true]
  rw [d4]
  simp only
  rw [execDraw_cons]
  simp only [guardA, cond_true]
  rw [d5]
  simp only
  rw [execDraw_cons]
  simp only [guardA, cond_true]
  rw [d6]
  simp only
  rw [execDraw_nil]
  have hd : ∀ evs, pairsOk T (bef ops) evs = true → drawOk T ops evs = true := fun evs h => by
    unfold drawOk
    cases evs.all fun e => e.t.wr.isEmpty && Nat.beq e.t.a e.t.b with
    | true => rfl
    | false => exact h
  rw [hd _ ?_]
  · rfl
  · simp only [pairsOk, List.all_cons, List.all_nil, Bool.and_true, Bool.and_eq_true]
    refine ⟨⟨pair_free (.inr rfl), pair_bit b46, pair_free (.inr rfl), pair_bit b26, pair_bit b16, pair_bit b06⟩,
      ⟨pair_bit b45, pair_free (.inl rfl), pair_free (.inl rfl), pair_free (.inl rfl), pair_free (.inl rfl)⟩,
      ⟨pair_free (.inr rfl), pair_sp ?_, pair_bit b14, pair_bit b04⟩,
      ⟨pair_free (.inl rfl), pair_free (.inl rfl), pair_free (.inl rfl)⟩, ⟨pair_free (.inl rfl), pair_free (.inl rfl)⟩, pair_free (.inl rfl)⟩
    unfold spare
    simp only [hkm, blkN, hu2]
    have hq : opA T ((shp.app e0).app e1).n (Op.lookup mt (Operand.tmp x0) (Operand.tmp x1) false) (evalA (putA (putA sfr (some x0) u0) (some x1) u1)) (((((shp.app e0).app e1).app e2).app e3).app e4).get = some (Value.int IntKind.i64 c, Eff.none) := by
      rw [show ((shp.app e0).app e1).n = shp.n from n1]; exact q1
    rw [hq]
    have hn : shp.n.beq shp.n = true := Nat.beq_refl _
    have hi : eqI c c = true := by rw [eqI_eq]; simp
    simp only [hn, beqF, hi]
    rfl
end
end Go.RM
namespace Go.RM
open Go
theorem wrap_i64 {n : Int} (h0 : 0 ≤ n) (h1 : n < 9223372036854775808) : IntKind.wrap .i64 n = n := by
  have hm : n % 18446744073709551616 = n := Int.emod_eq_of_lt h0 (by omega)
  show (if (true && decide (n % 18446744073709551616 ≥ 9223372036854775808)) = true then n % 18446744073709551616 - 18446744073709551616 else n % 18446744073709551616) = n
  rw [hm, if_neg (by simp; omega)]
theorem bits_or {w m n : Nat} (hm : m < 2 ^ w) (hn : n < 2 ^ w) : (BitVec.ofInt w (m : Int) ||| BitVec.ofInt w (n : Int)).toNat = m ||| n := by
  rw [BitVec.toNat_or, BitVec.ofInt_natCast, BitVec.ofInt_natCast, BitVec.toNat_ofNat, BitVec.toNat_ofNat, Nat.mod_eq_of_lt hm, Nat.mod_eq_of_lt hn]
theorem bin_or {P : Program} {t : TypeId} {x y : Operand} {m n : Nat} (hm : m < 4611686018427387904) (hn : n < 4611686018427387904) : binA P .or t x y (.int .i64 (m : Int)) (.int .i64 (n : Int)) = some (.int .i64 ((m ||| n : Nat) : Int), .none) := by
  have h : binA P .or t x y (.int .i64 (m : Int)) (.int .i64 (n : Int)) = some (.int .i64 (IntKind.wrap .i64 ((BitVec.ofInt 64 (m : Int) ||| BitVec.ofInt 64 (n : Int)).toNat : Int)), .none) := rfl
  have hlt : m ||| n < 2 ^ 62 := Nat.or_lt_two_pow (by omega) (by omega)
  rw [h, bits_or (by omega) (by omega), wrap_i64 (by omega) (by omega)]
section
variable {T : Tab} {a b : AV} {t : TypeId} {x y : Operand} {hp : List AB} {K : AV → List AB → Prop}
theorem bor {m n : Nat} (ha : a = .fl (.int .i64 (m : Int))) (hb : b = .fl (.int .i64 (n : Int))) (hm : m < 4611686018427387904) (hn : n < 4611686018427387904) (h : K (.fl (.int .i64 ((m ||| n : Nat) : Int))) hp) : wpBin T .or t x y a b hp K := by
  subst ha hb
  exact ⟨.int .i64 ((m ||| n : Nat) : Int), bin_or hm hn, rfl, h⟩
end
end Go.RM
