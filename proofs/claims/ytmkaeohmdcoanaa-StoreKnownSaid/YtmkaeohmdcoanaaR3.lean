/-
  The abstract machine: its heap against the model's. Lemmas alone; no condition.
-/
import Derived.Test.YtmkaeohmdcoanaaR2
import Derived.Below
namespace Go.RM

def CellsR (γ : Gm) (cs : List Value) (cs' : Array Value) (o : Nat) : Prop := ∀ (j : Nat) (v : Value), cs[j]? = some v → ∃ v', cs'[o + j]? = some v' ∧ VR γ v v'

def EntR (γ : Gm) (es : List MapEntry) (es' : Array MapEntry) : Prop :=
  es.length = es'.size ∧ ∀ (i : Nat) (e e' : MapEntry), es[i]? = some e → es'[i]? = some e' → VR γ e.key e'.key ∧ VR γ e.val e'.val ∧ e.born = e'.born

def FrR (γ : Gm) (fr : Tr Value) (tm : Array Value) : Prop := ∀ i, VR γ ((fr.get i).getD undef) (tm.getD i undef)

/-- What lies at b (from o on) for an abstract block k. -/
def BlkR (γ : Gm) (heap : Array Obj) (k b o : Nat) : ABlk → Prop
  | .cells cs own es => ∃ cs' e fz, heap[b]? = some (.cells cs' e fz) ∧ CellsR γ cs cs' o ∧ (own = true → fz = (0, 0) ∧ o = 0 ∧ γ.B ≤ b ∧ γ.cap k * es ≤ cs'.size)
  | .dead => True
  | .map es clock => o = 0 ∧ γ.B ≤ b ∧ ∃ es', heap[b]? = some (.map es' clock) ∧ EntR γ es es'
  | .iter m since seen stepped => o = 0 ∧ γ.B ≤ b ∧ ∃ m', γ.loc m = some (m', 0) ∧ heap[b]? = some (.mapIter (some m') since seen.toArray stepped)
  | .loop st pend fr ps as bd => o = 0 ∧ γ.B ≤ b ∧ ∃ fn tm df', heap[b]? = some (.loop { state := st, pending := pend, fn, tmps := tm, params := ps, assign := as, body := bd, defers := df' }) ∧
      FrR γ fr tm ∧ codeOk tm.size as = true ∧ codeOk tm.size bd = true ∧ (∀ p ∈ ps, p < tm.size)
  | .siter s pos => o = 0 ∧ γ.B ≤ b ∧ heap[b]? = some (.stringIter s pos)

def ABlk.own : ABlk → Bool
  | .cells _ own _ => own
  | .dead => false
  | _ => true

structure HR (γ : Gm) (g : Getter) (w : World) : Prop where
  blk : ∀ (k b o : Nat) (a : ABlk), g k = some a → γ.loc k = some (b, o) → BlkR γ w.heap k b o a
  inj : ∀ (k k' b o o' : Nat) (a a' : ABlk), g k = some a → a.own = true → g k' = some a' → a' ≠ .dead → k ≠ k' → γ.loc k = some (b, o) → γ.loc k' = some (b, o') → False
  lt : ∀ (k b o : Nat), γ.loc k = some (b, o) → b < w.heap.size
  base : γ.B ≤ w.heap.size

theorem CellsR.mono {γ γ' : Gm} (hle : γ.Le γ') {cs : List Value} {cs' : Array Value} {o : Nat} (h : CellsR γ cs cs' o) : CellsR γ' cs cs' o :=
  fun j v hv => let ⟨v', a, b⟩ := h j v hv; ⟨v', a, b.mono hle⟩

theorem EntR.mono {γ γ' : Gm} (hle : γ.Le γ') {es : List MapEntry} {es' : Array MapEntry} (h : EntR γ es es') : EntR γ' es es' :=
  ⟨h.1, fun i e e' a b => let ⟨x, y, z⟩ := h.2 i e e' a b; ⟨x.mono hle, y.mono hle, z⟩⟩

theorem FrR.mono {γ γ' : Gm} (hle : γ.Le γ') {fr : Tr Value} {tm : Array Value} (h : FrR γ fr tm) : FrR γ' fr tm := fun i => (h i).mono hle

theorem BlkR.mono {γ γ' : Gm} (hle : γ.Le γ') {hp hp' : Array Obj} {k b o : Nat} {a : ABlk} (hk : γ.loc k = some (b, o)) (hb : hp'[b]? = hp[b]?) (h : BlkR γ hp k b o a) : BlkR γ' hp' k b o a := by
  cases a with
  | cells cs own es =>
    obtain ⟨cs', e, fz, h1, h2, h3⟩ := h
    exact ⟨cs', e, fz, hb.trans h1, h2.mono hle, fun ho => by rw [hle.B, hle.cap k _ hk]; exact h3 ho⟩
  | dead => trivial
  | map es clock => obtain ⟨h0, hB, es', h1, h2⟩ := h; exact ⟨h0, hle.B ▸ hB, es', hb.trans h1, h2.mono hle⟩
  | iter m since seen stepped => obtain ⟨h0, hB, m', h1, h2⟩ := h; exact ⟨h0, hle.B ▸ hB, m', hle.loc _ _ h1, hb.trans h2⟩
  | loop st pend fr ps as bd =>
    obtain ⟨h0, hB, fn, tm, df', h1, h2, h4⟩ := h
    exact ⟨h0, hle.B ▸ hB, fn, tm, df', hb.trans h1, h2.mono hle, h4⟩
  | siter s pos => exact ⟨h.1, hle.B ▸ h.2.1, hb.trans h.2.2⟩

/-- What may have changed: blocks of the call's own alone; new blocks. What is the call's own afterwards was so before, or is new. -/
structure Upd (γ : Gm) (g : Getter) (w : World) (γ' : Gm) (g' : Getter) (w' : World) : Prop where
  os : w'.os = w.os
  tape : w'.tape = w.tape
  output : w'.output = w.output
  size : w.heap.size ≤ w'.heap.size
  same : ∀ b, b < w.heap.size → (∀ (k o : Nat) (a : ABlk), g k = some a → a.own = true → γ.loc k = some (b, o) → False) → w'.heap[b]? = w.heap[b]?
  track : ∀ (k b o : Nat) (a : ABlk), g' k = some a → a.own = true → γ'.loc k = some (b, o) → b < w.heap.size → ∃ k0 o0 a0, g k0 = some a0 ∧ a0.own = true ∧ γ.loc k0 = some (b, o0)
  live : ∀ (k b o : Nat) (a : ABlk), g' k = some a → a ≠ .dead → γ'.loc k = some (b, o) → b < w.heap.size → ∃ k0 o0 a0, g k0 = some a0 ∧ a0 ≠ .dead ∧ γ.loc k0 = some (b, o0)
  ltrack : ∀ (k b o : Nat), γ'.loc k = some (b, o) → b < w.heap.size → ∃ k0 o0, γ.loc k0 = some (b, o0)

theorem Upd.refl (γ : Gm) (g : Getter) (w : World) : Upd γ g w γ g w := ⟨rfl, rfl, rfl, Nat.le_refl _, fun _ _ _ => rfl, fun k _ o a h1 h2 h3 _ => ⟨k, o, a, h1, h2, h3⟩, fun k _ o a h1 h2 h3 _ => ⟨k, o, a, h1, h2, h3⟩, fun k _ o h _ => ⟨k, o, h⟩⟩

theorem Upd.trans {γ γ1 γ2 : Gm} {g g1 g2 : Getter} {w w1 w2 : World} (h : Upd γ g w γ1 g1 w1) (k : Upd γ1 g1 w1 γ2 g2 w2) : Upd γ g w γ2 g2 w2 where
  os := k.os.trans h.os
  tape := k.tape.trans h.tape
  output := k.output.trans h.output
  size := Nat.le_trans h.size k.size
  same := fun b hb hn => (k.same b (Nat.lt_of_lt_of_le hb h.size) fun i o a h1 h2 h3 => by
    obtain ⟨k0, o0, a0, q1, q2, q3⟩ := h.track i b o a h1 h2 h3 hb
    exact hn k0 o0 a0 q1 q2 q3).trans (h.same b hb hn)
  track := fun i b o a h1 h2 h3 hb => by
    obtain ⟨k0, o0, a0, q1, q2, q3⟩ := k.track i b o a h1 h2 h3 (Nat.lt_of_lt_of_le hb h.size)
    exact h.track k0 b o0 a0 q1 q2 q3 hb
  live := fun i b o a h1 h2 h3 hb => by
    obtain ⟨k0, o0, a0, q1, q2, q3⟩ := k.live i b o a h1 h2 h3 (Nat.lt_of_lt_of_le hb h.size)
    exact h.live k0 b o0 a0 q1 q2 q3 hb
  ltrack := fun i b o hl hb => by
    obtain ⟨k0, o0, q⟩ := k.ltrack i b o hl (Nat.lt_of_lt_of_le hb h.size)
    exact h.ltrack k0 b o0 q hb

/-- One more block is known. -/
def Gm.add (γ : Gm) (k b c : Nat) : Gm := { γ with loc := fun i => if i = k then some (b, 0) else γ.loc i, cap := fun i => if i = k then c else γ.cap i }

theorem Gm.le_add {γ : Gm} {k b c : Nat} (h : γ.loc k = none) : γ.Le (γ.add k b c) := by
  refine ⟨fun i x hx => ?_, fun i x hx => ?_, rfl⟩
  · have : i ≠ k := fun e => by subst e; rw [h] at hx; cases hx
    simp [Gm.add, this, hx]
  · have : i ≠ k := fun e => by subst e; rw [h] at hx; cases hx
    simp [Gm.add, this]

theorem Gm.add_loc (γ : Gm) (k b c : Nat) : (γ.add k b c).loc k = some (b, 0) := by simp [Gm.add]
theorem Gm.add_cap (γ : Gm) (k b c : Nat) : (γ.add k b c).cap k = c := by simp [Gm.add]
theorem Gm.add_loc_ne (γ : Gm) {k i : Nat} (b c : Nat) (h : i ≠ k) : (γ.add k b c).loc i = γ.loc i := by simp [Gm.add, h]

theorem upd_same (g : Getter) (k : Nat) (b : ABlk) : upd g k b k = some b := by simp [upd]
theorem upd_ne (g : Getter) {k i : Nat} (b : ABlk) (h : i ≠ k) : upd g k b i = g i := by simp [upd, h]

theorem heap_drewN (w : World) : w.drew.heap = w.heap := rfl

/-- A NEW BLOCK. -/
theorem HR.new {γ : Gm} {g : Getter} {w w' : World} (h : HR γ g w) {n c : Nat} (hn : γ.loc n = none) {obj : Obj} (hh : w'.heap = w.heap.push obj) {a : ABlk}
    (ha : BlkR (γ.add n w.heap.size c) w'.heap n w.heap.size 0 a) : HR (γ.add n w.heap.size c) (upd g n a) w' := by
  have hle := Gm.le_add (b := w.heap.size) (c := c) hn
  have hsz : w'.heap.size = w.heap.size + 1 := by rw [hh]; simp
  have hold : ∀ b, b < w.heap.size → w'.heap[b]? = w.heap[b]? := fun b hb => by rw [hh, Array.getElem?_push, if_neg (by omega)]
  have hlt : ∀ {i b o}, i ≠ n → (γ.add n w.heap.size c).loc i = some (b, o) → b < w.heap.size := fun hi hl => h.lt _ _ _ (by rw [Gm.add_loc_ne _ _ _ hi] at hl; exact hl)
  refine ⟨fun k b o x hx hl => ?_, fun k k' b o o' x x' hx ho hx' hd hne hl hl' => ?_, fun k b o hl => ?_, ?_⟩
  · by_cases hk : k = n
    · subst hk
      rw [upd_same] at hx; cases hx
      rw [Gm.add_loc] at hl; cases hl
      exact ha
    · rw [upd_ne _ _ hk] at hx
      have hl0 := hl
      rw [Gm.add_loc_ne _ _ _ hk] at hl
      exact (h.blk k b o x hx hl).mono hle hl (hold b (h.lt _ _ _ hl))
  · by_cases hk : k = n
    · subst hk
      have hb : b = w.heap.size := by rw [Gm.add_loc] at hl; cases hl; rfl
      have := hlt (Ne.symm hne) hl'
      omega
    · by_cases hk' : k' = n
      · subst hk'
        have hb : b = w.heap.size := by rw [Gm.add_loc] at hl'; cases hl'; rfl
        have := hlt hk hl
        omega
      · rw [upd_ne _ _ hk] at hx
        rw [upd_ne _ _ hk'] at hx'
        rw [Gm.add_loc_ne _ _ _ hk] at hl
        rw [Gm.add_loc_ne _ _ _ hk'] at hl'
        exact h.inj k k' b o o' x x' hx ho hx' hd hne hl hl'
  · by_cases hk : k = n
    · subst hk; rw [Gm.add_loc] at hl; cases hl; omega
    · have := hlt hk hl; omega
  · show γ.B ≤ _
    have := h.base; omega

theorem Upd.newOn {γ : Gm} {g g1 : Getter} {w w' : World} {obj : Obj} {n c : Nat} {a : ABlk} (hg : ∀ k a, g1 k = some a → a ≠ .dead → g k = some a) (hh : w'.heap = w.heap.push obj) (h1 : w'.os = w.os) (h2 : w'.tape = w.tape) (h3 : w'.output = w.output) :
    Upd γ g w (γ.add n w.heap.size c) (upd g1 n a) w' :=
  ⟨h1, h2, h3, by rw [hh]; simp, fun b hb _ => by rw [hh, Array.getElem?_push, if_neg (by omega)], fun k b o x hx ho hl hb => by
    by_cases hk : k = n
    · subst hk; rw [Gm.add_loc] at hl; cases hl; omega
    · rw [upd_ne _ _ hk] at hx; rw [Gm.add_loc_ne _ _ _ hk] at hl; exact ⟨k, o, x, hg k x hx (fun e => by subst e; cases ho), ho, hl⟩, fun k b o x hx hd hl hb => by
    by_cases hk : k = n
    · subst hk; rw [Gm.add_loc] at hl; cases hl; omega
    · rw [upd_ne _ _ hk] at hx; rw [Gm.add_loc_ne _ _ _ hk] at hl; exact ⟨k, o, x, hg k x hx hd, hd, hl⟩, fun k b o hl hb => by
    by_cases hk : k = n
    · subst hk; rw [Gm.add_loc] at hl; cases hl; omega
    · rw [Gm.add_loc_ne _ _ _ hk] at hl; exact ⟨k, o, hl⟩⟩

theorem Upd.new {γ : Gm} {g : Getter} {w w' : World} {obj : Obj} {n c : Nat} {a : ABlk} (hh : w'.heap = w.heap.push obj) (h1 : w'.os = w.os) (h2 : w'.tape = w.tape) (h3 : w'.output = w.output) :
    Upd γ g w (γ.add n w.heap.size c) (upd g n a) w' := Upd.newOn (fun _ _ h _ => h) hh h1 h2 h3

/-- A BLOCK OF THE CALL's OWN IS WRITTEN. -/
theorem HR.put {γ : Gm} {g : Getter} {w w' : World} (h : HR γ g w) {k b : Nat} {a0 a : ABlk} (h0 : g k = some a0) (ho : a0.own = true) (hl : γ.loc k = some (b, 0))
    (hsz : w'.heap.size = w.heap.size) (hh : ∀ i, i ≠ b → w'.heap[i]? = w.heap[i]?) (_ : a.own = true ∨ a = .dead) (ha : BlkR γ w'.heap k b 0 a) : HR γ (upd g k a) w' := by
  refine ⟨fun i b' o x hx hl' => ?_, fun i i' b' o o' x x' hx hox hx' hd hne hli hli' => ?_, fun i b' o hl' => ?_, ?_⟩
  · by_cases hi : i = k
    · subst hi
      rw [upd_same] at hx; cases hx
      rw [hl] at hl'; cases hl'
      exact ha
    · rw [upd_ne _ _ hi] at hx
      by_cases hd : x = .dead
      · subst hd; trivial
      · have hb : b' ≠ b := fun e => by subst e; exact h.inj k i b' 0 o a0 x h0 ho hx hd (Ne.symm hi) hl hl'
        exact (h.blk i b' o x hx hl').mono (Gm.Le.refl γ) hl' (hh b' hb)
  · have key : ∀ j y, upd g k a j = some y → y ≠ .dead → ∃ y0, g j = some y0 ∧ y0 ≠ .dead ∧ (y.own = true → y0.own = true) := by
      intro j y hy hyd
      by_cases hj : j = k
      · subst hj
        rw [upd_same] at hy; cases hy
        exact ⟨a0, h0, (fun (e : a0 = .dead) => by rw [e] at ho; cases ho), fun _ => ho⟩
      · rw [upd_ne _ _ hj] at hy; exact ⟨y, hy, hyd, id⟩
    obtain ⟨y, hy, hyd, hyo⟩ := key i x hx (fun e => by subst e; cases hox)
    obtain ⟨y', hy', hyd', _⟩ := key i' x' hx' hd
    exact h.inj i i' b' o o' y y' hy (hyo hox) hy' hyd' hne hli hli'
  · rw [hsz]; exact h.lt i b' o hl'
  · rw [hsz]; exact h.base

theorem Upd.put {γ : Gm} {g : Getter} {w w' : World} {k b : Nat} {a0 a : ABlk} (h0 : g k = some a0) (ho : a0.own = true) (hl : γ.loc k = some (b, 0))
    (h1 : w'.os = w.os) (h2 : w'.tape = w.tape) (h3 : w'.output = w.output) (hsz : w'.heap.size = w.heap.size) (hh : ∀ i, i ≠ b → w'.heap[i]? = w.heap[i]?) : Upd γ g w γ (upd g k a) w' :=
  ⟨h1, h2, h3, by omega, fun i _ hi => hh i fun e => hi k 0 a0 h0 ho (e ▸ hl), fun i b' o x hx hox hli _ => by
    by_cases hi : i = k
    · subst hi; exact ⟨i, o, a0, h0, ho, hli⟩
    · rw [upd_ne _ _ hi] at hx; exact ⟨i, o, x, hx, hox, hli⟩, fun i b' o x hx hd hli _ => by
    by_cases hi : i = k
    · subst hi; exact ⟨i, o, a0, h0, (fun e => by subst e; cases ho), hli⟩
    · rw [upd_ne _ _ hi] at hx; exact ⟨i, o, x, hx, hd, hli⟩, fun i _ o hli _ => ⟨i, o, hli⟩⟩

theorem Upd.move {γ : Gm} {g : Getter} {w w' : World} {k b n c : Nat} {a0 a : ABlk} (h0 : g k = some a0) (ho : a0.own = true) (hl : γ.loc k = some (b, 0))
    (h1 : w'.os = w.os) (h2 : w'.tape = w.tape) (h3 : w'.output = w.output) (hsz : w'.heap.size = w.heap.size) (hh : ∀ i, i ≠ b → w'.heap[i]? = w.heap[i]?) : Upd γ g w (γ.add n b c) (upd (upd g k .dead) n a) w' :=
  ⟨h1, h2, h3, by omega, fun i _ hi => hh i fun e => hi k 0 a0 h0 ho (e ▸ hl), fun i b' o x hx hox hli _ => by
    by_cases hn : i = n
    · subst hn; rw [Gm.add_loc] at hli; cases hli; exact ⟨k, 0, a0, h0, ho, hl⟩
    · rw [upd_ne _ _ hn] at hx
      rw [Gm.add_loc_ne _ _ _ hn] at hli
      by_cases hi : i = k
      · subst hi; rw [upd_same] at hx; cases hx; cases hox
      · rw [upd_ne _ _ hi] at hx; exact ⟨i, o, x, hx, hox, hli⟩, fun i b' o x hx hd hli _ => by
    by_cases hn : i = n
    · subst hn; rw [Gm.add_loc] at hli; cases hli; exact ⟨k, 0, a0, h0, (fun e => by subst e; cases ho), hl⟩
    · rw [upd_ne _ _ hn] at hx
      rw [Gm.add_loc_ne _ _ _ hn] at hli
      by_cases hi : i = k
      · subst hi; rw [upd_same] at hx; cases hx; exact absurd rfl hd
      · rw [upd_ne _ _ hi] at hx; exact ⟨i, o, x, hx, hd, hli⟩, fun i b' o hli _ => by
    by_cases hn : i = n
    · subst hn; rw [Gm.add_loc] at hli; cases hli; exact ⟨k, 0, hl⟩
    · rw [Gm.add_loc_ne _ _ _ hn] at hli; exact ⟨i, o, hli⟩⟩

theorem Upd.heap {γ : Gm} {g : Getter} {w w' : World} (hh : w'.heap = w.heap) (h1 : w'.os = w.os) (h2 : w'.tape = w.tape) (h3 : w'.output = w.output) : Upd γ g w γ g w' :=
  ⟨h1, h2, h3, by rw [hh]; exact Nat.le_refl _, fun _ _ _ => by rw [hh], fun k _ o a h1 h2 h3 _ => ⟨k, o, a, h1, h2, h3⟩, fun k _ o a h1 h2 h3 _ => ⟨k, o, a, h1, h2, h3⟩, fun k _ o h _ => ⟨k, o, h⟩⟩

/-- The heap does not turn (a draw). -/
theorem HR.same {γ : Gm} {g : Getter} {w w' : World} (h : HR γ g w) (hh : w'.heap = w.heap) : HR γ g w' :=
  ⟨fun k b o a ha hl => by rw [hh]; exact h.blk k b o a ha hl, h.inj, fun k b o hl => by rw [hh]; exact h.lt k b o hl, by rw [hh]; exact h.base⟩

open Go.RowKit in
theorem Upd.below {γ : Gm} {g : Getter} {w w' : World} {γ' : Gm} {g' : Getter} (h : HR γ g w) (u : Upd γ g w γ' g' w') : Below γ.B w w' := by
  refine ⟨u.os, u.tape, u.output, u.size, fun b hb => u.same b (Nat.lt_of_lt_of_le hb h.base) fun k o a ha ho hl => ?_⟩
  have hB : γ.B ≤ b := by
    have := h.blk k b o a ha hl
    cases a with
    | cells cs own es => obtain ⟨_, _, _, _, _, h3⟩ := this; exact (h3 ho).2.2.1
    | dead => cases ho
    | map => exact this.2.1
    | iter => exact this.2.1
    | loop => exact this.2.1
    | siter => exact this.2.1
  omega

end Go.RM
