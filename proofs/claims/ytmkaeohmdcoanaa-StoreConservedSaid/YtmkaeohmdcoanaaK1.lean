/-
  Contracts of the program's functions and of the document's. Lemmas alone; their conditions stand in them.
-/
import Derived.Test.YtmkaeohmdcoanaaA1
import Derived.Test.YtmkaeohmdcoanaaT1
open Go Go.RM
namespace Go.Proofs.Ytmkaeohmdcoanaa
set_option maxRecDepth 100000

abbrev I64 (n : Int) : AV := .fl (.int .i64 n)
abbrev BB (b : Bool) : AV := .fl (.bool b)
abbrev ST (s : ByteArray) : AV := .fl (.string s)
abbrev eI (n : Int) : List AV := [I64 n]
abbrev ints (l : List Int) : List (List AV) := l.map eI

/-- What is known beforehand: the law's own examples. -/
def x_aw : XE := ⟨22, [], [], .bool true, []⟩
def TB : List XE := [x_aw]

abbrev Pu (one : Bool) (f : FuncId) (args : List AV) (v : AV) : Prop := PureV TT TB one (.fn f [] []) args v

def idxF {α : Type} (p : α → Bool) (l : List α) : Int := match l.findIdx? p with
  | some i => (i : Int)
  | none => -1

theorem idxF_here {α : Type} {p : α → Bool} {l : List α} {k : Nat} (hk : k < l.length) (hprev : ∀ i (h : i < l.length), i < k → p l[i] = false) (hp : p l[k] = true) : idxF p l = k := by
  unfold idxF
  have : l.findIdx? p = some k := by
    rw [List.findIdx?_eq_some_iff_getElem]
    exact ⟨hk, hp, fun j hj => by simp [hprev j (by omega) hj]⟩
  rw [this]

theorem idxF_none {α : Type} {p : α → Bool} {l : List α} (hprev : ∀ i (h : i < l.length), p l[i] = false) : idxF p l = -1 := by
  unfold idxF
  have : l.findIdx? p = none := by
    rw [List.findIdx?_eq_none_iff]
    intro x hx
    obtain ⟨i, hi, rfl⟩ := List.getElem_of_mem hx
    exact hprev i hi
  rw [this]

theorem idxF_ge {α : Type} (p : α → Bool) (l : List α) : decide (0 ≤ idxF p l) = l.any p := by
  unfold idxF
  cases h : l.findIdx? p with
  | some i =>
    rw [List.findIdx?_eq_some_iff_getElem] at h
    obtain ⟨h1, h2, _⟩ := h
    simp only [Int.natCast_nonneg, decide_true]
    symm
    rw [List.any_eq_true]
    exact ⟨_, List.getElem_mem h1, h2⟩
  | none =>
    rw [List.findIdx?_eq_none_iff] at h
    simp
    intro x hx; exact h x hx

theorem deep_inb (n : Nat) : ∀ (v : AV), v.deep = true → v.inb n = true := by
  apply AV.rec (motive_1 := fun v => v.deep = true → v.inb n = true) (motive_2 := fun _ => True) (motive_3 := fun l => deepL l = true → inbL n l = true)
  · intro v _; rfl
  · intro a b _ _; rfl
  · intro a b _ _; rfl
  · intro f a b ha hb h
    simp only [AV.deep, Bool.and_eq_true] at h
    simp only [AV.inb, Bool.and_eq_true]
    exact ⟨ha h.1, hb h.2⟩
  · intro a ha h
    simp only [AV.deep] at h
    simp only [AV.inb]
    exact ha h
  · intro a ha h
    simp only [AV.deep] at h
    simp only [AV.inb]
    exact ha h
  · intro j v o h; simp [AV.deep] at h
  · intro j v o n c h; simp [AV.deep] at h
  · intro j h; simp [AV.deep] at h
  · intro u _; rfl
  · intro h; simp [AV.deep] at h
  · trivial
  · intros; trivial
  · intro _; rfl
  · intro a l ha hl h
    simp only [deepL, Bool.and_eq_true] at h
    simp only [inbL, Bool.and_eq_true]
    exact ⟨ha h.1, hl h.2⟩

theorem inb_fl {n : Nat} {v : Value} : (AV.fl v).inb n = true := rfl
theorem inb_sl {n : Nat} {a : List (List AV)} {b : Bool} : (AV.sl a b).inb n = true := rfl
theorem inb_pt {n : Nat} {a : List AV} {b : Nat} : (AV.pt a b).inb n = true := rfl
theorem inb_tp {n : Nat} {a : List AV} : (AV.tp a).inb n = inbL n a := rfl
theorem inb_ag {n : Nat} {a : List AV} : (AV.ag a).inb n = inbL n a := rfl
theorem i64c {a b : Int} (h : a = b) : AV.fl (.int .i64 a) = AV.fl (.int .i64 b) := by rw [h]
theorem bbc {a b : Bool} (h : a = b) : AV.fl (.bool a) = AV.fl (.bool b) := by rw [h]

/-- A value out of its cells. -/
def valA (agg : Bool) (el : List AV) : AV := match agg with
  | true => .ag el
  | false => el.headD .junk

theorem outside1_c (one : Bool) (n lo hi : Int) : PureV TT TB one (.fn 89 [] [.pt [I64 lo] 0, .pt [I64 hi] 0]) [I64 n] (BB (decide (n < lo) || decide (hi < n))) := by
  refine PureV.body (fn := Try.f89) rfl rfl rfl rfl ?_
  refine wpC_sound (mu := fun _ => false) ?_
  repeat' (first
      | (with_reducible refine wpC_skip ?_)
      | (with_reducible refine wpC_seq ?_)
      | (with_reducible refine wpC_block ?_)
      | (with_reducible refine wpC_drawL ?_)
      | (with_reducible refine wpC_opsL ?_)
      | (with_reducible refine wpC_draw ?_)
      | (with_reducible refine wpC_ops ?_)
      | (with_reducible refine wpOps_nil ?_)
      | (first
          | (with_reducible refine wpOps_cons ?_)
          | (with_reducible refine wpDraw_cons ?_)
         first
          | (with_reducible refine wpGuard_none ?_)
          | (refine wpGuard_yes rfl rfl rfl ?_)
          | (refine wpGuard_no rfl rfl rfl ?_)
          | (refine wpGuard_yes rfl rfl (by assumption) ?_)
          | (refine wpGuard_no rfl rfl (by assumption) ?_)
          | (refine wpGuard_skip rfl rfl ?_)
          | skip)
      | (with_reducible refine putS_some ?_)
      | (with_reducible refine putS_none ?_)
      | (with_reducible refine seqQ_normal ?_)
      | (refine ⟨_, rfl, ?_⟩)
      | (refine guardYes (by assumption) ?_)
      | (refine guardYes rfl ?_)
      | (refine guardNo rfl ?_)
      | (refine guardNo (by assumption) ?_)
      | (refine ⟨_, _, rfl, by decide, ?_⟩)
      | (refine ⟨rfl, rfl, rfl, ?_⟩)
      | (refine ⟨rfl, rfl, ?_⟩)
      | (refine ⟨_, _, rfl, _, rfl, ?_⟩)
      | (refine And.intro (Nat.le_of_ble_eq_true rfl) ?_)
      | (refine And.intro (by omega) ?_)
      | (refine ⟨_, _, rfl, rfl, _, rfl, rfl, ?_⟩)
      | (refine And.intro (by kernel_rfl) ?_)
      | (refine ⟨rfl, rfl, rfl, rfl, rfl, ?_⟩)
      | (refine ⟨fun h => ?_, fun h => ?_⟩)
      | fail)
  all_goals refine ⟨[_], ⟨Fz.deep rfl, trivial⟩, ?_⟩
  all_goals simp_all [oneT]

theorem indexFunc51_c (one : Bool) (g : FuncId) (fs cs : List AV) (hF : (AV.fn g fs cs).deep = true) (p : Int → Bool) (l : List Int) (full : Bool) (hl : l.length ≤ maxLen) (hp : ∀ n ∈ l, PureV TT TB one (.fn g fs cs) [I64 n] (BB (p n))) :
    Pu one 51 [.sl (ints l) full, .fn g fs cs] (I64 (idxF p l)) := by
  unfold maxLen at hl
  refine PureV.body (fn := Try.f51) rfl rfl rfl rfl ?_
  refine wpC_sound (mu := fun _ => false) ?_
  repeat' (first
      | (with_reducible refine wpC_skip ?_)
      | (with_reducible refine wpC_seq ?_)
      | (with_reducible refine wpC_block ?_)
      | (with_reducible refine wpC_drawL ?_)
      | (with_reducible refine wpC_opsL ?_)
      | (with_reducible refine wpC_draw ?_)
      | (with_reducible refine wpC_ops ?_)
      | (with_reducible refine wpOps_nil ?_)
      | (first
          | (with_reducible refine wpOps_cons ?_)
          | (with_reducible refine wpDraw_cons ?_)
         first
          | (with_reducible refine wpGuard_none ?_)
          | (refine wpGuard_yes rfl rfl rfl ?_)
          | (refine wpGuard_no rfl rfl rfl ?_)
          | (refine wpGuard_yes rfl rfl (by assumption) ?_)
          | (refine wpGuard_no rfl rfl (by assumption) ?_)
          | (refine wpGuard_skip rfl rfl ?_)
          | skip)
      | (with_reducible refine putS_some ?_)
      | (with_reducible refine putS_none ?_)
      | (with_reducible refine seqQ_normal ?_)
      | (refine ⟨_, rfl, ?_⟩)
      | (refine guardYes (by assumption) ?_)
      | (refine guardYes rfl ?_)
      | (refine guardNo rfl ?_)
      | (refine guardNo (by assumption) ?_)
      | (refine ⟨_, _, rfl, by decide, ?_⟩)
      | (refine ⟨rfl, rfl, rfl, ?_⟩)
      | (refine ⟨rfl, rfl, ?_⟩)
      | (refine ⟨_, _, rfl, _, rfl, ?_⟩)
      | (refine And.intro (Nat.le_of_ble_eq_true rfl) ?_)
      | (refine And.intro (by omega) ?_)
      | (refine ⟨_, _, rfl, rfl, _, rfl, rfl, ?_⟩)
      | (refine And.intro (by kernel_rfl) ?_)
      | (refine ⟨rfl, rfl, rfl, rfl, rfl, ?_⟩)
      | fail)
  refine SemC.weaker (Weaker.to (l := [(0, .sl (ints l) full), (1, .fn g fs cs), (7, I64 l.length), (8, I64 ((0 : Nat) : Int))]) 0 rfl ⟨rfl, rfl, i64c (by simp), rfl, trivial⟩ (Nat.le_refl _) (by simp [inb_fl, inb_sl, deep_inb 0 _ hF]) rfl) ?_
  refine SemC.loop (fun k : Nat => k ≤ l.length ∧ ∀ i (h : i < l.length), i < k → p l[i] = false) (fun k => ⟨mkFr [(0, .sl (ints l) full), (1, .fn g fs cs), (7, I64 l.length), (8, I64 (k : Int))], [], Amb.none, false, 0⟩) (fun k => l.length - k) ?_ 0 ⟨Nat.zero_le _, fun i _ hi => absurd hi (by omega)⟩
  intro k ⟨hk, hprev⟩
  refine wpC_sound (mu := fun _ => false) ?_
  refine ⟨fun h => ?_, fun h => ?_⟩
  · have hlt : k < l.length := by simpa using h
    refine ⟨[I64 l[k]], ⟨by omega, by simp [hlt]⟩, rfl, ?_⟩
    repeat' (first
        | (with_reducible refine wpC_skip ?_)
        | (with_reducible refine wpC_seq ?_)
        | (with_reducible refine wpC_block ?_)
        | (with_reducible refine wpC_drawL ?_)
        | (with_reducible refine wpC_opsL ?_)
        | (with_reducible refine wpC_draw ?_)
        | (with_reducible refine wpC_ops ?_)
        | (with_reducible refine wpOps_nil ?_)
        | (first
            | (with_reducible refine wpOps_cons ?_)
            | (with_reducible refine wpDraw_cons ?_)
           first
            | (with_reducible refine wpGuard_none ?_)
            | (refine wpGuard_yes rfl rfl rfl ?_)
            | (refine wpGuard_no rfl rfl rfl ?_)
            | (refine wpGuard_yes rfl rfl (by assumption) ?_)
            | (refine wpGuard_no rfl rfl (by assumption) ?_)
            | (refine wpGuard_skip rfl rfl ?_)
            | skip)
        | (with_reducible refine putS_some ?_)
        | (with_reducible refine putS_none ?_)
        | (with_reducible refine seqQ_normal ?_)
        | (refine ⟨_, rfl, ?_⟩)
        | (refine guardYes (by assumption) ?_)
        | (refine guardYes rfl ?_)
        | (refine guardNo rfl ?_)
        | (refine guardNo (by assumption) ?_)
        | (refine ⟨_, _, rfl, by decide, ?_⟩)
        | (refine ⟨rfl, rfl, rfl, ?_⟩)
        | (refine ⟨rfl, rfl, ?_⟩)
        | (refine ⟨_, _, rfl, _, rfl, ?_⟩)
        | (refine And.intro (Nat.le_of_ble_eq_true rfl) ?_)
        | (refine And.intro (by omega) ?_)
        | (refine ⟨_, _, rfl, rfl, _, rfl, rfl, ?_⟩)
        | (refine And.intro (by kernel_rfl) ?_)
        | (refine ⟨rfl, rfl, rfl, rfl, rfl, ?_⟩)
        | fail)
    refine PureV.call (hp l[k] (List.getElem_mem _)) hF rfl ?_
    refine ⟨fun h2 => ?_, fun h2 => ?_⟩
    · refine ⟨[_], ⟨Fz.deep rfl, trivial⟩, ?_⟩
      rw [idxF_here hlt hprev h2]; rfl
    · repeat' (first
          | (with_reducible refine wpC_skip ?_)
          | (with_reducible refine wpC_seq ?_)
          | (with_reducible refine wpC_block ?_)
          | (with_reducible refine wpC_drawL ?_)
          | (with_reducible refine wpC_opsL ?_)
          | (with_reducible refine wpC_draw ?_)
          | (with_reducible refine wpC_ops ?_)
          | (with_reducible refine wpOps_nil ?_)
          | (first
              | (with_reducible refine wpOps_cons ?_)
              | (with_reducible refine wpDraw_cons ?_)
             first
              | (with_reducible refine wpGuard_none ?_)
              | (refine wpGuard_yes rfl rfl rfl ?_)
              | (refine wpGuard_no rfl rfl rfl ?_)
              | (refine wpGuard_yes rfl rfl (by assumption) ?_)
              | (refine wpGuard_no rfl rfl (by assumption) ?_)
              | (refine wpGuard_skip rfl rfl ?_)
              | skip)
          | (with_reducible refine putS_some ?_)
          | (with_reducible refine putS_none ?_)
          | (with_reducible refine seqQ_normal ?_)
          | (refine ⟨_, rfl, ?_⟩)
          | (refine guardYes (by assumption) ?_)
          | (refine guardYes rfl ?_)
          | (refine guardNo rfl ?_)
          | (refine guardNo (by assumption) ?_)
          | (refine ⟨_, _, rfl, by decide, ?_⟩)
          | (refine ⟨rfl, rfl, rfl, ?_⟩)
          | (refine ⟨rfl, rfl, ?_⟩)
          | (refine ⟨_, _, rfl, _, rfl, ?_⟩)
          | (refine And.intro (Nat.le_of_ble_eq_true rfl) ?_)
          | (refine And.intro (by omega) ?_)
          | (refine ⟨_, _, rfl, rfl, _, rfl, rfl, ?_⟩)
          | (refine And.intro (by kernel_rfl) ?_)
          | (refine ⟨rfl, rfl, rfl, rfl, rfl, ?_⟩)
          | fail)
      refine ⟨k + 1, ⟨hlt, fun i hi hik => ?_⟩, (by dsimp only; omega), Weaker.to 0 rfl ⟨rfl, rfl, rfl, i64c (by simp), trivial⟩ (Nat.le_refl _) (by simp [inb_fl, inb_sl, deep_inb 0 _ hF]) rfl⟩
      by_cases hik' : i = k
      · subst hik'; exact h2
      · exact hprev i hi (by omega)
  · repeat' (first
        | (with_reducible refine wpC_skip ?_)
        | (with_reducible refine wpC_seq ?_)
        | (with_reducible refine wpC_block ?_)
        | (with_reducible refine wpC_drawL ?_)
        | (with_reducible refine wpC_opsL ?_)
        | (with_reducible refine wpC_draw ?_)
        | (with_reducible refine wpC_ops ?_)
        | (with_reducible refine wpOps_nil ?_)
        | (first
            | (with_reducible refine wpOps_cons ?_)
            | (with_reducible refine wpDraw_cons ?_)
           first
            | (with_reducible refine wpGuard_none ?_)
            | (refine wpGuard_yes rfl rfl rfl ?_)
            | (refine wpGuard_no rfl rfl rfl ?_)
            | (refine wpGuard_yes rfl rfl (by assumption) ?_)
            | (refine wpGuard_no rfl rfl (by assumption) ?_)
            | (refine wpGuard_skip rfl rfl ?_)
            | skip)
        | (with_reducible refine putS_some ?_)
        | (with_reducible refine putS_none ?_)
        | (with_reducible refine seqQ_normal ?_)
        | (refine ⟨_, rfl, ?_⟩)
        | (refine guardYes (by assumption) ?_)
        | (refine guardYes rfl ?_)
        | (refine guardNo rfl ?_)
        | (refine guardNo (by assumption) ?_)
        | (refine ⟨_, _, rfl, by decide, ?_⟩)
        | (refine ⟨rfl, rfl, rfl, ?_⟩)
        | (refine ⟨rfl, rfl, ?_⟩)
        | (refine ⟨_, _, rfl, _, rfl, ?_⟩)
        | (refine And.intro (Nat.le_of_ble_eq_true rfl) ?_)
        | (refine And.intro (by omega) ?_)
        | (refine ⟨_, _, rfl, rfl, _, rfl, rfl, ?_⟩)
        | (refine And.intro (by kernel_rfl) ?_)
        | (refine ⟨rfl, rfl, rfl, rfl, rfl, ?_⟩)
        | fail)
    refine ⟨[_], ⟨Fz.deep rfl, trivial⟩, ?_⟩
    have : k = l.length := by simp at h; omega
    rw [idxF_none fun i hi => hprev i hi (by omega)]; rfl
end Go.Proofs.Ytmkaeohmdcoanaa
open Go Go.RM
namespace Go.Proofs.Ytmkaeohmdcoanaa
set_option maxRecDepth 100000

structure Span where
  lo : Int
  hi : Int
structure Kind where
  name : ByteArray
  first : Span
  man : Span
  ship : Span
  room : Int
  ration : Int
structure Cargo where
  day : Int
  kind : Int
  amount : Int
structure Count where
  day : Int
  kind : Int
  amount : Span
structure Truth where
  first : Int
  man : Int
  ship : Int
structure Stores where
  men : List Int
  kinds : List Kind
  cargos : List Cargo

abbrev eSpan (s : Span) : List AV := [I64 s.lo, I64 s.hi]
abbrev eKind (k : Kind) : List AV := [ST k.name, I64 k.first.lo, I64 k.first.hi, I64 k.man.lo, I64 k.man.hi, I64 k.ship.lo, I64 k.ship.hi, I64 k.room, I64 k.ration]
abbrev eCargo (c : Cargo) : List AV := [I64 c.day, I64 c.kind, I64 c.amount]
abbrev eCount (c : Count) : List AV := [I64 c.day, I64 c.kind, I64 c.amount.lo, I64 c.amount.hi]
abbrev eTruth (t : Truth) : List AV := [I64 t.first, I64 t.man, I64 t.ship]
abbrev eStores (s : Stores) : List AV := [.sl (s.men.map eI) false, .sl (s.kinds.map eKind) false, .sl (s.cargos.map eCargo) false]

theorem containsFunc88_c (one : Bool) (g : FuncId) (fs cs : List AV) (hF : (AV.fn g fs cs).deep = true) (p : Int → Bool) (l : List Int) (full : Bool) (hl : l.length ≤ maxLen) (hp : ∀ x ∈ l, PureV TT TB one (.fn g fs cs) [I64 x] (BB (p x))) :
    Pu one 88 [.sl (l.map eI) full, .fn g fs cs] (BB (l.any p)) := by
  refine PureV.body (fn := Try.f88) rfl rfl rfl rfl ?_
  refine wpC_sound (mu := fun _ => false) ?_
  repeat' (first
      | (with_reducible refine wpC_skip ?_)
      | (with_reducible refine wpC_seq ?_)
      | (with_reducible refine wpC_block ?_)
      | (with_reducible refine wpC_drawL ?_)
      | (with_reducible refine wpC_opsL ?_)
      | (with_reducible refine wpC_draw ?_)
      | (with_reducible refine wpC_ops ?_)
      | (with_reducible refine wpOps_nil ?_)
      | (first
          | (with_reducible refine wpOps_cons ?_)
          | (with_reducible refine wpDraw_cons ?_)
         first
          | (with_reducible refine wpGuard_none ?_)
          | (refine wpGuard_yes rfl rfl rfl ?_)
          | (refine wpGuard_no rfl rfl rfl ?_)
          | (refine wpGuard_yes rfl rfl (by assumption) ?_)
          | (refine wpGuard_no rfl rfl (by assumption) ?_)
          | (refine wpGuard_skip rfl rfl ?_)
          | skip)
      | (with_reducible refine putS_some ?_)
      | (with_reducible refine putS_none ?_)
      | (with_reducible refine seqQ_normal ?_)
      | (refine ⟨_, rfl, ?_⟩)
      | (refine guardYes (by assumption) ?_)
      | (refine guardYes rfl ?_)
      | (refine guardNo rfl ?_)
      | (refine guardNo (by assumption) ?_)
      | (refine ⟨_, _, rfl, by decide, ?_⟩)
      | (refine ⟨rfl, rfl, rfl, ?_⟩)
      | (refine ⟨rfl, rfl, ?_⟩)
      | (refine ⟨_, _, rfl, _, rfl, ?_⟩)
      | (refine And.intro (Nat.le_of_ble_eq_true rfl) ?_)
      | (refine And.intro (by omega) ?_)
      | (refine ⟨_, _, rfl, rfl, _, rfl, rfl, ?_⟩)
      | (refine And.intro (by kernel_rfl) ?_)
      | (refine ⟨rfl, rfl, rfl, rfl, rfl, ?_⟩)
      | fail)
  refine PureV.call (indexFunc51_c one g fs cs hF p l full hl hp) rfl (by simp only [deepL, AV.deep, Bool.and_true, Bool.true_and]; exact hF) ?_
  repeat' (first
      | (with_reducible refine wpC_skip ?_)
      | (with_reducible refine wpC_seq ?_)
      | (with_reducible refine wpC_block ?_)
      | (with_reducible refine wpC_drawL ?_)
      | (with_reducible refine wpC_opsL ?_)
      | (with_reducible refine wpC_draw ?_)
      | (with_reducible refine wpC_ops ?_)
      | (with_reducible refine wpOps_nil ?_)
      | (first
          | (with_reducible refine wpOps_cons ?_)
          | (with_reducible refine wpDraw_cons ?_)
         first
          | (with_reducible refine wpGuard_none ?_)
          | (refine wpGuard_yes rfl rfl rfl ?_)
          | (refine wpGuard_no rfl rfl rfl ?_)
          | (refine wpGuard_yes rfl rfl (by assumption) ?_)
          | (refine wpGuard_no rfl rfl (by assumption) ?_)
          | (refine wpGuard_skip rfl rfl ?_)
          | skip)
      | (with_reducible refine putS_some ?_)
      | (with_reducible refine putS_none ?_)
      | (with_reducible refine seqQ_normal ?_)
      | (refine ⟨_, rfl, ?_⟩)
      | (refine guardYes (by assumption) ?_)
      | (refine guardYes rfl ?_)
      | (refine guardNo rfl ?_)
      | (refine guardNo (by assumption) ?_)
      | (refine ⟨_, _, rfl, by decide, ?_⟩)
      | (refine ⟨rfl, rfl, rfl, ?_⟩)
      | (refine ⟨rfl, rfl, ?_⟩)
      | (refine ⟨_, _, rfl, _, rfl, ?_⟩)
      | (refine And.intro (Nat.le_of_ble_eq_true rfl) ?_)
      | (refine And.intro (by omega) ?_)
      | (refine ⟨_, _, rfl, rfl, _, rfl, rfl, ?_⟩)
      | (refine And.intro (by kernel_rfl) ?_)
      | (refine ⟨rfl, rfl, rfl, rfl, rfl, ?_⟩)
      | fail)
  refine ⟨[_], ⟨Fz.deep rfl, trivial⟩, ?_⟩
  rw [← idxF_ge]; rfl

theorem indexFunc113_c (one : Bool) (g : FuncId) (fs cs : List AV) (hF : (AV.fn g fs cs).deep = true) (p : Kind → Bool) (l : List Kind) (full : Bool) (hl : l.length ≤ maxLen) (hp : ∀ x ∈ l, PureV TT TB one (.fn g fs cs) [.ag (eKind x)] (BB (p x))) :
    Pu one 113 [.sl (l.map eKind) full, .fn g fs cs] (I64 (idxF p l)) := by
  unfold maxLen at hl
  refine PureV.body (fn := Try.f113) rfl rfl rfl rfl ?_
  refine wpC_sound (mu := fun _ => false) ?_
  repeat' (first
      | (with_reducible refine wpC_skip ?_)
      | (with_reducible refine wpC_seq ?_)
      | (with_reducible refine wpC_block ?_)
      | (with_reducible refine wpC_drawL ?_)
      | (with_reducible refine wpC_opsL ?_)
      | (with_reducible refine wpC_draw ?_)
      | (with_reducible refine wpC_ops ?_)
      | (with_reducible refine wpOps_nil ?_)
      | (first
          | (with_reducible refine wpOps_cons ?_)
          | (with_reducible refine wpDraw_cons ?_)
         first
          | (with_reducible refine wpGuard_none ?_)
          | (refine wpGuard_yes rfl rfl rfl ?_)
          | (refine wpGuard_no rfl rfl rfl ?_)
          | (refine wpGuard_yes rfl rfl (by assumption) ?_)
          | (refine wpGuard_no rfl rfl (by assumption) ?_)
          | (refine wpGuard_skip rfl rfl ?_)
          | skip)
      | (with_reducible refine putS_some ?_)
      | (with_reducible refine putS_none ?_)
      | (with_reducible refine seqQ_normal ?_)
      | (refine ⟨_, rfl, ?_⟩)
      | (refine guardYes (by assumption) ?_)
      | (refine guardYes rfl ?_)
      | (refine guardNo rfl ?_)
      | (refine guardNo (by assumption) ?_)
      | (refine ⟨_, _, rfl, by decide, ?_⟩)
      | (refine ⟨rfl, rfl, rfl, ?_⟩)
      | (refine ⟨rfl, rfl, ?_⟩)
      | (refine ⟨_, _, rfl, _, rfl, ?_⟩)
      | (refine And.intro (Nat.le_of_ble_eq_true rfl) ?_)
      | (refine And.intro (by omega) ?_)
      | (refine ⟨_, _, rfl, rfl, _, rfl, rfl, ?_⟩)
      | (refine And.intro (by kernel_rfl) ?_)
      | (refine ⟨rfl, rfl, rfl, rfl, rfl, ?_⟩)
      | fail)
  refine SemC.weaker (Weaker.to (l := [(0, .sl (l.map eKind) full), (1, .fn g fs cs), (7, I64 l.length), (8, I64 ((0 : Nat) : Int))]) 0 rfl ⟨rfl, rfl, i64c (by simp), rfl, trivial⟩ (Nat.le_refl _) (by simp [inb_fl, inb_sl, deep_inb 0 _ hF]) rfl) ?_
  refine SemC.loop (fun k : Nat => k ≤ l.length ∧ ∀ i (h : i < l.length), i < k → p l[i] = false) (fun k => ⟨mkFr [(0, .sl (l.map eKind) full), (1, .fn g fs cs), (7, I64 l.length), (8, I64 (k : Int))], [], Amb.none, false, 0⟩) (fun k => l.length - k) ?_ 0 ⟨Nat.zero_le _, fun i _ hi => absurd hi (by omega)⟩
  intro k ⟨hk, hprev⟩
  refine wpC_sound (mu := fun _ => false) ?_
  refine ⟨fun h => ?_, fun h => ?_⟩
  · have hlt : k < l.length := by simpa using h
    repeat' (first
        | (with_reducible refine wpC_skip ?_)
        | (with_reducible refine wpC_seq ?_)
        | (with_reducible refine wpC_block ?_)
        | (with_reducible refine wpC_drawL ?_)
        | (with_reducible refine wpC_opsL ?_)
        | (with_reducible refine wpC_draw ?_)
        | (with_reducible refine wpC_ops ?_)
        | (with_reducible refine wpOps_nil ?_)
        | (first
            | (with_reducible refine wpOps_cons ?_)
            | (with_reducible refine wpDraw_cons ?_)
           first
            | (with_reducible refine wpGuard_none ?_)
            | (refine wpGuard_yes rfl rfl rfl ?_)
            | (refine wpGuard_no rfl rfl rfl ?_)
            | (refine wpGuard_yes rfl rfl (by assumption) ?_)
            | (refine wpGuard_no rfl rfl (by assumption) ?_)
            | (refine wpGuard_skip rfl rfl ?_)
            | skip)
        | (with_reducible refine putS_some ?_)
        | (with_reducible refine putS_none ?_)
        | (with_reducible refine seqQ_normal ?_)
        | (refine ⟨_, rfl, ?_⟩)
        | (refine guardYes (by assumption) ?_)
        | (refine guardYes rfl ?_)
        | (refine guardNo rfl ?_)
        | (refine guardNo (by assumption) ?_)
        | (refine ⟨_, _, rfl, by decide, ?_⟩)
        | (refine ⟨rfl, rfl, rfl, ?_⟩)
        | (refine ⟨rfl, rfl, ?_⟩)
        | (refine ⟨_, _, rfl, _, rfl, ?_⟩)
        | (refine And.intro (Nat.le_of_ble_eq_true rfl) ?_)
        | (refine And.intro (by omega) ?_)
        | (refine ⟨_, _, rfl, rfl, _, rfl, rfl, ?_⟩)
        | (refine And.intro (by kernel_rfl) ?_)
        | (refine ⟨rfl, rfl, rfl, rfl, rfl, ?_⟩)
        | fail)
    refine ⟨eKind l[k], ⟨by omega, by simp [hlt]⟩, rfl, ?_⟩
    repeat' (first
        | (with_reducible refine wpC_skip ?_)
        | (with_reducible refine wpC_seq ?_)
        | (with_reducible refine wpC_block ?_)
        | (with_reducible refine wpC_drawL ?_)
        | (with_reducible refine wpC_opsL ?_)
        | (with_reducible refine wpC_draw ?_)
        | (with_reducible refine wpC_ops ?_)
        | (with_reducible refine wpOps_nil ?_)
        | (first
            | (with_reducible refine wpOps_cons ?_)
            | (with_reducible refine wpDraw_cons ?_)
           first
            | (with_reducible refine wpGuard_none ?_)
            | (refine wpGuard_yes rfl rfl rfl ?_)
            | (refine wpGuard_no rfl rfl rfl ?_)
            | (refine wpGuard_yes rfl rfl (by assumption) ?_)
            | (refine wpGuard_no rfl rfl (by assumption) ?_)
            | (refine wpGuard_skip rfl rfl ?_)
            | skip)
        | (with_reducible refine putS_some ?_)
        | (with_reducible refine putS_none ?_)
        | (with_reducible refine seqQ_normal ?_)
        | (refine ⟨_, rfl, ?_⟩)
        | (refine guardYes (by assumption) ?_)
        | (refine guardYes rfl ?_)
        | (refine guardNo rfl ?_)
        | (refine guardNo (by assumption) ?_)
        | (refine ⟨_, _, rfl, by decide, ?_⟩)
        | (refine ⟨rfl, rfl, rfl, ?_⟩)
        | (refine ⟨rfl, rfl, ?_⟩)
        | (refine ⟨_, _, rfl, _, rfl, ?_⟩)
        | (refine And.intro (Nat.le_of_ble_eq_true rfl) ?_)
        | (refine And.intro (by omega) ?_)
        | (refine ⟨_, _, rfl, rfl, _, rfl, rfl, ?_⟩)
        | (refine And.intro (by kernel_rfl) ?_)
        | (refine ⟨rfl, rfl, rfl, rfl, rfl, ?_⟩)
        | fail)
    refine PureV.call (hp l[k] (List.getElem_mem _)) hF rfl ?_
    refine ⟨fun h2 => ?_, fun h2 => ?_⟩
    · repeat' (first
          | (with_reducible refine wpC_skip ?_)
          | (with_reducible refine wpC_seq ?_)
          | (with_reducible refine wpC_block ?_)
          | (with_reducible refine wpC_drawL ?_)
          | (with_reducible refine wpC_opsL ?_)
          | (with_reducible refine wpC_draw ?_)
          | (with_reducible refine wpC_ops ?_)
          | (with_reducible refine wpOps_nil ?_)
          | (first
              | (with_reducible refine wpOps_cons ?_)
              | (with_reducible refine wpDraw_cons ?_)
             first
              | (with_reducible refine wpGuard_none ?_)
              | (refine wpGuard_yes rfl rfl rfl ?_)
              | (refine wpGuard_no rfl rfl rfl ?_)
              | (refine wpGuard_yes rfl rfl (by assumption) ?_)
              | (refine wpGuard_no rfl rfl (by assumption) ?_)
              | (refine wpGuard_skip rfl rfl ?_)
              | skip)
          | (with_reducible refine putS_some ?_)
          | (with_reducible refine putS_none ?_)
          | (with_reducible refine seqQ_normal ?_)
          | (refine ⟨_, rfl, ?_⟩)
          | (refine guardYes (by assumption) ?_)
          | (refine guardYes rfl ?_)
          | (refine guardNo rfl ?_)
          | (refine guardNo (by assumption) ?_)
          | (refine ⟨_, _, rfl, by decide, ?_⟩)
          | (refine ⟨rfl, rfl, rfl, ?_⟩)
          | (refine ⟨rfl, rfl, ?_⟩)
          | (refine ⟨_, _, rfl, _, rfl, ?_⟩)
          | (refine And.intro (Nat.le_of_ble_eq_true rfl) ?_)
          | (refine And.intro (by omega) ?_)
          | (refine ⟨_, _, rfl, rfl, _, rfl, rfl, ?_⟩)
          | (refine And.intro (by kernel_rfl) ?_)
          | (refine ⟨rfl, rfl, rfl, rfl, rfl, ?_⟩)
          | fail)
      refine ⟨[_], ⟨Fz.deep rfl, trivial⟩, ?_⟩
      rw [idxF_here hlt hprev h2]; rfl
    · repeat' (first
          | (with_reducible refine wpC_skip ?_)
          | (with_reducible refine wpC_seq ?_)
          | (with_reducible refine wpC_block ?_)
          | (with_reducible refine wpC_drawL ?_)
          | (with_reducible refine wpC_opsL ?_)
          | (with_reducible refine wpC_draw ?_)
          | (with_reducible refine wpC_ops ?_)
          | (with_reducible refine wpOps_nil ?_)
          | (first
              | (with_reducible refine wpOps_cons ?_)
              | (with_reducible refine wpDraw_cons ?_)
             first
              | (with_reducible refine wpGuard_none ?_)
              | (refine wpGuard_yes rfl rfl rfl ?_)
              | (refine wpGuard_no rfl rfl rfl ?_)
              | (refine wpGuard_yes rfl rfl (by assumption) ?_)
              | (refine wpGuard_no rfl rfl (by assumption) ?_)
              | (refine wpGuard_skip rfl rfl ?_)
              | skip)
          | (with_reducible refine putS_some ?_)
          | (with_reducible refine putS_none ?_)
          | (with_reducible refine seqQ_normal ?_)
          | (refine ⟨_, rfl, ?_⟩)
          | (refine guardYes (by assumption) ?_)
          | (refine guardYes rfl ?_)
          | (refine guardNo rfl ?_)
          | (refine guardNo (by assumption) ?_)
          | (refine ⟨_, _, rfl, by decide, ?_⟩)
          | (refine ⟨rfl, rfl, rfl, ?_⟩)
          | (refine ⟨rfl, rfl, ?_⟩)
          | (refine ⟨_, _, rfl, _, rfl, ?_⟩)
          | (refine And.intro (Nat.le_of_ble_eq_true rfl) ?_)
          | (refine And.intro (by omega) ?_)
          | (refine ⟨_, _, rfl, rfl, _, rfl, rfl, ?_⟩)
          | (refine And.intro (by kernel_rfl) ?_)
          | (refine ⟨rfl, rfl, rfl, rfl, rfl, ?_⟩)
          | fail)
      refine ⟨k + 1, ⟨hlt, fun i hi hik => ?_⟩, (by dsimp only; omega), Weaker.to 0 rfl ⟨rfl, rfl, rfl, i64c (by simp), trivial⟩ (Nat.le_refl _) (by simp [inb_fl, inb_sl, deep_inb 0 _ hF]) rfl⟩
      by_cases hik' : i = k
      · subst hik'; exact h2
      · exact hprev i hi (by omega)
  · repeat' (first
        | (with_reducible refine wpC_skip ?_)
        | (with_reducible refine wpC_seq ?_)
        | (with_reducible refine wpC_block ?_)
        | (with_reducible refine wpC_drawL ?_)
        | (with_reducible refine wpC_opsL ?_)
        | (with_reducible refine wpC_draw ?_)
        | (with_reducible refine wpC_ops ?_)
        | (with_reducible refine wpOps_nil ?_)
        | (first
            | (with_reducible refine wpOps_cons ?_)
            | (with_reducible refine wpDraw_cons ?_)
           first
            | (with_reducible refine wpGuard_none ?_)
            | (refine wpGuard_yes rfl rfl rfl ?_)
            | (refine wpGuard_no rfl rfl rfl ?_)
            | (refine wpGuard_yes rfl rfl (by assumption) ?_)
            | (refine wpGuard_no rfl rfl (by assumption) ?_)
            | (refine wpGuard_skip rfl rfl ?_)
            | skip)
        | (with_reducible refine putS_some ?_)
        | (with_reducible refine putS_none ?_)
        | (with_reducible refine seqQ_normal ?_)
        | (refine ⟨_, rfl, ?_⟩)
        | (refine guardYes (by assumption) ?_)
        | (refine guardYes rfl ?_)
        | (refine guardNo rfl ?_)
        | (refine guardNo (by assumption) ?_)
        | (refine ⟨_, _, rfl, by decide, ?_⟩)
        | (refine ⟨rfl, rfl, rfl, ?_⟩)
        | (refine ⟨rfl, rfl, ?_⟩)
        | (refine ⟨_, _, rfl, _, rfl, ?_⟩)
        | (refine And.intro (Nat.le_of_ble_eq_true rfl) ?_)
        | (refine And.intro (by omega) ?_)
        | (refine ⟨_, _, rfl, rfl, _, rfl, rfl, ?_⟩)
        | (refine And.intro (by kernel_rfl) ?_)
        | (refine ⟨rfl, rfl, rfl, rfl, rfl, ?_⟩)
        | fail)
    refine ⟨[_], ⟨Fz.deep rfl, trivial⟩, ?_⟩
    have : k = l.length := by simp at h; omega
    rw [idxF_none fun i hi => hprev i hi (by omega)]; rfl

theorem containsFunc91_c (one : Bool) (g : FuncId) (fs cs : List AV) (hF : (AV.fn g fs cs).deep = true) (p : Kind → Bool) (l : List Kind) (full : Bool) (hl : l.length ≤ maxLen) (hp : ∀ x ∈ l, PureV TT TB one (.fn g fs cs) [.ag (eKind x)] (BB (p x))) :
    Pu one 91 [.sl (l.map eKind) full, .fn g fs cs] (BB (l.any p)) := by
  refine PureV.body (fn := Try.f91) rfl rfl rfl rfl ?_
  refine wpC_sound (mu := fun _ => false) ?_
  repeat' (first
      | (with_reducible refine wpC_skip ?_)
      | (with_reducible refine wpC_seq ?_)
      | (with_reducible refine wpC_block ?_)
      | (with_reducible refine wpC_drawL ?_)
      | (with_reducible refine wpC_opsL ?_)
      | (with_reducible refine wpC_draw ?_)
      | (with_reducible refine wpC_ops ?_)
      | (with_reducible refine wpOps_nil ?_)
      | (first
          | (with_reducible refine wpOps_cons ?_)
          | (with_reducible refine wpDraw_cons ?_)
         first
          | (with_reducible refine wpGuard_none ?_)
          | (refine wpGuard_yes rfl rfl rfl ?_)
          | (refine wpGuard_no rfl rfl rfl ?_)
          | (refine wpGuard_yes rfl rfl (by assumption) ?_)
          | (refine wpGuard_no rfl rfl (by assumption) ?_)
          | (refine wpGuard_skip rfl rfl ?_)
          | skip)
      | (with_reducible refine putS_some ?_)
      | (with_reducible refine putS_none ?_)
      | (with_reducible refine seqQ_normal ?_)
      | (refine ⟨_, rfl, ?_⟩)
      | (refine guardYes (by assumption) ?_)
      | (refine guardYes rfl ?_)
      | (refine guardNo rfl ?_)
      | (refine guardNo (by assumption) ?_)
      | (refine ⟨_, _, rfl, by decide, ?_⟩)
      | (refine ⟨rfl, rfl, rfl, ?_⟩)
      | (refine ⟨rfl, rfl, ?_⟩)
      | (refine ⟨_, _, rfl, _, rfl, ?_⟩)
      | (refine And.intro (Nat.le_of_ble_eq_true rfl) ?_)
      | (refine And.intro (by omega) ?_)
      | (refine ⟨_, _, rfl, rfl, _, rfl, rfl, ?_⟩)
      | (refine And.intro (by kernel_rfl) ?_)
      | (refine ⟨rfl, rfl, rfl, rfl, rfl, ?_⟩)
      | fail)
  refine PureV.call (indexFunc113_c one g fs cs hF p l full hl hp) rfl (by simp only [deepL, AV.deep, Bool.and_true, Bool.true_and]; exact hF) ?_
  repeat' (first
      | (with_reducible refine wpC_skip ?_)
      | (with_reducible refine wpC_seq ?_)
      | (with_reducible refine wpC_block ?_)
      | (with_reducible refine wpC_drawL ?_)
      | (with_reducible refine wpC_opsL ?_)
      | (with_reducible refine wpC_draw ?_)
      | (with_reducible refine wpC_ops ?_)
      | (with_reducible refine wpOps_nil ?_)
      | (first
          | (with_reducible refine wpOps_cons ?_)
          | (with_reducible refine wpDraw_cons ?_)
         first
          | (with_reducible refine wpGuard_none ?_)
          | (refine wpGuard_yes rfl rfl rfl ?_)
          | (refine wpGuard_no rfl rfl rfl ?_)
          | (refine wpGuard_yes rfl rfl (by assumption) ?_)
          | (refine wpGuard_no rfl rfl (by assumption) ?_)
          | (refine wpGuard_skip rfl rfl ?_)
          | skip)
      | (with_reducible refine putS_some ?_)
      | (with_reducible refine putS_none ?_)
      | (with_reducible refine seqQ_normal ?_)
      | (refine ⟨_, rfl, ?_⟩)
      | (refine guardYes (by assumption) ?_)
      | (refine guardYes rfl ?_)
      | (refine guardNo rfl ?_)
      | (refine guardNo (by assumption) ?_)
      | (refine ⟨_, _, rfl, by decide, ?_⟩)
      | (refine ⟨rfl, rfl, rfl, ?_⟩)
      | (refine ⟨rfl, rfl, ?_⟩)
      | (refine ⟨_, _, rfl, _, rfl, ?_⟩)
      | (refine And.intro (Nat.le_of_ble_eq_true rfl) ?_)
      | (refine And.intro (by omega) ?_)
      | (refine ⟨_, _, rfl, rfl, _, rfl, rfl, ?_⟩)
      | (refine And.intro (by kernel_rfl) ?_)
      | (refine ⟨rfl, rfl, rfl, rfl, rfl, ?_⟩)
      | fail)
  refine ⟨[_], ⟨Fz.deep rfl, trivial⟩, ?_⟩
  rw [← idxF_ge]; rfl

theorem indexFunc116_c (one : Bool) (g : FuncId) (fs cs : List AV) (hF : (AV.fn g fs cs).deep = true) (p : Count → Bool) (l : List Count) (full : Bool) (hl : l.length ≤ maxLen) (hp : ∀ x ∈ l, PureV TT TB one (.fn g fs cs) [.ag (eCount x)] (BB (p x))) :
    Pu one 116 [.sl (l.map eCount) full, .fn g fs cs] (I64 (idxF p l)) := by
  unfold maxLen at hl
  refine PureV.body (fn := Try.f116) rfl rfl rfl rfl ?_
  refine wpC_sound (mu := fun _ => false) ?_
  repeat' (first
      | (with_reducible refine wpC_skip ?_)
      | (with_reducible refine wpC_seq ?_)
      | (with_reducible refine wpC_block ?_)
      | (with_reducible refine wpC_drawL ?_)
      | (with_reducible refine wpC_opsL ?_)
      | (with_reducible refine wpC_draw ?_)
      | (with_reducible refine wpC_ops ?_)
      | (with_reducible refine wpOps_nil ?_)
      | (first
          | (with_reducible refine wpOps_cons ?_)
          | (with_reducible refine wpDraw_cons ?_)
         first
          | (with_reducible refine wpGuard_none ?_)
          | (refine wpGuard_yes rfl rfl rfl ?_)
          | (refine wpGuard_no rfl rfl rfl ?_)
          | (refine wpGuard_yes rfl rfl (by assumption) ?_)
          | (refine wpGuard_no rfl rfl (by assumption) ?_)
          | (refine wpGuard_skip rfl rfl ?_)
          | skip)
      | (with_reducible refine putS_some ?_)
      | (with_reducible refine putS_none ?_)
      | (with_reducible refine seqQ_normal ?_)
      | (refine ⟨_, rfl, ?_⟩)
      | (refine guardYes (by assumption) ?_)
      | (refine guardYes rfl ?_)
      | (refine guardNo rfl ?_)
      | (refine guardNo (by assumption) ?_)
      | (refine ⟨_, _, rfl, by decide, ?_⟩)
      | (refine ⟨rfl, rfl, rfl, ?_⟩)
      | (refine ⟨rfl, rfl, ?_⟩)
      | (refine ⟨_, _, rfl, _, rfl, ?_⟩)
      | (refine And.intro (Nat.le_of_ble_eq_true rfl) ?_)
      | (refine And.intro (by omega) ?_)
      | (refine ⟨_, _, rfl, rfl, _, rfl, rfl, ?_⟩)
      | (refine And.intro (by kernel_rfl) ?_)
      | (refine ⟨rfl, rfl, rfl, rfl, rfl, ?_⟩)
      | fail)
  refine SemC.weaker (Weaker.to (l := [(0, .sl (l.map eCount) full), (1, .fn g fs cs), (7, I64 l.length), (8, I64 ((0 : Nat) : Int))]) 0 rfl ⟨rfl, rfl, i64c (by simp), rfl, trivial⟩ (Nat.le_refl _) (by simp [inb_fl, inb_sl, deep_inb 0 _ hF]) rfl) ?_
  refine SemC.loop (fun k : Nat => k ≤ l.length ∧ ∀ i (h : i < l.length), i < k → p l[i] = false) (fun k => ⟨mkFr [(0, .sl (l.map eCount) full), (1, .fn g fs cs), (7, I64 l.length), (8, I64 (k : Int))], [], Amb.none, false, 0⟩) (fun k => l.length - k) ?_ 0 ⟨Nat.zero_le _, fun i _ hi => absurd hi (by omega)⟩
  intro k ⟨hk, hprev⟩
  refine wpC_sound (mu := fun _ => false) ?_
  refine ⟨fun h => ?_, fun h => ?_⟩
  · have hlt : k < l.length := by simpa using h
    repeat' (first
        | (with_reducible refine wpC_skip ?_)
        | (with_reducible refine wpC_seq ?_)
        | (with_reducible refine wpC_block ?_)
        | (with_reducible refine wpC_drawL ?_)
        | (with_reducible refine wpC_opsL ?_)
        | (with_reducible refine wpC_draw ?_)
        | (with_reducible refine wpC_ops ?_)
        | (with_reducible refine wpOps_nil ?_)
        | (first
            | (with_reducible refine wpOps_cons ?_)
            | (with_reducible refine wpDraw_cons ?_)
           first
            | (with_reducible refine wpGuard_none ?_)
            | (refine wpGuard_yes rfl rfl rfl ?_)
            | (refine wpGuard_no rfl rfl rfl ?_)
            | (refine wpGuard_yes rfl rfl (by assumption) ?_)
            | (refine wpGuard_no rfl rfl (by assumption) ?_)
            | (refine wpGuard_skip rfl rfl ?_)
            | skip)
        | (with_reducible refine putS_some ?_)
        | (with_reducible refine putS_none ?_)
        | (with_reducible refine seqQ_normal ?_)
        | (refine ⟨_, rfl, ?_⟩)
        | (refine guardYes (by assumption) ?_)
        | (refine guardYes rfl ?_)
        | (refine guardNo rfl ?_)
        | (refine guardNo (by assumption) ?_)
        | (refine ⟨_, _, rfl, by decide, ?_⟩)
        | (refine ⟨rfl, rfl, rfl, ?_⟩)
        | (refine ⟨rfl, rfl, ?_⟩)
        | (refine ⟨_, _, rfl, _, rfl, ?_⟩)
        | (refine And.intro (Nat.le_of_ble_eq_true rfl) ?_)
        | (refine And.intro (by omega) ?_)
        | (refine ⟨_, _, rfl, rfl, _, rfl, rfl, ?_⟩)
        | (refine And.intro (by kernel_rfl) ?_)
        | (refine ⟨rfl, rfl, rfl, rfl, rfl, ?_⟩)
        | fail)
    refine ⟨eCount l[k], ⟨by omega, by simp [hlt]⟩, rfl, ?_⟩
    repeat' (first
        | (with_reducible refine wpC_skip ?_)
        | (with_reducible refine wpC_seq ?_)
        | (with_reducible refine wpC_block ?_)
        | (with_reducible refine wpC_drawL ?_)
        | (with_reducible refine wpC_opsL ?_)
        | (with_reducible refine wpC_draw ?_)
        | (with_reducible refine wpC_ops ?_)
        | (with_reducible refine wpOps_nil ?_)
        | (first
            | (with_reducible refine wpOps_cons ?_)
            | (with_reducible refine wpDraw_cons ?_)
           first
            | (with_reducible refine wpGuard_none ?_)
            | (refine wpGuard_yes rfl rfl rfl ?_)
            | (refine wpGuard_no rfl rfl rfl ?_)
            | (refine wpGuard_yes rfl rfl (by assumption) ?_)
            | (refine wpGuard_no rfl rfl (by assumption) ?_)
            | (refine wpGuard_skip rfl rfl ?_)
            | skip)
        | (with_reducible refine putS_some ?_)
        | (with_reducible refine putS_none ?_)
        | (with_reducible refine seqQ_normal ?_)
        | (refine ⟨_, rfl, ?_⟩)
        | (refine guardYes (by assumption) ?_)
        | (refine guardYes rfl ?_)
        | (refine guardNo rfl ?_)
        | (refine guardNo (by assumption) ?_)
        | (refine ⟨_, _, rfl, by decide, ?_⟩)
        | (refine ⟨rfl, rfl, rfl, ?_⟩)
        | (refine ⟨rfl, rfl, ?_⟩)
        | (refine ⟨_, _, rfl, _, rfl, ?_⟩)
        | (refine And.intro (Nat.le_of_ble_eq_true rfl) ?_)
        | (refine And.intro (by omega) ?_)
        | (refine ⟨_, _, rfl, rfl, _, rfl, rfl, ?_⟩)
        | (refine And.intro (by kernel_rfl) ?_)
        | (refine ⟨rfl, rfl, rfl, rfl, rfl, ?_⟩)
        | fail)
    refine PureV.call (hp l[k] (List.getElem_mem _)) hF rfl ?_
    refine ⟨fun h2 => ?_, fun h2 => ?_⟩
    · repeat' (first
          | (with_reducible refine wpC_skip ?_)
          | (with_reducible refine wpC_seq ?_)
          | (with_reducible refine wpC_block ?_)
          | (with_reducible refine wpC_drawL ?_)
          | (with_reducible refine wpC_opsL ?_)
          | (with_reducible refine wpC_draw ?_)
          | (with_reducible refine wpC_ops ?_)
          | (with_reducible refine wpOps_nil ?_)
          | (first
              | (with_reducible refine wpOps_cons ?_)
              | (with_reducible refine wpDraw_cons ?_)
             first
              | (with_reducible refine wpGuard_none ?_)
              | (refine wpGuard_yes rfl rfl rfl ?_)
              | (refine wpGuard_no rfl rfl rfl ?_)
              | (refine wpGuard_yes rfl rfl (by assumption) ?_)
              | (refine wpGuard_no rfl rfl (by assumption) ?_)
              | (refine wpGuard_skip rfl rfl ?_)
              | skip)
          | (with_reducible refine putS_some ?_)
          | (with_reducible refine putS_none ?_)
          | (with_reducible refine seqQ_normal ?_)
          | (refine ⟨_, rfl, ?_⟩)
          | (refine guardYes (by assumption) ?_)
          | (refine guardYes rfl ?_)
          | (refine guardNo rfl ?_)
          | (refine guardNo (by assumption) ?_)
          | (refine ⟨_, _, rfl, by decide, ?_⟩)
          | (refine ⟨rfl, rfl, rfl, ?_⟩)
          | (refine ⟨rfl, rfl, ?_⟩)
          | (refine ⟨_, _, rfl, _, rfl, ?_⟩)
          | (refine And.intro (Nat.le_of_ble_eq_true rfl) ?_)
          | (refine And.intro (by omega) ?_)
          | (refine ⟨_, _, rfl, rfl, _, rfl, rfl, ?_⟩)
          | (refine And.intro (by kernel_rfl) ?_)
          | (refine ⟨rfl, rfl, rfl, rfl, rfl, ?_⟩)
          | fail)
      refine ⟨[_], ⟨Fz.deep rfl, trivial⟩, ?_⟩
      rw [idxF_here hlt hprev h2]; rfl
    · repeat' (first
          | (with_reducible refine wpC_skip ?_)
          | (with_reducible refine wpC_seq ?_)
          | (with_reducible refine wpC_block ?_)
          | (with_reducible refine wpC_drawL ?_)
          | (with_reducible refine wpC_opsL ?_)
          | (with_reducible refine wpC_draw ?_)
          | (with_reducible refine wpC_ops ?_)
          | (with_reducible refine wpOps_nil ?_)
          | (first
              | (with_reducible refine wpOps_cons ?_)
              | (with_reducible refine wpDraw_cons ?_)
             first
              | (with_reducible refine wpGuard_none ?_)
              | (refine wpGuard_yes rfl rfl rfl ?_)
              | (refine wpGuard_no rfl rfl rfl ?_)
              | (refine wpGuard_yes rfl rfl (by assumption) ?_)
              | (refine wpGuard_no rfl rfl (by assumption) ?_)
              | (refine wpGuard_skip rfl rfl ?_)
              | skip)
          | (with_reducible refine putS_some ?_)
          | (with_reducible refine putS_none ?_)
          | (with_reducible refine seqQ_normal ?_)
          | (refine ⟨_, rfl, ?_⟩)
          | (refine guardYes (by assumption) ?_)
          | (refine guardYes rfl ?_)
          | (refine guardNo rfl ?_)
          | (refine guardNo (by assumption) ?_)
          | (refine ⟨_, _, rfl, by decide, ?_⟩)
          | (refine ⟨rfl, rfl, rfl, ?_⟩)
          | (refine ⟨rfl, rfl, ?_⟩)
          | (refine ⟨_, _, rfl, _, rfl, ?_⟩)
          | (refine And.intro (Nat.le_of_ble_eq_true rfl) ?_)
          | (refine And.intro (by omega) ?_)
          | (refine ⟨_, _, rfl, rfl, _, rfl, rfl, ?_⟩)
          | (refine And.intro (by kernel_rfl) ?_)
          | (refine ⟨rfl, rfl, rfl, rfl, rfl, ?_⟩)
          | fail)
      refine ⟨k + 1, ⟨hlt, fun i hi hik => ?_⟩, (by dsimp only; omega), Weaker.to 0 rfl ⟨rfl, rfl, rfl, i64c (by simp), trivial⟩ (Nat.le_refl _) (by simp [inb_fl, inb_sl, deep_inb 0 _ hF]) rfl⟩
      by_cases hik' : i = k
      · subst hik'; exact h2
      · exact hprev i hi (by omega)
  · repeat' (first
        | (with_reducible refine wpC_skip ?_)
        | (with_reducible refine wpC_seq ?_)
        | (with_reducible refine wpC_block ?_)
        | (with_reducible refine wpC_drawL ?_)
        | (with_reducible refine wpC_opsL ?_)
        | (with_reducible refine wpC_draw ?_)
        | (with_reducible refine wpC_ops ?_)
        | (with_reducible refine wpOps_nil ?_)
        | (first
            | (with_reducible refine wpOps_cons ?_)
            | (with_reducible refine wpDraw_cons ?_)
           first
            | (with_reducible refine wpGuard_none ?_)
            | (refine wpGuard_yes rfl rfl rfl ?_)
            | (refine wpGuard_no rfl rfl rfl ?_)
            | (refine wpGuard_yes rfl rfl (by assumption) ?_)
            | (refine wpGuard_no rfl rfl (by assumption) ?_)
            | (refine wpGuard_skip rfl rfl ?_)
            | skip)
        | (with_reducible refine putS_some ?_)
        | (with_reducible refine putS_none ?_)
        | (with_reducible refine seqQ_normal ?_)
        | (refine ⟨_, rfl, ?_⟩)
        | (refine guardYes (by assumption) ?_)
        | (refine guardYes rfl ?_)
        | (refine guardNo rfl ?_)
        | (refine guardNo (by assumption) ?_)
        | (refine ⟨_, _, rfl, by decide, ?_⟩)
        | (refine ⟨rfl, rfl, rfl, ?_⟩)
        | (refine ⟨rfl, rfl, ?_⟩)
        | (refine ⟨_, _, rfl, _, rfl, ?_⟩)
        | (refine And.intro (Nat.le_of_ble_eq_true rfl) ?_)
        | (refine And.intro (by omega) ?_)
        | (refine ⟨_, _, rfl, rfl, _, rfl, rfl, ?_⟩)
        | (refine And.intro (by kernel_rfl) ?_)
        | (refine ⟨rfl, rfl, rfl, rfl, rfl, ?_⟩)
        | fail)
    refine ⟨[_], ⟨Fz.deep rfl, trivial⟩, ?_⟩
    have : k = l.length := by simp at h; omega
    rw [idxF_none fun i hi => hprev i hi (by omega)]; rfl

theorem containsFunc98_c (one : Bool) (g : FuncId) (fs cs : List AV) (hF : (AV.fn g fs cs).deep = true) (p : Count → Bool) (l : List Count) (full : Bool) (hl : l.length ≤ maxLen) (hp : ∀ x ∈ l, PureV TT TB one (.fn g fs cs) [.ag (eCount x)] (BB (p x))) :
    Pu one 98 [.sl (l.map eCount) full, .fn g fs cs] (BB (l.any p)) := by
  refine PureV.body (fn := Try.f98) rfl rfl rfl rfl ?_
  refine wpC_sound (mu := fun _ => false) ?_
  repeat' (first
      | (with_reducible refine wpC_skip ?_)
      | (with_reducible refine wpC_seq ?_)
      | (with_reducible refine wpC_block ?_)
      | (with_reducible refine wpC_drawL ?_)
      | (with_reducible refine wpC_opsL ?_)
      | (with_reducible refine wpC_draw ?_)
      | (with_reducible refine wpC_ops ?_)
      | (with_reducible refine wpOps_nil ?_)
      | (first
          | (with_reducible refine wpOps_cons ?_)
          | (with_reducible refine wpDraw_cons ?_)
         first
          | (with_reducible refine wpGuard_none ?_)
          | (refine wpGuard_yes rfl rfl rfl ?_)
          | (refine wpGuard_no rfl rfl rfl ?_)
          | (refine wpGuard_yes rfl rfl (by assumption) ?_)
          | (refine wpGuard_no rfl rfl (by assumption) ?_)
          | (refine wpGuard_skip rfl rfl ?_)
          | skip)
      | (with_reducible refine putS_some ?_)
      | (with_reducible refine putS_none ?_)
      | (with_reducible refine seqQ_normal ?_)
      | (refine ⟨_, rfl, ?_⟩)
      | (refine guardYes (by assumption) ?_)
      | (refine guardYes rfl ?_)
      | (refine guardNo rfl ?_)
      | (refine guardNo (by assumption) ?_)
      | (refine ⟨_, _, rfl, by decide, ?_⟩)
      | (refine ⟨rfl, rfl, rfl, ?_⟩)
      | (refine ⟨rfl, rfl, ?_⟩)
      | (refine ⟨_, _, rfl, _, rfl, ?_⟩)
      | (refine And.intro (Nat.le_of_ble_eq_true rfl) ?_)
      | (refine And.intro (by omega) ?_)
      | (refine ⟨_, _, rfl, rfl, _, rfl, rfl, ?_⟩)
      | (refine And.intro (by kernel_rfl) ?_)
      | (refine ⟨rfl, rfl, rfl, rfl, rfl, ?_⟩)
      | fail)
  refine PureV.call (indexFunc116_c one g fs cs hF p l full hl hp) rfl (by simp only [deepL, AV.deep, Bool.and_true, Bool.true_and]; exact hF) ?_
  repeat' (first
      | (with_reducible refine wpC_skip ?_)
      | (with_reducible refine wpC_seq ?_)
      | (with_reducible refine wpC_block ?_)
      | (with_reducible refine wpC_drawL ?_)
      | (with_reducible refine wpC_opsL ?_)
      | (with_reducible refine wpC_draw ?_)
      | (with_reducible refine wpC_ops ?_)
      | (with_reducible refine wpOps_nil ?_)
      | (first
          | (with_reducible refine wpOps_cons ?_)
          | (with_reducible refine wpDraw_cons ?_)
         first
          | (with_reducible refine wpGuard_none ?_)
          | (refine wpGuard_yes rfl rfl rfl ?_)
          | (refine wpGuard_no rfl rfl rfl ?_)
          | (refine wpGuard_yes rfl rfl (by assumption) ?_)
          | (refine wpGuard_no rfl rfl (by assumption) ?_)
          | (refine wpGuard_skip rfl rfl ?_)
          | skip)
      | (with_reducible refine putS_some ?_)
      | (with_reducible refine putS_none ?_)
      | (with_reducible refine seqQ_normal ?_)
      | (refine ⟨_, rfl, ?_⟩)
      | (refine guardYes (by assumption) ?_)
      | (refine guardYes rfl ?_)
      | (refine guardNo rfl ?_)
      | (refine guardNo (by assumption) ?_)
      | (refine ⟨_, _, rfl, by decide, ?_⟩)
      | (refine ⟨rfl, rfl, rfl, ?_⟩)
      | (refine ⟨rfl, rfl, ?_⟩)
      | (refine ⟨_, _, rfl, _, rfl, ?_⟩)
      | (refine And.intro (Nat.le_of_ble_eq_true rfl) ?_)
      | (refine And.intro (by omega) ?_)
      | (refine ⟨_, _, rfl, rfl, _, rfl, rfl, ?_⟩)
      | (refine And.intro (by kernel_rfl) ?_)
      | (refine ⟨rfl, rfl, rfl, rfl, rfl, ?_⟩)
      | fail)
  refine ⟨[_], ⟨Fz.deep rfl, trivial⟩, ?_⟩
  rw [← idxF_ge]; rfl

theorem indexFunc117_c (one : Bool) (g : FuncId) (fs cs : List AV) (hF : (AV.fn g fs cs).deep = true) (p : Truth → Bool) (l : List Truth) (full : Bool) (hl : l.length ≤ maxLen) (hp : ∀ x ∈ l, PureV TT TB one (.fn g fs cs) [.ag (eTruth x)] (BB (p x))) :
    Pu one 117 [.sl (l.map eTruth) full, .fn g fs cs] (I64 (idxF p l)) := by
  unfold maxLen at hl
  refine PureV.body (fn := Try.f117) rfl rfl rfl rfl ?_
  refine wpC_sound (mu := fun _ => false) ?_
  repeat' (first
      | (with_reducible refine wpC_skip ?_)
      | (with_reducible refine wpC_seq ?_)
      | (with_reducible refine wpC_block ?_)
      | (with_reducible refine wpC_drawL ?_)
      | (with_reducible refine wpC_opsL ?_)
      | (with_reducible refine wpC_draw ?_)
      | (with_reducible refine wpC_ops ?_)
      | (with_reducible refine wpOps_nil ?_)
      | (first
          | (with_reducible refine wpOps_cons ?_)
          | (with_reducible refine wpDraw_cons ?_)
         first
          | (with_reducible refine wpGuard_none ?_)
          | (refine wpGuard_yes rfl rfl rfl ?_)
          | (refine wpGuard_no rfl rfl rfl ?_)
          | (refine wpGuard_yes rfl rfl (by assumption) ?_)
          | (refine wpGuard_no rfl rfl (by assumption) ?_)
          | (refine wpGuard_skip rfl rfl ?_)
          | skip)
      | (with_reducible refine putS_some ?_)
      | (with_reducible refine putS_none ?_)
      | (with_reducible refine seqQ_normal ?_)
      | (refine ⟨_, rfl, ?_⟩)
      | (refine guardYes (by assumption) ?_)
      | (refine guardYes rfl ?_)
      | (refine guardNo rfl ?_)
      | (refine guardNo (by assumption) ?_)
      | (refine ⟨_, _, rfl, by decide, ?_⟩)
      | (refine ⟨rfl, rfl, rfl, ?_⟩)
      | (refine ⟨rfl, rfl, ?_⟩)
      | (refine ⟨_, _, rfl, _, rfl, ?_⟩)
      | (refine And.intro (Nat.le_of_ble_eq_true rfl) ?_)
      | (refine And.intro (by omega) ?_)
      | (refine ⟨_, _, rfl, rfl, _, rfl, rfl, ?_⟩)
      | (refine And.intro (by kernel_rfl) ?_)
      | (refine ⟨rfl, rfl, rfl, rfl, rfl, ?_⟩)
      | fail)
  refine SemC.weaker (Weaker.to (l := [(0, .sl (l.map eTruth) full), (1, .fn g fs cs), (7, I64 l.length), (8, I64 ((0 : Nat) : Int))]) 0 rfl ⟨rfl, rfl, i64c (by simp), rfl, trivial⟩ (Nat.le_refl _) (by simp [inb_fl, inb_sl, deep_inb 0 _ hF]) rfl) ?_
  refine SemC.loop (fun k : Nat => k ≤ l.length ∧ ∀ i (h : i < l.length), i < k → p l[i] = false) (fun k => ⟨mkFr [(0, .sl (l.map eTruth) full), (1, .fn g fs cs), (7, I64 l.length), (8, I64 (k : Int))], [], Amb.none, false, 0⟩) (fun k => l.length - k) ?_ 0 ⟨Nat.zero_le _, fun i _ hi => absurd hi (by omega)⟩
  intro k ⟨hk, hprev⟩
  refine wpC_sound (mu := fun _ => false) ?_
  refine ⟨fun h => ?_, fun h => ?_⟩
  · have hlt : k < l.length := by simpa using h
    repeat' (first
        | (with_reducible refine wpC_skip ?_)
        | (with_reducible refine wpC_seq ?_)
        | (with_reducible refine wpC_block ?_)
        | (with_reducible refine wpC_drawL ?_)
        | (with_reducible refine wpC_opsL ?_)
        | (with_reducible refine wpC_draw ?_)
        | (with_reducible refine wpC_ops ?_)
        | (with_reducible refine wpOps_nil ?_)
        | (first
            | (with_reducible refine wpOps_cons ?_)
            | (with_reducible refine wpDraw_cons ?_)
           first
            | (with_reducible refine wpGuard_none ?_)
            | (refine wpGuard_yes rfl rfl rfl ?_)
            | (refine wpGuard_no rfl rfl rfl ?_)
            | (refine wpGuard_yes rfl rfl (by assumption) ?_)
            | (refine wpGuard_no rfl rfl (by assumption) ?_)
            | (refine wpGuard_skip rfl rfl ?_)
            | skip)
        | (with_reducible refine putS_some ?_)
        | (with_reducible refine putS_none ?_)
        | (with_reducible refine seqQ_normal ?_)
        | (refine ⟨_, rfl, ?_⟩)
        | (refine guardYes (by assumption) ?_)
        | (refine guardYes rfl ?_)
        | (refine guardNo rfl ?_)
        | (refine guardNo (by assumption) ?_)
        | (refine ⟨_, _, rfl, by decide, ?_⟩)
        | (refine ⟨rfl, rfl, rfl, ?_⟩)
        | (refine ⟨rfl, rfl, ?_⟩)
        | (refine ⟨_, _, rfl, _, rfl, ?_⟩)
        | (refine And.intro (Nat.le_of_ble_eq_true rfl) ?_)
        | (refine And.intro (by omega) ?_)
        | (refine ⟨_, _, rfl, rfl, _, rfl, rfl, ?_⟩)
        | (refine And.intro (by kernel_rfl) ?_)
        | (refine ⟨rfl, rfl, rfl, rfl, rfl, ?_⟩)
        | fail)
    refine ⟨eTruth l[k], ⟨by omega, by simp [hlt]⟩, rfl, ?_⟩
    repeat' (first
        | (with_reducible refine wpC_skip ?_)
        | (with_reducible refine wpC_seq ?_)
        | (with_reducible refine wpC_block ?_)
        | (with_reducible refine wpC_drawL ?_)
        | (with_reducible refine wpC_opsL ?_)
        | (with_reducible refine wpC_draw ?_)
        | (with_reducible refine wpC_ops ?_)
        | (with_reducible refine wpOps_nil ?_)
        | (first
            | (with_reducible refine wpOps_cons ?_)
            | (with_reducible refine wpDraw_cons ?_)
           first
            | (with_reducible refine wpGuard_none ?_)
            | (refine wpGuard_yes rfl rfl rfl ?_)
            | (refine wpGuard_no rfl rfl rfl ?_)
            | (refine wpGuard_yes rfl rfl (by assumption) ?_)
            | (refine wpGuard_no rfl rfl (by assumption) ?_)
            | (refine wpGuard_skip rfl rfl ?_)
            | skip)
        | (with_reducible refine putS_some ?_)
        | (with_reducible refine putS_none ?_)
        | (with_reducible refine seqQ_normal ?_)
        | (refine ⟨_, rfl, ?_⟩)
        | (refine guardYes (by assumption) ?_)
        | (refine guardYes rfl ?_)
        | (refine guardNo rfl ?_)
        | (refine guardNo (by assumption) ?_)
        | (refine ⟨_, _, rfl, by decide, ?_⟩)
        | (refine ⟨rfl, rfl, rfl, ?_⟩)
        | (refine ⟨rfl, rfl, ?_⟩)
        | (refine ⟨_, _, rfl, _, rfl, ?_⟩)
        | (refine And.intro (Nat.le_of_ble_eq_true rfl) ?_)
        | (refine And.intro (by omega) ?_)
        | (refine ⟨_, _, rfl, rfl, _, rfl, rfl, ?_⟩)
        | (refine And.intro (by kernel_rfl) ?_)
        | (refine ⟨rfl, rfl, rfl, rfl, rfl, ?_⟩)
        | fail)
    refine PureV.call (hp l[k] (List.getElem_mem _)) hF rfl ?_
    refine ⟨fun h2 => ?_, fun h2 => ?_⟩
    · repeat' (first
          | (with_reducible refine wpC_skip ?_)
          | (with_reducible refine wpC_seq ?_)
          | (with_reducible refine wpC_block ?_)
          | (with_reducible refine wpC_drawL ?_)
          | (with_reducible refine wpC_opsL ?_)
          | (with_reducible refine wpC_draw ?_)
          | (with_reducible refine wpC_ops ?_)
          | (with_reducible refine wpOps_nil ?_)
          | (first
              | (with_reducible refine wpOps_cons ?_)
              | (with_reducible refine wpDraw_cons ?_)
             first
              | (with_reducible refine wpGuard_none ?_)
              | (refine wpGuard_yes rfl rfl rfl ?_)
              | (refine wpGuard_no rfl rfl rfl ?_)
              | (refine wpGuard_yes rfl rfl (by assumption) ?_)
              | (refine wpGuard_no rfl rfl (by assumption) ?_)
              | (refine wpGuard_skip rfl rfl ?_)
              | skip)
          | (with_reducible refine putS_some ?_)
          | (with_reducible refine putS_none ?_)
          | (with_reducible refine seqQ_normal ?_)
          | (refine ⟨_, rfl, ?_⟩)
          | (refine guardYes (by assumption) ?_)
          | (refine guardYes rfl ?_)
          | (refine guardNo rfl ?_)
          | (refine guardNo (by assumption) ?_)
          | (refine ⟨_, _, rfl, by decide, ?_⟩)
          | (refine ⟨rfl, rfl, rfl, ?_⟩)
          | (refine ⟨rfl, rfl, ?_⟩)
          | (refine ⟨_, _, rfl, _, rfl, ?_⟩)
          | (refine And.intro (Nat.le_of_ble_eq_true rfl) ?_)
          | (refine And.intro (by omega) ?_)
          | (refine ⟨_, _, rfl, rfl, _, rfl, rfl, ?_⟩)
          | (refine And.intro (by kernel_rfl) ?_)
          | (refine ⟨rfl, rfl, rfl, rfl, rfl, ?_⟩)
          | fail)
      refine ⟨[_], ⟨Fz.deep rfl, trivial⟩, ?_⟩
      rw [idxF_here hlt hprev h2]; rfl
    · repeat' (first
          | (with_reducible refine wpC_skip ?_)
          | (with_reducible refine wpC_seq ?_)
          | (with_reducible refine wpC_block ?_)
          | (with_reducible refine wpC_drawL ?_)
          | (with_reducible refine wpC_opsL ?_)
          | (with_reducible refine wpC_draw ?_)
          | (with_reducible refine wpC_ops ?_)
          | (with_reducible refine wpOps_nil ?_)
          | (first
              | (with_reducible refine wpOps_cons ?_)
              | (with_reducible refine wpDraw_cons ?_)
             first
              | (with_reducible refine wpGuard_none ?_)
              | (refine wpGuard_yes rfl rfl rfl ?_)
              | (refine wpGuard_no rfl rfl rfl ?_)
              | (refine wpGuard_yes rfl rfl (by assumption) ?_)
              | (refine wpGuard_no rfl rfl (by assumption) ?_)
              | (refine wpGuard_skip rfl rfl ?_)
              | skip)
          | (with_reducible refine putS_some ?_)
          | (with_reducible refine putS_none ?_)
          | (with_reducible refine seqQ_normal ?_)
          | (refine ⟨_, rfl, ?_⟩)
          | (refine guardYes (by assumption) ?_)
          | (refine guardYes rfl ?_)
          | (refine guardNo rfl ?_)
          | (refine guardNo (by assumption) ?_)
          | (refine ⟨_, _, rfl, by decide, ?_⟩)
          | (refine ⟨rfl, rfl, rfl, ?_⟩)
          | (refine ⟨rfl, rfl, ?_⟩)
          | (refine ⟨_, _, rfl, _, rfl, ?_⟩)
          | (refine And.intro (Nat.le_of_ble_eq_true rfl) ?_)
          | (refine And.intro (by omega) ?_)
          | (refine ⟨_, _, rfl, rfl, _, rfl, rfl, ?_⟩)
          | (refine And.intro (by kernel_rfl) ?_)
          | (refine ⟨rfl, rfl, rfl, rfl, rfl, ?_⟩)
          | fail)
      refine ⟨k + 1, ⟨hlt, fun i hi hik => ?_⟩, (by dsimp only; omega), Weaker.to 0 rfl ⟨rfl, rfl, rfl, i64c (by simp), trivial⟩ (Nat.le_refl _) (by simp [inb_fl, inb_sl, deep_inb 0 _ hF]) rfl⟩
      by_cases hik' : i = k
      · subst hik'; exact h2
      · exact hprev i hi (by omega)
  · repeat' (first
        | (with_reducible refine wpC_skip ?_)
        | (with_reducible refine wpC_seq ?_)
        | (with_reducible refine wpC_block ?_)
        | (with_reducible refine wpC_drawL ?_)
        | (with_reducible refine wpC_opsL ?_)
        | (with_reducible refine wpC_draw ?_)
        | (with_reducible refine wpC_ops ?_)
        | (with_reducible refine wpOps_nil ?_)
        | (first
            | (with_reducible refine wpOps_cons ?_)
            | (with_reducible refine wpDraw_cons ?_)
           first
            | (with_reducible refine wpGuard_none ?_)
            | (refine wpGuard_yes rfl rfl rfl ?_)
            | (refine wpGuard_no rfl rfl rfl ?_)
            | (refine wpGuard_yes rfl rfl (by assumption) ?_)
            | (refine wpGuard_no rfl rfl (by assumption) ?_)
            | (refine wpGuard_skip rfl rfl ?_)
            | skip)
        | (with_reducible refine putS_some ?_)
        | (with_reducible refine putS_none ?_)
        | (with_reducible refine seqQ_normal ?_)
        | (refine ⟨_, rfl, ?_⟩)
        | (refine guardYes (by assumption) ?_)
        | (refine guardYes rfl ?_)
        | (refine guardNo rfl ?_)
        | (refine guardNo (by assumption) ?_)
        | (refine ⟨_, _, rfl, by decide, ?_⟩)
        | (refine ⟨rfl, rfl, rfl, ?_⟩)
        | (refine ⟨rfl, rfl, ?_⟩)
        | (refine ⟨_, _, rfl, _, rfl, ?_⟩)
        | (refine And.intro (Nat.le_of_ble_eq_true rfl) ?_)
        | (refine And.intro (by omega) ?_)
        | (refine ⟨_, _, rfl, rfl, _, rfl, rfl, ?_⟩)
        | (refine And.intro (by kernel_rfl) ?_)
        | (refine ⟨rfl, rfl, rfl, rfl, rfl, ?_⟩)
        | fail)
    refine ⟨[_], ⟨Fz.deep rfl, trivial⟩, ?_⟩
    have : k = l.length := by simp at h; omega
    rw [idxF_none fun i hi => hprev i hi (by omega)]; rfl

theorem containsFunc105_c (one : Bool) (g : FuncId) (fs cs : List AV) (hF : (AV.fn g fs cs).deep = true) (p : Truth → Bool) (l : List Truth) (full : Bool) (hl : l.length ≤ maxLen) (hp : ∀ x ∈ l, PureV TT TB one (.fn g fs cs) [.ag (eTruth x)] (BB (p x))) :
    Pu one 105 [.sl (l.map eTruth) full, .fn g fs cs] (BB (l.any p)) := by
  refine PureV.body (fn := Try.f105) rfl rfl rfl rfl ?_
  refine wpC_sound (mu := fun _ => false) ?_
  repeat' (first
      | (with_reducible refine wpC_skip ?_)
      | (with_reducible refine wpC_seq ?_)
      | (with_reducible refine wpC_block ?_)
      | (with_reducible refine wpC_drawL ?_)
      | (with_reducible refine wpC_opsL ?_)
      | (with_reducible refine wpC_draw ?_)
      | (with_reducible refine wpC_ops ?_)
      | (with_reducible refine wpOps_nil ?_)
      | (first
          | (with_reducible refine wpOps_cons ?_)
          | (with_reducible refine wpDraw_cons ?_)
         first
          | (with_reducible refine wpGuard_none ?_)
          | (refine wpGuard_yes rfl rfl rfl ?_)
          | (refine wpGuard_no rfl rfl rfl ?_)
          | (refine wpGuard_yes rfl rfl (by assumption) ?_)
          | (refine wpGuard_no rfl rfl (by assumption) ?_)
          | (refine wpGuard_skip rfl rfl ?_)
          | skip)
      | (with_reducible refine putS_some ?_)
      | (with_reducible refine putS_none ?_)
      | (with_reducible refine seqQ_normal ?_)
      | (refine ⟨_, rfl, ?_⟩)
      | (refine guardYes (by assumption) ?_)
      | (refine guardYes rfl ?_)
      | (refine guardNo rfl ?_)
      | (refine guardNo (by assumption) ?_)
      | (refine ⟨_, _, rfl, by decide, ?_⟩)
      | (refine ⟨rfl, rfl, rfl, ?_⟩)
      | (refine ⟨rfl, rfl, ?_⟩)
      | (refine ⟨_, _, rfl, _, rfl, ?_⟩)
      | (refine And.intro (Nat.le_of_ble_eq_true rfl) ?_)
      | (refine And.intro (by omega) ?_)
      | (refine ⟨_, _, rfl, rfl, _, rfl, rfl, ?_⟩)
      | (refine And.intro (by kernel_rfl) ?_)
      | (refine ⟨rfl, rfl, rfl, rfl, rfl, ?_⟩)
      | fail)
  refine PureV.call (indexFunc117_c one g fs cs hF p l full hl hp) rfl (by simp only [deepL, AV.deep, Bool.and_true, Bool.true_and]; exact hF) ?_
  repeat' (first
      | (with_reducible refine wpC_skip ?_)
      | (with_reducible refine wpC_seq ?_)
      | (with_reducible refine wpC_block ?_)
      | (with_reducible refine wpC_drawL ?_)
      | (with_reducible refine wpC_opsL ?_)
      | (with_reducible refine wpC_draw ?_)
      | (with_reducible refine wpC_ops ?_)
      | (with_reducible refine wpOps_nil ?_)
      | (first
          | (with_reducible refine wpOps_cons ?_)
          | (with_reducible refine wpDraw_cons ?_)
         first
          | (with_reducible refine wpGuard_none ?_)
          | (refine wpGuard_yes rfl rfl rfl ?_)
          | (refine wpGuard_no rfl rfl rfl ?_)
          | (refine wpGuard_yes rfl rfl (by assumption) ?_)
          | (refine wpGuard_no rfl rfl (by assumption) ?_)
          | (refine wpGuard_skip rfl rfl ?_)
          | skip)
      | (with_reducible refine putS_some ?_)
      | (with_reducible refine putS_none ?_)
      | (with_reducible refine seqQ_normal ?_)
      | (refine ⟨_, rfl, ?_⟩)
      | (refine guardYes (by assumption) ?_)
      | (refine guardYes rfl ?_)
      | (refine guardNo rfl ?_)
      | (refine guardNo (by assumption) ?_)
      | (refine ⟨_, _, rfl, by decide, ?_⟩)
      | (refine ⟨rfl, rfl, rfl, ?_⟩)
      | (refine ⟨rfl, rfl, ?_⟩)
      | (refine ⟨_, _, rfl, _, rfl, ?_⟩)
      | (refine And.intro (Nat.le_of_ble_eq_true rfl) ?_)
      | (refine And.intro (by omega) ?_)
      | (refine ⟨_, _, rfl, rfl, _, rfl, rfl, ?_⟩)
      | (refine And.intro (by kernel_rfl) ?_)
      | (refine ⟨rfl, rfl, rfl, rfl, rfl, ?_⟩)
      | fail)
  refine ⟨[_], ⟨Fz.deep rfl, trivial⟩, ?_⟩
  rw [← idxF_ge]; rfl

end Go.Proofs.Ytmkaeohmdcoanaa
open Go Go.RM
namespace Go.Proofs.Ytmkaeohmdcoanaa
set_option maxRecDepth 100000

def outB (lo hi : Int) (l : List Int) : Bool := l.any fun n => decide (n < lo) || decide (hi < n)

def unI : List AV → Int
  | [.fl (.int _ n)] => n
  | _ => 0
def isI : List AV → Bool
  | [.fl (.int .i64 _)] => true
  | _ => false

theorem allI : ∀ {els : List (List AV)}, els.all isI = true → els = ints (els.map unI)
  | [], _ => rfl
  | el :: els, h => by
    simp only [List.all_cons, Bool.and_eq_true] at h
    have ih := allI h.2
    have : el = eI (unI el) := by
      have h1 := h.1
      unfold isI at h1
      split at h1
      · rfl
      · cases h1
    show el :: els = eI (unI el) :: ints (els.map unI)
    rw [← this, ← ih]

theorem outside_c (one : Bool) (lo hi : Int) (els : List (List AV)) (full : Bool) (h : els.all isI = true) (hl : els.length ≤ maxLen) : Pu one 50 [I64 lo, I64 hi, .sl els full] (BB (outB lo hi (els.map unI))) := by
  obtain ⟨l, hl'⟩ : ∃ l, els.map unI = l := ⟨_, rfl⟩
  have he : els = ints l := by rw [← hl']; exact allI h
  rw [hl']
  subst he
  refine PureV.body (fn := Try.f50) rfl rfl rfl rfl ?_
  refine wpC_sound (mu := fun _ => false) ?_
  repeat' (first
      | (with_reducible refine wpC_skip ?_)
      | (with_reducible refine wpC_seq ?_)
      | (with_reducible refine wpC_block ?_)
      | (with_reducible refine wpC_drawL ?_)
      | (with_reducible refine wpC_opsL ?_)
      | (with_reducible refine wpC_draw ?_)
      | (with_reducible refine wpC_ops ?_)
      | (with_reducible refine wpOps_nil ?_)
      | (first
          | (with_reducible refine wpOps_cons ?_)
          | (with_reducible refine wpDraw_cons ?_)
         first
          | (with_reducible refine wpGuard_none ?_)
          | (refine wpGuard_yes rfl rfl rfl ?_)
          | (refine wpGuard_no rfl rfl rfl ?_)
          | (refine wpGuard_yes rfl rfl (by assumption) ?_)
          | (refine wpGuard_no rfl rfl (by assumption) ?_)
          | (refine wpGuard_skip rfl rfl ?_)
          | skip)
      | (with_reducible refine putS_some ?_)
      | (with_reducible refine putS_none ?_)
      | (with_reducible refine seqQ_normal ?_)
      | (refine ⟨_, rfl, ?_⟩)
      | (refine guardYes (by assumption) ?_)
      | (refine guardYes rfl ?_)
      | (refine guardNo rfl ?_)
      | (refine guardNo (by assumption) ?_)
      | (refine ⟨_, _, rfl, by decide, ?_⟩)
      | (refine ⟨rfl, rfl, rfl, ?_⟩)
      | (refine ⟨rfl, rfl, ?_⟩)
      | (refine ⟨_, _, rfl, _, rfl, ?_⟩)
      | (refine And.intro (Nat.le_of_ble_eq_true rfl) ?_)
      | (refine And.intro (by omega) ?_)
      | (refine ⟨_, _, rfl, rfl, _, rfl, rfl, ?_⟩)
      | (refine And.intro (by kernel_rfl) ?_)
      | (refine ⟨rfl, rfl, rfl, rfl, rfl, ?_⟩)
      | fail)
  refine PureV.call (containsFunc88_c one 89 [] _ rfl (fun n => decide (n < lo) || decide (hi < n)) l full (by simpa using hl) (fun n _ => outside1_c one n lo hi)) rfl rfl ?_
  repeat' (first
      | (with_reducible refine wpC_skip ?_)
      | (with_reducible refine wpC_seq ?_)
      | (with_reducible refine wpC_block ?_)
      | (with_reducible refine wpC_drawL ?_)
      | (with_reducible refine wpC_opsL ?_)
      | (with_reducible refine wpC_draw ?_)
      | (with_reducible refine wpC_ops ?_)
      | (with_reducible refine wpOps_nil ?_)
      | (first
          | (with_reducible refine wpOps_cons ?_)
          | (with_reducible refine wpDraw_cons ?_)
         first
          | (with_reducible refine wpGuard_none ?_)
          | (refine wpGuard_yes rfl rfl rfl ?_)
          | (refine wpGuard_no rfl rfl rfl ?_)
          | (refine wpGuard_yes rfl rfl (by assumption) ?_)
          | (refine wpGuard_no rfl rfl (by assumption) ?_)
          | (refine wpGuard_skip rfl rfl ?_)
          | skip)
      | (with_reducible refine putS_some ?_)
      | (with_reducible refine putS_none ?_)
      | (with_reducible refine seqQ_normal ?_)
      | (refine ⟨_, rfl, ?_⟩)
      | (refine guardYes (by assumption) ?_)
      | (refine guardYes rfl ?_)
      | (refine guardNo rfl ?_)
      | (refine guardNo (by assumption) ?_)
      | (refine ⟨_, _, rfl, by decide, ?_⟩)
      | (refine ⟨rfl, rfl, rfl, ?_⟩)
      | (refine ⟨rfl, rfl, ?_⟩)
      | (refine ⟨_, _, rfl, _, rfl, ?_⟩)
      | (refine And.intro (Nat.le_of_ble_eq_true rfl) ?_)
      | (refine And.intro (by omega) ?_)
      | (refine ⟨_, _, rfl, rfl, _, rfl, rfl, ?_⟩)
      | (refine And.intro (by kernel_rfl) ?_)
      | (refine ⟨rfl, rfl, rfl, rfl, rfl, ?_⟩)
      | fail)
  refine ⟨[_], ⟨Fz.deep rfl, trivial⟩, ?_⟩
  rfl

/-! ### Names -/

def nmL : UInt8 → List UInt8 → Bool
  | last, [] => decide (last.toNat ≠ 45)
  | last, c :: l => if 97 ≤ c.toNat ∧ c.toNat ≤ 122 then nmL c l else if c.toNat ≠ 45 ∨ last.toNat = 45 then false else nmL c l

theorem nmL_cons (last c : UInt8) (l : List UInt8) : nmL last (c :: l) = if 97 ≤ c.toNat ∧ c.toNat ≤ 122 then nmL c l else if c.toNat ≠ 45 ∨ last.toNat = 45 then false else nmL c l := rfl

def nameB (s : ByteArray) : Bool := decide (s.data.toList.length ≤ 14) && nmL 45 s.data.toList

theorem decode_at {s : ByteArray} {i : Nat} (h : i < s.data.toList.length) : (s.get! i) = s.data.toList[i] := by
  have : i < s.data.size := by simpa using h
  simp only [ByteArray.get!, getElem!_pos s.data i this]
  simp

theorem decode_lo {s : ByteArray} {i : Nat} (h : i < s.data.toList.length) (hb : (s.data.toList[i]).toNat < 128) : Utf8.decode s i = ((s.data.toList[i]).toNat, 1) := by
  unfold Utf8.decode
  simp only [Nat.add_zero, decode_at h]
  rw [if_pos hb]

theorem decode_hi {s : ByteArray} {i : Nat} (h : i < s.data.toList.length) (hb : 128 ≤ (s.data.toList[i]).toNat) : 128 ≤ (Utf8.decode s i).1 := by
  unfold Utf8.decode
  simp only [Nat.add_zero, decode_at h, Utf8.runeError]
  rw [if_neg (by omega)]
  repeat' split
  all_goals simp_all
  all_goals omega

theorem name_c (one : Bool) (s : ByteArray) (hs : s.data.toList.length ≤ maxLen) : Pu one 90 [ST s] (BB (nameB s)) := by
  unfold maxLen at hs
  refine PureV.body (fn := Try.f90) rfl rfl rfl rfl ?_
  refine wpC_sound (mu := fun _ => false) ?_
  repeat' (first
      | (with_reducible refine wpC_skip ?_)
      | (with_reducible refine wpC_seq ?_)
      | (with_reducible refine wpC_block ?_)
      | (with_reducible refine wpC_drawL ?_)
      | (with_reducible refine wpC_opsL ?_)
      | (with_reducible refine wpC_draw ?_)
      | (with_reducible refine wpC_ops ?_)
      | (with_reducible refine wpOps_nil ?_)
      | (first
          | (with_reducible refine wpOps_cons ?_)
          | (with_reducible refine wpDraw_cons ?_)
         first
          | (with_reducible refine wpGuard_none ?_)
          | (refine wpGuard_yes rfl rfl rfl ?_)
          | (refine wpGuard_no rfl rfl rfl ?_)
          | (refine wpGuard_yes rfl rfl (by assumption) ?_)
          | (refine wpGuard_no rfl rfl (by assumption) ?_)
          | (refine wpGuard_skip rfl rfl ?_)
          | skip)
      | (with_reducible refine putS_some ?_)
      | (with_reducible refine putS_none ?_)
      | (with_reducible refine seqQ_normal ?_)
      | (refine ⟨_, rfl, ?_⟩)
      | (refine guardYes (by assumption) ?_)
      | (refine guardYes rfl ?_)
      | (refine guardNo rfl ?_)
      | (refine guardNo (by assumption) ?_)
      | (refine ⟨_, _, rfl, by decide, ?_⟩)
      | (refine ⟨rfl, rfl, rfl, ?_⟩)
      | (refine ⟨rfl, rfl, ?_⟩)
      | (refine ⟨_, _, rfl, _, rfl, ?_⟩)
      | (refine And.intro (Nat.le_of_ble_eq_true rfl) ?_)
      | (refine And.intro (by omega) ?_)
      | (refine ⟨_, _, rfl, rfl, _, rfl, rfl, ?_⟩)
      | (refine And.intro (by kernel_rfl) ?_)
      | (refine ⟨rfl, rfl, rfl, rfl, rfl, ?_⟩)
      | fail)
  refine SemC.weaker (Weaker.to (l := [(0, ST s), (7, .ptr 0 0 0), (3, .fl (.int .i32 (((45 : UInt8).toNat : Nat) : Int)))]) 1 rfl ⟨rfl, rfl, rfl, trivial⟩ (Nat.zero_le _) rfl rfl) ?_
  refine SemC.loop (fun x : Nat × UInt8 => x.1 ≤ s.data.toList.length ∧ nmL 45 s.data.toList = nmL x.2 (s.data.toList.drop x.1)) (fun x => ⟨mkFr [(0, ST s), (7, .ptr 0 0 0), (3, .fl (.int .i32 ((x.2.toNat : Nat) : Int)))], [.siter s x.1], Amb.none, false, 0⟩) (fun x => s.data.toList.length - x.1) ?_ (0, 45) ⟨Nat.zero_le _, rfl⟩
  intro ⟨pos, last⟩ ⟨hpos, hrel⟩
  refine wpC_sound (mu := fun _ => false) ?_
  have hdrop : ∀ h : pos < s.data.toList.length, s.data.toList.drop pos = s.data.toList[pos] :: s.data.toList.drop (pos + 1) := fun h => List.drop_eq_getElem_cons h
  refine ⟨s, pos, rfl, fun hlt => ?_, fun hge => ?_⟩
  · rw [hdrop hlt] at hrel
    simp only at hrel
    generalize hc : s.data.toList[pos] = c at hrel
    have hc256 : c.toNat < 256 := c.toNat_lt
    rw [nmL_cons] at hrel
    by_cases hb : c.toNat < 128
    · have hd := decode_lo hlt (by rw [hc]; exact hb)
      rw [hc] at hd
      rw [hd]
      clear hd hc hdrop
      repeat' (first
          | (with_reducible refine wpC_skip ?_)
          | (with_reducible refine wpC_seq ?_)
          | (with_reducible refine wpC_block ?_)
          | (with_reducible refine wpC_drawL ?_)
          | (with_reducible refine wpC_opsL ?_)
          | (with_reducible refine wpC_draw ?_)
          | (with_reducible refine wpC_ops ?_)
          | (with_reducible refine wpOps_nil ?_)
          | (first
              | (with_reducible refine wpOps_cons ?_)
              | (with_reducible refine wpDraw_cons ?_)
             first
              | (with_reducible refine wpGuard_none ?_)
              | (refine wpGuard_yes rfl rfl rfl ?_)
              | (refine wpGuard_no rfl rfl rfl ?_)
              | (refine wpGuard_yes rfl rfl (by assumption) ?_)
              | (refine wpGuard_no rfl rfl (by assumption) ?_)
              | (refine wpGuard_skip rfl rfl ?_)
              | skip)
          | (with_reducible refine putS_some ?_)
          | (with_reducible refine putS_none ?_)
          | (with_reducible refine seqQ_normal ?_)
          | (refine ⟨_, rfl, ?_⟩)
          | (refine guardYes (by assumption) ?_)
          | (refine guardYes rfl ?_)
          | (refine guardNo rfl ?_)
          | (refine guardNo (by assumption) ?_)
          | (refine ⟨_, _, rfl, by decide, ?_⟩)
          | (refine ⟨rfl, rfl, rfl, ?_⟩)
          | (refine ⟨rfl, rfl, ?_⟩)
          | (refine ⟨_, _, rfl, _, rfl, ?_⟩)
          | (refine And.intro (Nat.le_of_ble_eq_true rfl) ?_)
          | (refine And.intro (by omega) ?_)
          | (refine ⟨_, _, rfl, rfl, _, rfl, rfl, ?_⟩)
          | (refine And.intro (by kernel_rfl) ?_)
          | (refine ⟨rfl, rfl, rfl, rfl, rfl, ?_⟩)
          | (refine ⟨fun h => ?_, fun h => ?_⟩)
          | fail)
      all_goals first
        | (refine ⟨(pos + 1, c), ⟨hlt, ?_⟩, (by dsimp only; omega), Weaker.to 1 rfl ⟨rfl, rfl, rfl, trivial⟩ (Nat.zero_le _) rfl rfl⟩
           first
             | rw [hrel, if_pos (by simp at *; omega)]
             | rw [hrel, if_neg (by simp at *; omega), if_neg (by simp at *; omega)])
        | (refine ⟨[_], ⟨Fz.deep rfl, trivial⟩, bbc ?_⟩
           rw [nameB, hrel, if_neg (by simp at *; omega), if_pos (by simp at *; omega)]
           simp)
    · have hd := decode_hi hlt (by rw [hc]; omega)
      generalize Utf8.decode s pos = d at hd
      clear hc hdrop
      repeat' (first
          | (with_reducible refine wpC_skip ?_)
          | (with_reducible refine wpC_seq ?_)
          | (with_reducible refine wpC_block ?_)
          | (with_reducible refine wpC_drawL ?_)
          | (with_reducible refine wpC_opsL ?_)
          | (with_reducible refine wpC_draw ?_)
          | (with_reducible refine wpC_ops ?_)
          | (with_reducible refine wpOps_nil ?_)
          | (first
              | (with_reducible refine wpOps_cons ?_)
              | (with_reducible refine wpDraw_cons ?_)
             first
              | (with_reducible refine wpGuard_none ?_)
              | (refine wpGuard_yes rfl rfl rfl ?_)
              | (refine wpGuard_no rfl rfl rfl ?_)
              | (refine wpGuard_yes rfl rfl (by assumption) ?_)
              | (refine wpGuard_no rfl rfl (by assumption) ?_)
              | (refine wpGuard_skip rfl rfl ?_)
              | skip)
          | (with_reducible refine putS_some ?_)
          | (with_reducible refine putS_none ?_)
          | (with_reducible refine seqQ_normal ?_)
          | (refine ⟨_, rfl, ?_⟩)
          | (refine guardYes (by assumption) ?_)
          | (refine guardYes rfl ?_)
          | (refine guardNo rfl ?_)
          | (refine guardNo (by assumption) ?_)
          | (refine ⟨_, _, rfl, by decide, ?_⟩)
          | (refine ⟨rfl, rfl, rfl, ?_⟩)
          | (refine ⟨rfl, rfl, ?_⟩)
          | (refine ⟨_, _, rfl, _, rfl, ?_⟩)
          | (refine And.intro (Nat.le_of_ble_eq_true rfl) ?_)
          | (refine And.intro (by omega) ?_)
          | (refine ⟨_, _, rfl, rfl, _, rfl, rfl, ?_⟩)
          | (refine And.intro (by kernel_rfl) ?_)
          | (refine ⟨rfl, rfl, rfl, rfl, rfl, ?_⟩)
          | (refine ⟨fun h => ?_, fun h => ?_⟩)
          | fail)
      all_goals first
        | (exfalso; simp at *; omega)
        | (refine ⟨[_], ⟨Fz.deep rfl, trivial⟩, bbc ?_⟩
           rw [nameB, hrel, if_neg (by omega), if_pos (by omega)]
           simp)
  · have hlen : pos = s.data.toList.length := by simp only at hpos; omega
    subst hlen
    simp only [List.drop_length, nmL] at hrel
    repeat' (first
        | (with_reducible refine wpC_skip ?_)
        | (with_reducible refine wpC_seq ?_)
        | (with_reducible refine wpC_block ?_)
        | (with_reducible refine wpC_drawL ?_)
        | (with_reducible refine wpC_opsL ?_)
        | (with_reducible refine wpC_draw ?_)
        | (with_reducible refine wpC_ops ?_)
        | (with_reducible refine wpOps_nil ?_)
        | (first
            | (with_reducible refine wpOps_cons ?_)
            | (with_reducible refine wpDraw_cons ?_)
           first
            | (with_reducible refine wpGuard_none ?_)
            | (refine wpGuard_yes rfl rfl rfl ?_)
            | (refine wpGuard_no rfl rfl rfl ?_)
            | (refine wpGuard_yes rfl rfl (by assumption) ?_)
            | (refine wpGuard_no rfl rfl (by assumption) ?_)
            | (refine wpGuard_skip rfl rfl ?_)
            | skip)
        | (with_reducible refine putS_some ?_)
        | (with_reducible refine putS_none ?_)
        | (with_reducible refine seqQ_normal ?_)
        | (refine ⟨_, rfl, ?_⟩)
        | (refine guardYes (by assumption) ?_)
        | (refine guardYes rfl ?_)
        | (refine guardNo rfl ?_)
        | (refine guardNo (by assumption) ?_)
        | (refine ⟨_, _, rfl, by decide, ?_⟩)
        | (refine ⟨rfl, rfl, rfl, ?_⟩)
        | (refine ⟨rfl, rfl, ?_⟩)
        | (refine ⟨_, _, rfl, _, rfl, ?_⟩)
        | (refine And.intro (Nat.le_of_ble_eq_true rfl) ?_)
        | (refine And.intro (by omega) ?_)
        | (refine ⟨_, _, rfl, rfl, _, rfl, rfl, ?_⟩)
        | (refine And.intro (by kernel_rfl) ?_)
        | (refine ⟨rfl, rfl, rfl, rfl, rfl, ?_⟩)
        | (refine ⟨fun h => ?_, fun h => ?_⟩)
        | fail)
    all_goals refine ⟨[_], ⟨Fz.deep rfl, trivial⟩, bbc ?_⟩
    all_goals rw [nameB, hrel, Bool.eq_iff_iff]
    all_goals simp at *
    all_goals omega
end Go.Proofs.Ytmkaeohmdcoanaa
open Go Go.RM
namespace Go.Proofs.Ytmkaeohmdcoanaa

abbrev shI : Sh := .int .i64
abbrev shSpan : Sh := .cons shI (.cons shI .nil)
abbrev shKind : Sh := .cons .str (.cons shSpan (.cons shSpan (.cons shSpan (.cons shI (.cons shI .nil)))))
abbrev shCargo : Sh := .cons shI (.cons shI (.cons shI .nil))
abbrev shCount : Sh := .cons shI (.cons shI (.cons shSpan .nil))
abbrev shTruth : Sh := .cons shI (.cons shI (.cons shI .nil))
abbrev shStores : Sh := .cons (.slice shI) (.cons (.slice shKind) (.cons (.slice shCargo) .nil))

theorem tvI {l : List AV} (h : TV shI l) : ∃ n, (Lit.int .i64 n).wf = true ∧ l = eI n := by
  cases h with
  | int h => exact ⟨_, h, rfl⟩
theorem tvK {k : IntKind} {l : List AV} (h : TV (.int k) l) : ∃ n, (Lit.int k n).wf = true ∧ l = [.fl (.int k n)] := by
  cases h with
  | int h => exact ⟨_, h, rfl⟩
theorem tvS {l : List AV} (h : TV .str l) : ∃ s : ByteArray, s.size ≤ maxLen ∧ l = [ST s] := by
  cases h with
  | str h => exact ⟨_, h, rfl⟩
theorem tvC {a b : Sh} {l : List AV} (h : TV (.cons a b) l) : ∃ x y, TV a x ∧ TV b y ∧ l = x ++ y := by
  cases h with
  | cons h k => exact ⟨_, _, h, k, rfl⟩
theorem tvN {l : List AV} (h : TV .nil l) : l = [] := by cases h; rfl
theorem tvL {s : Sh} {l : List AV} (h : TV (.slice s) l) : ∃ els, els.length ≤ maxLen ∧ (∀ el ∈ els, TV s el) ∧ l = [.sl els false] := by
  cases h with
  | slice h k => exact ⟨_, h, k, rfl⟩
theorem tvA {n : Nat} {s : Sh} {l : List AV} (h : TV (.arr n s) l) : ∃ els : List (List AV), els.length = n ∧ (∀ el ∈ els, TV s el) ∧ l = els.flatten := by
  cases h with
  | arr h k => exact ⟨_, h, k, rfl⟩

/-- Elements, each of which stands for something. -/
theorem tvAll {α : Type} {e : α → List AV} {P : α → Prop} : ∀ {els : List (List AV)}, (∀ el ∈ els, ∃ x, P x ∧ el = e x) → ∃ l : List α, (∀ x ∈ l, P x) ∧ els = l.map e
  | [], _ => ⟨[], ⟨List.forall_mem_nil _, rfl⟩⟩
  | el :: els, h => by
    obtain ⟨x, hx, rfl⟩ := h el (by simp)
    obtain ⟨l, hl, rfl⟩ := tvAll fun el hel => h el (List.mem_cons_of_mem _ hel)
    exact ⟨x :: l, ⟨List.forall_mem_cons.2 ⟨hx, hl⟩, rfl⟩⟩

theorem tvSpan {l : List AV} (h : TV shSpan l) : ∃ s : Span, l = eSpan s := by
  obtain ⟨_, _, h1, k1, rfl⟩ := tvC h
  obtain ⟨_, _, h2, k2, rfl⟩ := tvC k1
  obtain ⟨a, _, rfl⟩ := tvI h1
  obtain ⟨b, _, rfl⟩ := tvI h2
  obtain rfl := tvN k2
  exact ⟨⟨a, b⟩, rfl⟩
theorem tvKind {l : List AV} (h : TV shKind l) : ∃ k : Kind, k.name.data.toList.length ≤ maxLen ∧ l = eKind k := by
  obtain ⟨_, _, h1, k1, rfl⟩ := tvC h
  obtain ⟨_, _, h2, k2, rfl⟩ := tvC k1
  obtain ⟨_, _, h3, k3, rfl⟩ := tvC k2
  obtain ⟨_, _, h4, k4, rfl⟩ := tvC k3
  obtain ⟨_, _, h5, k5, rfl⟩ := tvC k4
  obtain ⟨_, _, h6, k6, rfl⟩ := tvC k5
  obtain ⟨a, ha, rfl⟩ := tvS h1
  obtain ⟨b, rfl⟩ := tvSpan h2
  obtain ⟨c, rfl⟩ := tvSpan h3
  obtain ⟨d, rfl⟩ := tvSpan h4
  obtain ⟨e, _, rfl⟩ := tvI h5
  obtain ⟨f, _, rfl⟩ := tvI h6
  obtain rfl := tvN k6
  exact ⟨⟨a, b, c, d, e, f⟩, by simpa using ha, rfl⟩
theorem tvCargo {l : List AV} (h : TV shCargo l) : ∃ c : Cargo, l = eCargo c := by
  obtain ⟨_, _, h1, k1, rfl⟩ := tvC h
  obtain ⟨_, _, h2, k2, rfl⟩ := tvC k1
  obtain ⟨_, _, h3, k3, rfl⟩ := tvC k2
  obtain ⟨a, _, rfl⟩ := tvI h1
  obtain ⟨b, _, rfl⟩ := tvI h2
  obtain ⟨c, _, rfl⟩ := tvI h3
  obtain rfl := tvN k3
  exact ⟨⟨a, b, c⟩, rfl⟩
theorem tvTruth {l : List AV} (h : TV shTruth l) : ∃ t : Truth, l = eTruth t := by
  obtain ⟨c, rfl⟩ := tvCargo h
  exact ⟨⟨c.day, c.kind, c.amount⟩, rfl⟩
theorem tvCount {l : List AV} (h : TV shCount l) : ∃ c : Count, l = eCount c := by
  obtain ⟨_, _, h1, k1, rfl⟩ := tvC h
  obtain ⟨_, _, h2, k2, rfl⟩ := tvC k1
  obtain ⟨_, _, h3, k3, rfl⟩ := tvC k2
  obtain ⟨a, _, rfl⟩ := tvI h1
  obtain ⟨b, _, rfl⟩ := tvI h2
  obtain ⟨c, rfl⟩ := tvSpan h3
  obtain rfl := tvN k3
  exact ⟨⟨a, b, c⟩, rfl⟩

structure Stores.Ok (s : Stores) : Prop where
  men : s.men.length ≤ maxLen
  kinds : s.kinds.length ≤ maxLen
  cargos : s.cargos.length ≤ maxLen
  names : ∀ k ∈ s.kinds, k.name.data.toList.length ≤ maxLen

theorem tvStores {l : List AV} (h : TV shStores l) : ∃ s : Stores, s.Ok ∧ l = eStores s := by
  obtain ⟨_, _, h1, k1, rfl⟩ := tvC h
  obtain ⟨_, _, h2, k2, rfl⟩ := tvC k1
  obtain ⟨_, _, h3, k3, rfl⟩ := tvC k2
  obtain rfl := tvN k3
  obtain ⟨a, ha, ha', rfl⟩ := tvL h1
  obtain ⟨b, hb, hb', rfl⟩ := tvL h2
  obtain ⟨c, hc, hc', rfl⟩ := tvL h3
  obtain ⟨a, _, rfl⟩ := tvAll (e := eI) (P := fun _ => True) fun el hel => by obtain ⟨n, _, h⟩ := tvI (ha' el hel); exact ⟨n, trivial, h⟩
  obtain ⟨b, hn, rfl⟩ := tvAll (e := eKind) fun el hel => tvKind (hb' el hel)
  obtain ⟨c, _, rfl⟩ := tvAll (e := eCargo) (P := fun _ => True) fun el hel => by obtain ⟨n, h⟩ := tvCargo (hc' el hel); exact ⟨n, trivial, h⟩
  exact ⟨⟨a, b, c⟩, ⟨by simpa using ha, by simpa using hb, by simpa using hc, hn⟩, rfl⟩

theorem tvCounts {l : List AV} (h : TV (.slice shCount) l) : ∃ c : List Count, c.length ≤ maxLen ∧ l = [.sl (c.map eCount) false] := by
  obtain ⟨a, ha, ha', rfl⟩ := tvL h
  obtain ⟨a, _, rfl⟩ := tvAll (e := eCount) (P := fun _ => True) fun el hel => by obtain ⟨n, h⟩ := tvCount (ha' el hel); exact ⟨n, trivial, h⟩
  exact ⟨a, by simpa using ha, rfl⟩
end Go.Proofs.Ytmkaeohmdcoanaa
open Go Go.RM
namespace Go.Proofs.Ytmkaeohmdcoanaa
set_option maxRecDepth 100000

def sEq (a b : ByteArray) : Bool := a.toList == b.toList

def kindErr (k : Kind) (names : List ByteArray) : Int :=
  if nameB k.name = false then 6
  else if names.any (fun x => sEq x k.name) then 5
  else if outB 0 300 [k.first.lo, k.first.hi, k.room] || outB 0 6 [k.man.lo, k.man.hi] || outB 0 12 [k.ship.lo, k.ship.hi] || outB 0 1000 [k.ration] then 7
  else if decide (k.first.hi < k.first.lo) || decide (k.man.hi < k.man.lo) || decide (k.ship.hi < k.ship.lo) then 2
  else 0

def firstN (n : Nat) (e : Nat → Int) : Int × Int := match (List.range n).find? (fun i => e i != 0) with
  | some i => ((i : Int), e i)
  | none => (0, 0)

theorem firstN_here {n k : Nat} {e : Nat → Int} (hk : k < n) (hprev : ∀ i, i < k → e i = 0) (h : e k ≠ 0) : firstN n e = ((k : Int), e k) := by
  unfold firstN
  have : (List.range n).find? (fun i => e i != 0) = some k := by
    rw [List.find?_range_eq_some]
    exact ⟨by simpa using h, by simpa using hk, fun j hj => by simp [hprev j hj]⟩
  rw [this]

theorem firstN_none {n : Nat} {e : Nat → Int} (hprev : ∀ i, i < n → e i = 0) : firstN n e = (0, 0) := by
  unfold firstN
  have : (List.range n).find? (fun i => e i != 0) = none := by
    rw [List.find?_eq_none]
    intro x hx
    simp [hprev x (by simpa using hx)]
  rw [this]

theorem cells_fl {v : Value} : (AV.fl v).cells = [AV.fl v] := rfl
theorem unI_fl {n : Int} : unI [AV.fl (.int .i64 n)] = n := rfl

theorem check1_c (one : Bool) (n : Int) : Pu one 52 [I64 n] (BB (outB 0 12 [n])) := by
  refine PureV.body (fn := Try.f52) rfl rfl rfl rfl ?_
  refine wpC_sound (mu := fun _ => false) ?_
  repeat' (first
      | (with_reducible refine wpC_skip ?_)
      | (with_reducible refine wpC_seq ?_)
      | (with_reducible refine wpC_block ?_)
      | (with_reducible refine wpC_drawL ?_)
      | (with_reducible refine wpC_opsL ?_)
      | (with_reducible refine wpC_draw ?_)
      | (with_reducible refine wpC_ops ?_)
      | (with_reducible refine wpOps_nil ?_)
      | (first
          | (with_reducible refine wpOps_cons ?_)
          | (with_reducible refine wpDraw_cons ?_)
         first
          | (with_reducible refine wpGuard_none ?_)
          | (refine wpGuard_yes rfl rfl rfl ?_)
          | (refine wpGuard_no rfl rfl rfl ?_)
          | (refine wpGuard_yes rfl rfl (by assumption) ?_)
          | (refine wpGuard_no rfl rfl (by assumption) ?_)
          | (refine wpGuard_skip rfl rfl ?_)
          | skip)
      | (with_reducible refine putS_some ?_)
      | (with_reducible refine putS_none ?_)
      | (with_reducible refine seqQ_normal ?_)
      | (refine ⟨_, rfl, ?_⟩)
      | (refine guardYes (by assumption) ?_)
      | (refine guardYes rfl ?_)
      | (refine guardNo rfl ?_)
      | (refine guardNo (by assumption) ?_)
      | (refine ⟨_, _, rfl, by decide, ?_⟩)
      | (refine ⟨rfl, rfl, rfl, ?_⟩)
      | (refine ⟨rfl, rfl, ?_⟩)
      | (refine ⟨_, _, rfl, _, rfl, ?_⟩)
      | (refine And.intro (Nat.le_of_ble_eq_true rfl) ?_)
      | (refine And.intro (by omega) ?_)
      | (refine ⟨_, _, rfl, rfl, _, rfl, rfl, ?_⟩)
      | (refine And.intro (by kernel_rfl) ?_)
      | (refine ⟨rfl, rfl, rfl, rfl, rfl, ?_⟩)
      | (refine PureV.call (outside_c one _ _ _ _ rfl (Nat.le_of_ble_eq_true rfl)) rfl rfl ?_)
      | fail)
  exact ⟨[_], ⟨Fz.deep rfl, trivial⟩, rfl⟩

theorem kind1_c (one : Bool) (k x : Kind) : PureV TT TB one (.fn 92 [] [.pt (eKind k) 0]) [.ag (eKind x)] (BB (sEq x.name k.name)) := by
  refine PureV.body (fn := Try.f92) rfl rfl rfl rfl ?_
  refine wpC_sound (mu := fun _ => false) ?_
  repeat' (first
      | (with_reducible refine wpC_skip ?_)
      | (with_reducible refine wpC_seq ?_)
      | (with_reducible refine wpC_block ?_)
      | (with_reducible refine wpC_drawL ?_)
      | (with_reducible refine wpC_opsL ?_)
      | (with_reducible refine wpC_draw ?_)
      | (with_reducible refine wpC_ops ?_)
      | (with_reducible refine wpOps_nil ?_)
      | (first
          | (with_reducible refine wpOps_cons ?_)
          | (with_reducible refine wpDraw_cons ?_)
         first
          | (with_reducible refine wpGuard_none ?_)
          | (refine wpGuard_yes rfl rfl rfl ?_)
          | (refine wpGuard_no rfl rfl rfl ?_)
          | (refine wpGuard_yes rfl rfl (by assumption) ?_)
          | (refine wpGuard_no rfl rfl (by assumption) ?_)
          | (refine wpGuard_skip rfl rfl ?_)
          | skip)
      | (with_reducible refine putS_some ?_)
      | (with_reducible refine putS_none ?_)
      | (with_reducible refine seqQ_normal ?_)
      | (refine ⟨_, rfl, ?_⟩)
      | (refine guardYes (by assumption) ?_)
      | (refine guardYes rfl ?_)
      | (refine guardNo rfl ?_)
      | (refine guardNo (by assumption) ?_)
      | (refine ⟨_, _, rfl, by decide, ?_⟩)
      | (refine ⟨rfl, rfl, rfl, ?_⟩)
      | (refine ⟨rfl, rfl, ?_⟩)
      | (refine ⟨_, _, rfl, _, rfl, ?_⟩)
      | (refine And.intro (Nat.le_of_ble_eq_true rfl) ?_)
      | (refine And.intro (by omega) ?_)
      | (refine ⟨_, _, rfl, rfl, _, rfl, rfl, ?_⟩)
      | (refine And.intro (by kernel_rfl) ?_)
      | (refine ⟨rfl, rfl, rfl, rfl, rfl, ?_⟩)
      | fail)
  exact ⟨[_], ⟨Fz.deep rfl, trivial⟩, rfl⟩

theorem kind_c (one : Bool) (k : Kind) (others : List Kind) (els : List (List AV)) (full : Bool) (he : els = others.map eKind) (hk : k.name.data.toList.length ≤ maxLen) (ho : others.length ≤ maxLen) : Pu one 55 [.ag (eKind k), .sl els full] (I64 (kindErr k (others.map (·.name)))) := by
  subst he
  have hany : (others.map (·.name)).any (fun x => sEq x k.name) = others.any (fun x => sEq x.name k.name) := by simp [List.any_map, Function.comp_def]
  have hc := containsFunc91_c one 92 [] [.pt (eKind k) 0] rfl (fun x => sEq x.name k.name) others full ho (fun x _ => kind1_c one k x)
  unfold kindErr
  rw [hany]
  generalize others.any (fun x => sEq x.name k.name) = b at hc
  refine PureV.body (fn := Try.f55) rfl rfl rfl rfl ?_
  refine wpC_sound (mu := fun _ => false) ?_
  repeat' (first
      | (with_reducible refine wpC_skip ?_)
      | (with_reducible refine wpC_seq ?_)
      | (with_reducible refine wpC_block ?_)
      | (with_reducible refine wpC_drawL ?_)
      | (with_reducible refine wpC_opsL ?_)
      | (with_reducible refine wpC_draw ?_)
      | (with_reducible refine wpC_ops ?_)
      | (with_reducible refine wpOps_nil ?_)
      | (first
          | (with_reducible refine wpOps_cons ?_)
          | (with_reducible refine wpDraw_cons ?_)
         first
          | (with_reducible refine wpGuard_none ?_)
          | (refine wpGuard_yes rfl rfl rfl ?_)
          | (refine wpGuard_no rfl rfl rfl ?_)
          | (refine wpGuard_yes rfl rfl (by assumption) ?_)
          | (refine wpGuard_no rfl rfl (by assumption) ?_)
          | (refine wpGuard_skip rfl rfl ?_)
          | skip)
      | (with_reducible refine putS_some ?_)
      | (with_reducible refine putS_none ?_)
      | (with_reducible refine seqQ_normal ?_)
      | (refine ⟨_, rfl, ?_⟩)
      | (refine guardYes (by assumption) ?_)
      | (refine guardYes rfl ?_)
      | (refine guardNo rfl ?_)
      | (refine guardNo (by assumption) ?_)
      | (refine ⟨_, _, rfl, by decide, ?_⟩)
      | (refine ⟨rfl, rfl, rfl, ?_⟩)
      | (refine ⟨rfl, rfl, ?_⟩)
      | (refine ⟨_, _, rfl, _, rfl, ?_⟩)
      | (refine And.intro (Nat.le_of_ble_eq_true rfl) ?_)
      | (refine And.intro (by omega) ?_)
      | (refine ⟨_, _, rfl, rfl, _, rfl, rfl, ?_⟩)
      | (refine And.intro (by kernel_rfl) ?_)
      | (refine ⟨rfl, rfl, rfl, rfl, rfl, ?_⟩)
      | (refine PureV.call (outside_c one _ _ _ _ rfl (Nat.le_of_ble_eq_true rfl)) rfl rfl ?_)
      | (refine PureV.call (name_c one _ hk) rfl rfl ?_)
      | (refine PureV.call hc rfl rfl ?_)
      | (refine ⟨fun h => ?_, fun h => ?_⟩)
      | fail)
  all_goals refine ⟨[_], ⟨Fz.deep rfl, trivial⟩, i64c ?_⟩
  all_goals simp_all [cells_fl, unI_fl]

theorem first53_c (one : Bool) (g : FuncId) (fs cs : List AV) (hF : (AV.fn g fs cs).deep = true) (e : Nat → Int) (l : List Kind) (full : Bool) (hl : l.length ≤ maxLen) (hp : ∀ i (h : i < l.length), PureV TT TB one (.fn g fs cs) [I64 i, .ag (eKind l[i])] (I64 (e i))) :
    Pu one 53 [.sl (l.map eKind) full, .fn g fs cs] (.tp [I64 (firstN l.length e).1, I64 (firstN l.length e).2]) := by
  unfold maxLen at hl
  refine PureV.body (fn := Try.f53) rfl rfl rfl rfl ?_
  refine wpC_sound (mu := fun _ => false) ?_
  repeat' (first
      | (with_reducible refine wpC_skip ?_)
      | (with_reducible refine wpC_seq ?_)
      | (with_reducible refine wpC_block ?_)
      | (with_reducible refine wpC_drawL ?_)
      | (with_reducible refine wpC_opsL ?_)
      | (with_reducible refine wpC_draw ?_)
      | (with_reducible refine wpC_ops ?_)
      | (with_reducible refine wpOps_nil ?_)
      | (first
          | (with_reducible refine wpOps_cons ?_)
          | (with_reducible refine wpDraw_cons ?_)
         first
          | (with_reducible refine wpGuard_none ?_)
          | (refine wpGuard_yes rfl rfl rfl ?_)
          | (refine wpGuard_no rfl rfl rfl ?_)
          | (refine wpGuard_yes rfl rfl (by assumption) ?_)
          | (refine wpGuard_no rfl rfl (by assumption) ?_)
          | (refine wpGuard_skip rfl rfl ?_)
          | skip)
      | (with_reducible refine putS_some ?_)
      | (with_reducible refine putS_none ?_)
      | (with_reducible refine seqQ_normal ?_)
      | (refine ⟨_, rfl, ?_⟩)
      | (refine guardYes (by assumption) ?_)
      | (refine guardYes rfl ?_)
      | (refine guardNo rfl ?_)
      | (refine guardNo (by assumption) ?_)
      | (refine ⟨_, _, rfl, by decide, ?_⟩)
      | (refine ⟨rfl, rfl, rfl, ?_⟩)
      | (refine ⟨rfl, rfl, ?_⟩)
      | (refine ⟨_, _, rfl, _, rfl, ?_⟩)
      | (refine And.intro (Nat.le_of_ble_eq_true rfl) ?_)
      | (refine And.intro (by omega) ?_)
      | (refine ⟨_, _, rfl, rfl, _, rfl, rfl, ?_⟩)
      | (refine And.intro (by kernel_rfl) ?_)
      | (refine ⟨rfl, rfl, rfl, rfl, rfl, ?_⟩)
      | fail)
  refine SemC.weaker (Weaker.to (l := [(1, .fn g fs cs), (9, .sl (l.map eKind) full), (10, I64 l.length), (11, I64 ((0 : Nat) : Int))]) 0 rfl ⟨rfl, rfl, i64c (by simp), rfl, trivial⟩ (Nat.le_refl _) (by simp [inb_fl, inb_sl, deep_inb 0 _ hF]) rfl) ?_
  refine SemC.loop (fun k : Nat => k ≤ l.length ∧ ∀ i, i < k → e i = 0) (fun k => ⟨mkFr [(1, .fn g fs cs), (9, .sl (l.map eKind) full), (10, I64 l.length), (11, I64 (k : Int))], [], Amb.none, false, 0⟩) (fun k => l.length - k) ?_ 0 ⟨Nat.zero_le _, fun i hi => absurd hi (by omega)⟩
  intro k ⟨hk, hprev⟩
  refine wpC_sound (mu := fun _ => false) ?_
  refine ⟨fun h => ?_, fun h => ?_⟩
  · have hlt : k < l.length := by simpa using h
    repeat' (first
        | (with_reducible refine wpC_skip ?_)
        | (with_reducible refine wpC_seq ?_)
        | (with_reducible refine wpC_block ?_)
        | (with_reducible refine wpC_drawL ?_)
        | (with_reducible refine wpC_opsL ?_)
        | (with_reducible refine wpC_draw ?_)
        | (with_reducible refine wpC_ops ?_)
        | (with_reducible refine wpOps_nil ?_)
        | (first
            | (with_reducible refine wpOps_cons ?_)
            | (with_reducible refine wpDraw_cons ?_)
           first
            | (with_reducible refine wpGuard_none ?_)
            | (refine wpGuard_yes rfl rfl rfl ?_)
            | (refine wpGuard_no rfl rfl rfl ?_)
            | (refine wpGuard_yes rfl rfl (by assumption) ?_)
            | (refine wpGuard_no rfl rfl (by assumption) ?_)
            | (refine wpGuard_skip rfl rfl ?_)
            | skip)
        | (with_reducible refine putS_some ?_)
        | (with_reducible refine putS_none ?_)
        | (with_reducible refine seqQ_normal ?_)
        | (refine ⟨_, rfl, ?_⟩)
        | (refine guardYes (by assumption) ?_)
        | (refine guardYes rfl ?_)
        | (refine guardNo rfl ?_)
        | (refine guardNo (by assumption) ?_)
        | (refine ⟨_, _, rfl, by decide, ?_⟩)
        | (refine ⟨rfl, rfl, rfl, ?_⟩)
        | (refine ⟨rfl, rfl, ?_⟩)
        | (refine ⟨_, _, rfl, _, rfl, ?_⟩)
        | (refine And.intro (Nat.le_of_ble_eq_true rfl) ?_)
        | (refine And.intro (by omega) ?_)
        | (refine ⟨_, _, rfl, rfl, _, rfl, rfl, ?_⟩)
        | (refine And.intro (by kernel_rfl) ?_)
        | (refine ⟨rfl, rfl, rfl, rfl, rfl, ?_⟩)
        | fail)
    refine ⟨eKind l[k], ⟨by omega, by simp [hlt]⟩, rfl, ?_⟩
    repeat' (first
        | (with_reducible refine wpC_skip ?_)
        | (with_reducible refine wpC_seq ?_)
        | (with_reducible refine wpC_block ?_)
        | (with_reducible refine wpC_drawL ?_)
        | (with_reducible refine wpC_opsL ?_)
        | (with_reducible refine wpC_draw ?_)
        | (with_reducible refine wpC_ops ?_)
        | (with_reducible refine wpOps_nil ?_)
        | (first
            | (with_reducible refine wpOps_cons ?_)
            | (with_reducible refine wpDraw_cons ?_)
           first
            | (with_reducible refine wpGuard_none ?_)
            | (refine wpGuard_yes rfl rfl rfl ?_)
            | (refine wpGuard_no rfl rfl rfl ?_)
            | (refine wpGuard_yes rfl rfl (by assumption) ?_)
            | (refine wpGuard_no rfl rfl (by assumption) ?_)
            | (refine wpGuard_skip rfl rfl ?_)
            | skip)
        | (with_reducible refine putS_some ?_)
        | (with_reducible refine putS_none ?_)
        | (with_reducible refine seqQ_normal ?_)
        | (refine ⟨_, rfl, ?_⟩)
        | (refine guardYes (by assumption) ?_)
        | (refine guardYes rfl ?_)
        | (refine guardNo rfl ?_)
        | (refine guardNo (by assumption) ?_)
        | (refine ⟨_, _, rfl, by decide, ?_⟩)
        | (refine ⟨rfl, rfl, rfl, ?_⟩)
        | (refine ⟨rfl, rfl, ?_⟩)
        | (refine ⟨_, _, rfl, _, rfl, ?_⟩)
        | (refine And.intro (Nat.le_of_ble_eq_true rfl) ?_)
        | (refine And.intro (by omega) ?_)
        | (refine ⟨_, _, rfl, rfl, _, rfl, rfl, ?_⟩)
        | (refine And.intro (by kernel_rfl) ?_)
        | (refine ⟨rfl, rfl, rfl, rfl, rfl, ?_⟩)
        | fail)
    refine ⟨_, _, rfl, rfl, rfl, rfl, Nat.le_of_ble_eq_true rfl, ?_⟩
    repeat' (first
        | (with_reducible refine wpC_skip ?_)
        | (with_reducible refine wpC_seq ?_)
        | (with_reducible refine wpC_block ?_)
        | (with_reducible refine wpC_drawL ?_)
        | (with_reducible refine wpC_opsL ?_)
        | (with_reducible refine wpC_draw ?_)
        | (with_reducible refine wpC_ops ?_)
        | (with_reducible refine wpOps_nil ?_)
        | (first
            | (with_reducible refine wpOps_cons ?_)
            | (with_reducible refine wpDraw_cons ?_)
           first
            | (with_reducible refine wpGuard_none ?_)
            | (refine wpGuard_yes rfl rfl rfl ?_)
            | (refine wpGuard_no rfl rfl rfl ?_)
            | (refine wpGuard_yes rfl rfl (by assumption) ?_)
            | (refine wpGuard_no rfl rfl (by assumption) ?_)
            | (refine wpGuard_skip rfl rfl ?_)
            | skip)
        | (with_reducible refine putS_some ?_)
        | (with_reducible refine putS_none ?_)
        | (with_reducible refine seqQ_normal ?_)
        | (refine ⟨_, rfl, ?_⟩)
        | (refine guardYes (by assumption) ?_)
        | (refine guardYes rfl ?_)
        | (refine guardNo rfl ?_)
        | (refine guardNo (by assumption) ?_)
        | (refine ⟨_, _, rfl, by decide, ?_⟩)
        | (refine ⟨rfl, rfl, rfl, ?_⟩)
        | (refine ⟨rfl, rfl, ?_⟩)
        | (refine ⟨_, _, rfl, _, rfl, ?_⟩)
        | (refine And.intro (Nat.le_of_ble_eq_true rfl) ?_)
        | (refine And.intro (by omega) ?_)
        | (refine ⟨_, _, rfl, rfl, _, rfl, rfl, ?_⟩)
        | (refine And.intro (by kernel_rfl) ?_)
        | (refine ⟨rfl, rfl, rfl, rfl, rfl, ?_⟩)
        | fail)
    refine ⟨_, _, rfl, Nat.le_of_ble_eq_true rfl, ?_⟩
    repeat' (first
        | (with_reducible refine wpC_skip ?_)
        | (with_reducible refine wpC_seq ?_)
        | (with_reducible refine wpC_block ?_)
        | (with_reducible refine wpC_drawL ?_)
        | (with_reducible refine wpC_opsL ?_)
        | (with_reducible refine wpC_draw ?_)
        | (with_reducible refine wpC_ops ?_)
        | (with_reducible refine wpOps_nil ?_)
        | (first
            | (with_reducible refine wpOps_cons ?_)
            | (with_reducible refine wpDraw_cons ?_)
           first
            | (with_reducible refine wpGuard_none ?_)
            | (refine wpGuard_yes rfl rfl rfl ?_)
            | (refine wpGuard_no rfl rfl rfl ?_)
            | (refine wpGuard_yes rfl rfl (by assumption) ?_)
            | (refine wpGuard_no rfl rfl (by assumption) ?_)
            | (refine wpGuard_skip rfl rfl ?_)
            | skip)
        | (with_reducible refine putS_some ?_)
        | (with_reducible refine putS_none ?_)
        | (with_reducible refine seqQ_normal ?_)
        | (refine ⟨_, rfl, ?_⟩)
        | (refine guardYes (by assumption) ?_)
        | (refine guardYes rfl ?_)
        | (refine guardNo rfl ?_)
        | (refine guardNo (by assumption) ?_)
        | (refine ⟨_, _, rfl, by decide, ?_⟩)
        | (refine ⟨rfl, rfl, rfl, ?_⟩)
        | (refine ⟨rfl, rfl, ?_⟩)
        | (refine ⟨_, _, rfl, _, rfl, ?_⟩)
        | (refine And.intro (Nat.le_of_ble_eq_true rfl) ?_)
        | (refine And.intro (by omega) ?_)
        | (refine ⟨_, _, rfl, rfl, _, rfl, rfl, ?_⟩)
        | (refine And.intro (by kernel_rfl) ?_)
        | (refine ⟨rfl, rfl, rfl, rfl, rfl, ?_⟩)
        | fail)
    refine PureV.call (hp k hlt) hF rfl ?_
    repeat' (first
        | (with_reducible refine wpC_skip ?_)
        | (with_reducible refine wpC_seq ?_)
        | (with_reducible refine wpC_block ?_)
        | (with_reducible refine wpC_drawL ?_)
        | (with_reducible refine wpC_opsL ?_)
        | (with_reducible refine wpC_draw ?_)
        | (with_reducible refine wpC_ops ?_)
        | (with_reducible refine wpOps_nil ?_)
        | (first
            | (with_reducible refine wpOps_cons ?_)
            | (with_reducible refine wpDraw_cons ?_)
           first
            | (with_reducible refine wpGuard_none ?_)
            | (refine wpGuard_yes rfl rfl rfl ?_)
            | (refine wpGuard_no rfl rfl rfl ?_)
            | (refine wpGuard_yes rfl rfl (by assumption) ?_)
            | (refine wpGuard_no rfl rfl (by assumption) ?_)
            | (refine wpGuard_skip rfl rfl ?_)
            | skip)
        | (with_reducible refine putS_some ?_)
        | (with_reducible refine putS_none ?_)
        | (with_reducible refine seqQ_normal ?_)
        | (refine ⟨_, rfl, ?_⟩)
        | (refine guardYes (by assumption) ?_)
        | (refine guardYes rfl ?_)
        | (refine guardNo rfl ?_)
        | (refine guardNo (by assumption) ?_)
        | (refine ⟨_, _, rfl, by decide, ?_⟩)
        | (refine ⟨rfl, rfl, rfl, ?_⟩)
        | (refine ⟨rfl, rfl, ?_⟩)
        | (refine ⟨_, _, rfl, _, rfl, ?_⟩)
        | (refine And.intro (Nat.le_of_ble_eq_true rfl) ?_)
        | (refine And.intro (by omega) ?_)
        | (refine ⟨_, _, rfl, rfl, _, rfl, rfl, ?_⟩)
        | (refine And.intro (by kernel_rfl) ?_)
        | (refine ⟨rfl, rfl, rfl, rfl, rfl, ?_⟩)
        | fail)
    refine ⟨fun h2 => ?_, fun h2 => ?_⟩
    · repeat' (first
          | (with_reducible refine wpC_skip ?_)
          | (with_reducible refine wpC_seq ?_)
          | (with_reducible refine wpC_block ?_)
          | (with_reducible refine wpC_drawL ?_)
          | (with_reducible refine wpC_opsL ?_)
          | (with_reducible refine wpC_draw ?_)
          | (with_reducible refine wpC_ops ?_)
          | (with_reducible refine wpOps_nil ?_)
          | (first
              | (with_reducible refine wpOps_cons ?_)
              | (with_reducible refine wpDraw_cons ?_)
             first
              | (with_reducible refine wpGuard_none ?_)
              | (refine wpGuard_yes rfl rfl rfl ?_)
              | (refine wpGuard_no rfl rfl rfl ?_)
              | (refine wpGuard_yes rfl rfl (by assumption) ?_)
              | (refine wpGuard_no rfl rfl (by assumption) ?_)
              | (refine wpGuard_skip rfl rfl ?_)
              | skip)
          | (with_reducible refine putS_some ?_)
          | (with_reducible refine putS_none ?_)
          | (with_reducible refine seqQ_normal ?_)
          | (refine ⟨_, rfl, ?_⟩)
          | (refine guardYes (by assumption) ?_)
          | (refine guardYes rfl ?_)
          | (refine guardNo rfl ?_)
          | (refine guardNo (by assumption) ?_)
          | (refine ⟨_, _, rfl, by decide, ?_⟩)
          | (refine ⟨rfl, rfl, rfl, ?_⟩)
          | (refine ⟨rfl, rfl, ?_⟩)
          | (refine ⟨_, _, rfl, _, rfl, ?_⟩)
          | (refine And.intro (Nat.le_of_ble_eq_true rfl) ?_)
          | (refine And.intro (by omega) ?_)
          | (refine ⟨_, _, rfl, rfl, _, rfl, rfl, ?_⟩)
          | (refine And.intro (by kernel_rfl) ?_)
          | (refine ⟨rfl, rfl, rfl, rfl, rfl, ?_⟩)
          | fail)
      refine ⟨[_, _], ⟨Fz.deep rfl, Fz.deep rfl, trivial⟩, ?_⟩
      rw [firstN_here hlt hprev (by simpa using h2)]; rfl
    · repeat' (first
          | (with_reducible refine wpC_skip ?_)
          | (with_reducible refine wpC_seq ?_)
          | (with_reducible refine wpC_block ?_)
          | (with_reducible refine wpC_drawL ?_)
          | (with_reducible refine wpC_opsL ?_)
          | (with_reducible refine wpC_draw ?_)
          | (with_reducible refine wpC_ops ?_)
          | (with_reducible refine wpOps_nil ?_)
          | (first
              | (with_reducible refine wpOps_cons ?_)
              | (with_reducible refine wpDraw_cons ?_)
             first
              | (with_reducible refine wpGuard_none ?_)
              | (refine wpGuard_yes rfl rfl rfl ?_)
              | (refine wpGuard_no rfl rfl rfl ?_)
              | (refine wpGuard_yes rfl rfl (by assumption) ?_)
              | (refine wpGuard_no rfl rfl (by assumption) ?_)
              | (refine wpGuard_skip rfl rfl ?_)
              | skip)
          | (with_reducible refine putS_some ?_)
          | (with_reducible refine putS_none ?_)
          | (with_reducible refine seqQ_normal ?_)
          | (refine ⟨_, rfl, ?_⟩)
          | (refine guardYes (by assumption) ?_)
          | (refine guardYes rfl ?_)
          | (refine guardNo rfl ?_)
          | (refine guardNo (by assumption) ?_)
          | (refine ⟨_, _, rfl, by decide, ?_⟩)
          | (refine ⟨rfl, rfl, rfl, ?_⟩)
          | (refine ⟨rfl, rfl, ?_⟩)
          | (refine ⟨_, _, rfl, _, rfl, ?_⟩)
          | (refine And.intro (Nat.le_of_ble_eq_true rfl) ?_)
          | (refine And.intro (by omega) ?_)
          | (refine ⟨_, _, rfl, rfl, _, rfl, rfl, ?_⟩)
          | (refine And.intro (by kernel_rfl) ?_)
          | (refine ⟨rfl, rfl, rfl, rfl, rfl, ?_⟩)
          | fail)
      refine ⟨k + 1, ⟨hlt, fun i hik => ?_⟩, (by dsimp only; omega), Weaker.to 0 rfl ⟨rfl, rfl, rfl, i64c (by simp), trivial⟩ (Nat.le_refl _) (by simp [inb_fl, inb_sl, deep_inb 0 _ hF]) rfl⟩
      by_cases hik' : i = k
      · subst hik'; simpa using h2
      · exact hprev i (by omega)
  · repeat' (first
        | (with_reducible refine wpC_skip ?_)
        | (with_reducible refine wpC_seq ?_)
        | (with_reducible refine wpC_block ?_)
        | (with_reducible refine wpC_drawL ?_)
        | (with_reducible refine wpC_opsL ?_)
        | (with_reducible refine wpC_draw ?_)
        | (with_reducible refine wpC_ops ?_)
        | (with_reducible refine wpOps_nil ?_)
        | (first
            | (with_reducible refine wpOps_cons ?_)
            | (with_reducible refine wpDraw_cons ?_)
           first
            | (with_reducible refine wpGuard_none ?_)
            | (refine wpGuard_yes rfl rfl rfl ?_)
            | (refine wpGuard_no rfl rfl rfl ?_)
            | (refine wpGuard_yes rfl rfl (by assumption) ?_)
            | (refine wpGuard_no rfl rfl (by assumption) ?_)
            | (refine wpGuard_skip rfl rfl ?_)
            | skip)
        | (with_reducible refine putS_some ?_)
        | (with_reducible refine putS_none ?_)
        | (with_reducible refine seqQ_normal ?_)
        | (refine ⟨_, rfl, ?_⟩)
        | (refine guardYes (by assumption) ?_)
        | (refine guardYes rfl ?_)
        | (refine guardNo rfl ?_)
        | (refine guardNo (by assumption) ?_)
        | (refine ⟨_, _, rfl, by decide, ?_⟩)
        | (refine ⟨rfl, rfl, rfl, ?_⟩)
        | (refine ⟨rfl, rfl, ?_⟩)
        | (refine ⟨_, _, rfl, _, rfl, ?_⟩)
        | (refine And.intro (Nat.le_of_ble_eq_true rfl) ?_)
        | (refine And.intro (by omega) ?_)
        | (refine ⟨_, _, rfl, rfl, _, rfl, rfl, ?_⟩)
        | (refine And.intro (by kernel_rfl) ?_)
        | (refine ⟨rfl, rfl, rfl, rfl, rfl, ?_⟩)
        | fail)
    refine ⟨[_, _], ⟨Fz.deep rfl, Fz.deep rfl, trivial⟩, ?_⟩
    have : k = l.length := by simp at h; omega
    rw [firstN_none fun i hi => hprev i (by omega)]; rfl

theorem first56_c (one : Bool) (g : FuncId) (fs cs : List AV) (hF : (AV.fn g fs cs).deep = true) (e : Nat → Int) (l : List Cargo) (full : Bool) (hl : l.length ≤ maxLen) (hp : ∀ i (h : i < l.length), PureV TT TB one (.fn g fs cs) [I64 i, .ag (eCargo l[i])] (I64 (e i))) :
    Pu one 56 [.sl (l.map eCargo) full, .fn g fs cs] (.tp [I64 (firstN l.length e).1, I64 (firstN l.length e).2]) := by
  unfold maxLen at hl
  refine PureV.body (fn := Try.f56) rfl rfl rfl rfl ?_
  refine wpC_sound (mu := fun _ => false) ?_
  repeat' (first
      | (with_reducible refine wpC_skip ?_)
      | (with_reducible refine wpC_seq ?_)
      | (with_reducible refine wpC_block ?_)
      | (with_reducible refine wpC_drawL ?_)
      | (with_reducible refine wpC_opsL ?_)
      | (with_reducible refine wpC_draw ?_)
      | (with_reducible refine wpC_ops ?_)
      | (with_reducible refine wpOps_nil ?_)
      | (first
          | (with_reducible refine wpOps_cons ?_)
          | (with_reducible refine wpDraw_cons ?_)
         first
          | (with_reducible refine wpGuard_none ?_)
          | (refine wpGuard_yes rfl rfl rfl ?_)
          | (refine wpGuard_no rfl rfl rfl ?_)
          | (refine wpGuard_yes rfl rfl (by assumption) ?_)
          | (refine wpGuard_no rfl rfl (by assumption) ?_)
          | (refine wpGuard_skip rfl rfl ?_)
          | skip)
      | (with_reducible refine putS_some ?_)
      | (with_reducible refine putS_none ?_)
      | (with_reducible refine seqQ_normal ?_)
      | (refine ⟨_, rfl, ?_⟩)
      | (refine guardYes (by assumption) ?_)
      | (refine guardYes rfl ?_)
      | (refine guardNo rfl ?_)
      | (refine guardNo (by assumption) ?_)
      | (refine ⟨_, _, rfl, by decide, ?_⟩)
      | (refine ⟨rfl, rfl, rfl, ?_⟩)
      | (refine ⟨rfl, rfl, ?_⟩)
      | (refine ⟨_, _, rfl, _, rfl, ?_⟩)
      | (refine And.intro (Nat.le_of_ble_eq_true rfl) ?_)
      | (refine And.intro (by omega) ?_)
      | (refine ⟨_, _, rfl, rfl, _, rfl, rfl, ?_⟩)
      | (refine And.intro (by kernel_rfl) ?_)
      | (refine ⟨rfl, rfl, rfl, rfl, rfl, ?_⟩)
      | fail)
  refine SemC.weaker (Weaker.to (l := [(1, .fn g fs cs), (9, .sl (l.map eCargo) full), (10, I64 l.length), (11, I64 ((0 : Nat) : Int))]) 0 rfl ⟨rfl, rfl, i64c (by simp), rfl, trivial⟩ (Nat.le_refl _) (by simp [inb_fl, inb_sl, deep_inb 0 _ hF]) rfl) ?_
  refine SemC.loop (fun k : Nat => k ≤ l.length ∧ ∀ i, i < k → e i = 0) (fun k => ⟨mkFr [(1, .fn g fs cs), (9, .sl (l.map eCargo) full), (10, I64 l.length), (11, I64 (k : Int))], [], Amb.none, false, 0⟩) (fun k => l.length - k) ?_ 0 ⟨Nat.zero_le _, fun i hi => absurd hi (by omega)⟩
  intro k ⟨hk, hprev⟩
  refine wpC_sound (mu := fun _ => false) ?_
  refine ⟨fun h => ?_, fun h => ?_⟩
  · have hlt : k < l.length := by simpa using h
    repeat' (first
        | (with_reducible refine wpC_skip ?_)
        | (with_reducible refine wpC_seq ?_)
        | (with_reducible refine wpC_block ?_)
        | (with_reducible refine wpC_drawL ?_)
        | (with_reducible refine wpC_opsL ?_)
        | (with_reducible refine wpC_draw ?_)
        | (with_reducible refine wpC_ops ?_)
        | (with_reducible refine wpOps_nil ?_)
        | (first
            | (with_reducible refine wpOps_cons ?_)
            | (with_reducible refine wpDraw_cons ?_)
           first
            | (with_reducible refine wpGuard_none ?_)
            | (refine wpGuard_yes rfl rfl rfl ?_)
            | (refine wpGuard_no rfl rfl rfl ?_)
            | (refine wpGuard_yes rfl rfl (by assumption) ?_)
            | (refine wpGuard_no rfl rfl (by assumption) ?_)
            | (refine wpGuard_skip rfl rfl ?_)
            | skip)
        | (with_reducible refine putS_some ?_)
        | (with_reducible refine putS_none ?_)
        | (with_reducible refine seqQ_normal ?_)
        | (refine ⟨_, rfl, ?_⟩)
        | (refine guardYes (by assumption) ?_)
        | (refine guardYes rfl ?_)
        | (refine guardNo rfl ?_)
        | (refine guardNo (by assumption) ?_)
        | (refine ⟨_, _, rfl, by decide, ?_⟩)
        | (refine ⟨rfl, rfl, rfl, ?_⟩)
        | (refine ⟨rfl, rfl, ?_⟩)
        | (refine ⟨_, _, rfl, _, rfl, ?_⟩)
        | (refine And.intro (Nat.le_of_ble_eq_true rfl) ?_)
        | (refine And.intro (by omega) ?_)
        | (refine ⟨_, _, rfl, rfl, _, rfl, rfl, ?_⟩)
        | (refine And.intro (by kernel_rfl) ?_)
        | (refine ⟨rfl, rfl, rfl, rfl, rfl, ?_⟩)
        | fail)
    refine ⟨eCargo l[k], ⟨by omega, by simp [hlt]⟩, rfl, ?_⟩
    repeat' (first
        | (with_reducible refine wpC_skip ?_)
        | (with_reducible refine wpC_seq ?_)
        | (with_reducible refine wpC_block ?_)
        | (with_reducible refine wpC_drawL ?_)
        | (with_reducible refine wpC_opsL ?_)
        | (with_reducible refine wpC_draw ?_)
        | (with_reducible refine wpC_ops ?_)
        | (with_reducible refine wpOps_nil ?_)
        | (first
            | (with_reducible refine wpOps_cons ?_)
            | (with_reducible refine wpDraw_cons ?_)
           first
            | (with_reducible refine wpGuard_none ?_)
            | (refine wpGuard_yes rfl rfl rfl ?_)
            | (refine wpGuard_no rfl rfl rfl ?_)
            | (refine wpGuard_yes rfl rfl (by assumption) ?_)
            | (refine wpGuard_no rfl rfl (by assumption) ?_)
            | (refine wpGuard_skip rfl rfl ?_)
            | skip)
        | (with_reducible refine putS_some ?_)
        | (with_reducible refine putS_none ?_)
        | (with_reducible refine seqQ_normal ?_)
        | (refine ⟨_, rfl, ?_⟩)
        | (refine guardYes (by assumption) ?_)
        | (refine guardYes rfl ?_)
        | (refine guardNo rfl ?_)
        | (refine guardNo (by assumption) ?_)
        | (refine ⟨_, _, rfl, by decide, ?_⟩)
        | (refine ⟨rfl, rfl, rfl, ?_⟩)
        | (refine ⟨rfl, rfl, ?_⟩)
        | (refine ⟨_, _, rfl, _, rfl, ?_⟩)
        | (refine And.intro (Nat.le_of_ble_eq_true rfl) ?_)
        | (refine And.intro (by omega) ?_)
        | (refine ⟨_, _, rfl, rfl, _, rfl, rfl, ?_⟩)
        | (refine And.intro (by kernel_rfl) ?_)
        | (refine ⟨rfl, rfl, rfl, rfl, rfl, ?_⟩)
        | fail)
    refine ⟨_, _, rfl, rfl, rfl, rfl, Nat.le_of_ble_eq_true rfl, ?_⟩
    repeat' (first
        | (with_reducible refine wpC_skip ?_)
        | (with_reducible refine wpC_seq ?_)
        | (with_reducible refine wpC_block ?_)
        | (with_reducible refine wpC_drawL ?_)
        | (with_reducible refine wpC_opsL ?_)
        | (with_reducible refine wpC_draw ?_)
        | (with_reducible refine wpC_ops ?_)
        | (with_reducible refine wpOps_nil ?_)
        | (first
            | (with_reducible refine wpOps_cons ?_)
            | (with_reducible refine wpDraw_cons ?_)
           first
            | (with_reducible refine wpGuard_none ?_)
            | (refine wpGuard_yes rfl rfl rfl ?_)
            | (refine wpGuard_no rfl rfl rfl ?_)
            | (refine wpGuard_yes rfl rfl (by assumption) ?_)
            | (refine wpGuard_no rfl rfl (by assumption) ?_)
            | (refine wpGuard_skip rfl rfl ?_)
            | skip)
        | (with_reducible refine putS_some ?_)
        | (with_reducible refine putS_none ?_)
        | (with_reducible refine seqQ_normal ?_)
        | (refine ⟨_, rfl, ?_⟩)
        | (refine guardYes (by assumption) ?_)
        | (refine guardYes rfl ?_)
        | (refine guardNo rfl ?_)
        | (refine guardNo (by assumption) ?_)
        | (refine ⟨_, _, rfl, by decide, ?_⟩)
        | (refine ⟨rfl, rfl, rfl, ?_⟩)
        | (refine ⟨rfl, rfl, ?_⟩)
        | (refine ⟨_, _, rfl, _, rfl, ?_⟩)
        | (refine And.intro (Nat.le_of_ble_eq_true rfl) ?_)
        | (refine And.intro (by omega) ?_)
        | (refine ⟨_, _, rfl, rfl, _, rfl, rfl, ?_⟩)
        | (refine And.intro (by kernel_rfl) ?_)
        | (refine ⟨rfl, rfl, rfl, rfl, rfl, ?_⟩)
        | fail)
    refine ⟨_, _, rfl, Nat.le_of_ble_eq_true rfl, ?_⟩
    repeat' (first
        | (with_reducible refine wpC_skip ?_)
        | (with_reducible refine wpC_seq ?_)
        | (with_reducible refine wpC_block ?_)
        | (with_reducible refine wpC_drawL ?_)
        | (with_reducible refine wpC_opsL ?_)
        | (with_reducible refine wpC_draw ?_)
        | (with_reducible refine wpC_ops ?_)
        | (with_reducible refine wpOps_nil ?_)
        | (first
            | (with_reducible refine wpOps_cons ?_)
            | (with_reducible refine wpDraw_cons ?_)
           first
            | (with_reducible refine wpGuard_none ?_)
            | (refine wpGuard_yes rfl rfl rfl ?_)
            | (refine wpGuard_no rfl rfl rfl ?_)
            | (refine wpGuard_yes rfl rfl (by assumption) ?_)
            | (refine wpGuard_no rfl rfl (by assumption) ?_)
            | (refine wpGuard_skip rfl rfl ?_)
            | skip)
        | (with_reducible refine putS_some ?_)
        | (with_reducible refine putS_none ?_)
        | (with_reducible refine seqQ_normal ?_)
        | (refine ⟨_, rfl, ?_⟩)
        | (refine guardYes (by assumption) ?_)
        | (refine guardYes rfl ?_)
        | (refine guardNo rfl ?_)
        | (refine guardNo (by assumption) ?_)
        | (refine ⟨_, _, rfl, by decide, ?_⟩)
        | (refine ⟨rfl, rfl, rfl, ?_⟩)
        | (refine ⟨rfl, rfl, ?_⟩)
        | (refine ⟨_, _, rfl, _, rfl, ?_⟩)
        | (refine And.intro (Nat.le_of_ble_eq_true rfl) ?_)
        | (refine And.intro (by omega) ?_)
        | (refine ⟨_, _, rfl, rfl, _, rfl, rfl, ?_⟩)
        | (refine And.intro (by kernel_rfl) ?_)
        | (refine ⟨rfl, rfl, rfl, rfl, rfl, ?_⟩)
        | fail)
    refine PureV.call (hp k hlt) hF rfl ?_
    repeat' (first
        | (with_reducible refine wpC_skip ?_)
        | (with_reducible refine wpC_seq ?_)
        | (with_reducible refine wpC_block ?_)
        | (with_reducible refine wpC_drawL ?_)
        | (with_reducible refine wpC_opsL ?_)
        | (with_reducible refine wpC_draw ?_)
        | (with_reducible refine wpC_ops ?_)
        | (with_reducible refine wpOps_nil ?_)
        | (first
            | (with_reducible refine wpOps_cons ?_)
            | (with_reducible refine wpDraw_cons ?_)
           first
            | (with_reducible refine wpGuard_none ?_)
            | (refine wpGuard_yes rfl rfl rfl ?_)
            | (refine wpGuard_no rfl rfl rfl ?_)
            | (refine wpGuard_yes rfl rfl (by assumption) ?_)
            | (refine wpGuard_no rfl rfl (by assumption) ?_)
            | (refine wpGuard_skip rfl rfl ?_)
            | skip)
        | (with_reducible refine putS_some ?_)
        | (with_reducible refine putS_none ?_)
        | (with_reducible refine seqQ_normal ?_)
        | (refine ⟨_, rfl, ?_⟩)
        | (refine guardYes (by assumption) ?_)
        | (refine guardYes rfl ?_)
        | (refine guardNo rfl ?_)
        | (refine guardNo (by assumption) ?_)
        | (refine ⟨_, _, rfl, by decide, ?_⟩)
        | (refine ⟨rfl, rfl, rfl, ?_⟩)
        | (refine ⟨rfl, rfl, ?_⟩)
        | (refine ⟨_, _, rfl, _, rfl, ?_⟩)
        | (refine And.intro (Nat.le_of_ble_eq_true rfl) ?_)
        | (refine And.intro (by omega) ?_)
        | (refine ⟨_, _, rfl, rfl, _, rfl, rfl, ?_⟩)
        | (refine And.intro (by kernel_rfl) ?_)
        | (refine ⟨rfl, rfl, rfl, rfl, rfl, ?_⟩)
        | fail)
    refine ⟨fun h2 => ?_, fun h2 => ?_⟩
    · repeat' (first
          | (with_reducible refine wpC_skip ?_)
          | (with_reducible refine wpC_seq ?_)
          | (with_reducible refine wpC_block ?_)
          | (with_reducible refine wpC_drawL ?_)
          | (with_reducible refine wpC_opsL ?_)
          | (with_reducible refine wpC_draw ?_)
          | (with_reducible refine wpC_ops ?_)
          | (with_reducible refine wpOps_nil ?_)
          | (first
              | (with_reducible refine wpOps_cons ?_)
              | (with_reducible refine wpDraw_cons ?_)
             first
              | (with_reducible refine wpGuard_none ?_)
              | (refine wpGuard_yes rfl rfl rfl ?_)
              | (refine wpGuard_no rfl rfl rfl ?_)
              | (refine wpGuard_yes rfl rfl (by assumption) ?_)
              | (refine wpGuard_no rfl rfl (by assumption) ?_)
              | (refine wpGuard_skip rfl rfl ?_)
              | skip)
          | (with_reducible refine putS_some ?_)
          | (with_reducible refine putS_none ?_)
          | (with_reducible refine seqQ_normal ?_)
          | (refine ⟨_, rfl, ?_⟩)
          | (refine guardYes (by assumption) ?_)
          | (refine guardYes rfl ?_)
          | (refine guardNo rfl ?_)
          | (refine guardNo (by assumption) ?_)
          | (refine ⟨_, _, rfl, by decide, ?_⟩)
          | (refine ⟨rfl, rfl, rfl, ?_⟩)
          | (refine ⟨rfl, rfl, ?_⟩)
          | (refine ⟨_, _, rfl, _, rfl, ?_⟩)
          | (refine And.intro (Nat.le_of_ble_eq_true rfl) ?_)
          | (refine And.intro (by omega) ?_)
          | (refine ⟨_, _, rfl, rfl, _, rfl, rfl, ?_⟩)
          | (refine And.intro (by kernel_rfl) ?_)
          | (refine ⟨rfl, rfl, rfl, rfl, rfl, ?_⟩)
          | fail)
      refine ⟨[_, _], ⟨Fz.deep rfl, Fz.deep rfl, trivial⟩, ?_⟩
      rw [firstN_here hlt hprev (by simpa using h2)]; rfl
    · repeat' (first
          | (with_reducible refine wpC_skip ?_)
          | (with_reducible refine wpC_seq ?_)
          | (with_reducible refine wpC_block ?_)
          | (with_reducible refine wpC_drawL ?_)
          | (with_reducible refine wpC_opsL ?_)
          | (with_reducible refine wpC_draw ?_)
          | (with_reducible refine wpC_ops ?_)
          | (with_reducible refine wpOps_nil ?_)
          | (first
              | (with_reducible refine wpOps_cons ?_)
              | (with_reducible refine wpDraw_cons ?_)
             first
              | (with_reducible refine wpGuard_none ?_)
              | (refine wpGuard_yes rfl rfl rfl ?_)
              | (refine wpGuard_no rfl rfl rfl ?_)
              | (refine wpGuard_yes rfl rfl (by assumption) ?_)
              | (refine wpGuard_no rfl rfl (by assumption) ?_)
              | (refine wpGuard_skip rfl rfl ?_)
              | skip)
          | (with_reducible refine putS_some ?_)
          | (with_reducible refine putS_none ?_)
          | (with_reducible refine seqQ_normal ?_)
          | (refine ⟨_, rfl, ?_⟩)
          | (refine guardYes (by assumption) ?_)
          | (refine guardYes rfl ?_)
          | (refine guardNo rfl ?_)
          | (refine guardNo (by assumption) ?_)
          | (refine ⟨_, _, rfl, by decide, ?_⟩)
          | (refine ⟨rfl, rfl, rfl, ?_⟩)
          | (refine ⟨rfl, rfl, ?_⟩)
          | (refine ⟨_, _, rfl, _, rfl, ?_⟩)
          | (refine And.intro (Nat.le_of_ble_eq_true rfl) ?_)
          | (refine And.intro (by omega) ?_)
          | (refine ⟨_, _, rfl, rfl, _, rfl, rfl, ?_⟩)
          | (refine And.intro (by kernel_rfl) ?_)
          | (refine ⟨rfl, rfl, rfl, rfl, rfl, ?_⟩)
          | fail)
      refine ⟨k + 1, ⟨hlt, fun i hik => ?_⟩, (by dsimp only; omega), Weaker.to 0 rfl ⟨rfl, rfl, rfl, i64c (by simp), trivial⟩ (Nat.le_refl _) (by simp [inb_fl, inb_sl, deep_inb 0 _ hF]) rfl⟩
      by_cases hik' : i = k
      · subst hik'; simpa using h2
      · exact hprev i (by omega)
  · repeat' (first
        | (with_reducible refine wpC_skip ?_)
        | (with_reducible refine wpC_seq ?_)
        | (with_reducible refine wpC_block ?_)
        | (with_reducible refine wpC_drawL ?_)
        | (with_reducible refine wpC_opsL ?_)
        | (with_reducible refine wpC_draw ?_)
        | (with_reducible refine wpC_ops ?_)
        | (with_reducible refine wpOps_nil ?_)
        | (first
            | (with_reducible refine wpOps_cons ?_)
            | (with_reducible refine wpDraw_cons ?_)
           first
            | (with_reducible refine wpGuard_none ?_)
            | (refine wpGuard_yes rfl rfl rfl ?_)
            | (refine wpGuard_no rfl rfl rfl ?_)
            | (refine wpGuard_yes rfl rfl (by assumption) ?_)
            | (refine wpGuard_no rfl rfl (by assumption) ?_)
            | (refine wpGuard_skip rfl rfl ?_)
            | skip)
        | (with_reducible refine putS_some ?_)
        | (with_reducible refine putS_none ?_)
        | (with_reducible refine seqQ_normal ?_)
        | (refine ⟨_, rfl, ?_⟩)
        | (refine guardYes (by assumption) ?_)
        | (refine guardYes rfl ?_)
        | (refine guardNo rfl ?_)
        | (refine guardNo (by assumption) ?_)
        | (refine ⟨_, _, rfl, by decide, ?_⟩)
        | (refine ⟨rfl, rfl, rfl, ?_⟩)
        | (refine ⟨rfl, rfl, ?_⟩)
        | (refine ⟨_, _, rfl, _, rfl, ?_⟩)
        | (refine And.intro (Nat.le_of_ble_eq_true rfl) ?_)
        | (refine And.intro (by omega) ?_)
        | (refine ⟨_, _, rfl, rfl, _, rfl, rfl, ?_⟩)
        | (refine And.intro (by kernel_rfl) ?_)
        | (refine ⟨rfl, rfl, rfl, rfl, rfl, ?_⟩)
        | fail)
    refine ⟨[_, _], ⟨Fz.deep rfl, Fz.deep rfl, trivial⟩, ?_⟩
    have : k = l.length := by simp at h; omega
    rw [firstN_none fun i hi => hprev i (by omega)]; rfl

theorem first107_c (one : Bool) (g : FuncId) (fs cs : List AV) (hF : (AV.fn g fs cs).deep = true) (e : Nat → Int) (l : List Count) (full : Bool) (hl : l.length ≤ maxLen) (hp : ∀ i (h : i < l.length), PureV TT TB one (.fn g fs cs) [I64 i, .ag (eCount l[i])] (I64 (e i))) :
    Pu one 107 [.sl (l.map eCount) full, .fn g fs cs] (.tp [I64 (firstN l.length e).1, I64 (firstN l.length e).2]) := by
  unfold maxLen at hl
  refine PureV.body (fn := Try.f107) rfl rfl rfl rfl ?_
  refine wpC_sound (mu := fun _ => false) ?_
  repeat' (first
      | (with_reducible refine wpC_skip ?_)
      | (with_reducible refine wpC_seq ?_)
      | (with_reducible refine wpC_block ?_)
      | (with_reducible refine wpC_drawL ?_)
      | (with_reducible refine wpC_opsL ?_)
      | (with_reducible refine wpC_draw ?_)
      | (with_reducible refine wpC_ops ?_)
      | (with_reducible refine wpOps_nil ?_)
      | (first
          | (with_reducible refine wpOps_cons ?_)
          | (with_reducible refine wpDraw_cons ?_)
         first
          | (with_reducible refine wpGuard_none ?_)
          | (refine wpGuard_yes rfl rfl rfl ?_)
          | (refine wpGuard_no rfl rfl rfl ?_)
          | (refine wpGuard_yes rfl rfl (by assumption) ?_)
          | (refine wpGuard_no rfl rfl (by assumption) ?_)
          | (refine wpGuard_skip rfl rfl ?_)
          | skip)
      | (with_reducible refine putS_some ?_)
      | (with_reducible refine putS_none ?_)
      | (with_reducible refine seqQ_normal ?_)
      | (refine ⟨_, rfl, ?_⟩)
      | (refine guardYes (by assumption) ?_)
      | (refine guardYes rfl ?_)
      | (refine guardNo rfl ?_)
      | (refine guardNo (by assumption) ?_)
      | (refine ⟨_, _, rfl, by decide, ?_⟩)
      | (refine ⟨rfl, rfl, rfl, ?_⟩)
      | (refine ⟨rfl, rfl, ?_⟩)
      | (refine ⟨_, _, rfl, _, rfl, ?_⟩)
      | (refine And.intro (Nat.le_of_ble_eq_true rfl) ?_)
      | (refine And.intro (by omega) ?_)
      | (refine ⟨_, _, rfl, rfl, _, rfl, rfl, ?_⟩)
      | (refine And.intro (by kernel_rfl) ?_)
      | (refine ⟨rfl, rfl, rfl, rfl, rfl, ?_⟩)
      | fail)
  refine SemC.weaker (Weaker.to (l := [(1, .fn g fs cs), (9, .sl (l.map eCount) full), (10, I64 l.length), (11, I64 ((0 : Nat) : Int))]) 0 rfl ⟨rfl, rfl, i64c (by simp), rfl, trivial⟩ (Nat.le_refl _) (by simp [inb_fl, inb_sl, deep_inb 0 _ hF]) rfl) ?_
  refine SemC.loop (fun k : Nat => k ≤ l.length ∧ ∀ i, i < k → e i = 0) (fun k => ⟨mkFr [(1, .fn g fs cs), (9, .sl (l.map eCount) full), (10, I64 l.length), (11, I64 (k : Int))], [], Amb.none, false, 0⟩) (fun k => l.length - k) ?_ 0 ⟨Nat.zero_le _, fun i hi => absurd hi (by omega)⟩
  intro k ⟨hk, hprev⟩
  refine wpC_sound (mu := fun _ => false) ?_
  refine ⟨fun h => ?_, fun h => ?_⟩
  · have hlt : k < l.length := by simpa using h
    repeat' (first
        | (with_reducible refine wpC_skip ?_)
        | (with_reducible refine wpC_seq ?_)
        | (with_reducible refine wpC_block ?_)
        | (with_reducible refine wpC_drawL ?_)
        | (with_reducible refine wpC_opsL ?_)
        | (with_reducible refine wpC_draw ?_)
        | (with_reducible refine wpC_ops ?_)
        | (with_reducible refine wpOps_nil ?_)
        | (first
            | (with_reducible refine wpOps_cons ?_)
            | (with_reducible refine wpDraw_cons ?_)
           first
            | (with_reducible refine wpGuard_none ?_)
            | (refine wpGuard_yes rfl rfl rfl ?_)
            | (refine wpGuard_no rfl rfl rfl ?_)
            | (refine wpGuard_yes rfl rfl (by assumption) ?_)
            | (refine wpGuard_no rfl rfl (by assumption) ?_)
            | (refine wpGuard_skip rfl rfl ?_)
            | skip)
        | (with_reducible refine putS_some ?_)
        | (with_reducible refine putS_none ?_)
        | (with_reducible refine seqQ_normal ?_)
        | (refine ⟨_, rfl, ?_⟩)
        | (refine guardYes (by assumption) ?_)
        | (refine guardYes rfl ?_)
        | (refine guardNo rfl ?_)
        | (refine guardNo (by assumption) ?_)
        | (refine ⟨_, _, rfl, by decide, ?_⟩)
        | (refine ⟨rfl, rfl, rfl, ?_⟩)
        | (refine ⟨rfl, rfl, ?_⟩)
        | (refine ⟨_, _, rfl, _, rfl, ?_⟩)
        | (refine And.intro (Nat.le_of_ble_eq_true rfl) ?_)
        | (refine And.intro (by omega) ?_)
        | (refine ⟨_, _, rfl, rfl, _, rfl, rfl, ?_⟩)
        | (refine And.intro (by kernel_rfl) ?_)
        | (refine ⟨rfl, rfl, rfl, rfl, rfl, ?_⟩)
        | fail)
    refine ⟨eCount l[k], ⟨by omega, by simp [hlt]⟩, rfl, ?_⟩
    repeat' (first
        | (with_reducible refine wpC_skip ?_)
        | (with_reducible refine wpC_seq ?_)
        | (with_reducible refine wpC_block ?_)
        | (with_reducible refine wpC_drawL ?_)
        | (with_reducible refine wpC_opsL ?_)
        | (with_reducible refine wpC_draw ?_)
        | (with_reducible refine wpC_ops ?_)
        | (with_reducible refine wpOps_nil ?_)
        | (first
            | (with_reducible refine wpOps_cons ?_)
            | (with_reducible refine wpDraw_cons ?_)
           first
            | (with_reducible refine wpGuard_none ?_)
            | (refine wpGuard_yes rfl rfl rfl ?_)
            | (refine wpGuard_no rfl rfl rfl ?_)
            | (refine wpGuard_yes rfl rfl (by assumption) ?_)
            | (refine wpGuard_no rfl rfl (by assumption) ?_)
            | (refine wpGuard_skip rfl rfl ?_)
            | skip)
        | (with_reducible refine putS_some ?_)
        | (with_reducible refine putS_none ?_)
        | (with_reducible refine seqQ_normal ?_)
        | (refine ⟨_, rfl, ?_⟩)
        | (refine guardYes (by assumption) ?_)
        | (refine guardYes rfl ?_)
        | (refine guardNo rfl ?_)
        | (refine guardNo (by assumption) ?_)
        | (refine ⟨_, _, rfl, by decide, ?_⟩)
        | (refine ⟨rfl, rfl, rfl, ?_⟩)
        | (refine ⟨rfl, rfl, ?_⟩)
        | (refine ⟨_, _, rfl, _, rfl, ?_⟩)
        | (refine And.intro (Nat.le_of_ble_eq_true rfl) ?_)
        | (refine And.intro (by omega) ?_)
        | (refine ⟨_, _, rfl, rfl, _, rfl, rfl, ?_⟩)
        | (refine And.intro (by kernel_rfl) ?_)
        | (refine ⟨rfl, rfl, rfl, rfl, rfl, ?_⟩)
        | fail)
    refine ⟨_, _, rfl, rfl, rfl, rfl, Nat.le_of_ble_eq_true rfl, ?_⟩
    repeat' (first
        | (with_reducible refine wpC_skip ?_)
        | (with_reducible refine wpC_seq ?_)
        | (with_reducible refine wpC_block ?_)
        | (with_reducible refine wpC_drawL ?_)
        | (with_reducible refine wpC_opsL ?_)
        | (with_reducible refine wpC_draw ?_)
        | (with_reducible refine wpC_ops ?_)
        | (with_reducible refine wpOps_nil ?_)
        | (first
            | (with_reducible refine wpOps_cons ?_)
            | (with_reducible refine wpDraw_cons ?_)
           first
            | (with_reducible refine wpGuard_none ?_)
            | (refine wpGuard_yes rfl rfl rfl ?_)
            | (refine wpGuard_no rfl rfl rfl ?_)
            | (refine wpGuard_yes rfl rfl (by assumption) ?_)
            | (refine wpGuard_no rfl rfl (by assumption) ?_)
            | (refine wpGuard_skip rfl rfl ?_)
            | skip)
        | (with_reducible refine putS_some ?_)
        | (with_reducible refine putS_none ?_)
        | (with_reducible refine seqQ_normal ?_)
        | (refine ⟨_, rfl, ?_⟩)
        | (refine guardYes (by assumption) ?_)
        | (refine guardYes rfl ?_)
        | (refine guardNo rfl ?_)
        | (refine guardNo (by assumption) ?_)
        | (refine ⟨_, _, rfl, by decide, ?_⟩)
        | (refine ⟨rfl, rfl, rfl, ?_⟩)
        | (refine ⟨rfl, rfl, ?_⟩)
        | (refine ⟨_, _, rfl, _, rfl, ?_⟩)
        | (refine And.intro (Nat.le_of_ble_eq_true rfl) ?_)
        | (refine And.intro (by omega) ?_)
        | (refine ⟨_, _, rfl, rfl, _, rfl, rfl, ?_⟩)
        | (refine And.intro (by kernel_rfl) ?_)
        | (refine ⟨rfl, rfl, rfl, rfl, rfl, ?_⟩)
        | fail)
    refine ⟨_, _, rfl, Nat.le_of_ble_eq_true rfl, ?_⟩
    repeat' (first
        | (with_reducible refine wpC_skip ?_)
        | (with_reducible refine wpC_seq ?_)
        | (with_reducible refine wpC_block ?_)
        | (with_reducible refine wpC_drawL ?_)
        | (with_reducible refine wpC_opsL ?_)
        | (with_reducible refine wpC_draw ?_)
        | (with_reducible refine wpC_ops ?_)
        | (with_reducible refine wpOps_nil ?_)
        | (first
            | (with_reducible refine wpOps_cons ?_)
            | (with_reducible refine wpDraw_cons ?_)
           first
            | (with_reducible refine wpGuard_none ?_)
            | (refine wpGuard_yes rfl rfl rfl ?_)
            | (refine wpGuard_no rfl rfl rfl ?_)
            | (refine wpGuard_yes rfl rfl (by assumption) ?_)
            | (refine wpGuard_no rfl rfl (by assumption) ?_)
            | (refine wpGuard_skip rfl rfl ?_)
            | skip)
        | (with_reducible refine putS_some ?_)
        | (with_reducible refine putS_none ?_)
        | (with_reducible refine seqQ_normal ?_)
        | (refine ⟨_, rfl, ?_⟩)
        | (refine guardYes (by assumption) ?_)
        | (refine guardYes rfl ?_)
        | (refine guardNo rfl ?_)
        | (refine guardNo (by assumption) ?_)
        | (refine ⟨_, _, rfl, by decide, ?_⟩)
        | (refine ⟨rfl, rfl, rfl, ?_⟩)
        | (refine ⟨rfl, rfl, ?_⟩)
        | (refine ⟨_, _, rfl, _, rfl, ?_⟩)
        | (refine And.intro (Nat.le_of_ble_eq_true rfl) ?_)
        | (refine And.intro (by omega) ?_)
        | (refine ⟨_, _, rfl, rfl, _, rfl, rfl, ?_⟩)
        | (refine And.intro (by kernel_rfl) ?_)
        | (refine ⟨rfl, rfl, rfl, rfl, rfl, ?_⟩)
        | fail)
    refine PureV.call (hp k hlt) hF rfl ?_
    repeat' (first
        | (with_reducible refine wpC_skip ?_)
        | (with_reducible refine wpC_seq ?_)
        | (with_reducible refine wpC_block ?_)
        | (with_reducible refine wpC_drawL ?_)
        | (with_reducible refine wpC_opsL ?_)
        | (with_reducible refine wpC_draw ?_)
        | (with_reducible refine wpC_ops ?_)
        | (with_reducible refine wpOps_nil ?_)
        | (first
            | (with_reducible refine wpOps_cons ?_)
            | (with_reducible refine wpDraw_cons ?_)
           first
            | (with_reducible refine wpGuard_none ?_)
            | (refine wpGuard_yes rfl rfl rfl ?_)
            | (refine wpGuard_no rfl rfl rfl ?_)
            | (refine wpGuard_yes rfl rfl (by assumption) ?_)
            | (refine wpGuard_no rfl rfl (by assumption) ?_)
            | (refine wpGuard_skip rfl rfl ?_)
            | skip)
        | (with_reducible refine putS_some ?_)
        | (with_reducible refine putS_none ?_)
        | (with_reducible refine seqQ_normal ?_)
        | (refine ⟨_, rfl, ?_⟩)
        | (refine guardYes (by assumption) ?_)
        | (refine guardYes rfl ?_)
        | (refine guardNo rfl ?_)
        | (refine guardNo (by assumption) ?_)
        | (refine ⟨_, _, rfl, by decide, ?_⟩)
        | (refine ⟨rfl, rfl, rfl, ?_⟩)
        | (refine ⟨rfl, rfl, ?_⟩)
        | (refine ⟨_, _, rfl, _, rfl, ?_⟩)
        | (refine And.intro (Nat.le_of_ble_eq_true rfl) ?_)
        | (refine And.intro (by omega) ?_)
        | (refine ⟨_, _, rfl, rfl, _, rfl, rfl, ?_⟩)
        | (refine And.intro (by kernel_rfl) ?_)
        | (refine ⟨rfl, rfl, rfl, rfl, rfl, ?_⟩)
        | fail)
    refine ⟨fun h2 => ?_, fun h2 => ?_⟩
    · repeat' (first
          | (with_reducible refine wpC_skip ?_)
          | (with_reducible refine wpC_seq ?_)
          | (with_reducible refine wpC_block ?_)
          | (with_reducible refine wpC_drawL ?_)
          | (with_reducible refine wpC_opsL ?_)
          | (with_reducible refine wpC_draw ?_)
          | (with_reducible refine wpC_ops ?_)
          | (with_reducible refine wpOps_nil ?_)
          | (first
              | (with_reducible refine wpOps_cons ?_)
              | (with_reducible refine wpDraw_cons ?_)
             first
              | (with_reducible refine wpGuard_none ?_)
              | (refine wpGuard_yes rfl rfl rfl ?_)
              | (refine wpGuard_no rfl rfl rfl ?_)
              | (refine wpGuard_yes rfl rfl (by assumption) ?_)
              | (refine wpGuard_no rfl rfl (by assumption) ?_)
              | (refine wpGuard_skip rfl rfl ?_)
              | skip)
          | (with_reducible refine putS_some ?_)
          | (with_reducible refine putS_none ?_)
          | (with_reducible refine seqQ_normal ?_)
          | (refine ⟨_, rfl, ?_⟩)
          | (refine guardYes (by assumption) ?_)
          | (refine guardYes rfl ?_)
          | (refine guardNo rfl ?_)
          | (refine guardNo (by assumption) ?_)
          | (refine ⟨_, _, rfl, by decide, ?_⟩)
          | (refine ⟨rfl, rfl, rfl, ?_⟩)
          | (refine ⟨rfl, rfl, ?_⟩)
          | (refine ⟨_, _, rfl, _, rfl, ?_⟩)
          | (refine And.intro (Nat.le_of_ble_eq_true rfl) ?_)
          | (refine And.intro (by omega) ?_)
          | (refine ⟨_, _, rfl, rfl, _, rfl, rfl, ?_⟩)
          | (refine And.intro (by kernel_rfl) ?_)
          | (refine ⟨rfl, rfl, rfl, rfl, rfl, ?_⟩)
          | fail)
      refine ⟨[_, _], ⟨Fz.deep rfl, Fz.deep rfl, trivial⟩, ?_⟩
      rw [firstN_here hlt hprev (by simpa using h2)]; rfl
    · repeat' (first
          | (with_reducible refine wpC_skip ?_)
          | (with_reducible refine wpC_seq ?_)
          | (with_reducible refine wpC_block ?_)
          | (with_reducible refine wpC_drawL ?_)
          | (with_reducible refine wpC_opsL ?_)
          | (with_reducible refine wpC_draw ?_)
          | (with_reducible refine wpC_ops ?_)
          | (with_reducible refine wpOps_nil ?_)
          | (first
              | (with_reducible refine wpOps_cons ?_)
              | (with_reducible refine wpDraw_cons ?_)
             first
              | (with_reducible refine wpGuard_none ?_)
              | (refine wpGuard_yes rfl rfl rfl ?_)
              | (refine wpGuard_no rfl rfl rfl ?_)
              | (refine wpGuard_yes rfl rfl (by assumption) ?_)
              | (refine wpGuard_no rfl rfl (by assumption) ?_)
              | (refine wpGuard_skip rfl rfl ?_)
              | skip)
          | (with_reducible refine putS_some ?_)
          | (with_reducible refine putS_none ?_)
          | (with_reducible refine seqQ_normal ?_)
          | (refine ⟨_, rfl, ?_⟩)
          | (refine guardYes (by assumption) ?_)
          | (refine guardYes rfl ?_)
          | (refine guardNo rfl ?_)
          | (refine guardNo (by assumption) ?_)
          | (refine ⟨_, _, rfl, by decide, ?_⟩)
          | (refine ⟨rfl, rfl, rfl, ?_⟩)
          | (refine ⟨rfl, rfl, ?_⟩)
          | (refine ⟨_, _, rfl, _, rfl, ?_⟩)
          | (refine And.intro (Nat.le_of_ble_eq_true rfl) ?_)
          | (refine And.intro (by omega) ?_)
          | (refine ⟨_, _, rfl, rfl, _, rfl, rfl, ?_⟩)
          | (refine And.intro (by kernel_rfl) ?_)
          | (refine ⟨rfl, rfl, rfl, rfl, rfl, ?_⟩)
          | fail)
      refine ⟨k + 1, ⟨hlt, fun i hik => ?_⟩, (by dsimp only; omega), Weaker.to 0 rfl ⟨rfl, rfl, rfl, i64c (by simp), trivial⟩ (Nat.le_refl _) (by simp [inb_fl, inb_sl, deep_inb 0 _ hF]) rfl⟩
      by_cases hik' : i = k
      · subst hik'; simpa using h2
      · exact hprev i (by omega)
  · repeat' (first
        | (with_reducible refine wpC_skip ?_)
        | (with_reducible refine wpC_seq ?_)
        | (with_reducible refine wpC_block ?_)
        | (with_reducible refine wpC_drawL ?_)
        | (with_reducible refine wpC_opsL ?_)
        | (with_reducible refine wpC_draw ?_)
        | (with_reducible refine wpC_ops ?_)
        | (with_reducible refine wpOps_nil ?_)
        | (first
            | (with_reducible refine wpOps_cons ?_)
            | (with_reducible refine wpDraw_cons ?_)
           first
            | (with_reducible refine wpGuard_none ?_)
            | (refine wpGuard_yes rfl rfl rfl ?_)
            | (refine wpGuard_no rfl rfl rfl ?_)
            | (refine wpGuard_yes rfl rfl (by assumption) ?_)
            | (refine wpGuard_no rfl rfl (by assumption) ?_)
            | (refine wpGuard_skip rfl rfl ?_)
            | skip)
        | (with_reducible refine putS_some ?_)
        | (with_reducible refine putS_none ?_)
        | (with_reducible refine seqQ_normal ?_)
        | (refine ⟨_, rfl, ?_⟩)
        | (refine guardYes (by assumption) ?_)
        | (refine guardYes rfl ?_)
        | (refine guardNo rfl ?_)
        | (refine guardNo (by assumption) ?_)
        | (refine ⟨_, _, rfl, by decide, ?_⟩)
        | (refine ⟨rfl, rfl, rfl, ?_⟩)
        | (refine ⟨rfl, rfl, ?_⟩)
        | (refine ⟨_, _, rfl, _, rfl, ?_⟩)
        | (refine And.intro (Nat.le_of_ble_eq_true rfl) ?_)
        | (refine And.intro (by omega) ?_)
        | (refine ⟨_, _, rfl, rfl, _, rfl, rfl, ?_⟩)
        | (refine And.intro (by kernel_rfl) ?_)
        | (refine ⟨rfl, rfl, rfl, rfl, rfl, ?_⟩)
        | fail)
    refine ⟨[_, _], ⟨Fz.deep rfl, Fz.deep rfl, trivial⟩, ?_⟩
    have : k = l.length := by simp at h; omega
    rw [firstN_none fun i hi => hprev i (by omega)]; rfl

theorem check2_c (s : Stores) (i : Nat) (k : Kind) (hi : i ≤ s.kinds.length) (hk : k.name.data.toList.length ≤ maxLen) (hs : s.kinds.length ≤ maxLen) (one : Bool) : PureV TT TB one (.fn 54 [] [.pt (eStores s) 0]) [I64 i, .ag (eKind k)] (I64 (kindErr k ((s.kinds.take i).map (·.name)))) := by
  unfold maxLen at hs
  refine PureV.body (fn := Try.f54) rfl rfl rfl rfl ?_
  refine wpC_sound (mu := fun _ => false) ?_
  repeat' (first
      | (with_reducible refine wpC_skip ?_)
      | (with_reducible refine wpC_seq ?_)
      | (with_reducible refine wpC_block ?_)
      | (with_reducible refine wpC_drawL ?_)
      | (with_reducible refine wpC_opsL ?_)
      | (with_reducible refine wpC_draw ?_)
      | (with_reducible refine wpC_ops ?_)
      | (with_reducible refine wpOps_nil ?_)
      | (first
          | (with_reducible refine wpOps_cons ?_)
          | (with_reducible refine wpDraw_cons ?_)
         first
          | (with_reducible refine wpGuard_none ?_)
          | (refine wpGuard_yes rfl rfl rfl ?_)
          | (refine wpGuard_no rfl rfl rfl ?_)
          | (refine wpGuard_yes rfl rfl (by assumption) ?_)
          | (refine wpGuard_no rfl rfl (by assumption) ?_)
          | (refine wpGuard_skip rfl rfl ?_)
          | skip)
      | (with_reducible refine putS_some ?_)
      | (with_reducible refine putS_none ?_)
      | (with_reducible refine seqQ_normal ?_)
      | (refine ⟨_, rfl, ?_⟩)
      | (refine guardYes (by assumption) ?_)
      | (refine guardYes rfl ?_)
      | (refine guardNo rfl ?_)
      | (refine guardNo (by assumption) ?_)
      | (refine ⟨_, _, rfl, by decide, ?_⟩)
      | (refine ⟨rfl, rfl, rfl, ?_⟩)
      | (refine ⟨rfl, rfl, ?_⟩)
      | (refine ⟨_, _, rfl, _, rfl, ?_⟩)
      | (refine And.intro (Nat.le_of_ble_eq_true rfl) ?_)
      | (refine And.intro (by omega) ?_)
      | (refine ⟨_, _, rfl, rfl, _, rfl, rfl, ?_⟩)
      | (refine And.intro (by kernel_rfl) ?_)
      | (refine ⟨rfl, rfl, rfl, rfl, rfl, ?_⟩)
      | fail)
  refine ⟨0, i, rfl, rfl, ⟨by omega, by simpa using hi⟩, by decide, by simp, ?_⟩
  repeat' (first
      | (with_reducible refine wpC_skip ?_)
      | (with_reducible refine wpC_seq ?_)
      | (with_reducible refine wpC_block ?_)
      | (with_reducible refine wpC_drawL ?_)
      | (with_reducible refine wpC_opsL ?_)
      | (with_reducible refine wpC_draw ?_)
      | (with_reducible refine wpC_ops ?_)
      | (with_reducible refine wpOps_nil ?_)
      | (first
          | (with_reducible refine wpOps_cons ?_)
          | (with_reducible refine wpDraw_cons ?_)
         first
          | (with_reducible refine wpGuard_none ?_)
          | (refine wpGuard_yes rfl rfl rfl ?_)
          | (refine wpGuard_no rfl rfl rfl ?_)
          | (refine wpGuard_yes rfl rfl (by assumption) ?_)
          | (refine wpGuard_no rfl rfl (by assumption) ?_)
          | (refine wpGuard_skip rfl rfl ?_)
          | skip)
      | (with_reducible refine putS_some ?_)
      | (with_reducible refine putS_none ?_)
      | (with_reducible refine seqQ_normal ?_)
      | (refine ⟨_, rfl, ?_⟩)
      | (refine guardYes (by assumption) ?_)
      | (refine guardYes rfl ?_)
      | (refine guardNo rfl ?_)
      | (refine guardNo (by assumption) ?_)
      | (refine ⟨_, _, rfl, by decide, ?_⟩)
      | (refine ⟨rfl, rfl, rfl, ?_⟩)
      | (refine ⟨rfl, rfl, ?_⟩)
      | (refine ⟨_, _, rfl, _, rfl, ?_⟩)
      | (refine And.intro (Nat.le_of_ble_eq_true rfl) ?_)
      | (refine And.intro (by omega) ?_)
      | (refine ⟨_, _, rfl, rfl, _, rfl, rfl, ?_⟩)
      | (refine And.intro (by kernel_rfl) ?_)
      | (refine ⟨rfl, rfl, rfl, rfl, rfl, ?_⟩)
      | fail)
  refine ⟨_, kind_c true k (s.kinds.take i) _ _ (by simp) hk (by simp; unfold maxLen; omega), ?_⟩
  repeat' (first
      | (with_reducible refine wpC_skip ?_)
      | (with_reducible refine wpC_seq ?_)
      | (with_reducible refine wpC_block ?_)
      | (with_reducible refine wpC_drawL ?_)
      | (with_reducible refine wpC_opsL ?_)
      | (with_reducible refine wpC_draw ?_)
      | (with_reducible refine wpC_ops ?_)
      | (with_reducible refine wpOps_nil ?_)
      | (first
          | (with_reducible refine wpOps_cons ?_)
          | (with_reducible refine wpDraw_cons ?_)
         first
          | (with_reducible refine wpGuard_none ?_)
          | (refine wpGuard_yes rfl rfl rfl ?_)
          | (refine wpGuard_no rfl rfl rfl ?_)
          | (refine wpGuard_yes rfl rfl (by assumption) ?_)
          | (refine wpGuard_no rfl rfl (by assumption) ?_)
          | (refine wpGuard_skip rfl rfl ?_)
          | skip)
      | (with_reducible refine putS_some ?_)
      | (with_reducible refine putS_none ?_)
      | (with_reducible refine seqQ_normal ?_)
      | (refine ⟨_, rfl, ?_⟩)
      | (refine guardYes (by assumption) ?_)
      | (refine guardYes rfl ?_)
      | (refine guardNo rfl ?_)
      | (refine guardNo (by assumption) ?_)
      | (refine ⟨_, _, rfl, by decide, ?_⟩)
      | (refine ⟨rfl, rfl, rfl, ?_⟩)
      | (refine ⟨rfl, rfl, ?_⟩)
      | (refine ⟨_, _, rfl, _, rfl, ?_⟩)
      | (refine And.intro (Nat.le_of_ble_eq_true rfl) ?_)
      | (refine And.intro (by omega) ?_)
      | (refine ⟨_, _, rfl, rfl, _, rfl, rfl, ?_⟩)
      | (refine And.intro (by kernel_rfl) ?_)
      | (refine ⟨rfl, rfl, rfl, rfl, rfl, ?_⟩)
      | fail)
  exact ⟨[_], ⟨Fz.deep rfl, trivial⟩, rfl⟩

def cargoErr (s : Stores) (c : Cargo) : Int :=
  if outB 0 ((s.kinds.length : Int) - 1) [c.kind] then 4
  else if outB 0 ((s.men.length : Int) - 1) [c.day] || outB 0 300 [c.amount] then 7
  else 0

theorem check3_c (s : Stores) (i : Int) (c : Cargo) (hk : s.kinds.length ≤ maxLen) (hm : s.men.length ≤ maxLen) (one : Bool) : PureV TT TB one (.fn 57 [] [.pt (eStores s) 0]) [I64 i, .ag (eCargo c)] (I64 (cargoErr s c)) := by
  unfold maxLen at hk hm
  unfold cargoErr
  have e1 : ((s.kinds.map eKind).length : Int) = s.kinds.length := by simp
  have e2 : ((s.men.map eI).length : Int) = s.men.length := by simp
  refine PureV.body (fn := Try.f57) rfl rfl rfl rfl ?_
  refine wpC_sound (mu := fun _ => false) ?_
  repeat' (first
      | (with_reducible refine wpC_skip ?_)
      | (with_reducible refine wpC_seq ?_)
      | (with_reducible refine wpC_block ?_)
      | (with_reducible refine wpC_drawL ?_)
      | (with_reducible refine wpC_opsL ?_)
      | (with_reducible refine wpC_draw ?_)
      | (with_reducible refine wpC_ops ?_)
      | (with_reducible refine wpOps_nil ?_)
      | (first
          | (with_reducible refine wpOps_cons ?_)
          | (with_reducible refine wpDraw_cons ?_)
         first
          | (with_reducible refine wpGuard_none ?_)
          | (refine wpGuard_yes rfl rfl rfl ?_)
          | (refine wpGuard_no rfl rfl rfl ?_)
          | (refine wpGuard_yes rfl rfl (by assumption) ?_)
          | (refine wpGuard_no rfl rfl (by assumption) ?_)
          | (refine wpGuard_skip rfl rfl ?_)
          | skip)
      | (with_reducible refine putS_some ?_)
      | (with_reducible refine putS_none ?_)
      | (with_reducible refine seqQ_normal ?_)
      | (refine ⟨_, rfl, ?_⟩)
      | (refine guardYes (by assumption) ?_)
      | (refine guardYes rfl ?_)
      | (refine guardNo rfl ?_)
      | (refine guardNo (by assumption) ?_)
      | (refine ⟨_, _, rfl, by decide, ?_⟩)
      | (refine ⟨rfl, rfl, rfl, ?_⟩)
      | (refine ⟨rfl, rfl, ?_⟩)
      | (refine ⟨_, _, rfl, _, rfl, ?_⟩)
      | (refine And.intro (Nat.le_of_ble_eq_true rfl) ?_)
      | (refine And.intro (by omega) ?_)
      | (refine ⟨_, _, rfl, rfl, _, rfl, rfl, ?_⟩)
      | (refine And.intro (by kernel_rfl) ?_)
      | (refine ⟨rfl, rfl, rfl, rfl, rfl, ?_⟩)
      | (refine PureV.call (outside_c one _ _ _ _ rfl (Nat.le_of_ble_eq_true rfl)) rfl rfl ?_)
      | (refine ⟨fun h => ?_, fun h => ?_⟩)
      | fail)
  all_goals refine ⟨[_], ⟨Fz.deep rfl, trivial⟩, i64c ?_⟩
  all_goals simp_all [cells_fl, unI_fl]

/-- P8.1. -/
def chk (s : Stores) : Int × Int × Int :=
  if outB 1 30 [(s.men.length : Int)] || outB 1 4 [(s.kinds.length : Int)] || decide (8 < (s.cargos.length : Int)) then (1, 0, 3)
  else
    let i := idxF (fun n => outB 0 12 [n]) s.men
    if 0 ≤ i then (1, i, 7)
    else
      let a := firstN s.kinds.length fun i => match s.kinds[i]? with | some k => kindErr k ((s.kinds.take i).map (·.name)) | none => 0
      if a.2 ≠ 0 then (2, a.1, a.2)
      else
        let b := firstN s.cargos.length fun i => match s.cargos[i]? with | some c => cargoErr s c | none => 0
        if b.2 ≠ 0 then (3, b.1, b.2) else (0, 0, 0)

theorem tp3 {a b c a' b' c' : Int} (h1 : a = a') (h2 : b = b') (h3 : c = c') : AV.tp [I64 a, I64 b, I64 c] = AV.tp [I64 a', I64 b', I64 c'] := by rw [h1, h2, h3]

theorem check_c (s : Stores) (h : s.Ok) (one : Bool) : Pu one 17 [.ag (eStores s)] (.tp [I64 (chk s).1, I64 (chk s).2.1, I64 (chk s).2.2]) := by
  have hm := h.men
  have hk := h.kinds
  have hc := h.cargos
  have c1 := indexFunc51_c one 52 [] [] rfl (fun n => outB 0 12 [n]) s.men false hm (fun n _ => check1_c one n)
  have c2 := first53_c one 54 [] [.pt (eStores s) 0] rfl (fun i => match s.kinds[i]? with | some k => kindErr k ((s.kinds.take i).map (·.name)) | none => 0) s.kinds false hk (fun i hi => by
    simp only [List.getElem?_eq_getElem hi]
    exact check2_c s i _ (by omega) (h.names _ (List.getElem_mem hi)) hk one)
  have c3 := first56_c one 57 [] [.pt (eStores s) 0] rfl (fun i => match s.cargos[i]? with | some c => cargoErr s c | none => 0) s.cargos false hc (fun i hi => by
    simp only [List.getElem?_eq_getElem hi]
    exact check3_c s i _ hk hm one)
  unfold chk
  generalize idxF (fun n => outB 0 12 [n]) s.men = i at c1 ⊢
  generalize (firstN s.kinds.length fun i => match s.kinds[i]? with | some k => kindErr k ((s.kinds.take i).map (·.name)) | none => 0) = a at c2 ⊢
  generalize (firstN s.cargos.length fun i => match s.cargos[i]? with | some c => cargoErr s c | none => 0) = b at c3 ⊢
  unfold maxLen at hm hk hc
  refine PureV.body (fn := Try.f17) rfl rfl rfl rfl ?_
  refine wpC_sound (mu := fun _ => false) ?_
  repeat' (first
      | (with_reducible refine wpC_skip ?_)
      | (with_reducible refine wpC_seq ?_)
      | (with_reducible refine wpC_block ?_)
      | (with_reducible refine wpC_drawL ?_)
      | (with_reducible refine wpC_opsL ?_)
      | (with_reducible refine wpC_draw ?_)
      | (with_reducible refine wpC_ops ?_)
      | (with_reducible refine wpOps_nil ?_)
      | (first
          | (with_reducible refine wpOps_cons ?_)
          | (with_reducible refine wpDraw_cons ?_)
         first
          | (with_reducible refine wpGuard_none ?_)
          | (refine wpGuard_yes rfl rfl rfl ?_)
          | (refine wpGuard_no rfl rfl rfl ?_)
          | (refine wpGuard_yes rfl rfl (by assumption) ?_)
          | (refine wpGuard_no rfl rfl (by assumption) ?_)
          | (refine wpGuard_skip rfl rfl ?_)
          | skip)
      | (with_reducible refine putS_some ?_)
      | (with_reducible refine putS_none ?_)
      | (with_reducible refine seqQ_normal ?_)
      | (refine ⟨_, rfl, ?_⟩)
      | (refine guardYes (by assumption) ?_)
      | (refine guardYes rfl ?_)
      | (refine guardNo rfl ?_)
      | (refine guardNo (by assumption) ?_)
      | (refine ⟨_, _, rfl, by decide, ?_⟩)
      | (refine ⟨rfl, rfl, rfl, ?_⟩)
      | (refine ⟨rfl, rfl, ?_⟩)
      | (refine ⟨_, _, rfl, _, rfl, ?_⟩)
      | (refine And.intro (Nat.le_of_ble_eq_true rfl) ?_)
      | (refine And.intro (by omega) ?_)
      | (refine ⟨_, _, rfl, rfl, _, rfl, rfl, ?_⟩)
      | (refine And.intro (by kernel_rfl) ?_)
      | (refine ⟨rfl, rfl, rfl, rfl, rfl, ?_⟩)
      | (refine PureV.call (outside_c one _ _ _ _ rfl (Nat.le_of_ble_eq_true rfl)) rfl rfl ?_)
      | (refine PureV.call c1 rfl rfl ?_)
      | (refine PureV.call c2 rfl rfl ?_)
      | (refine PureV.call c3 rfl rfl ?_)
      | (refine ⟨fun h => ?_, fun h => ?_⟩)
      | fail)
  all_goals refine ⟨[_, _, _], ⟨Fz.deep rfl, Fz.deep rfl, Fz.deep rfl, trivial⟩, ?_⟩
  all_goals refine tp3 ?_ ?_ ?_
  all_goals simp_all [cells_fl, unI_fl]
  all_goals (repeat' split) <;> first | rfl | omega | (simp_all <;> omega)
end Go.Proofs.Ytmkaeohmdcoanaa
open Go Go.RM
namespace Go.Proofs.Ytmkaeohmdcoanaa
set_option maxRecDepth 100000

/-! ### The document's side: names, kinds, the check -/

def inB (n lo hi : Int) : Bool := decide (lo ≤ n) && decide (n ≤ hi)

theorem inB_iff {n lo hi : Int} : inB n lo hi = true ↔ lo ≤ n ∧ n ≤ hi := by simp [inB]

theorem outB_one (n lo hi : Int) : outB lo hi [n] = !inB n lo hi := by
  unfold outB inB
  rw [Bool.eq_iff_iff]
  simp

theorem in58_c (one : Bool) (n lo hi : Int) : Pu one 58 [I64 n, I64 lo, I64 hi] (BB (inB n lo hi)) := by
  refine PureV.body (fn := Try.f58) rfl rfl rfl rfl ?_
  refine wpC_sound (mu := fun _ => false) ?_
  repeat' (first
      | (with_reducible refine wpC_skip ?_)
      | (with_reducible refine wpC_seq ?_)
      | (with_reducible refine wpC_block ?_)
      | (with_reducible refine wpC_drawL ?_)
      | (with_reducible refine wpC_opsL ?_)
      | (with_reducible refine wpC_draw ?_)
      | (with_reducible refine wpC_ops ?_)
      | (with_reducible refine wpOps_nil ?_)
      | (first
          | (with_reducible refine wpOps_cons ?_)
          | (with_reducible refine wpDraw_cons ?_)
         first
          | (with_reducible refine wpGuard_none ?_)
          | (refine wpGuard_yes rfl rfl rfl ?_)
          | (refine wpGuard_no rfl rfl rfl ?_)
          | (refine wpGuard_yes rfl rfl (by assumption) ?_)
          | (refine wpGuard_no rfl rfl (by assumption) ?_)
          | (refine wpGuard_skip rfl rfl ?_)
          | skip)
      | (with_reducible refine putS_some ?_)
      | (with_reducible refine putS_none ?_)
      | (with_reducible refine seqQ_normal ?_)
      | (refine ⟨_, rfl, ?_⟩)
      | (refine guardYes (by assumption) ?_)
      | (refine guardYes rfl ?_)
      | (refine guardNo rfl ?_)
      | (refine guardNo (by assumption) ?_)
      | (refine ⟨_, _, rfl, by decide, ?_⟩)
      | (refine ⟨rfl, rfl, rfl, ?_⟩)
      | (refine ⟨rfl, rfl, ?_⟩)
      | (refine ⟨_, _, rfl, _, rfl, ?_⟩)
      | (refine And.intro (Nat.le_of_ble_eq_true rfl) ?_)
      | (refine And.intro (by omega) ?_)
      | (refine ⟨_, _, rfl, rfl, _, rfl, rfl, ?_⟩)
      | (refine And.intro (by kernel_rfl) ?_)
      | (refine ⟨rfl, rfl, rfl, rfl, rfl, ?_⟩)
      | (refine ⟨fun h => ?_, fun h => ?_⟩)
      | fail)
  all_goals refine ⟨[_], ⟨Fz.deep rfl, trivial⟩, bbc ?_⟩
  all_goals simp_all [inB]
  all_goals omega

theorem in130_c (one : Bool) (n lo hi : Int) : Pu one 130 [I64 n, I64 lo, I64 hi] (BB (inB n lo hi)) := by
  refine PureV.body (fn := Try.f130) rfl rfl rfl rfl ?_
  refine wpC_sound (mu := fun _ => false) ?_
  repeat' (first
      | (with_reducible refine wpC_skip ?_)
      | (with_reducible refine wpC_seq ?_)
      | (with_reducible refine wpC_block ?_)
      | (with_reducible refine wpC_drawL ?_)
      | (with_reducible refine wpC_opsL ?_)
      | (with_reducible refine wpC_draw ?_)
      | (with_reducible refine wpC_ops ?_)
      | (with_reducible refine wpOps_nil ?_)
      | (first
          | (with_reducible refine wpOps_cons ?_)
          | (with_reducible refine wpDraw_cons ?_)
         first
          | (with_reducible refine wpGuard_none ?_)
          | (refine wpGuard_yes rfl rfl rfl ?_)
          | (refine wpGuard_no rfl rfl rfl ?_)
          | (refine wpGuard_yes rfl rfl (by assumption) ?_)
          | (refine wpGuard_no rfl rfl (by assumption) ?_)
          | (refine wpGuard_skip rfl rfl ?_)
          | skip)
      | (with_reducible refine putS_some ?_)
      | (with_reducible refine putS_none ?_)
      | (with_reducible refine seqQ_normal ?_)
      | (refine ⟨_, rfl, ?_⟩)
      | (refine guardYes (by assumption) ?_)
      | (refine guardYes rfl ?_)
      | (refine guardNo rfl ?_)
      | (refine guardNo (by assumption) ?_)
      | (refine ⟨_, _, rfl, by decide, ?_⟩)
      | (refine ⟨rfl, rfl, rfl, ?_⟩)
      | (refine ⟨rfl, rfl, ?_⟩)
      | (refine ⟨_, _, rfl, _, rfl, ?_⟩)
      | (refine And.intro (Nat.le_of_ble_eq_true rfl) ?_)
      | (refine And.intro (by omega) ?_)
      | (refine ⟨_, _, rfl, rfl, _, rfl, rfl, ?_⟩)
      | (refine And.intro (by kernel_rfl) ?_)
      | (refine ⟨rfl, rfl, rfl, rfl, rfl, ?_⟩)
      | (refine ⟨fun h => ?_, fun h => ?_⟩)
      | fail)
  all_goals refine ⟨[_], ⟨Fz.deep rfl, trivial⟩, bbc ?_⟩
  all_goals simp_all [inB]
  all_goals omega

theorem index_str {s : ByteArray} {k : Nat} (h : k < s.data.toList.length) : pureV (pureRun TT.P (Instr.index 9 (.string s) (.int .i64 (k : Int)))) = some (.int .u8 ((s.data.toList[k].toNat : Nat) : Int), .none) := by
  have hk : k < s.size := by rwa [Array.length_toList] at h
  have e : (if (0 : Int) ≤ (k : Int) then s[(k : Int).toNat]? else none) = some (s.data.toList[k]) := by
    rw [if_pos (by omega), Int.toNat_natCast]
    rw [getElem?_pos s k hk]
    rfl
  unfold Instr.index
  show pureV (pureRun TT.P (match (if (0 : Int) ≤ (k : Int) then s[(k : Int).toNat]? else none) with
    | some b => pure (.int .u8 b.toNat)
    | none => boundsPanic .i64 k s.size .index)) = _
  rw [e]
  rfl

theorem map_at {α β : Type} {f : α → β} {l : List α} {k : Nat} (h : k < l.length) : (l.map f)[((k : Nat) : Int).toNat]? = some (f l[k]) := by
  rw [Int.toNat_natCast, List.getElem?_map, List.getElem?_eq_getElem h]
  rfl

/-- Where the names' law stands: the last byte before place k. -/
def lastB (l : List UInt8) : Nat → UInt8
  | 0 => 45
  | k + 1 => l[k]?.getD 45

theorem lastB_succ {l : List UInt8} {k : Nat} (h : k < l.length) : lastB l (k + 1) = l[k] := by
  show (l[k]?).getD 45 = l[k]
  rw [List.getElem?_eq_getElem h]
  rfl

theorem nmL_drop {l : List UInt8} {k : Nat} (h : k < l.length) : nmL (lastB l k) (l.drop k) = if 97 ≤ l[k].toNat ∧ l[k].toNat ≤ 122 then nmL (lastB l (k + 1)) (l.drop (k + 1)) else if l[k].toNat ≠ 45 ∨ (lastB l k).toNat = 45 then false else nmL (lastB l (k + 1)) (l.drop (k + 1)) := by
  rw [List.drop_eq_getElem_cons h, nmL_cons, lastB_succ h]

theorem nmL_end {l : List UInt8} {k : Nat} (h : k + 1 = l.length) (h45 : l[k].toNat = 45) : nmL (lastB l (k + 1)) (l.drop (k + 1)) = false := by
  rw [lastB_succ (by omega), h, List.drop_length]
  unfold nmL
  simp [h45]

abbrev eS (s : ByteArray) : List AV := [ST s]

theorem place_c (one : Bool) (names : List ByteArray) (full : Bool) (s : ByteArray) (hl : names.length ≤ maxLen) : Pu one 115 [.sl (names.map eS) full, ST s] (I64 (idxF (fun x => sEq x s) names)) := by
  unfold maxLen at hl
  refine PureV.body (fn := Try.f115) rfl rfl rfl rfl ?_
  refine wpC_sound (mu := fun _ => false) ?_
  repeat' (first
      | (with_reducible refine wpC_skip ?_)
      | (with_reducible refine wpC_seq ?_)
      | (with_reducible refine wpC_block ?_)
      | (with_reducible refine wpC_drawL ?_)
      | (with_reducible refine wpC_opsL ?_)
      | (with_reducible refine wpC_draw ?_)
      | (with_reducible refine wpC_ops ?_)
      | (with_reducible refine wpOps_nil ?_)
      | (first
          | (with_reducible refine wpOps_cons ?_)
          | (with_reducible refine wpDraw_cons ?_)
         first
          | (with_reducible refine wpGuard_none ?_)
          | (refine wpGuard_yes rfl rfl rfl ?_)
          | (refine wpGuard_no rfl rfl rfl ?_)
          | (refine wpGuard_yes rfl rfl (by assumption) ?_)
          | (refine wpGuard_no rfl rfl (by assumption) ?_)
          | (refine wpGuard_skip rfl rfl ?_)
          | skip)
      | (with_reducible refine putS_some ?_)
      | (with_reducible refine putS_none ?_)
      | (with_reducible refine seqQ_normal ?_)
      | (refine ⟨_, rfl, ?_⟩)
      | (refine guardYes (by assumption) ?_)
      | (refine guardYes rfl ?_)
      | (refine guardNo rfl ?_)
      | (refine guardNo (by assumption) ?_)
      | (refine ⟨_, _, rfl, by decide, ?_⟩)
      | (refine ⟨rfl, rfl, rfl, ?_⟩)
      | (refine ⟨rfl, rfl, ?_⟩)
      | (refine ⟨_, _, rfl, _, rfl, ?_⟩)
      | (refine And.intro (Nat.le_of_ble_eq_true rfl) ?_)
      | (refine And.intro (by omega) ?_)
      | (refine ⟨_, _, rfl, rfl, _, rfl, rfl, ?_⟩)
      | (refine And.intro (by kernel_rfl) ?_)
      | (refine ⟨rfl, rfl, rfl, rfl, rfl, ?_⟩)
      | fail)
  refine SemC.weaker (Weaker.to (l := [(0, .sl (names.map eS) full), (1, ST s), (5, I64 ((0 : Nat) : Int))]) 0 rfl ⟨rfl, rfl, rfl, trivial⟩ (Nat.le_refl _) rfl rfl) ?_
  refine SemC.loop (fun k : Nat => k ≤ names.length ∧ ∀ i (h : i < names.length), i < k → sEq names[i] s = false) (fun k => ⟨mkFr [(0, .sl (names.map eS) full), (1, ST s), (5, I64 (k : Int))], [], Amb.none, false, 0⟩) (fun k => names.length - k) ?_ 0 ⟨Nat.zero_le _, fun i _ hi => absurd hi (by omega)⟩
  intro k ⟨hk, hprev⟩
  refine wpC_sound (mu := fun _ => false) ?_
  repeat' (first
      | (with_reducible refine wpC_skip ?_)
      | (with_reducible refine wpC_seq ?_)
      | (with_reducible refine wpC_block ?_)
      | (with_reducible refine wpC_drawL ?_)
      | (with_reducible refine wpC_opsL ?_)
      | (with_reducible refine wpC_draw ?_)
      | (with_reducible refine wpC_ops ?_)
      | (with_reducible refine wpOps_nil ?_)
      | (first
          | (with_reducible refine wpOps_cons ?_)
          | (with_reducible refine wpDraw_cons ?_)
         first
          | (with_reducible refine wpGuard_none ?_)
          | (refine wpGuard_yes rfl rfl rfl ?_)
          | (refine wpGuard_no rfl rfl rfl ?_)
          | (refine wpGuard_yes rfl rfl (by assumption) ?_)
          | (refine wpGuard_no rfl rfl (by assumption) ?_)
          | (refine wpGuard_skip rfl rfl ?_)
          | skip)
      | (with_reducible refine putS_some ?_)
      | (with_reducible refine putS_none ?_)
      | (with_reducible refine seqQ_normal ?_)
      | (refine ⟨_, rfl, ?_⟩)
      | (refine guardYes (by assumption) ?_)
      | (refine guardYes rfl ?_)
      | (refine guardNo rfl ?_)
      | (refine guardNo (by assumption) ?_)
      | (refine ⟨_, _, rfl, by decide, ?_⟩)
      | (refine ⟨rfl, rfl, rfl, ?_⟩)
      | (refine ⟨rfl, rfl, ?_⟩)
      | (refine ⟨_, _, rfl, _, rfl, ?_⟩)
      | (refine And.intro (Nat.le_of_ble_eq_true rfl) ?_)
      | (refine And.intro (by omega) ?_)
      | (refine ⟨_, _, rfl, rfl, _, rfl, rfl, ?_⟩)
      | (refine And.intro (by kernel_rfl) ?_)
      | (refine ⟨rfl, rfl, rfl, rfl, rfl, ?_⟩)
      | fail)
  refine ⟨fun h => ?_, fun h => ?_⟩
  · have hlt : k < names.length := by simpa using h
    repeat' (first
        | (with_reducible refine wpC_skip ?_)
        | (with_reducible refine wpC_seq ?_)
        | (with_reducible refine wpC_block ?_)
        | (with_reducible refine wpC_drawL ?_)
        | (with_reducible refine wpC_opsL ?_)
        | (with_reducible refine wpC_draw ?_)
        | (with_reducible refine wpC_ops ?_)
        | (with_reducible refine wpOps_nil ?_)
        | (first
            | (with_reducible refine wpOps_cons ?_)
            | (with_reducible refine wpDraw_cons ?_)
           first
            | (with_reducible refine wpGuard_none ?_)
            | (refine wpGuard_yes rfl rfl rfl ?_)
            | (refine wpGuard_no rfl rfl rfl ?_)
            | (refine wpGuard_yes rfl rfl (by assumption) ?_)
            | (refine wpGuard_no rfl rfl (by assumption) ?_)
            | (refine wpGuard_skip rfl rfl ?_)
            | skip)
        | (with_reducible refine putS_some ?_)
        | (with_reducible refine putS_none ?_)
        | (with_reducible refine seqQ_normal ?_)
        | (refine ⟨_, rfl, ?_⟩)
        | (refine guardYes (by assumption) ?_)
        | (refine guardYes rfl ?_)
        | (refine guardNo rfl ?_)
        | (refine guardNo (by assumption) ?_)
        | (refine ⟨_, _, rfl, by decide, ?_⟩)
        | (refine ⟨rfl, rfl, rfl, ?_⟩)
        | (refine ⟨rfl, rfl, ?_⟩)
        | (refine ⟨_, _, rfl, _, rfl, ?_⟩)
        | (refine And.intro (Nat.le_of_ble_eq_true rfl) ?_)
        | (refine And.intro (by omega) ?_)
        | (refine ⟨_, _, rfl, rfl, _, rfl, rfl, ?_⟩)
        | (refine And.intro (by kernel_rfl) ?_)
        | (refine ⟨rfl, rfl, rfl, rfl, rfl, ?_⟩)
        | fail)
    refine ⟨eS names[k], ⟨by omega, map_at hlt⟩, rfl, ?_⟩
    repeat' (first
        | (with_reducible refine wpC_skip ?_)
        | (with_reducible refine wpC_seq ?_)
        | (with_reducible refine wpC_block ?_)
        | (with_reducible refine wpC_drawL ?_)
        | (with_reducible refine wpC_opsL ?_)
        | (with_reducible refine wpC_draw ?_)
        | (with_reducible refine wpC_ops ?_)
        | (with_reducible refine wpOps_nil ?_)
        | (first
            | (with_reducible refine wpOps_cons ?_)
            | (with_reducible refine wpDraw_cons ?_)
           first
            | (with_reducible refine wpGuard_none ?_)
            | (refine wpGuard_yes rfl rfl rfl ?_)
            | (refine wpGuard_no rfl rfl rfl ?_)
            | (refine wpGuard_yes rfl rfl (by assumption) ?_)
            | (refine wpGuard_no rfl rfl (by assumption) ?_)
            | (refine wpGuard_skip rfl rfl ?_)
            | skip)
        | (with_reducible refine putS_some ?_)
        | (with_reducible refine putS_none ?_)
        | (with_reducible refine seqQ_normal ?_)
        | (refine ⟨_, rfl, ?_⟩)
        | (refine guardYes (by assumption) ?_)
        | (refine guardYes rfl ?_)
        | (refine guardNo rfl ?_)
        | (refine guardNo (by assumption) ?_)
        | (refine ⟨_, _, rfl, by decide, ?_⟩)
        | (refine ⟨rfl, rfl, rfl, ?_⟩)
        | (refine ⟨rfl, rfl, ?_⟩)
        | (refine ⟨_, _, rfl, _, rfl, ?_⟩)
        | (refine And.intro (Nat.le_of_ble_eq_true rfl) ?_)
        | (refine And.intro (by omega) ?_)
        | (refine ⟨_, _, rfl, rfl, _, rfl, rfl, ?_⟩)
        | (refine And.intro (by kernel_rfl) ?_)
        | (refine ⟨rfl, rfl, rfl, rfl, rfl, ?_⟩)
        | fail)
    refine ⟨fun h2 => ?_, fun h2 => ?_⟩
    · repeat' (first
          | (with_reducible refine wpC_skip ?_)
          | (with_reducible refine wpC_seq ?_)
          | (with_reducible refine wpC_block ?_)
          | (with_reducible refine wpC_drawL ?_)
          | (with_reducible refine wpC_opsL ?_)
          | (with_reducible refine wpC_draw ?_)
          | (with_reducible refine wpC_ops ?_)
          | (with_reducible refine wpOps_nil ?_)
          | (first
              | (with_reducible refine wpOps_cons ?_)
              | (with_reducible refine wpDraw_cons ?_)
             first
              | (with_reducible refine wpGuard_none ?_)
              | (refine wpGuard_yes rfl rfl rfl ?_)
              | (refine wpGuard_no rfl rfl rfl ?_)
              | (refine wpGuard_yes rfl rfl (by assumption) ?_)
              | (refine wpGuard_no rfl rfl (by assumption) ?_)
              | (refine wpGuard_skip rfl rfl ?_)
              | skip)
          | (with_reducible refine putS_some ?_)
          | (with_reducible refine putS_none ?_)
          | (with_reducible refine seqQ_normal ?_)
          | (refine ⟨_, rfl, ?_⟩)
          | (refine guardYes (by assumption) ?_)
          | (refine guardYes rfl ?_)
          | (refine guardNo rfl ?_)
          | (refine guardNo (by assumption) ?_)
          | (refine ⟨_, _, rfl, by decide, ?_⟩)
          | (refine ⟨rfl, rfl, rfl, ?_⟩)
          | (refine ⟨rfl, rfl, ?_⟩)
          | (refine ⟨_, _, rfl, _, rfl, ?_⟩)
          | (refine And.intro (Nat.le_of_ble_eq_true rfl) ?_)
          | (refine And.intro (by omega) ?_)
          | (refine ⟨_, _, rfl, rfl, _, rfl, rfl, ?_⟩)
          | (refine And.intro (by kernel_rfl) ?_)
          | (refine ⟨rfl, rfl, rfl, rfl, rfl, ?_⟩)
          | fail)
      refine ⟨[_], ⟨Fz.deep rfl, trivial⟩, i64c ?_⟩
      exact (idxF_here hlt hprev h2).symm
    · repeat' (first
          | (with_reducible refine wpC_skip ?_)
          | (with_reducible refine wpC_seq ?_)
          | (with_reducible refine wpC_block ?_)
          | (with_reducible refine wpC_drawL ?_)
          | (with_reducible refine wpC_opsL ?_)
          | (with_reducible refine wpC_draw ?_)
          | (with_reducible refine wpC_ops ?_)
          | (with_reducible refine wpOps_nil ?_)
          | (first
              | (with_reducible refine wpOps_cons ?_)
              | (with_reducible refine wpDraw_cons ?_)
             first
              | (with_reducible refine wpGuard_none ?_)
              | (refine wpGuard_yes rfl rfl rfl ?_)
              | (refine wpGuard_no rfl rfl rfl ?_)
              | (refine wpGuard_yes rfl rfl (by assumption) ?_)
              | (refine wpGuard_no rfl rfl (by assumption) ?_)
              | (refine wpGuard_skip rfl rfl ?_)
              | skip)
          | (with_reducible refine putS_some ?_)
          | (with_reducible refine putS_none ?_)
          | (with_reducible refine seqQ_normal ?_)
          | (refine ⟨_, rfl, ?_⟩)
          | (refine guardYes (by assumption) ?_)
          | (refine guardYes rfl ?_)
          | (refine guardNo rfl ?_)
          | (refine guardNo (by assumption) ?_)
          | (refine ⟨_, _, rfl, by decide, ?_⟩)
          | (refine ⟨rfl, rfl, rfl, ?_⟩)
          | (refine ⟨rfl, rfl, ?_⟩)
          | (refine ⟨_, _, rfl, _, rfl, ?_⟩)
          | (refine And.intro (Nat.le_of_ble_eq_true rfl) ?_)
          | (refine And.intro (by omega) ?_)
          | (refine ⟨_, _, rfl, rfl, _, rfl, rfl, ?_⟩)
          | (refine And.intro (by kernel_rfl) ?_)
          | (refine ⟨rfl, rfl, rfl, rfl, rfl, ?_⟩)
          | fail)
      refine ⟨k + 1, ⟨hlt, fun i hi hik => ?_⟩, (by dsimp only; omega), Weaker.to 0 rfl ⟨rfl, rfl, i64c (by simp), trivial⟩ (Nat.le_refl _) rfl rfl⟩
      by_cases hik' : i = k
      · subst hik'; exact h2
      · exact hprev i hi (by omega)
  · repeat' (first
        | (with_reducible refine wpC_skip ?_)
        | (with_reducible refine wpC_seq ?_)
        | (with_reducible refine wpC_block ?_)
        | (with_reducible refine wpC_drawL ?_)
        | (with_reducible refine wpC_opsL ?_)
        | (with_reducible refine wpC_draw ?_)
        | (with_reducible refine wpC_ops ?_)
        | (with_reducible refine wpOps_nil ?_)
        | (first
            | (with_reducible refine wpOps_cons ?_)
            | (with_reducible refine wpDraw_cons ?_)
           first
            | (with_reducible refine wpGuard_none ?_)
            | (refine wpGuard_yes rfl rfl rfl ?_)
            | (refine wpGuard_no rfl rfl rfl ?_)
            | (refine wpGuard_yes rfl rfl (by assumption) ?_)
            | (refine wpGuard_no rfl rfl (by assumption) ?_)
            | (refine wpGuard_skip rfl rfl ?_)
            | skip)
        | (with_reducible refine putS_some ?_)
        | (with_reducible refine putS_none ?_)
        | (with_reducible refine seqQ_normal ?_)
        | (refine ⟨_, rfl, ?_⟩)
        | (refine guardYes (by assumption) ?_)
        | (refine guardYes rfl ?_)
        | (refine guardNo rfl ?_)
        | (refine guardNo (by assumption) ?_)
        | (refine ⟨_, _, rfl, by decide, ?_⟩)
        | (refine ⟨rfl, rfl, rfl, ?_⟩)
        | (refine ⟨rfl, rfl, ?_⟩)
        | (refine ⟨_, _, rfl, _, rfl, ?_⟩)
        | (refine And.intro (Nat.le_of_ble_eq_true rfl) ?_)
        | (refine And.intro (by omega) ?_)
        | (refine ⟨_, _, rfl, rfl, _, rfl, rfl, ?_⟩)
        | (refine And.intro (by kernel_rfl) ?_)
        | (refine ⟨rfl, rfl, rfl, rfl, rfl, ?_⟩)
        | fail)
    refine ⟨[_], ⟨Fz.deep rfl, trivial⟩, i64c ?_⟩
    have : k = names.length := by simp at h; omega
    rw [idxF_none fun i hi => hprev i hi (by omega)]

theorem rname_c (one : Bool) (s : ByteArray) (hs : s.data.toList.length ≤ maxLen) : Pu one 114 [ST s] (BB (nameB s)) := by
  unfold maxLen at hs
  refine PureV.body (fn := Try.f114) rfl rfl rfl rfl ?_
  refine wpC_sound (mu := fun _ => false) ?_
  repeat' (first
      | (with_reducible refine wpC_skip ?_)
      | (with_reducible refine wpC_seq ?_)
      | (with_reducible refine wpC_block ?_)
      | (with_reducible refine wpC_drawL ?_)
      | (with_reducible refine wpC_opsL ?_)
      | (with_reducible refine wpC_draw ?_)
      | (with_reducible refine wpC_ops ?_)
      | (with_reducible refine wpOps_nil ?_)
      | (first
          | (with_reducible refine wpOps_cons ?_)
          | (with_reducible refine wpDraw_cons ?_)
         first
          | (with_reducible refine wpGuard_none ?_)
          | (refine wpGuard_yes rfl rfl rfl ?_)
          | (refine wpGuard_no rfl rfl rfl ?_)
          | (refine wpGuard_yes rfl rfl (by assumption) ?_)
          | (refine wpGuard_no rfl rfl (by assumption) ?_)
          | (refine wpGuard_skip rfl rfl ?_)
          | skip)
      | (with_reducible refine putS_some ?_)
      | (with_reducible refine putS_none ?_)
      | (with_reducible refine seqQ_normal ?_)
      | (refine ⟨_, rfl, ?_⟩)
      | (refine guardYes (by assumption) ?_)
      | (refine guardYes rfl ?_)
      | (refine guardNo rfl ?_)
      | (refine guardNo (by assumption) ?_)
      | (refine ⟨_, _, rfl, by decide, ?_⟩)
      | (refine ⟨rfl, rfl, rfl, ?_⟩)
      | (refine ⟨rfl, rfl, ?_⟩)
      | (refine ⟨_, _, rfl, _, rfl, ?_⟩)
      | (refine And.intro (Nat.le_of_ble_eq_true rfl) ?_)
      | (refine And.intro (by omega) ?_)
      | (refine ⟨_, _, rfl, rfl, _, rfl, rfl, ?_⟩)
      | (refine And.intro (by kernel_rfl) ?_)
      | (refine ⟨rfl, rfl, rfl, rfl, rfl, ?_⟩)
      | (refine PureV.call (in130_c one _ _ _) rfl rfl ?_)
      | fail)
  refine ⟨fun h => ?_, fun h => ?_⟩
  · repeat' (first
        | (with_reducible refine wpC_skip ?_)
        | (with_reducible refine wpC_seq ?_)
        | (with_reducible refine wpC_block ?_)
        | (with_reducible refine wpC_drawL ?_)
        | (with_reducible refine wpC_opsL ?_)
        | (with_reducible refine wpC_draw ?_)
        | (with_reducible refine wpC_ops ?_)
        | (with_reducible refine wpOps_nil ?_)
        | (first
            | (with_reducible refine wpOps_cons ?_)
            | (with_reducible refine wpDraw_cons ?_)
           first
            | (with_reducible refine wpGuard_none ?_)
            | (refine wpGuard_yes rfl rfl rfl ?_)
            | (refine wpGuard_no rfl rfl rfl ?_)
            | (refine wpGuard_yes rfl rfl (by assumption) ?_)
            | (refine wpGuard_no rfl rfl (by assumption) ?_)
            | (refine wpGuard_skip rfl rfl ?_)
            | skip)
        | (with_reducible refine putS_some ?_)
        | (with_reducible refine putS_none ?_)
        | (with_reducible refine seqQ_normal ?_)
        | (refine ⟨_, rfl, ?_⟩)
        | (refine guardYes (by assumption) ?_)
        | (refine guardYes rfl ?_)
        | (refine guardNo rfl ?_)
        | (refine guardNo (by assumption) ?_)
        | (refine ⟨_, _, rfl, by decide, ?_⟩)
        | (refine ⟨rfl, rfl, rfl, ?_⟩)
        | (refine ⟨rfl, rfl, ?_⟩)
        | (refine ⟨_, _, rfl, _, rfl, ?_⟩)
        | (refine And.intro (Nat.le_of_ble_eq_true rfl) ?_)
        | (refine And.intro (by omega) ?_)
        | (refine ⟨_, _, rfl, rfl, _, rfl, rfl, ?_⟩)
        | (refine And.intro (by kernel_rfl) ?_)
        | (refine ⟨rfl, rfl, rfl, rfl, rfl, ?_⟩)
        | fail)
    refine ⟨[_], ⟨Fz.deep rfl, trivial⟩, bbc ?_⟩
    have h : ¬ (1 ≤ s.data.toList.length ∧ s.data.toList.length ≤ 14) := by
      rw [Bool.not_eq_true', ← Bool.not_eq_true, inB_iff] at h
      omega
    unfold nameB
    generalize s.data.toList = l at h
    cases l with
    | nil => simp [nmL]
    | cons a l =>
      have : 0 < (a :: l).length := Nat.succ_pos _
      rw [decide_eq_false (by omega)]
      rfl
  · have h : 1 ≤ s.data.toList.length ∧ s.data.toList.length ≤ 14 := by
      rw [Bool.not_eq_false', inB_iff] at h
      omega
    have hn : nameB s = nmL 45 s.data.toList := by
      unfold nameB
      rw [decide_eq_true h.2, Bool.true_and]
    repeat' (first
        | (with_reducible refine wpC_skip ?_)
        | (with_reducible refine wpC_seq ?_)
        | (with_reducible refine wpC_block ?_)
        | (with_reducible refine wpC_drawL ?_)
        | (with_reducible refine wpC_opsL ?_)
        | (with_reducible refine wpC_draw ?_)
        | (with_reducible refine wpC_ops ?_)
        | (with_reducible refine wpOps_nil ?_)
        | (first
            | (with_reducible refine wpOps_cons ?_)
            | (with_reducible refine wpDraw_cons ?_)
           first
            | (with_reducible refine wpGuard_none ?_)
            | (refine wpGuard_yes rfl rfl rfl ?_)
            | (refine wpGuard_no rfl rfl rfl ?_)
            | (refine wpGuard_yes rfl rfl (by assumption) ?_)
            | (refine wpGuard_no rfl rfl (by assumption) ?_)
            | (refine wpGuard_skip rfl rfl ?_)
            | skip)
        | (with_reducible refine putS_some ?_)
        | (with_reducible refine putS_none ?_)
        | (with_reducible refine seqQ_normal ?_)
        | (refine ⟨_, rfl, ?_⟩)
        | (refine guardYes (by assumption) ?_)
        | (refine guardYes rfl ?_)
        | (refine guardNo rfl ?_)
        | (refine guardNo (by assumption) ?_)
        | (refine ⟨_, _, rfl, by decide, ?_⟩)
        | (refine ⟨rfl, rfl, rfl, ?_⟩)
        | (refine ⟨rfl, rfl, ?_⟩)
        | (refine ⟨_, _, rfl, _, rfl, ?_⟩)
        | (refine And.intro (Nat.le_of_ble_eq_true rfl) ?_)
        | (refine And.intro (by omega) ?_)
        | (refine ⟨_, _, rfl, rfl, _, rfl, rfl, ?_⟩)
        | (refine And.intro (by kernel_rfl) ?_)
        | (refine ⟨rfl, rfl, rfl, rfl, rfl, ?_⟩)
        | fail)
    refine SemC.weaker (Weaker.to (l := [(0, ST s), (3, I64 ((0 : Nat) : Int))]) 0 rfl ⟨rfl, rfl, trivial⟩ (Nat.le_refl _) rfl rfl) ?_
    refine SemC.loop (fun k : Nat => k ≤ s.data.toList.length ∧ nameB s = nmL (lastB s.data.toList k) (s.data.toList.drop k) ∧ (k = s.data.toList.length → (lastB s.data.toList k).toNat ≠ 45)) (fun k => ⟨mkFr [(0, ST s), (3, I64 (k : Int))], [], Amb.none, false, 0⟩) (fun k => s.data.toList.length - k) ?_ 0 ⟨Nat.zero_le _, hn, fun h0 => by omega⟩
    intro k ⟨hk, hrel, hlast⟩
    refine wpC_sound (mu := fun _ => false) ?_
    repeat' (first
        | (with_reducible refine wpC_skip ?_)
        | (with_reducible refine wpC_seq ?_)
        | (with_reducible refine wpC_block ?_)
        | (with_reducible refine wpC_drawL ?_)
        | (with_reducible refine wpC_opsL ?_)
        | (with_reducible refine wpC_draw ?_)
        | (with_reducible refine wpC_ops ?_)
        | (with_reducible refine wpOps_nil ?_)
        | (first
            | (with_reducible refine wpOps_cons ?_)
            | (with_reducible refine wpDraw_cons ?_)
           first
            | (with_reducible refine wpGuard_none ?_)
            | (refine wpGuard_yes rfl rfl rfl ?_)
            | (refine wpGuard_no rfl rfl rfl ?_)
            | (refine wpGuard_yes rfl rfl (by assumption) ?_)
            | (refine wpGuard_no rfl rfl (by assumption) ?_)
            | (refine wpGuard_skip rfl rfl ?_)
            | skip)
        | (with_reducible refine putS_some ?_)
        | (with_reducible refine putS_none ?_)
        | (with_reducible refine seqQ_normal ?_)
        | (refine ⟨_, rfl, ?_⟩)
        | (refine guardYes (by assumption) ?_)
        | (refine guardYes rfl ?_)
        | (refine guardNo rfl ?_)
        | (refine guardNo (by assumption) ?_)
        | (refine ⟨_, _, rfl, by decide, ?_⟩)
        | (refine ⟨rfl, rfl, rfl, ?_⟩)
        | (refine ⟨rfl, rfl, ?_⟩)
        | (refine ⟨_, _, rfl, _, rfl, ?_⟩)
        | (refine And.intro (Nat.le_of_ble_eq_true rfl) ?_)
        | (refine And.intro (by omega) ?_)
        | (refine ⟨_, _, rfl, rfl, _, rfl, rfl, ?_⟩)
        | (refine And.intro (by kernel_rfl) ?_)
        | (refine ⟨rfl, rfl, rfl, rfl, rfl, ?_⟩)
        | fail)
    refine ⟨fun h => ?_, fun h => ?_⟩
    · have hlt : k < s.data.toList.length := by rw [decide_eq_true_eq] at h; omega
      rw [nmL_drop hlt] at hrel
      have hix := index_str hlt
      generalize hc : s.data.toList[k] = c at hrel hix
      have hix1 : 0 < k → pureV (pureRun TT.P (Instr.index 9 (.string s) (.int .i64 ((k : Int) - 1)))) = some (.int .u8 (((lastB s.data.toList k).toNat : Nat) : Int), .none) := by
        intro h0
        obtain ⟨m, rfl⟩ : ∃ m, k = m + 1 := ⟨k - 1, by omega⟩
        rw [lastB_succ (by omega), show (((m + 1 : Nat) : Int) - 1) = ((m : Nat) : Int) from by omega]
        exact index_str (by omega)
      have hl0 : k = 0 → (lastB s.data.toList k).toNat = 45 := by
        rintro rfl
        rfl
      have hend : k + 1 = s.data.toList.length → c.toNat = 45 → nmL (lastB s.data.toList (k + 1)) (s.data.toList.drop (k + 1)) = false := fun h1 h2 => nmL_end h1 (by rw [hc]; exact h2)
      have hsucc : lastB s.data.toList (k + 1) = c := by rw [lastB_succ hlt, hc]
      clear hc hn hlast
      generalize lastB s.data.toList k = d at hrel hix1 hl0
      generalize hr : nmL (lastB s.data.toList (k + 1)) (s.data.toList.drop (k + 1)) = r at hrel hend
      repeat' (first
          | (with_reducible refine wpC_skip ?_)
          | (with_reducible refine wpC_seq ?_)
          | (with_reducible refine wpC_block ?_)
          | (with_reducible refine wpC_drawL ?_)
          | (with_reducible refine wpC_opsL ?_)
          | (with_reducible refine wpC_draw ?_)
          | (with_reducible refine wpC_ops ?_)
          | (with_reducible refine wpOps_nil ?_)
          | (first
              | (with_reducible refine wpOps_cons ?_)
              | (with_reducible refine wpDraw_cons ?_)
             first
              | (with_reducible refine wpGuard_none ?_)
              | (refine wpGuard_yes rfl rfl rfl ?_)
              | (refine wpGuard_no rfl rfl rfl ?_)
              | (refine wpGuard_yes rfl rfl (by assumption) ?_)
              | (refine wpGuard_no rfl rfl (by assumption) ?_)
              | (refine wpGuard_skip rfl rfl ?_)
              | skip)
          | (with_reducible refine putS_some ?_)
          | (with_reducible refine putS_none ?_)
          | (with_reducible refine seqQ_normal ?_)
          | (refine ⟨_, rfl, ?_⟩)
          | (refine guardYes (by assumption) ?_)
          | (refine guardYes rfl ?_)
          | (refine guardNo rfl ?_)
          | (refine guardNo (by assumption) ?_)
          | (refine ⟨_, _, rfl, by decide, ?_⟩)
          | (refine ⟨rfl, rfl, rfl, ?_⟩)
          | (refine ⟨rfl, rfl, ?_⟩)
          | (refine ⟨_, _, rfl, _, rfl, ?_⟩)
          | (refine And.intro (Nat.le_of_ble_eq_true rfl) ?_)
          | (refine And.intro (by omega) ?_)
          | (refine ⟨_, _, rfl, rfl, _, rfl, rfl, ?_⟩)
          | (refine And.intro (by kernel_rfl) ?_)
          | (refine ⟨rfl, rfl, rfl, rfl, rfl, ?_⟩)
          | (refine ⟨_, _, rfl, rfl, _, hix, rfl, ?_⟩)
          | (refine ⟨_, _, rfl, rfl, _, hix1 (by rcases Nat.eq_zero_or_pos k with h0 | h0; (exfalso; simp_all); exact h0), rfl, ?_⟩)
          | (refine ⟨fun h => ?_, fun h => ?_⟩)
          | fail)
      all_goals first
        | (refine ⟨k + 1, ⟨hlt, ?_, fun h1 => by rw [hsucc]; clear hix hix1 hr hsucc; simp at *; omega⟩, (by dsimp only; omega), Weaker.to 0 rfl ⟨rfl, i64c (by simp), trivial⟩ (Nat.le_refl _) rfl rfl⟩
           rw [hr]
           first
             | rw [hrel, if_pos (by simp at *; omega)]
             | rw [hrel, if_neg (by simp at *; omega), if_neg (by simp at *; omega)])
        | (refine ⟨[_], ⟨Fz.deep rfl, trivial⟩, bbc ?_⟩
           rw [hrel, if_neg (by simp at *; omega)]
           split
           · rfl
           · exact (hend (by simp at *; omega) (by simp at *; omega)).symm)
    · repeat' (first
          | (with_reducible refine wpC_skip ?_)
          | (with_reducible refine wpC_seq ?_)
          | (with_reducible refine wpC_block ?_)
          | (with_reducible refine wpC_drawL ?_)
          | (with_reducible refine wpC_opsL ?_)
          | (with_reducible refine wpC_draw ?_)
          | (with_reducible refine wpC_ops ?_)
          | (with_reducible refine wpOps_nil ?_)
          | (first
              | (with_reducible refine wpOps_cons ?_)
              | (with_reducible refine wpDraw_cons ?_)
             first
              | (with_reducible refine wpGuard_none ?_)
              | (refine wpGuard_yes rfl rfl rfl ?_)
              | (refine wpGuard_no rfl rfl rfl ?_)
              | (refine wpGuard_yes rfl rfl (by assumption) ?_)
              | (refine wpGuard_no rfl rfl (by assumption) ?_)
              | (refine wpGuard_skip rfl rfl ?_)
              | skip)
          | (with_reducible refine putS_some ?_)
          | (with_reducible refine putS_none ?_)
          | (with_reducible refine seqQ_normal ?_)
          | (refine ⟨_, rfl, ?_⟩)
          | (refine guardYes (by assumption) ?_)
          | (refine guardYes rfl ?_)
          | (refine guardNo rfl ?_)
          | (refine guardNo (by assumption) ?_)
          | (refine ⟨_, _, rfl, by decide, ?_⟩)
          | (refine ⟨rfl, rfl, rfl, ?_⟩)
          | (refine ⟨rfl, rfl, ?_⟩)
          | (refine ⟨_, _, rfl, _, rfl, ?_⟩)
          | (refine And.intro (Nat.le_of_ble_eq_true rfl) ?_)
          | (refine And.intro (by omega) ?_)
          | (refine ⟨_, _, rfl, rfl, _, rfl, rfl, ?_⟩)
          | (refine And.intro (by kernel_rfl) ?_)
          | (refine ⟨rfl, rfl, rfl, rfl, rfl, ?_⟩)
          | fail)
      refine ⟨[_], ⟨Fz.deep rfl, trivial⟩, bbc ?_⟩
      have : k = s.data.toList.length := by rw [decide_eq_false_iff_not] at h; omega
      rw [hrel, this, List.drop_length]
      have := hlast this
      rw [‹k = s.data.toList.length›] at this
      unfold nmL
      simp only [ne_eq, this, not_false_eq_true, decide_true]
end Go.Proofs.Ytmkaeohmdcoanaa
open Go Go.RM
namespace Go.Proofs.Ytmkaeohmdcoanaa
set_option maxRecDepth 100000

def freshErr (name : ByteArray) (names : List ByteArray) : Int := if nameB name = false then 6 else if names.any (fun x => sEq x name) then 5 else 0

theorem fresh_c (one : Bool) (names : List ByteArray) (full : Bool) (s : ByteArray) (hs : s.data.toList.length ≤ maxLen) (hl : names.length ≤ maxLen) : Pu one 93 [ST s, .sl (names.map eS) full] (I64 (freshErr s names)) := by
  have hg := idxF_ge (fun x => sEq x s) names
  have hc := place_c one names full s hl
  unfold freshErr
  generalize idxF (fun x => sEq x s) names = i at hg hc
  generalize names.any (fun x => sEq x s) = b at hg
  refine PureV.body (fn := Try.f93) rfl rfl rfl rfl ?_
  refine wpC_sound (mu := fun _ => false) ?_
  repeat' (first
      | (with_reducible refine wpC_skip ?_)
      | (with_reducible refine wpC_seq ?_)
      | (with_reducible refine wpC_block ?_)
      | (with_reducible refine wpC_drawL ?_)
      | (with_reducible refine wpC_opsL ?_)
      | (with_reducible refine wpC_draw ?_)
      | (with_reducible refine wpC_ops ?_)
      | (with_reducible refine wpOps_nil ?_)
      | (first
          | (with_reducible refine wpOps_cons ?_)
          | (with_reducible refine wpDraw_cons ?_)
         first
          | (with_reducible refine wpGuard_none ?_)
          | (refine wpGuard_yes rfl rfl rfl ?_)
          | (refine wpGuard_no rfl rfl rfl ?_)
          | (refine wpGuard_yes rfl rfl (by assumption) ?_)
          | (refine wpGuard_no rfl rfl (by assumption) ?_)
          | (refine wpGuard_skip rfl rfl ?_)
          | skip)
      | (with_reducible refine putS_some ?_)
      | (with_reducible refine putS_none ?_)
      | (with_reducible refine seqQ_normal ?_)
      | (refine ⟨_, rfl, ?_⟩)
      | (refine guardYes (by assumption) ?_)
      | (refine guardYes rfl ?_)
      | (refine guardNo rfl ?_)
      | (refine guardNo (by assumption) ?_)
      | (refine ⟨_, _, rfl, by decide, ?_⟩)
      | (refine ⟨rfl, rfl, rfl, ?_⟩)
      | (refine ⟨rfl, rfl, ?_⟩)
      | (refine ⟨_, _, rfl, _, rfl, ?_⟩)
      | (refine And.intro (Nat.le_of_ble_eq_true rfl) ?_)
      | (refine And.intro (by omega) ?_)
      | (refine ⟨_, _, rfl, rfl, _, rfl, rfl, ?_⟩)
      | (refine And.intro (by kernel_rfl) ?_)
      | (refine ⟨rfl, rfl, rfl, rfl, rfl, ?_⟩)
      | (refine PureV.call (rname_c one _ hs) rfl rfl ?_)
      | (refine PureV.call hc rfl rfl ?_)
      | (refine ⟨fun h => ?_, fun h => ?_⟩)
      | fail)
  all_goals refine ⟨[_], ⟨Fz.deep rfl, trivial⟩, i64c ?_⟩
  all_goals simp_all

def rangeErr (lo hi : Int) (s : Span) : Int := if !inB s.lo lo hi || !inB s.hi lo hi then 7 else if s.hi < s.lo then 2 else 0

def spreadErr (lo hi : Int) (l : List Span) : Int := if l.any (fun s => !inB s.lo lo hi || !inB s.hi lo hi) then 7 else if l.any (fun s => decide (s.hi < s.lo)) then 2 else 0

theorem spread_c (one : Bool) (l : List Span) (full : Bool) (lo hi : Int) (hl : l.length ≤ maxLen) : Pu one 112 [.sl (l.map eSpan) full, I64 lo, I64 hi] (I64 (spreadErr lo hi l)) := by
  unfold maxLen at hl
  refine PureV.body (fn := Try.f112) rfl rfl rfl rfl ?_
  refine wpC_sound (mu := fun _ => false) ?_
  repeat' (first
      | (with_reducible refine wpC_skip ?_)
      | (with_reducible refine wpC_seq ?_)
      | (with_reducible refine wpC_block ?_)
      | (with_reducible refine wpC_drawL ?_)
      | (with_reducible refine wpC_opsL ?_)
      | (with_reducible refine wpC_draw ?_)
      | (with_reducible refine wpC_ops ?_)
      | (with_reducible refine wpOps_nil ?_)
      | (first
          | (with_reducible refine wpOps_cons ?_)
          | (with_reducible refine wpDraw_cons ?_)
         first
          | (with_reducible refine wpGuard_none ?_)
          | (refine wpGuard_yes rfl rfl rfl ?_)
          | (refine wpGuard_no rfl rfl rfl ?_)
          | (refine wpGuard_yes rfl rfl (by assumption) ?_)
          | (refine wpGuard_no rfl rfl (by assumption) ?_)
          | (refine wpGuard_skip rfl rfl ?_)
          | skip)
      | (with_reducible refine putS_some ?_)
      | (with_reducible refine putS_none ?_)
      | (with_reducible refine seqQ_normal ?_)
      | (refine ⟨_, rfl, ?_⟩)
      | (refine guardYes (by assumption) ?_)
      | (refine guardYes rfl ?_)
      | (refine guardNo rfl ?_)
      | (refine guardNo (by assumption) ?_)
      | (refine ⟨_, _, rfl, by decide, ?_⟩)
      | (refine ⟨rfl, rfl, rfl, ?_⟩)
      | (refine ⟨rfl, rfl, ?_⟩)
      | (refine ⟨_, _, rfl, _, rfl, ?_⟩)
      | (refine And.intro (Nat.le_of_ble_eq_true rfl) ?_)
      | (refine And.intro (by omega) ?_)
      | (refine ⟨_, _, rfl, rfl, _, rfl, rfl, ?_⟩)
      | (refine And.intro (by kernel_rfl) ?_)
      | (refine ⟨rfl, rfl, rfl, rfl, rfl, ?_⟩)
      | fail)
  refine SemC.weaker (Weaker.to (l := [(0, .sl (l.map eSpan) full), (1, I64 lo), (2, I64 hi), (7, I64 0), (8, I64 ((0 : Nat) : Int))]) 0 rfl ⟨rfl, rfl, rfl, rfl, rfl, trivial⟩ (Nat.le_refl _) rfl rfl) ?_
  refine SemC.loop (fun k : Nat => k ≤ l.length ∧ (l.take k).any (fun s => !inB s.lo lo hi || !inB s.hi lo hi) = false) (fun k => ⟨mkFr [(0, .sl (l.map eSpan) full), (1, I64 lo), (2, I64 hi), (7, I64 (if (l.take k).any (fun s => decide (s.hi < s.lo)) then 2 else 0)), (8, I64 (k : Int))], [], Amb.none, false, 0⟩) (fun k => l.length - k) ?_ 0 ⟨Nat.zero_le _, rfl⟩
  intro k ⟨hk, hprev⟩
  refine wpC_sound (mu := fun _ => false) ?_
  repeat' (first
      | (with_reducible refine wpC_skip ?_)
      | (with_reducible refine wpC_seq ?_)
      | (with_reducible refine wpC_block ?_)
      | (with_reducible refine wpC_drawL ?_)
      | (with_reducible refine wpC_opsL ?_)
      | (with_reducible refine wpC_draw ?_)
      | (with_reducible refine wpC_ops ?_)
      | (with_reducible refine wpOps_nil ?_)
      | (first
          | (with_reducible refine wpOps_cons ?_)
          | (with_reducible refine wpDraw_cons ?_)
         first
          | (with_reducible refine wpGuard_none ?_)
          | (refine wpGuard_yes rfl rfl rfl ?_)
          | (refine wpGuard_no rfl rfl rfl ?_)
          | (refine wpGuard_yes rfl rfl (by assumption) ?_)
          | (refine wpGuard_no rfl rfl (by assumption) ?_)
          | (refine wpGuard_skip rfl rfl ?_)
          | skip)
      | (with_reducible refine putS_some ?_)
      | (with_reducible refine putS_none ?_)
      | (with_reducible refine seqQ_normal ?_)
      | (refine ⟨_, rfl, ?_⟩)
      | (refine guardYes (by assumption) ?_)
      | (refine guardYes rfl ?_)
      | (refine guardNo rfl ?_)
      | (refine guardNo (by assumption) ?_)
      | (refine ⟨_, _, rfl, by decide, ?_⟩)
      | (refine ⟨rfl, rfl, rfl, ?_⟩)
      | (refine ⟨rfl, rfl, ?_⟩)
      | (refine ⟨_, _, rfl, _, rfl, ?_⟩)
      | (refine And.intro (Nat.le_of_ble_eq_true rfl) ?_)
      | (refine And.intro (by omega) ?_)
      | (refine ⟨_, _, rfl, rfl, _, rfl, rfl, ?_⟩)
      | (refine And.intro (by kernel_rfl) ?_)
      | (refine ⟨rfl, rfl, rfl, rfl, rfl, ?_⟩)
      | fail)
  refine ⟨fun h => ?_, fun h => ?_⟩
  · have hlt : k < l.length := by simpa using h
    have htake : l.take (k + 1) = l.take k ++ [l[k]] := by rw [List.take_add_one, List.getElem?_eq_getElem hlt]; rfl
    repeat' (first
        | (with_reducible refine wpC_skip ?_)
        | (with_reducible refine wpC_seq ?_)
        | (with_reducible refine wpC_block ?_)
        | (with_reducible refine wpC_drawL ?_)
        | (with_reducible refine wpC_opsL ?_)
        | (with_reducible refine wpC_draw ?_)
        | (with_reducible refine wpC_ops ?_)
        | (with_reducible refine wpOps_nil ?_)
        | (first
            | (with_reducible refine wpOps_cons ?_)
            | (with_reducible refine wpDraw_cons ?_)
           first
            | (with_reducible refine wpGuard_none ?_)
            | (refine wpGuard_yes rfl rfl rfl ?_)
            | (refine wpGuard_no rfl rfl rfl ?_)
            | (refine wpGuard_yes rfl rfl (by assumption) ?_)
            | (refine wpGuard_no rfl rfl (by assumption) ?_)
            | (refine wpGuard_skip rfl rfl ?_)
            | skip)
        | (with_reducible refine putS_some ?_)
        | (with_reducible refine putS_none ?_)
        | (with_reducible refine seqQ_normal ?_)
        | (refine ⟨_, rfl, ?_⟩)
        | (refine guardYes (by assumption) ?_)
        | (refine guardYes rfl ?_)
        | (refine guardNo rfl ?_)
        | (refine guardNo (by assumption) ?_)
        | (refine ⟨_, _, rfl, by decide, ?_⟩)
        | (refine ⟨rfl, rfl, rfl, ?_⟩)
        | (refine ⟨rfl, rfl, ?_⟩)
        | (refine ⟨_, _, rfl, _, rfl, ?_⟩)
        | (refine And.intro (Nat.le_of_ble_eq_true rfl) ?_)
        | (refine And.intro (by omega) ?_)
        | (refine ⟨_, _, rfl, rfl, _, rfl, rfl, ?_⟩)
        | (refine And.intro (by kernel_rfl) ?_)
        | (refine ⟨rfl, rfl, rfl, rfl, rfl, ?_⟩)
        | (refine ⟨eSpan l[k], ⟨by omega, map_at hlt⟩, rfl, ?_⟩)
        | (refine PureV.call (in130_c one _ _ _) rfl rfl ?_)
        | (refine ⟨fun h => ?_, fun h => ?_⟩)
        | fail)
    all_goals first
      | (refine ⟨[_], ⟨Fz.deep rfl, trivial⟩, i64c ?_⟩
         have : l.any (fun s => !inB s.lo lo hi || !inB s.hi lo hi) = true := by
           rw [List.any_eq_true]
           exact ⟨l[k], List.getElem_mem hlt, by simp_all⟩
         simp only [spreadErr, this]
         rfl)
      | (refine ⟨k + 1, ⟨hlt, by rw [htake, List.any_append, hprev]; simp_all⟩, (by dsimp only; omega), Weaker.to 0 rfl ⟨rfl, rfl, rfl, i64c ?_, i64c (by simp), trivial⟩ (Nat.le_refl _) rfl rfl⟩
         rw [htake, List.any_append]
         generalize (l.take k).any (fun s => decide (s.hi < s.lo)) = b
         cases b <;> simp_all)
  · repeat' (first
        | (with_reducible refine wpC_skip ?_)
        | (with_reducible refine wpC_seq ?_)
        | (with_reducible refine wpC_block ?_)
        | (with_reducible refine wpC_drawL ?_)
        | (with_reducible refine wpC_opsL ?_)
        | (with_reducible refine wpC_draw ?_)
        | (with_reducible refine wpC_ops ?_)
        | (with_reducible refine wpOps_nil ?_)
        | (first
            | (with_reducible refine wpOps_cons ?_)
            | (with_reducible refine wpDraw_cons ?_)
           first
            | (with_reducible refine wpGuard_none ?_)
            | (refine wpGuard_yes rfl rfl rfl ?_)
            | (refine wpGuard_no rfl rfl rfl ?_)
            | (refine wpGuard_yes rfl rfl (by assumption) ?_)
            | (refine wpGuard_no rfl rfl (by assumption) ?_)
            | (refine wpGuard_skip rfl rfl ?_)
            | skip)
        | (with_reducible refine putS_some ?_)
        | (with_reducible refine putS_none ?_)
        | (with_reducible refine seqQ_normal ?_)
        | (refine ⟨_, rfl, ?_⟩)
        | (refine guardYes (by assumption) ?_)
        | (refine guardYes rfl ?_)
        | (refine guardNo rfl ?_)
        | (refine guardNo (by assumption) ?_)
        | (refine ⟨_, _, rfl, by decide, ?_⟩)
        | (refine ⟨rfl, rfl, rfl, ?_⟩)
        | (refine ⟨rfl, rfl, ?_⟩)
        | (refine ⟨_, _, rfl, _, rfl, ?_⟩)
        | (refine And.intro (Nat.le_of_ble_eq_true rfl) ?_)
        | (refine And.intro (by omega) ?_)
        | (refine ⟨_, _, rfl, rfl, _, rfl, rfl, ?_⟩)
        | (refine And.intro (by kernel_rfl) ?_)
        | (refine ⟨rfl, rfl, rfl, rfl, rfl, ?_⟩)
        | fail)
    refine ⟨[_], ⟨Fz.deep rfl, trivial⟩, i64c ?_⟩
    have : k = l.length := by simp at h; omega
    subst this
    rw [List.take_length] at hprev ⊢
    simp only [spreadErr, hprev]
    rfl

theorem spread_one {lo hi : Int} {s : Span} : spreadErr lo hi [s] = rangeErr lo hi s := by
  simp [spreadErr, rangeErr]

theorem range_c (one : Bool) (s : Span) (lo hi : Int) : Pu one 86 [.ag (eSpan s), I64 lo, I64 hi] (I64 (rangeErr lo hi s)) := by
  rw [← spread_one]
  refine PureV.body (fn := Try.f86) rfl rfl rfl rfl ?_
  refine wpC_sound (mu := fun _ => false) ?_
  repeat' (first
      | (with_reducible refine wpC_skip ?_)
      | (with_reducible refine wpC_seq ?_)
      | (with_reducible refine wpC_block ?_)
      | (with_reducible refine wpC_drawL ?_)
      | (with_reducible refine wpC_opsL ?_)
      | (with_reducible refine wpC_draw ?_)
      | (with_reducible refine wpC_ops ?_)
      | (with_reducible refine wpOps_nil ?_)
      | (first
          | (with_reducible refine wpOps_cons ?_)
          | (with_reducible refine wpDraw_cons ?_)
         first
          | (with_reducible refine wpGuard_none ?_)
          | (refine wpGuard_yes rfl rfl rfl ?_)
          | (refine wpGuard_no rfl rfl rfl ?_)
          | (refine wpGuard_yes rfl rfl (by assumption) ?_)
          | (refine wpGuard_no rfl rfl (by assumption) ?_)
          | (refine wpGuard_skip rfl rfl ?_)
          | skip)
      | (with_reducible refine putS_some ?_)
      | (with_reducible refine putS_none ?_)
      | (with_reducible refine seqQ_normal ?_)
      | (refine ⟨_, rfl, ?_⟩)
      | (refine guardYes (by assumption) ?_)
      | (refine guardYes rfl ?_)
      | (refine guardNo rfl ?_)
      | (refine guardNo (by assumption) ?_)
      | (refine ⟨_, _, rfl, by decide, ?_⟩)
      | (refine ⟨rfl, rfl, rfl, ?_⟩)
      | (refine ⟨rfl, rfl, ?_⟩)
      | (refine ⟨_, _, rfl, _, rfl, ?_⟩)
      | (refine And.intro (Nat.le_of_ble_eq_true rfl) ?_)
      | (refine And.intro (by omega) ?_)
      | (refine ⟨_, _, rfl, rfl, _, rfl, rfl, ?_⟩)
      | (refine And.intro (by kernel_rfl) ?_)
      | (refine ⟨rfl, rfl, rfl, rfl, rfl, ?_⟩)
      | (refine PureV.call (spread_c one [s] true lo hi (Nat.le_of_ble_eq_true rfl)) rfl rfl ?_)
      | fail)
  exact ⟨[_], ⟨Fz.deep rfl, trivial⟩, rfl⟩

theorem outB_cons (lo hi n : Int) (l : List Int) : outB lo hi (n :: l) = (!inB n lo hi || outB lo hi l) := by
  rw [← outB_one]
  simp [outB]

theorem outB_nil (lo hi : Int) : outB lo hi [] = false := rfl

theorem kind_bools : ∀ o1 b1 o2 b2 o3 b3 r t : Bool,
    (if (o1 || r) || o2 || o3 || t then (7 : Int) else if b1 || b2 || b3 then 2 else 0) =
    (let a : Int := if o1 then 7 else if b1 then 2 else 0
     let b : Int := if o2 then 7 else if b2 then 2 else 0
     let c : Int := if o3 then 7 else if b3 then 2 else 0
     if a = 7 ∨ b = 7 ∨ c = 7 ∨ r = true ∨ t = true then 7 else if a ≠ 0 ∨ b ≠ 0 ∨ c ≠ 0 then 2 else 0) := by decide

theorem kindErr_eq (k : Kind) (names : List ByteArray) : kindErr k names = if freshErr k.name names ≠ 0 then freshErr k.name names else
    if rangeErr 0 300 k.first = 7 ∨ rangeErr 0 6 k.man = 7 ∨ rangeErr 0 12 k.ship = 7 ∨ (!inB k.room 0 300) = true ∨ (!inB k.ration 0 1000) = true then 7
    else if rangeErr 0 300 k.first ≠ 0 ∨ rangeErr 0 6 k.man ≠ 0 ∨ rangeErr 0 12 k.ship ≠ 0 then 2 else 0 := by
  have h := kind_bools (!inB k.first.lo 0 300 || !inB k.first.hi 0 300) (decide (k.first.hi < k.first.lo)) (!inB k.man.lo 0 6 || !inB k.man.hi 0 6) (decide (k.man.hi < k.man.lo)) (!inB k.ship.lo 0 12 || !inB k.ship.hi 0 12) (decide (k.ship.hi < k.ship.lo)) (!inB k.room 0 300) (!inB k.ration 0 1000)
  simp only [decide_eq_true_eq] at h
  unfold rangeErr
  rw [← h]
  unfold kindErr freshErr
  simp only [outB_cons, outB_nil, Bool.or_false, Bool.or_assoc]
  by_cases h1 : nameB k.name = false
  · simp [h1]
  · by_cases h2 : (names.any fun x => sEq x k.name) = true
    · simp [h1, h2]
    · simp only [h1, h2]
      simp

theorem rkind_c (one : Bool) (k : Kind) (names : List ByteArray) (full : Bool) (hk : k.name.data.toList.length ≤ maxLen) (ho : names.length ≤ maxLen) : Pu one 59 [.ag (eKind k), .sl (names.map eS) full] (I64 (kindErr k names)) := by
  rw [kindErr_eq]
  have c1 := fresh_c one names full k.name hk ho
  have c2 := range_c one k.first 0 300
  have c3 := range_c one k.man 0 6
  have c4 := range_c one k.ship 0 12
  generalize freshErr k.name names = e at c1 ⊢
  generalize rangeErr 0 300 k.first = a at c2 ⊢
  generalize rangeErr 0 6 k.man = b at c3 ⊢
  generalize rangeErr 0 12 k.ship = c at c4 ⊢
  refine PureV.body (fn := Try.f59) rfl rfl rfl rfl ?_
  refine wpC_sound (mu := fun _ => false) ?_
  repeat' (first
      | (with_reducible refine wpC_skip ?_)
      | (with_reducible refine wpC_seq ?_)
      | (with_reducible refine wpC_block ?_)
      | (with_reducible refine wpC_drawL ?_)
      | (with_reducible refine wpC_opsL ?_)
      | (with_reducible refine wpC_draw ?_)
      | (with_reducible refine wpC_ops ?_)
      | (with_reducible refine wpOps_nil ?_)
      | (first
          | (with_reducible refine wpOps_cons ?_)
          | (with_reducible refine wpDraw_cons ?_)
         first
          | (with_reducible refine wpGuard_none ?_)
          | (refine wpGuard_yes rfl rfl rfl ?_)
          | (refine wpGuard_no rfl rfl rfl ?_)
          | (refine wpGuard_yes rfl rfl (by assumption) ?_)
          | (refine wpGuard_no rfl rfl (by assumption) ?_)
          | (refine wpGuard_skip rfl rfl ?_)
          | skip)
      | (with_reducible refine putS_some ?_)
      | (with_reducible refine putS_none ?_)
      | (with_reducible refine seqQ_normal ?_)
      | (refine ⟨_, rfl, ?_⟩)
      | (refine guardYes (by assumption) ?_)
      | (refine guardYes rfl ?_)
      | (refine guardNo rfl ?_)
      | (refine guardNo (by assumption) ?_)
      | (refine ⟨_, _, rfl, by decide, ?_⟩)
      | (refine ⟨rfl, rfl, rfl, ?_⟩)
      | (refine ⟨rfl, rfl, ?_⟩)
      | (refine ⟨_, _, rfl, _, rfl, ?_⟩)
      | (refine And.intro (Nat.le_of_ble_eq_true rfl) ?_)
      | (refine And.intro (by omega) ?_)
      | (refine ⟨_, _, rfl, rfl, _, rfl, rfl, ?_⟩)
      | (refine And.intro (by kernel_rfl) ?_)
      | (refine ⟨rfl, rfl, rfl, rfl, rfl, ?_⟩)
      | (refine PureV.call (in58_c one _ _ _) rfl rfl ?_)
      | (refine PureV.call c1 rfl rfl ?_)
      | (refine PureV.call c2 rfl rfl ?_)
      | (refine PureV.call c3 rfl rfl ?_)
      | (refine PureV.call c4 rfl rfl ?_)
      | (refine ⟨fun h => ?_, fun h => ?_⟩)
      | fail)
  all_goals refine ⟨[_], ⟨Fz.deep rfl, trivial⟩, i64c ?_⟩
  all_goals simp_all
end Go.Proofs.Ytmkaeohmdcoanaa
open Go Go.RM
namespace Go.Proofs.Ytmkaeohmdcoanaa
set_option maxRecDepth 100000

/-! ### The check, place by place -/

def sizesBad (s : Stores) : Bool := outB 1 30 [(s.men.length : Int)] || outB 1 4 [(s.kinds.length : Int)] || decide (8 < (s.cargos.length : Int))

theorem chk_1 {s : Stores} (h : sizesBad s = true) : chk s = (1, 0, 3) := by
  unfold chk
  unfold sizesBad at h
  rw [if_pos h]

theorem chk_2 {s : Stores} (h : sizesBad s = false) {k : Nat} (hk : k < s.men.length) (hprev : ∀ i (h : i < s.men.length), i < k → outB 0 12 [s.men[i]] = false) (hp : outB 0 12 [s.men[k]] = true) : chk s = (1, (k : Int), 7) := by
  unfold chk
  unfold sizesBad at h
  rw [if_neg (by rw [h]; decide), idxF_here hk hprev hp]
  simp

def kErr (s : Stores) (i : Nat) : Int := match s.kinds[i]? with | some k => kindErr k ((s.kinds.take i).map (·.name)) | none => 0
def cErr (s : Stores) (i : Nat) : Int := match s.cargos[i]? with | some c => cargoErr s c | none => 0

theorem kErr_at {s : Stores} {i : Nat} (h : i < s.kinds.length) : kErr s i = kindErr s.kinds[i] ((s.kinds.take i).map (·.name)) := by
  unfold kErr
  rw [List.getElem?_eq_getElem h]
theorem cErr_at {s : Stores} {i : Nat} (h : i < s.cargos.length) : cErr s i = cargoErr s s.cargos[i] := by
  unfold cErr
  rw [List.getElem?_eq_getElem h]

theorem chk_men {s : Stores} (h : sizesBad s = false) (h1 : ∀ i (h : i < s.men.length), outB 0 12 [s.men[i]] = false) : chk s =
    if (firstN s.kinds.length (kErr s)).2 ≠ 0 then (2, (firstN s.kinds.length (kErr s)).1, (firstN s.kinds.length (kErr s)).2)
    else if (firstN s.cargos.length (cErr s)).2 ≠ 0 then (3, (firstN s.cargos.length (cErr s)).1, (firstN s.cargos.length (cErr s)).2) else (0, 0, 0) := by
  unfold chk
  unfold sizesBad at h
  rw [if_neg (by rw [h]; decide), idxF_none h1]
  rfl

theorem chk_3 {s : Stores} (h : sizesBad s = false) (h1 : ∀ i (h : i < s.men.length), outB 0 12 [s.men[i]] = false) {k : Nat} (hk : k < s.kinds.length) (hprev : ∀ i, i < k → kErr s i = 0) (hp : kErr s k ≠ 0) : chk s = (2, (k : Int), kErr s k) := by
  rw [chk_men h h1, firstN_here hk hprev hp, if_pos hp]

theorem chk_4 {s : Stores} (h : sizesBad s = false) (h1 : ∀ i (h : i < s.men.length), outB 0 12 [s.men[i]] = false) (h2 : ∀ i, i < s.kinds.length → kErr s i = 0) {k : Nat} (hk : k < s.cargos.length) (hprev : ∀ i, i < k → cErr s i = 0) (hp : cErr s k ≠ 0) : chk s = (3, (k : Int), cErr s k) := by
  rw [chk_men h h1, firstN_none h2, firstN_here hk hprev hp, if_neg (by simp), if_pos hp]

theorem chk_5 {s : Stores} (h : sizesBad s = false) (h1 : ∀ i (h : i < s.men.length), outB 0 12 [s.men[i]] = false) (h2 : ∀ i, i < s.kinds.length → kErr s i = 0) (h3 : ∀ i, i < s.cargos.length → cErr s i = 0) : chk s = (0, 0, 0) := by
  rw [chk_men h h1, firstN_none h2, firstN_none h3, if_neg (by simp), if_neg (by simp)]

theorem sizes_ok {s : Stores} (h : sizesBad s = false) : (1 ≤ s.men.length ∧ s.men.length ≤ 30) ∧ (1 ≤ s.kinds.length ∧ s.kinds.length ≤ 4) ∧ s.cargos.length ≤ 8 := by
  unfold sizesBad at h
  simp only [outB_one, Bool.or_eq_false_iff, Bool.not_eq_false', inB_iff, decide_eq_false_iff_not] at h
  omega

def namesV : Nat → AV
  | 0 => .fl (.slice none 0 0)
  | k + 1 => .osl 0 k 0 (k + 1) (k + 2)
def namesB (s : Stores) : Nat → List AB
  | 0 => []
  | k + 1 => [.cells ((s.kinds.take (k + 1)).map fun x => ST x.name) 1 k]

theorem namesB_inb (s : Stores) (k : Nat) : (namesB s k).all (AB.inb 1) = true := by
  cases k with
  | zero => rfl
  | succ k =>
    simp only [namesB, List.all_cons, List.all_nil, Bool.and_true, AB.inb]
    induction s.kinds.take (k + 1) with
    | nil => rfl
    | cons a l ih => exact ih

theorem names_take (s : Stores) {k : Nat} (h : k < s.kinds.length) : (s.kinds.take (k + 1)).map (fun x => ST x.name) = (s.kinds.take k).map (fun x => ST x.name) ++ [ST s.kinds[k].name] := by
  rw [List.take_add_one, List.getElem?_eq_getElem h, List.map_append]
  rfl

theorem flat_names (l : List Kind) : ((l.map (·.name)).map eS).flatten = l.map (fun x => ST x.name) := by
  induction l with
  | nil => rfl
  | cons a l ih =>
    simp only [List.map_cons, List.flatten_cons, ih]
    rfl

theorem deepL_names (l : List Kind) : deepL (l.map (fun x => ST x.name)) = true := by
  induction l with
  | nil => rfl
  | cons a l ih => exact ih

theorem names_row (l : List Kind) {n v c : Nat} (h : l.length = n) : Fz [.cells (l.map fun x => ST x.name) 1 v] (.osl 0 v 0 n c) (.sl ((l.map (·.name)).map eS) false) :=
  Fz.row (es := 1) rfl (by simp; omega) (by simp; omega) (fun el hel => by obtain ⟨x, _, rfl⟩ := List.mem_map.1 hel; rfl) (by rw [flat_names, List.drop_zero, List.take_of_length_le (by simp; omega)]) (by rw [flat_names]; exact deepL_names _) (fun h => Bool.noConfusion h)

theorem rcheck_c (s : Stores) (h : s.Ok) (one : Bool) : Pu one 18 [.ag (eStores s)] (.tp [I64 (chk s).1, I64 (chk s).2.1, I64 (chk s).2.2]) := by
  have hm := h.men
  have hk := h.kinds
  have hc := h.cargos
  have hnm := h.names
  have em : ((s.men.map eI).length : Int) = s.men.length := by simp
  have ek : ((s.kinds.map eKind).length : Int) = s.kinds.length := by simp
  have ec : ((s.cargos.map eCargo).length : Int) = s.cargos.length := by simp
  unfold maxLen at hm hk hc
  refine PureV.body (fn := Try.f18) rfl rfl rfl rfl ?_
  refine wpC_sound (mu := fun t => Nat.beq t 66) ?_
  repeat' (first
      | (with_reducible refine wpC_skip ?_)
      | (with_reducible refine wpC_seq ?_)
      | (with_reducible refine wpC_block ?_)
      | (with_reducible refine wpC_drawL ?_)
      | (with_reducible refine wpC_opsL ?_)
      | (with_reducible refine wpC_draw ?_)
      | (with_reducible refine wpC_ops ?_)
      | (with_reducible refine wpOps_nil ?_)
      | (first
          | (with_reducible refine wpOps_cons ?_)
          | (with_reducible refine wpDraw_cons ?_)
         first
          | (with_reducible refine wpGuard_none ?_)
          | (refine wpGuard_yes rfl rfl rfl ?_)
          | (refine wpGuard_no rfl rfl rfl ?_)
          | (refine wpGuard_yes rfl rfl (by assumption) ?_)
          | (refine wpGuard_no rfl rfl (by assumption) ?_)
          | (refine wpGuard_skip rfl rfl ?_)
          | skip)
      | (with_reducible refine putS_some ?_)
      | (with_reducible refine putS_none ?_)
      | (with_reducible refine seqQ_normal ?_)
      | (refine ⟨_, rfl, ?_⟩)
      | (refine guardYes (by assumption) ?_)
      | (refine guardYes rfl ?_)
      | (refine guardNo rfl ?_)
      | (refine guardNo (by assumption) ?_)
      | (refine ⟨_, _, rfl, by decide, ?_⟩)
      | (refine ⟨rfl, rfl, rfl, ?_⟩)
      | (refine ⟨rfl, rfl, ?_⟩)
      | (refine ⟨_, _, rfl, _, rfl, ?_⟩)
      | (refine And.intro (Nat.le_of_ble_eq_true rfl) ?_)
      | (refine And.intro (by omega) ?_)
      | (refine ⟨_, _, rfl, rfl, _, rfl, rfl, ?_⟩)
      | (refine And.intro (by kernel_rfl) ?_)
      | (refine ⟨rfl, rfl, rfl, rfl, rfl, ?_⟩)
      | (refine PureV.call (in58_c one _ _ _) rfl rfl ?_)
      | (refine ⟨fun h => ?_, fun h => ?_⟩)
      | fail)
  all_goals first
    | (have hb : sizesBad s = true := by
         unfold sizesBad
         simp only [outB_one]
         simp_all
       rw [chk_1 hb]
       exact ⟨[_, _, _], ⟨Fz.deep rfl, Fz.deep rfl, Fz.deep rfl, trivial⟩, rfl⟩)
    | skip
  have hb : sizesBad s = false := by
    unfold sizesBad
    simp only [outB_one]
    simp_all
  obtain ⟨⟨m1, m2⟩, ⟨k1, k2⟩, c1⟩ := sizes_ok hb
  repeat' (first
      | (with_reducible refine wpC_skip ?_)
      | (with_reducible refine wpC_seq ?_)
      | (with_reducible refine wpC_block ?_)
      | (with_reducible refine wpC_drawL ?_)
      | (with_reducible refine wpC_opsL ?_)
      | (with_reducible refine wpC_draw ?_)
      | (with_reducible refine wpC_ops ?_)
      | (with_reducible refine wpOps_nil ?_)
      | (first
          | (with_reducible refine wpOps_cons ?_)
          | (with_reducible refine wpDraw_cons ?_)
         first
          | (with_reducible refine wpGuard_none ?_)
          | (refine wpGuard_yes rfl rfl rfl ?_)
          | (refine wpGuard_no rfl rfl rfl ?_)
          | (refine wpGuard_yes rfl rfl (by assumption) ?_)
          | (refine wpGuard_no rfl rfl (by assumption) ?_)
          | (refine wpGuard_skip rfl rfl ?_)
          | skip)
      | (with_reducible refine putS_some ?_)
      | (with_reducible refine putS_none ?_)
      | (with_reducible refine seqQ_normal ?_)
      | (refine ⟨_, rfl, ?_⟩)
      | (refine guardYes (by assumption) ?_)
      | (refine guardYes rfl ?_)
      | (refine guardNo rfl ?_)
      | (refine guardNo (by assumption) ?_)
      | (refine ⟨_, _, rfl, by decide, ?_⟩)
      | (refine ⟨rfl, rfl, rfl, ?_⟩)
      | (refine ⟨rfl, rfl, ?_⟩)
      | (refine ⟨_, _, rfl, _, rfl, ?_⟩)
      | (refine And.intro (Nat.le_of_ble_eq_true rfl) ?_)
      | (refine And.intro (by omega) ?_)
      | (refine ⟨_, _, rfl, rfl, _, rfl, rfl, ?_⟩)
      | (refine And.intro (by kernel_rfl) ?_)
      | (refine ⟨rfl, rfl, rfl, rfl, rfl, ?_⟩)
      | fail)
  refine SemC.weaker (Weaker.to (l := [(1, .pt (eStores s) 0), (5, I64 ((0 : Nat) : Int))]) 0 rfl ⟨rfl, rfl, trivial⟩ (Nat.le_refl _) rfl rfl) ?_
  refine SemC.loop (fun k : Nat => k ≤ s.men.length ∧ ∀ i (h : i < s.men.length), i < k → outB 0 12 [s.men[i]] = false) (fun k => ⟨mkFr [(1, .pt (eStores s) 0), (5, I64 (k : Int))], [], Amb.none, false, 0⟩) (fun k => s.men.length - k) ?_ 0 ⟨Nat.zero_le _, fun i _ hi => absurd hi (by omega)⟩
  intro k ⟨hk', hprev⟩
  refine wpC_sound (mu := fun t => Nat.beq t 66) ?_
  repeat' (first
      | (with_reducible refine wpC_skip ?_)
      | (with_reducible refine wpC_seq ?_)
      | (with_reducible refine wpC_block ?_)
      | (with_reducible refine wpC_drawL ?_)
      | (with_reducible refine wpC_opsL ?_)
      | (with_reducible refine wpC_draw ?_)
      | (with_reducible refine wpC_ops ?_)
      | (with_reducible refine wpOps_nil ?_)
      | (first
          | (with_reducible refine wpOps_cons ?_)
          | (with_reducible refine wpDraw_cons ?_)
         first
          | (with_reducible refine wpGuard_none ?_)
          | (refine wpGuard_yes rfl rfl rfl ?_)
          | (refine wpGuard_no rfl rfl rfl ?_)
          | (refine wpGuard_yes rfl rfl (by assumption) ?_)
          | (refine wpGuard_no rfl rfl (by assumption) ?_)
          | (refine wpGuard_skip rfl rfl ?_)
          | skip)
      | (with_reducible refine putS_some ?_)
      | (with_reducible refine putS_none ?_)
      | (with_reducible refine seqQ_normal ?_)
      | (refine ⟨_, rfl, ?_⟩)
      | (refine guardYes (by assumption) ?_)
      | (refine guardYes rfl ?_)
      | (refine guardNo rfl ?_)
      | (refine guardNo (by assumption) ?_)
      | (refine ⟨_, _, rfl, by decide, ?_⟩)
      | (refine ⟨rfl, rfl, rfl, ?_⟩)
      | (refine ⟨rfl, rfl, ?_⟩)
      | (refine ⟨_, _, rfl, _, rfl, ?_⟩)
      | (refine And.intro (Nat.le_of_ble_eq_true rfl) ?_)
      | (refine And.intro (by omega) ?_)
      | (refine ⟨_, _, rfl, rfl, _, rfl, rfl, ?_⟩)
      | (refine And.intro (by kernel_rfl) ?_)
      | (refine ⟨rfl, rfl, rfl, rfl, rfl, ?_⟩)
      | fail)
  refine ⟨fun h => ?_, fun h => ?_⟩
  · have hlt : k < s.men.length := by simpa using h
    repeat' (first
        | (with_reducible refine wpC_skip ?_)
        | (with_reducible refine wpC_seq ?_)
        | (with_reducible refine wpC_block ?_)
        | (with_reducible refine wpC_drawL ?_)
        | (with_reducible refine wpC_opsL ?_)
        | (with_reducible refine wpC_draw ?_)
        | (with_reducible refine wpC_ops ?_)
        | (with_reducible refine wpOps_nil ?_)
        | (first
            | (with_reducible refine wpOps_cons ?_)
            | (with_reducible refine wpDraw_cons ?_)
           first
            | (with_reducible refine wpGuard_none ?_)
            | (refine wpGuard_yes rfl rfl rfl ?_)
            | (refine wpGuard_no rfl rfl rfl ?_)
            | (refine wpGuard_yes rfl rfl (by assumption) ?_)
            | (refine wpGuard_no rfl rfl (by assumption) ?_)
            | (refine wpGuard_skip rfl rfl ?_)
            | skip)
        | (with_reducible refine putS_some ?_)
        | (with_reducible refine putS_none ?_)
        | (with_reducible refine seqQ_normal ?_)
        | (refine ⟨_, rfl, ?_⟩)
        | (refine guardYes (by assumption) ?_)
        | (refine guardYes rfl ?_)
        | (refine guardNo rfl ?_)
        | (refine guardNo (by assumption) ?_)
        | (refine ⟨_, _, rfl, by decide, ?_⟩)
        | (refine ⟨rfl, rfl, rfl, ?_⟩)
        | (refine ⟨rfl, rfl, ?_⟩)
        | (refine ⟨_, _, rfl, _, rfl, ?_⟩)
        | (refine And.intro (Nat.le_of_ble_eq_true rfl) ?_)
        | (refine And.intro (by omega) ?_)
        | (refine ⟨_, _, rfl, rfl, _, rfl, rfl, ?_⟩)
        | (refine And.intro (by kernel_rfl) ?_)
        | (refine ⟨rfl, rfl, rfl, rfl, rfl, ?_⟩)
        | (refine ⟨eI s.men[k], ⟨by omega, map_at hlt⟩, rfl, ?_⟩)
        | (refine PureV.call (in58_c one _ _ _) rfl rfl ?_)
        | fail)
    refine ⟨fun h2 => ?_, fun h2 => ?_⟩
    · repeat' (first
          | (with_reducible refine wpC_skip ?_)
          | (with_reducible refine wpC_seq ?_)
          | (with_reducible refine wpC_block ?_)
          | (with_reducible refine wpC_drawL ?_)
          | (with_reducible refine wpC_opsL ?_)
          | (with_reducible refine wpC_draw ?_)
          | (with_reducible refine wpC_ops ?_)
          | (with_reducible refine wpOps_nil ?_)
          | (first
              | (with_reducible refine wpOps_cons ?_)
              | (with_reducible refine wpDraw_cons ?_)
             first
              | (with_reducible refine wpGuard_none ?_)
              | (refine wpGuard_yes rfl rfl rfl ?_)
              | (refine wpGuard_no rfl rfl rfl ?_)
              | (refine wpGuard_yes rfl rfl (by assumption) ?_)
              | (refine wpGuard_no rfl rfl (by assumption) ?_)
              | (refine wpGuard_skip rfl rfl ?_)
              | skip)
          | (with_reducible refine putS_some ?_)
          | (with_reducible refine putS_none ?_)
          | (with_reducible refine seqQ_normal ?_)
          | (refine ⟨_, rfl, ?_⟩)
          | (refine guardYes (by assumption) ?_)
          | (refine guardYes rfl ?_)
          | (refine guardNo rfl ?_)
          | (refine guardNo (by assumption) ?_)
          | (refine ⟨_, _, rfl, by decide, ?_⟩)
          | (refine ⟨rfl, rfl, rfl, ?_⟩)
          | (refine ⟨rfl, rfl, ?_⟩)
          | (refine ⟨_, _, rfl, _, rfl, ?_⟩)
          | (refine And.intro (Nat.le_of_ble_eq_true rfl) ?_)
          | (refine And.intro (by omega) ?_)
          | (refine ⟨_, _, rfl, rfl, _, rfl, rfl, ?_⟩)
          | (refine And.intro (by kernel_rfl) ?_)
          | (refine ⟨rfl, rfl, rfl, rfl, rfl, ?_⟩)
          | fail)
      refine ⟨[_, _, _], ⟨Fz.deep rfl, Fz.deep rfl, Fz.deep rfl, trivial⟩, ?_⟩
      rw [chk_2 hb hlt hprev (by rw [outB_one]; exact h2)]; rfl
    · repeat' (first
          | (with_reducible refine wpC_skip ?_)
          | (with_reducible refine wpC_seq ?_)
          | (with_reducible refine wpC_block ?_)
          | (with_reducible refine wpC_drawL ?_)
          | (with_reducible refine wpC_opsL ?_)
          | (with_reducible refine wpC_draw ?_)
          | (with_reducible refine wpC_ops ?_)
          | (with_reducible refine wpOps_nil ?_)
          | (first
              | (with_reducible refine wpOps_cons ?_)
              | (with_reducible refine wpDraw_cons ?_)
             first
              | (with_reducible refine wpGuard_none ?_)
              | (refine wpGuard_yes rfl rfl rfl ?_)
              | (refine wpGuard_no rfl rfl rfl ?_)
              | (refine wpGuard_yes rfl rfl (by assumption) ?_)
              | (refine wpGuard_no rfl rfl (by assumption) ?_)
              | (refine wpGuard_skip rfl rfl ?_)
              | skip)
          | (with_reducible refine putS_some ?_)
          | (with_reducible refine putS_none ?_)
          | (with_reducible refine seqQ_normal ?_)
          | (refine ⟨_, rfl, ?_⟩)
          | (refine guardYes (by assumption) ?_)
          | (refine guardYes rfl ?_)
          | (refine guardNo rfl ?_)
          | (refine guardNo (by assumption) ?_)
          | (refine ⟨_, _, rfl, by decide, ?_⟩)
          | (refine ⟨rfl, rfl, rfl, ?_⟩)
          | (refine ⟨rfl, rfl, ?_⟩)
          | (refine ⟨_, _, rfl, _, rfl, ?_⟩)
          | (refine And.intro (Nat.le_of_ble_eq_true rfl) ?_)
          | (refine And.intro (by omega) ?_)
          | (refine ⟨_, _, rfl, rfl, _, rfl, rfl, ?_⟩)
          | (refine And.intro (by kernel_rfl) ?_)
          | (refine ⟨rfl, rfl, rfl, rfl, rfl, ?_⟩)
          | fail)
      refine ⟨k + 1, ⟨hlt, fun i hi hik => ?_⟩, (by dsimp only; omega), Weaker.to 0 rfl ⟨rfl, i64c (by simp), trivial⟩ (Nat.le_refl _) rfl rfl⟩
      by_cases hik' : i = k
      · subst hik'; rw [outB_one]; exact h2
      · exact hprev i hi (by omega)
  have hmen : ∀ i (h : i < s.men.length), outB 0 12 [s.men[i]] = false := fun i hi => hprev i hi (by simp at h; omega)
  clear hprev h
  repeat' (first
      | (with_reducible refine wpC_skip ?_)
      | (with_reducible refine wpC_seq ?_)
      | (with_reducible refine wpC_block ?_)
      | (with_reducible refine wpC_drawL ?_)
      | (with_reducible refine wpC_opsL ?_)
      | (with_reducible refine wpC_draw ?_)
      | (with_reducible refine wpC_ops ?_)
      | (with_reducible refine wpOps_nil ?_)
      | (first
          | (with_reducible refine wpOps_cons ?_)
          | (with_reducible refine wpDraw_cons ?_)
         first
          | (with_reducible refine wpGuard_none ?_)
          | (refine wpGuard_yes rfl rfl rfl ?_)
          | (refine wpGuard_no rfl rfl rfl ?_)
          | (refine wpGuard_yes rfl rfl (by assumption) ?_)
          | (refine wpGuard_no rfl rfl (by assumption) ?_)
          | (refine wpGuard_skip rfl rfl ?_)
          | skip)
      | (with_reducible refine putS_some ?_)
      | (with_reducible refine putS_none ?_)
      | (with_reducible refine seqQ_normal ?_)
      | (refine ⟨_, rfl, ?_⟩)
      | (refine guardYes (by assumption) ?_)
      | (refine guardYes rfl ?_)
      | (refine guardNo rfl ?_)
      | (refine guardNo (by assumption) ?_)
      | (refine ⟨_, _, rfl, by decide, ?_⟩)
      | (refine ⟨rfl, rfl, rfl, ?_⟩)
      | (refine ⟨rfl, rfl, ?_⟩)
      | (refine ⟨_, _, rfl, _, rfl, ?_⟩)
      | (refine And.intro (Nat.le_of_ble_eq_true rfl) ?_)
      | (refine And.intro (by omega) ?_)
      | (refine ⟨_, _, rfl, rfl, _, rfl, rfl, ?_⟩)
      | (refine And.intro (by kernel_rfl) ?_)
      | (refine ⟨rfl, rfl, rfl, rfl, rfl, ?_⟩)
      | fail)
  refine SemC.weaker (Weaker.to (l := [(1, .pt (eStores s) 0), (6, namesV 0), (7, I64 ((0 : Nat) : Int))]) 0 rfl ⟨rfl, rfl, rfl, trivial⟩ (Nat.le_refl _) rfl rfl) ?_
  refine SemC.loop (fun k : Nat => k ≤ s.kinds.length ∧ ∀ i, i < k → kErr s i = 0) (fun k => ⟨mkFr [(1, .pt (eStores s) 0), (6, namesV k), (7, I64 (k : Int))], namesB s k, Amb.none, false, 0⟩) (fun k => s.kinds.length - k) ?_ 0 ⟨Nat.zero_le _, fun i hi => absurd hi (by omega)⟩
  intro k ⟨hk', hprev⟩
  cases k with
  | zero =>
    refine wpC_sound (mu := fun t => Nat.beq t 66) ?_
    repeat' (first
        | (with_reducible refine wpC_skip ?_)
        | (with_reducible refine wpC_seq ?_)
        | (with_reducible refine wpC_block ?_)
        | (with_reducible refine wpC_drawL ?_)
        | (with_reducible refine wpC_opsL ?_)
        | (with_reducible refine wpC_draw ?_)
        | (with_reducible refine wpC_ops ?_)
        | (with_reducible refine wpOps_nil ?_)
        | (first
            | (with_reducible refine wpOps_cons ?_)
            | (with_reducible refine wpDraw_cons ?_)
           first
            | (with_reducible refine wpGuard_none ?_)
            | (refine wpGuard_yes rfl rfl rfl ?_)
            | (refine wpGuard_no rfl rfl rfl ?_)
            | (refine wpGuard_yes rfl rfl (by assumption) ?_)
            | (refine wpGuard_no rfl rfl (by assumption) ?_)
            | (refine wpGuard_skip rfl rfl ?_)
            | skip)
        | (with_reducible refine putS_some ?_)
        | (with_reducible refine putS_none ?_)
        | (with_reducible refine seqQ_normal ?_)
        | (refine ⟨_, rfl, ?_⟩)
        | (refine guardYes (by assumption) ?_)
        | (refine guardYes rfl ?_)
        | (refine guardNo rfl ?_)
        | (refine guardNo (by assumption) ?_)
        | (refine ⟨_, _, rfl, by decide, ?_⟩)
        | (refine ⟨rfl, rfl, rfl, ?_⟩)
        | (refine ⟨rfl, rfl, ?_⟩)
        | (refine ⟨_, _, rfl, _, rfl, ?_⟩)
        | (refine And.intro (Nat.le_of_ble_eq_true rfl) ?_)
        | (refine And.intro (by omega) ?_)
        | (refine ⟨_, _, rfl, rfl, _, rfl, rfl, ?_⟩)
        | (refine And.intro (by kernel_rfl) ?_)
        | (refine ⟨rfl, rfl, rfl, rfl, rfl, ?_⟩)
        | fail)
    refine ⟨fun h => ?_, fun h => ?_⟩
    · have hlt : 0 < s.kinds.length := k1
      have hce := kErr_at hlt
      repeat' (first
          | (with_reducible refine wpC_skip ?_)
          | (with_reducible refine wpC_seq ?_)
          | (with_reducible refine wpC_block ?_)
          | (with_reducible refine wpC_drawL ?_)
          | (with_reducible refine wpC_opsL ?_)
          | (with_reducible refine wpC_draw ?_)
          | (with_reducible refine wpC_ops ?_)
          | (with_reducible refine wpOps_nil ?_)
          | (first
              | (with_reducible refine wpOps_cons ?_)
              | (with_reducible refine wpDraw_cons ?_)
             first
              | (with_reducible refine wpGuard_none ?_)
              | (refine wpGuard_yes rfl rfl rfl ?_)
              | (refine wpGuard_no rfl rfl rfl ?_)
              | (refine wpGuard_yes rfl rfl (by assumption) ?_)
              | (refine wpGuard_no rfl rfl (by assumption) ?_)
              | (refine wpGuard_skip rfl rfl ?_)
              | skip)
          | (with_reducible refine putS_some ?_)
          | (with_reducible refine putS_none ?_)
          | (with_reducible refine seqQ_normal ?_)
          | (refine ⟨_, rfl, ?_⟩)
          | (refine guardYes (by assumption) ?_)
          | (refine guardYes rfl ?_)
          | (refine guardNo rfl ?_)
          | (refine guardNo (by assumption) ?_)
          | (refine ⟨_, _, rfl, by decide, ?_⟩)
          | (refine ⟨rfl, rfl, rfl, ?_⟩)
          | (refine ⟨rfl, rfl, ?_⟩)
          | (refine ⟨_, _, rfl, _, rfl, ?_⟩)
          | (refine And.intro (Nat.le_of_ble_eq_true rfl) ?_)
          | (refine And.intro (by omega) ?_)
          | (refine ⟨_, _, rfl, rfl, _, rfl, rfl, ?_⟩)
          | (refine And.intro (by kernel_rfl) ?_)
          | (refine ⟨rfl, rfl, rfl, rfl, rfl, ?_⟩)
          | (refine ⟨eKind s.kinds[0], ⟨by omega, map_at hlt⟩, rfl, ?_⟩)
          | (refine PureV.lend (rkind_c one s.kinds[0] [] false (hnm _ (List.getElem_mem _)) (Nat.zero_le _)) rfl (FzL.two (Fz.deep rfl) Fz.nil) (Free.fl _) ?_)
          | fail)
      refine ⟨[eS s.kinds[0].name], ⟨fun el hel => by rw [List.mem_singleton.1 hel]; rfl, rfl⟩, rfl, And.intro (Nat.le_of_ble_eq_true rfl) (Nat.le_of_ble_eq_true rfl), fun hn => absurd hn (by simp), fun _ => ?_⟩
      rw [show kindErr s.kinds[0] [] = kErr s 0 from by rw [hce]; rfl]
      repeat' (first
          | (with_reducible refine wpC_skip ?_)
          | (with_reducible refine wpC_seq ?_)
          | (with_reducible refine wpC_block ?_)
          | (with_reducible refine wpC_drawL ?_)
          | (with_reducible refine wpC_opsL ?_)
          | (with_reducible refine wpC_draw ?_)
          | (with_reducible refine wpC_ops ?_)
          | (with_reducible refine wpOps_nil ?_)
          | (first
              | (with_reducible refine wpOps_cons ?_)
              | (with_reducible refine wpDraw_cons ?_)
             first
              | (with_reducible refine wpGuard_none ?_)
              | (refine wpGuard_yes rfl rfl rfl ?_)
              | (refine wpGuard_no rfl rfl rfl ?_)
              | (refine wpGuard_yes rfl rfl (by assumption) ?_)
              | (refine wpGuard_no rfl rfl (by assumption) ?_)
              | (refine wpGuard_skip rfl rfl ?_)
              | skip)
          | (with_reducible refine putS_some ?_)
          | (with_reducible refine putS_none ?_)
          | (with_reducible refine seqQ_normal ?_)
          | (refine ⟨_, rfl, ?_⟩)
          | (refine guardYes (by assumption) ?_)
          | (refine guardYes rfl ?_)
          | (refine guardNo rfl ?_)
          | (refine guardNo (by assumption) ?_)
          | (refine ⟨_, _, rfl, by decide, ?_⟩)
          | (refine ⟨rfl, rfl, rfl, ?_⟩)
          | (refine ⟨rfl, rfl, ?_⟩)
          | (refine ⟨_, _, rfl, _, rfl, ?_⟩)
          | (refine And.intro (Nat.le_of_ble_eq_true rfl) ?_)
          | (refine And.intro (by omega) ?_)
          | (refine ⟨_, _, rfl, rfl, _, rfl, rfl, ?_⟩)
          | (refine And.intro (by kernel_rfl) ?_)
          | (refine ⟨rfl, rfl, rfl, rfl, rfl, ?_⟩)
          | fail)
      refine ⟨fun h2 => ?_, fun h2 => ?_⟩
      · have h2 : kErr s 0 ≠ 0 := by simpa using h2
        repeat' (first
            | (with_reducible refine wpC_skip ?_)
            | (with_reducible refine wpC_seq ?_)
            | (with_reducible refine wpC_block ?_)
            | (with_reducible refine wpC_drawL ?_)
            | (with_reducible refine wpC_opsL ?_)
            | (with_reducible refine wpC_draw ?_)
            | (with_reducible refine wpC_ops ?_)
            | (with_reducible refine wpOps_nil ?_)
            | (first
                | (with_reducible refine wpOps_cons ?_)
                | (with_reducible refine wpDraw_cons ?_)
               first
                | (with_reducible refine wpGuard_none ?_)
                | (refine wpGuard_yes rfl rfl rfl ?_)
                | (refine wpGuard_no rfl rfl rfl ?_)
                | (refine wpGuard_yes rfl rfl (by assumption) ?_)
                | (refine wpGuard_no rfl rfl (by assumption) ?_)
                | (refine wpGuard_skip rfl rfl ?_)
                | skip)
            | (with_reducible refine putS_some ?_)
            | (with_reducible refine putS_none ?_)
            | (with_reducible refine seqQ_normal ?_)
            | (refine ⟨_, rfl, ?_⟩)
            | (refine guardYes (by assumption) ?_)
            | (refine guardYes rfl ?_)
            | (refine guardNo rfl ?_)
            | (refine guardNo (by assumption) ?_)
            | (refine ⟨_, _, rfl, by decide, ?_⟩)
            | (refine ⟨rfl, rfl, rfl, ?_⟩)
            | (refine ⟨rfl, rfl, ?_⟩)
            | (refine ⟨_, _, rfl, _, rfl, ?_⟩)
            | (refine And.intro (Nat.le_of_ble_eq_true rfl) ?_)
            | (refine And.intro (by omega) ?_)
            | (refine ⟨_, _, rfl, rfl, _, rfl, rfl, ?_⟩)
            | (refine And.intro (by kernel_rfl) ?_)
            | (refine ⟨rfl, rfl, rfl, rfl, rfl, ?_⟩)
            | fail)
        refine ⟨[_, _, _], ⟨Fz.deep rfl, Fz.deep rfl, Fz.deep rfl, trivial⟩, ?_⟩
        rw [chk_3 hb hmen hlt hprev h2]; rfl
      · have h2 : kErr s 0 = 0 := by simpa using h2
        repeat' (first
            | (with_reducible refine wpC_skip ?_)
            | (with_reducible refine wpC_seq ?_)
            | (with_reducible refine wpC_block ?_)
            | (with_reducible refine wpC_drawL ?_)
            | (with_reducible refine wpC_opsL ?_)
            | (with_reducible refine wpC_draw ?_)
            | (with_reducible refine wpC_ops ?_)
            | (with_reducible refine wpOps_nil ?_)
            | (first
                | (with_reducible refine wpOps_cons ?_)
                | (with_reducible refine wpDraw_cons ?_)
               first
                | (with_reducible refine wpGuard_none ?_)
                | (refine wpGuard_yes rfl rfl rfl ?_)
                | (refine wpGuard_no rfl rfl rfl ?_)
                | (refine wpGuard_yes rfl rfl (by assumption) ?_)
                | (refine wpGuard_no rfl rfl (by assumption) ?_)
                | (refine wpGuard_skip rfl rfl ?_)
                | skip)
            | (with_reducible refine putS_some ?_)
            | (with_reducible refine putS_none ?_)
            | (with_reducible refine seqQ_normal ?_)
            | (refine ⟨_, rfl, ?_⟩)
            | (refine guardYes (by assumption) ?_)
            | (refine guardYes rfl ?_)
            | (refine guardNo rfl ?_)
            | (refine guardNo (by assumption) ?_)
            | (refine ⟨_, _, rfl, by decide, ?_⟩)
            | (refine ⟨rfl, rfl, rfl, ?_⟩)
            | (refine ⟨rfl, rfl, ?_⟩)
            | (refine ⟨_, _, rfl, _, rfl, ?_⟩)
            | (refine And.intro (Nat.le_of_ble_eq_true rfl) ?_)
            | (refine And.intro (by omega) ?_)
            | (refine ⟨_, _, rfl, rfl, _, rfl, rfl, ?_⟩)
            | (refine And.intro (by kernel_rfl) ?_)
            | (refine ⟨rfl, rfl, rfl, rfl, rfl, ?_⟩)
            | fail)
        refine ⟨1, ⟨hlt, fun i hi => ?_⟩, (by dsimp only; omega), Weaker.to 1 ?_ ⟨rfl, rfl, rfl, trivial⟩ (Nat.zero_le _) rfl (namesB_inb s 1)⟩
        · rw [show i = 0 from by omega]; exact h2
        · show [AB.cells [ST s.kinds[0].name] 1 0] = [AB.cells ((s.kinds.take 1).map fun x => ST x.name) 1 0]
          rw [names_take s hlt]
          rfl
    · exact absurd h (by simp only [ek, decide_eq_false_iff_not]; omega)
  | succ k =>
    have hlen : ((s.kinds.take (k + 1)).map fun x => ST x.name).length = k + 1 := by simp; omega
    refine wpC_sound (mu := fun t => Nat.beq t 66) ?_
    repeat' (first
        | (with_reducible refine wpC_skip ?_)
        | (with_reducible refine wpC_seq ?_)
        | (with_reducible refine wpC_block ?_)
        | (with_reducible refine wpC_drawL ?_)
        | (with_reducible refine wpC_opsL ?_)
        | (with_reducible refine wpC_draw ?_)
        | (with_reducible refine wpC_ops ?_)
        | (with_reducible refine wpOps_nil ?_)
        | (first
            | (with_reducible refine wpOps_cons ?_)
            | (with_reducible refine wpDraw_cons ?_)
           first
            | (with_reducible refine wpGuard_none ?_)
            | (refine wpGuard_yes rfl rfl rfl ?_)
            | (refine wpGuard_no rfl rfl rfl ?_)
            | (refine wpGuard_yes rfl rfl (by assumption) ?_)
            | (refine wpGuard_no rfl rfl (by assumption) ?_)
            | (refine wpGuard_skip rfl rfl ?_)
            | skip)
        | (with_reducible refine putS_some ?_)
        | (with_reducible refine putS_none ?_)
        | (with_reducible refine seqQ_normal ?_)
        | (refine ⟨_, rfl, ?_⟩)
        | (refine guardYes (by assumption) ?_)
        | (refine guardYes rfl ?_)
        | (refine guardNo rfl ?_)
        | (refine guardNo (by assumption) ?_)
        | (refine ⟨_, _, rfl, by decide, ?_⟩)
        | (refine ⟨rfl, rfl, rfl, ?_⟩)
        | (refine ⟨rfl, rfl, ?_⟩)
        | (refine ⟨_, _, rfl, _, rfl, ?_⟩)
        | (refine And.intro (Nat.le_of_ble_eq_true rfl) ?_)
        | (refine And.intro (by omega) ?_)
        | (refine ⟨_, _, rfl, rfl, _, rfl, rfl, ?_⟩)
        | (refine And.intro (by kernel_rfl) ?_)
        | (refine ⟨rfl, rfl, rfl, rfl, rfl, ?_⟩)
        | fail)
    refine ⟨fun h => ?_, fun h => ?_⟩
    · have hlt : k + 1 < s.kinds.length := by simpa only [ek, decide_eq_true_eq, Int.ofNat_lt] using h
      have hce := kErr_at hlt
      have hz : FzL (namesB s (k + 1)) [.ag (eKind s.kinds[k + 1]), namesV (k + 1)] [.ag (eKind s.kinds[k + 1]), .sl (((s.kinds.take (k + 1)).map (·.name)).map eS) false] :=
        FzL.two (Fz.deep rfl) (names_row _ (by simp; omega))
      repeat' (first
          | (with_reducible refine wpC_skip ?_)
          | (with_reducible refine wpC_seq ?_)
          | (with_reducible refine wpC_block ?_)
          | (with_reducible refine wpC_drawL ?_)
          | (with_reducible refine wpC_opsL ?_)
          | (with_reducible refine wpC_draw ?_)
          | (with_reducible refine wpC_ops ?_)
          | (with_reducible refine wpOps_nil ?_)
          | (first
              | (with_reducible refine wpOps_cons ?_)
              | (with_reducible refine wpDraw_cons ?_)
             first
              | (with_reducible refine wpGuard_none ?_)
              | (refine wpGuard_yes rfl rfl rfl ?_)
              | (refine wpGuard_no rfl rfl rfl ?_)
              | (refine wpGuard_yes rfl rfl (by assumption) ?_)
              | (refine wpGuard_no rfl rfl (by assumption) ?_)
              | (refine wpGuard_skip rfl rfl ?_)
              | skip)
          | (with_reducible refine putS_some ?_)
          | (with_reducible refine putS_none ?_)
          | (with_reducible refine seqQ_normal ?_)
          | (refine ⟨_, rfl, ?_⟩)
          | (refine guardYes (by assumption) ?_)
          | (refine guardYes rfl ?_)
          | (refine guardNo rfl ?_)
          | (refine guardNo (by assumption) ?_)
          | (refine ⟨_, _, rfl, by decide, ?_⟩)
          | (refine ⟨rfl, rfl, rfl, ?_⟩)
          | (refine ⟨rfl, rfl, ?_⟩)
          | (refine ⟨_, _, rfl, _, rfl, ?_⟩)
          | (refine And.intro (Nat.le_of_ble_eq_true rfl) ?_)
          | (refine And.intro (by omega) ?_)
          | (refine ⟨_, _, rfl, rfl, _, rfl, rfl, ?_⟩)
          | (refine And.intro (by kernel_rfl) ?_)
          | (refine ⟨rfl, rfl, rfl, rfl, rfl, ?_⟩)
          | (refine ⟨eKind s.kinds[k + 1], ⟨by omega, map_at hlt⟩, rfl, ?_⟩)
          | (refine PureV.lend (rkind_c one s.kinds[k + 1] ((s.kinds.take (k + 1)).map (·.name)) false (hnm _ (List.getElem_mem _)) (by simp; unfold maxLen; omega)) rfl hz (Free.fl _) ?_)
          | fail)
      refine ⟨[eS s.kinds[k + 1].name], ⟨fun el hel => by rw [List.mem_singleton.1 hel]; rfl, rfl⟩, rfl, _, rfl, by rw [Nat.mul_one]; exact hlen, Or.inr rfl, And.intro (by dsimp only [List.length]; omega) (by dsimp only [List.length]; omega), fun hn => absurd hn (by simp), fun _ => ?_⟩
      rw [← hce]
      repeat' (first
          | (with_reducible refine wpC_skip ?_)
          | (with_reducible refine wpC_seq ?_)
          | (with_reducible refine wpC_block ?_)
          | (with_reducible refine wpC_drawL ?_)
          | (with_reducible refine wpC_opsL ?_)
          | (with_reducible refine wpC_draw ?_)
          | (with_reducible refine wpC_ops ?_)
          | (with_reducible refine wpOps_nil ?_)
          | (first
              | (with_reducible refine wpOps_cons ?_)
              | (with_reducible refine wpDraw_cons ?_)
             first
              | (with_reducible refine wpGuard_none ?_)
              | (refine wpGuard_yes rfl rfl rfl ?_)
              | (refine wpGuard_no rfl rfl rfl ?_)
              | (refine wpGuard_yes rfl rfl (by assumption) ?_)
              | (refine wpGuard_no rfl rfl (by assumption) ?_)
              | (refine wpGuard_skip rfl rfl ?_)
              | skip)
          | (with_reducible refine putS_some ?_)
          | (with_reducible refine putS_none ?_)
          | (with_reducible refine seqQ_normal ?_)
          | (refine ⟨_, rfl, ?_⟩)
          | (refine guardYes (by assumption) ?_)
          | (refine guardYes rfl ?_)
          | (refine guardNo rfl ?_)
          | (refine guardNo (by assumption) ?_)
          | (refine ⟨_, _, rfl, by decide, ?_⟩)
          | (refine ⟨rfl, rfl, rfl, ?_⟩)
          | (refine ⟨rfl, rfl, ?_⟩)
          | (refine ⟨_, _, rfl, _, rfl, ?_⟩)
          | (refine And.intro (Nat.le_of_ble_eq_true rfl) ?_)
          | (refine And.intro (by omega) ?_)
          | (refine ⟨_, _, rfl, rfl, _, rfl, rfl, ?_⟩)
          | (refine And.intro (by kernel_rfl) ?_)
          | (refine ⟨rfl, rfl, rfl, rfl, rfl, ?_⟩)
          | fail)
      refine ⟨fun h2 => ?_, fun h2 => ?_⟩
      · have h2 : kErr s (k + 1) ≠ 0 := by simpa using h2
        repeat' (first
            | (with_reducible refine wpC_skip ?_)
            | (with_reducible refine wpC_seq ?_)
            | (with_reducible refine wpC_block ?_)
            | (with_reducible refine wpC_drawL ?_)
            | (with_reducible refine wpC_opsL ?_)
            | (with_reducible refine wpC_draw ?_)
            | (with_reducible refine wpC_ops ?_)
            | (with_reducible refine wpOps_nil ?_)
            | (first
                | (with_reducible refine wpOps_cons ?_)
                | (with_reducible refine wpDraw_cons ?_)
               first
                | (with_reducible refine wpGuard_none ?_)
                | (refine wpGuard_yes rfl rfl rfl ?_)
                | (refine wpGuard_no rfl rfl rfl ?_)
                | (refine wpGuard_yes rfl rfl (by assumption) ?_)
                | (refine wpGuard_no rfl rfl (by assumption) ?_)
                | (refine wpGuard_skip rfl rfl ?_)
                | skip)
            | (with_reducible refine putS_some ?_)
            | (with_reducible refine putS_none ?_)
            | (with_reducible refine seqQ_normal ?_)
            | (refine ⟨_, rfl, ?_⟩)
            | (refine guardYes (by assumption) ?_)
            | (refine guardYes rfl ?_)
            | (refine guardNo rfl ?_)
            | (refine guardNo (by assumption) ?_)
            | (refine ⟨_, _, rfl, by decide, ?_⟩)
            | (refine ⟨rfl, rfl, rfl, ?_⟩)
            | (refine ⟨rfl, rfl, ?_⟩)
            | (refine ⟨_, _, rfl, _, rfl, ?_⟩)
            | (refine And.intro (Nat.le_of_ble_eq_true rfl) ?_)
            | (refine And.intro (by omega) ?_)
            | (refine ⟨_, _, rfl, rfl, _, rfl, rfl, ?_⟩)
            | (refine And.intro (by kernel_rfl) ?_)
            | (refine ⟨rfl, rfl, rfl, rfl, rfl, ?_⟩)
            | fail)
        refine ⟨[_, _, _], ⟨Fz.deep rfl, Fz.deep rfl, Fz.deep rfl, trivial⟩, ?_⟩
        rw [chk_3 hb hmen hlt hprev h2]; rfl
      · have h2 : kErr s (k + 1) = 0 := by simpa using h2
        repeat' (first
            | (with_reducible refine wpC_skip ?_)
            | (with_reducible refine wpC_seq ?_)
            | (with_reducible refine wpC_block ?_)
            | (with_reducible refine wpC_drawL ?_)
            | (with_reducible refine wpC_opsL ?_)
            | (with_reducible refine wpC_draw ?_)
            | (with_reducible refine wpC_ops ?_)
            | (with_reducible refine wpOps_nil ?_)
            | (first
                | (with_reducible refine wpOps_cons ?_)
                | (with_reducible refine wpDraw_cons ?_)
               first
                | (with_reducible refine wpGuard_none ?_)
                | (refine wpGuard_yes rfl rfl rfl ?_)
                | (refine wpGuard_no rfl rfl rfl ?_)
                | (refine wpGuard_yes rfl rfl (by assumption) ?_)
                | (refine wpGuard_no rfl rfl (by assumption) ?_)
                | (refine wpGuard_skip rfl rfl ?_)
                | skip)
            | (with_reducible refine putS_some ?_)
            | (with_reducible refine putS_none ?_)
            | (with_reducible refine seqQ_normal ?_)
            | (refine ⟨_, rfl, ?_⟩)
            | (refine guardYes (by assumption) ?_)
            | (refine guardYes rfl ?_)
            | (refine guardNo rfl ?_)
            | (refine guardNo (by assumption) ?_)
            | (refine ⟨_, _, rfl, by decide, ?_⟩)
            | (refine ⟨rfl, rfl, rfl, ?_⟩)
            | (refine ⟨rfl, rfl, ?_⟩)
            | (refine ⟨_, _, rfl, _, rfl, ?_⟩)
            | (refine And.intro (Nat.le_of_ble_eq_true rfl) ?_)
            | (refine And.intro (by omega) ?_)
            | (refine ⟨_, _, rfl, rfl, _, rfl, rfl, ?_⟩)
            | (refine And.intro (by kernel_rfl) ?_)
            | (refine ⟨rfl, rfl, rfl, rfl, rfl, ?_⟩)
            | fail)
        refine ⟨k + 2, ⟨hlt, fun i hi => ?_⟩, (by dsimp only; omega), Weaker.to 1 ?_ ⟨rfl, rfl, i64c (by simp; omega), trivial⟩ (Nat.zero_le _) rfl (namesB_inb s (k + 2))⟩
        · by_cases hik : i = k + 1
          · rw [hik]; exact h2
          · exact hprev i (by omega)
        · show [AB.cells (((s.kinds.take (k + 1)).map fun x => ST x.name) ++ [ST s.kinds[k + 1].name]) 1 (k + 1)] = [AB.cells ((s.kinds.take (k + 2)).map fun x => ST x.name) 1 (k + 1)]
          rw [names_take s hlt]
    · have hkin : ∀ i, i < s.kinds.length → kErr s i = 0 := fun i hi => hprev i (by simp only [ek, decide_eq_false_iff_not] at h; omega)
      clear hprev h
      repeat' (first
          | (with_reducible refine wpC_skip ?_)
          | (with_reducible refine wpC_seq ?_)
          | (with_reducible refine wpC_block ?_)
          | (with_reducible refine wpC_drawL ?_)
          | (with_reducible refine wpC_opsL ?_)
          | (with_reducible refine wpC_draw ?_)
          | (with_reducible refine wpC_ops ?_)
          | (with_reducible refine wpOps_nil ?_)
          | (first
              | (with_reducible refine wpOps_cons ?_)
              | (with_reducible refine wpDraw_cons ?_)
             first
              | (with_reducible refine wpGuard_none ?_)
              | (refine wpGuard_yes rfl rfl rfl ?_)
              | (refine wpGuard_no rfl rfl rfl ?_)
              | (refine wpGuard_yes rfl rfl (by assumption) ?_)
              | (refine wpGuard_no rfl rfl (by assumption) ?_)
              | (refine wpGuard_skip rfl rfl ?_)
              | skip)
          | (with_reducible refine putS_some ?_)
          | (with_reducible refine putS_none ?_)
          | (with_reducible refine seqQ_normal ?_)
          | (refine ⟨_, rfl, ?_⟩)
          | (refine guardYes (by assumption) ?_)
          | (refine guardYes rfl ?_)
          | (refine guardNo rfl ?_)
          | (refine guardNo (by assumption) ?_)
          | (refine ⟨_, _, rfl, by decide, ?_⟩)
          | (refine ⟨rfl, rfl, rfl, ?_⟩)
          | (refine ⟨rfl, rfl, ?_⟩)
          | (refine ⟨_, _, rfl, _, rfl, ?_⟩)
          | (refine And.intro (Nat.le_of_ble_eq_true rfl) ?_)
          | (refine And.intro (by omega) ?_)
          | (refine ⟨_, _, rfl, rfl, _, rfl, rfl, ?_⟩)
          | (refine And.intro (by kernel_rfl) ?_)
          | (refine ⟨rfl, rfl, rfl, rfl, rfl, ?_⟩)
          | fail)
      refine SemC.weaker (Weaker.to (l := [(1, .pt (eStores s) 0), (9, I64 ((0 : Nat) : Int))]) 0 rfl ⟨rfl, rfl, trivial⟩ (Nat.le_refl _) rfl rfl) ?_
      refine SemC.loop (fun k : Nat => k ≤ s.cargos.length ∧ ∀ i, i < k → cErr s i = 0) (fun k => ⟨mkFr [(1, .pt (eStores s) 0), (9, I64 (k : Int))], [], Amb.none, false, 0⟩) (fun k => s.cargos.length - k) ?_ 0 ⟨Nat.zero_le _, fun i hi => absurd hi (by omega)⟩
      intro k ⟨hk', hprev⟩
      refine wpC_sound (mu := fun t => Nat.beq t 66) ?_
      repeat' (first
          | (with_reducible refine wpC_skip ?_)
          | (with_reducible refine wpC_seq ?_)
          | (with_reducible refine wpC_block ?_)
          | (with_reducible refine wpC_drawL ?_)
          | (with_reducible refine wpC_opsL ?_)
          | (with_reducible refine wpC_draw ?_)
          | (with_reducible refine wpC_ops ?_)
          | (with_reducible refine wpOps_nil ?_)
          | (first
              | (with_reducible refine wpOps_cons ?_)
              | (with_reducible refine wpDraw_cons ?_)
             first
              | (with_reducible refine wpGuard_none ?_)
              | (refine wpGuard_yes rfl rfl rfl ?_)
              | (refine wpGuard_no rfl rfl rfl ?_)
              | (refine wpGuard_yes rfl rfl (by assumption) ?_)
              | (refine wpGuard_no rfl rfl (by assumption) ?_)
              | (refine wpGuard_skip rfl rfl ?_)
              | skip)
          | (with_reducible refine putS_some ?_)
          | (with_reducible refine putS_none ?_)
          | (with_reducible refine seqQ_normal ?_)
          | (refine ⟨_, rfl, ?_⟩)
          | (refine guardYes (by assumption) ?_)
          | (refine guardYes rfl ?_)
          | (refine guardNo rfl ?_)
          | (refine guardNo (by assumption) ?_)
          | (refine ⟨_, _, rfl, by decide, ?_⟩)
          | (refine ⟨rfl, rfl, rfl, ?_⟩)
          | (refine ⟨rfl, rfl, ?_⟩)
          | (refine ⟨_, _, rfl, _, rfl, ?_⟩)
          | (refine And.intro (Nat.le_of_ble_eq_true rfl) ?_)
          | (refine And.intro (by omega) ?_)
          | (refine ⟨_, _, rfl, rfl, _, rfl, rfl, ?_⟩)
          | (refine And.intro (by kernel_rfl) ?_)
          | (refine ⟨rfl, rfl, rfl, rfl, rfl, ?_⟩)
          | fail)
      refine ⟨fun h => ?_, fun h => ?_⟩
      · have hlt : k < s.cargos.length := by simpa only [ec, decide_eq_true_eq, Int.ofNat_lt] using h
        have hce := cErr_at hlt
        unfold cargoErr at hce
        simp only [outB_one] at hce
        repeat' (first
            | (with_reducible refine wpC_skip ?_)
            | (with_reducible refine wpC_seq ?_)
            | (with_reducible refine wpC_block ?_)
            | (with_reducible refine wpC_drawL ?_)
            | (with_reducible refine wpC_opsL ?_)
            | (with_reducible refine wpC_draw ?_)
            | (with_reducible refine wpC_ops ?_)
            | (with_reducible refine wpOps_nil ?_)
            | (first
                | (with_reducible refine wpOps_cons ?_)
                | (with_reducible refine wpDraw_cons ?_)
               first
                | (with_reducible refine wpGuard_none ?_)
                | (refine wpGuard_yes rfl rfl rfl ?_)
                | (refine wpGuard_no rfl rfl rfl ?_)
                | (refine wpGuard_yes rfl rfl (by assumption) ?_)
                | (refine wpGuard_no rfl rfl (by assumption) ?_)
                | (refine wpGuard_skip rfl rfl ?_)
                | skip)
            | (with_reducible refine putS_some ?_)
            | (with_reducible refine putS_none ?_)
            | (with_reducible refine seqQ_normal ?_)
            | (refine ⟨_, rfl, ?_⟩)
            | (refine guardYes (by assumption) ?_)
            | (refine guardYes rfl ?_)
            | (refine guardNo rfl ?_)
            | (refine guardNo (by assumption) ?_)
            | (refine ⟨_, _, rfl, by decide, ?_⟩)
            | (refine ⟨rfl, rfl, rfl, ?_⟩)
            | (refine ⟨rfl, rfl, ?_⟩)
            | (refine ⟨_, _, rfl, _, rfl, ?_⟩)
            | (refine And.intro (Nat.le_of_ble_eq_true rfl) ?_)
            | (refine And.intro (by omega) ?_)
            | (refine ⟨_, _, rfl, rfl, _, rfl, rfl, ?_⟩)
            | (refine And.intro (by kernel_rfl) ?_)
            | (refine ⟨rfl, rfl, rfl, rfl, rfl, ?_⟩)
            | (refine ⟨eCargo s.cargos[k], ⟨by omega, map_at hlt⟩, rfl, ?_⟩)
            | (refine PureV.call (in58_c one _ _ _) rfl rfl ?_)
            | (refine ⟨_, _, rfl, rfl, rfl, rfl, Nat.le_of_ble_eq_true rfl, ?_⟩)
            | (refine ⟨_, _, rfl, Nat.le_of_ble_eq_true rfl, ?_⟩)
            | (refine ⟨fun h => ?_, fun h => ?_⟩)
            | fail)
        all_goals first
          | (refine ⟨[_, _, _], ⟨Fz.deep rfl, Fz.deep rfl, Fz.deep rfl, trivial⟩, ?_⟩
             first
               | (have hp : cErr s k = 4 := by rw [hce]; simp_all
                  rw [chk_4 hb hmen hkin hlt hprev (by rw [hp]; decide), hp]; rfl)
               | (have hp : cErr s k = 7 := by rw [hce]; simp_all
                  rw [chk_4 hb hmen hkin hlt hprev (by rw [hp]; decide), hp]; rfl))
          | (have hp : cErr s k = 0 := by rw [hce]; simp_all
             refine ⟨k + 1, ⟨hlt, fun i hi => ?_⟩, (by dsimp only; omega), Weaker.to 0 rfl ⟨rfl, i64c (by simp), trivial⟩ (Nat.le_refl _) rfl rfl⟩
             by_cases hik : i = k
             · rw [hik]; exact hp
             · exact hprev i (by omega))
      · repeat' (first
            | (with_reducible refine wpC_skip ?_)
            | (with_reducible refine wpC_seq ?_)
            | (with_reducible refine wpC_block ?_)
            | (with_reducible refine wpC_drawL ?_)
            | (with_reducible refine wpC_opsL ?_)
            | (with_reducible refine wpC_draw ?_)
            | (with_reducible refine wpC_ops ?_)
            | (with_reducible refine wpOps_nil ?_)
            | (first
                | (with_reducible refine wpOps_cons ?_)
                | (with_reducible refine wpDraw_cons ?_)
               first
                | (with_reducible refine wpGuard_none ?_)
                | (refine wpGuard_yes rfl rfl rfl ?_)
                | (refine wpGuard_no rfl rfl rfl ?_)
                | (refine wpGuard_yes rfl rfl (by assumption) ?_)
                | (refine wpGuard_no rfl rfl (by assumption) ?_)
                | (refine wpGuard_skip rfl rfl ?_)
                | skip)
            | (with_reducible refine putS_some ?_)
            | (with_reducible refine putS_none ?_)
            | (with_reducible refine seqQ_normal ?_)
            | (refine ⟨_, rfl, ?_⟩)
            | (refine guardYes (by assumption) ?_)
            | (refine guardYes rfl ?_)
            | (refine guardNo rfl ?_)
            | (refine guardNo (by assumption) ?_)
            | (refine ⟨_, _, rfl, by decide, ?_⟩)
            | (refine ⟨rfl, rfl, rfl, ?_⟩)
            | (refine ⟨rfl, rfl, ?_⟩)
            | (refine ⟨_, _, rfl, _, rfl, ?_⟩)
            | (refine And.intro (Nat.le_of_ble_eq_true rfl) ?_)
            | (refine And.intro (by omega) ?_)
            | (refine ⟨_, _, rfl, rfl, _, rfl, rfl, ?_⟩)
            | (refine And.intro (by kernel_rfl) ?_)
            | (refine ⟨rfl, rfl, rfl, rfl, rfl, ?_⟩)
            | fail)
        refine ⟨[_, _, _], ⟨Fz.deep rfl, Fz.deep rfl, Fz.deep rfl, trivial⟩, ?_⟩
        rw [chk_5 hb hmen hkin fun i hi => hprev i (by simp only [ec, decide_eq_false_iff_not] at h; omega)]; rfl
end Go.Proofs.Ytmkaeohmdcoanaa
