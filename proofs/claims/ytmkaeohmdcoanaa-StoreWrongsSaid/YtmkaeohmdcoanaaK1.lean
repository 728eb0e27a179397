/-
  Contracts of the program's functions and of the document's. Lemmas alone; their conditions stand in them.
-/
import Derived.Test.YtmkaeohmdcoanaaA2
import Derived.Test.YtmkaeohmdcoanaaT1
import Derived.IntWalk
import Derived.Laws.StructEq
open Go Go.RM
namespace Go.Proofs.Ytmkaeohmdcoanaa
set_option maxRecDepth 100000
abbrev I64 (n : Int) : AV := .fl (.int .i64 n)
abbrev BB (b : Bool) : AV := .fl (.bool b)
abbrev ST (s : ByteArray) : AV := .fl (.string s)
abbrev eI (n : Int) : List AV := [I64 n]
abbrev ints (l : List Int) : List (List AV) := l.map eI
/-- What is known beforehand: the law's own examples. -/
def x_aw : XE := ⟨22, [], [], .bool true, []⟩
def TB : List XE := [x_aw]
abbrev Pu (one : Bool) (f : FuncId) (args : List AV) (v : AV) : Prop := PureV TT TB one (.fn f [] []) args v
def idxF {α : Type} (p : α → Bool) (l : List α) : Int := match l.findIdx? p with
  | some i => (i : Int)
  | none => -1
theorem idxF_here {α : Type} {p : α → Bool} {l : List α} {k : Nat} (hk : k < l.length) (hprev : ∀ i (h : i < l.length), i < k → p l[i] = false) (hp : p l[k] = true) : idxF p l = k := by
  unfold idxF
  have : l.findIdx? p = some k := by
    rw [List.findIdx?_eq_some_iff_getElem]
    exact ⟨hk, hp, fun j hj => by simp [hprev j (by omega) hj]⟩
  rw [this]
theorem idxF_none {α : Type} {p : α → Bool} {l : List α} (hprev : ∀ i (h : i < l.length), p l[i] = false) : idxF p l = -1 := by
  unfold idxF
  have : l.findIdx? p = none := by
    rw [List.findIdx?_eq_none_iff]
    intro x hx
    obtain ⟨i, hi, rfl⟩ := List.getElem_of_mem hx
    exact hprev i hi
  rw [this]
theorem idxF_ge {α : Type} (p : α → Bool) (l : List α) : decide (0 ≤ idxF p l) = l.any p := by
  unfold idxF
  cases h : l.findIdx? p with
  | some i =>
    rw [List.findIdx?_eq_some_iff_getElem] at h
    obtain ⟨h1, h2, _⟩ := h
    simp only [Int.natCast_nonneg, decide_true]
    symm
    rw [List.any_eq_true]
    exact ⟨_, List.getElem_mem h1, h2⟩
  | none =>
    rw [List.findIdx?_eq_none_iff] at h
    simp
    intro x hx; exact h x hx
theorem deep_inb (n : Nat) : ∀ (v : AV), v.deep = true → v.inb n = true := by
  apply AV.rec (motive_1 := fun v => v.deep = true → v.inb n = true) (motive_2 := fun _ => True) (motive_3 := fun l => deepL l = true → inbL n l = true)
  · intro v _; rfl
  · intro a b _ _; rfl
  · intro a b _ _; rfl
  · intro f a b ha hb h
    simp only [AV.deep, Bool.and_eq_true] at h
    simp only [AV.inb, Bool.and_eq_true]
    exact ⟨ha h.1, hb h.2⟩
  · intro a ha h
    simp only [AV.deep] at h
    simp only [AV.inb]
    exact ha h
  · intro a ha h
    simp only [AV.deep] at h
    simp only [AV.inb]
    exact ha h
  · intro j v o h; simp [AV.deep] at h
  · intro j v o n c h; simp [AV.deep] at h
  · intro j h; simp [AV.deep] at h
  · intro u _; rfl
  · intro h; simp [AV.deep] at h
  · trivial
  · intros; trivial
  · intro _; rfl
  · intro a l ha hl h
    simp only [deepL, Bool.and_eq_true] at h
    simp only [inbL, Bool.and_eq_true]
    exact ⟨ha h.1, hl h.2⟩
theorem inb_fl {n : Nat} {v : Value} : (AV.fl v).inb n = true := rfl
theorem inb_sl {n : Nat} {a : List (List AV)} {b : Bool} : (AV.sl a b).inb n = true := rfl
theorem i64c {a b : Int} (h : a = b) : AV.fl (.int .i64 a) = AV.fl (.int .i64 b) := by rw [h]
theorem bbc {a b : Bool} (h : a = b) : AV.fl (.bool a) = AV.fl (.bool b) := by rw [h]
theorem outside1_c (one : Bool) (n lo hi : Int) : PureV TT TB one (.fn 89 [] [.pt [I64 lo] 0, .pt [I64 hi] 0]) [I64 n] (BB (decide (n < lo) || decide (hi < n))) := by
  refine PureV.body (fn := Try.f89) rfl rfl rfl rfl ?_
  refine wpC_sound (mu := fun _ => false) ?_
  repeat' (first |(refine ⟨_, rfl, ?_⟩) |(refine guardYes (by assumption) ?_) |(refine guardNo (by assumption) ?_) |(refine ⟨fun h => ?_, fun h => ?_⟩) |fail)
  all_goals refine ⟨[_], ⟨Fz.deep rfl, trivial⟩, ?_⟩
  all_goals simp_all [oneT]
theorem indexFunc51_c (one : Bool) (g : FuncId) (fs cs : List AV) (hF : (AV.fn g fs cs).deep = true) (p : Int → Bool) (l : List Int) (full : Bool) (hl : l.length ≤ maxLen) (hp : ∀ n ∈ l, PureV TT TB one (.fn g fs cs) [I64 n] (BB (p n))) :
    Pu one 51 [.sl (ints l) full, .fn g fs cs] (I64 (idxF p l)) := by
  unfold maxLen at hl
  refine PureV.body (fn := Try.f51) rfl rfl rfl rfl ?_
  refine wpC_sound (mu := fun _ => false) ?_
  skip
  refine SemC.weaker (Weaker.to (l := [(0, .sl (ints l) full), (1, .fn g fs cs), (7, I64 l.length), (8, I64 ((0 : Nat) : Int))]) 0 rfl ⟨rfl, rfl, i64c (by simp), rfl, trivial⟩ (Nat.le_refl _) (by simp [inb_fl, inb_sl, deep_inb 0 _ hF]) rfl) ?_
  refine SemC.loop (fun k : Nat => k ≤ l.length ∧ ∀ i (h : i < l.length), i < k → p l[i] = false) (fun k => ⟨mkFr [(0, .sl (ints l) full), (1, .fn g fs cs), (7, I64 l.length), (8, I64 (k : Int))], [], Amb.none, false, 0⟩) (fun k => l.length - k) ?_ 0 ⟨Nat.zero_le _, fun i _ hi => absurd hi (by omega)⟩
  intro k ⟨hk, hprev⟩
  refine wpC_sound (mu := fun _ => false) ?_
  refine ⟨fun h => ?_, fun h => ?_⟩
  · have hlt : k < l.length := by simpa using h
    refine ⟨[I64 l[k]], ⟨by omega, by simp [hlt]⟩, rfl, ?_⟩
    repeat' (first |(refine ⟨_, rfl, ?_⟩) |fail)
    refine PureV.call (hp l[k] (List.getElem_mem _)) hF rfl ?_
    refine ⟨fun h2 => ?_, fun h2 => ?_⟩
    · refine ⟨[_], ⟨Fz.deep rfl, trivial⟩, ?_⟩
      rw [idxF_here hlt hprev h2]; rfl
    · repeat' (first |(refine And.intro (by omega) ?_) |fail)
      refine ⟨k + 1, ⟨hlt, fun i hi hik => ?_⟩, (by dsimp only; omega), Weaker.to 0 rfl ⟨rfl, rfl, rfl, i64c (by simp), trivial⟩ (Nat.le_refl _) (by simp [inb_fl, inb_sl, deep_inb 0 _ hF]) rfl⟩
      by_cases hik' : i = k
      · subst hik'; exact h2
      · exact hprev i hi (by omega)
  · skip
    refine ⟨[_], ⟨Fz.deep rfl, trivial⟩, ?_⟩
    have : k = l.length := by simp at h; omega
    rw [idxF_none fun i hi => hprev i hi (by omega)]; rfl
end Go.Proofs.Ytmkaeohmdcoanaa
open Go Go.RM
namespace Go.Proofs.Ytmkaeohmdcoanaa
set_option maxRecDepth 100000
structure Span where
  lo : Int
  hi : Int
structure Kind where
  name : ByteArray
  first : Span
  man : Span
  ship : Span
  room : Int
  ration : Int
structure Cargo where
  day : Int
  kind : Int
  amount : Int
structure Count where
  day : Int
  kind : Int
  amount : Span
structure Truth where
  first : Int
  man : Int
  ship : Int
structure Stores where
  men : List Int
  kinds : List Kind
  cargos : List Cargo
abbrev eSpan (s : Span) : List AV := [I64 s.lo, I64 s.hi]
abbrev eKind (k : Kind) : List AV := [ST k.name, I64 k.first.lo, I64 k.first.hi, I64 k.man.lo, I64 k.man.hi, I64 k.ship.lo, I64 k.ship.hi, I64 k.room, I64 k.ration]
abbrev eCargo (c : Cargo) : List AV := [I64 c.day, I64 c.kind, I64 c.amount]
abbrev eCount (c : Count) : List AV := [I64 c.day, I64 c.kind, I64 c.amount.lo, I64 c.amount.hi]
abbrev eTruth (t : Truth) : List AV := [I64 t.first, I64 t.man, I64 t.ship]
abbrev eStores (s : Stores) : List AV := [.sl (s.men.map eI) false, .sl (s.kinds.map eKind) false, .sl (s.cargos.map eCargo) false]
theorem containsFunc88_c (one : Bool) (g : FuncId) (fs cs : List AV) (hF : (AV.fn g fs cs).deep = true) (p : Int → Bool) (l : List Int) (full : Bool) (hl : l.length ≤ maxLen) (hp : ∀ x ∈ l, PureV TT TB one (.fn g fs cs) [I64 x] (BB (p x))) :
    Pu one 88 [.sl (l.map eI) full, .fn g fs cs] (BB (l.any p)) := by
  refine PureV.body (fn := Try.f88) rfl rfl rfl rfl ?_
  refine wpC_sound (mu := fun _ => false) ?_
  skip
  refine PureV.call (indexFunc51_c one g fs cs hF p l full hl hp) rfl (by simp only [deepL, AV.deep, Bool.and_true, Bool.true_and]; exact hF) ?_
  skip
  refine ⟨[_], ⟨Fz.deep rfl, trivial⟩, ?_⟩
  rw [← idxF_ge]; rfl
theorem indexFunc113_c (one : Bool) (g : FuncId) (fs cs : List AV) (hF : (AV.fn g fs cs).deep = true) (p : Kind → Bool) (l : List Kind) (full : Bool) (hl : l.length ≤ maxLen) (hp : ∀ x ∈ l, PureV TT TB one (.fn g fs cs) [.ag (eKind x)] (BB (p x))) :
    Pu one 113 [.sl (l.map eKind) full, .fn g fs cs] (I64 (idxF p l)) := by
  unfold maxLen at hl
  refine PureV.body (fn := Try.f113) rfl rfl rfl rfl ?_
  refine wpC_sound (mu := fun _ => false) ?_
  skip
  refine SemC.weaker (Weaker.to (l := [(0, .sl (l.map eKind) full), (1, .fn g fs cs), (7, I64 l.length), (8, I64 ((0 : Nat) : Int))]) 0 rfl ⟨rfl, rfl, i64c (by simp), rfl, trivial⟩ (Nat.le_refl _) (by simp [inb_fl, inb_sl, deep_inb 0 _ hF]) rfl) ?_
  refine SemC.loop (fun k : Nat => k ≤ l.length ∧ ∀ i (h : i < l.length), i < k → p l[i] = false) (fun k => ⟨mkFr [(0, .sl (l.map eKind) full), (1, .fn g fs cs), (7, I64 l.length), (8, I64 (k : Int))], [], Amb.none, false, 0⟩) (fun k => l.length - k) ?_ 0 ⟨Nat.zero_le _, fun i _ hi => absurd hi (by omega)⟩
  intro k ⟨hk, hprev⟩
  refine wpC_sound (mu := fun _ => false) ?_
  refine ⟨fun h => ?_, fun h => ?_⟩
  · have hlt : k < l.length := by simpa using h
    skip
    refine ⟨eKind l[k], ⟨by omega, by simp [hlt]⟩, rfl, ?_⟩
    repeat' (first |(refine And.intro (Nat.le_of_ble_eq_true rfl) ?_) |fail)
    refine PureV.call (hp l[k] (List.getElem_mem _)) hF rfl ?_
    refine ⟨fun h2 => ?_, fun h2 => ?_⟩
    · skip
      refine ⟨[_], ⟨Fz.deep rfl, trivial⟩, ?_⟩
      rw [idxF_here hlt hprev h2]; rfl
    · repeat' (first |(refine And.intro (by omega) ?_) |fail)
      refine ⟨k + 1, ⟨hlt, fun i hi hik => ?_⟩, (by dsimp only; omega), Weaker.to 0 rfl ⟨rfl, rfl, rfl, i64c (by simp), trivial⟩ (Nat.le_refl _) (by simp [inb_fl, inb_sl, deep_inb 0 _ hF]) rfl⟩
      by_cases hik' : i = k
      · subst hik'; exact h2
      · exact hprev i hi (by omega)
  · skip
    refine ⟨[_], ⟨Fz.deep rfl, trivial⟩, ?_⟩
    have : k = l.length := by simp at h; omega
    rw [idxF_none fun i hi => hprev i hi (by omega)]; rfl
theorem containsFunc91_c (one : Bool) (g : FuncId) (fs cs : List AV) (hF : (AV.fn g fs cs).deep = true) (p : Kind → Bool) (l : List Kind) (full : Bool) (hl : l.length ≤ maxLen) (hp : ∀ x ∈ l, PureV TT TB one (.fn g fs cs) [.ag (eKind x)] (BB (p x))) :
    Pu one 91 [.sl (l.map eKind) full, .fn g fs cs] (BB (l.any p)) := by
  refine PureV.body (fn := Try.f91) rfl rfl rfl rfl ?_
  refine wpC_sound (mu := fun _ => false) ?_
  skip
  refine PureV.call (indexFunc113_c one g fs cs hF p l full hl hp) rfl (by simp only [deepL, AV.deep, Bool.and_true, Bool.true_and]; exact hF) ?_
  skip
  refine ⟨[_], ⟨Fz.deep rfl, trivial⟩, ?_⟩
  rw [← idxF_ge]; rfl
theorem indexFunc116_c (one : Bool) (g : FuncId) (fs cs : List AV) (hF : (AV.fn g fs cs).deep = true) (p : Count → Bool) (l : List Count) (full : Bool) (hl : l.length ≤ maxLen) (hp : ∀ x ∈ l, PureV TT TB one (.fn g fs cs) [.ag (eCount x)] (BB (p x))) :
    Pu one 116 [.sl (l.map eCount) full, .fn g fs cs] (I64 (idxF p l)) := by
  unfold maxLen at hl
  refine PureV.body (fn := Try.f116) rfl rfl rfl rfl ?_
  refine wpC_sound (mu := fun _ => false) ?_
  skip
  refine SemC.weaker (Weaker.to (l := [(0, .sl (l.map eCount) full), (1, .fn g fs cs), (7, I64 l.length), (8, I64 ((0 : Nat) : Int))]) 0 rfl ⟨rfl, rfl, i64c (by simp), rfl, trivial⟩ (Nat.le_refl _) (by simp [inb_fl, inb_sl, deep_inb 0 _ hF]) rfl) ?_
  refine SemC.loop (fun k : Nat => k ≤ l.length ∧ ∀ i (h : i < l.length), i < k → p l[i] = false) (fun k => ⟨mkFr [(0, .sl (l.map eCount) full), (1, .fn g fs cs), (7, I64 l.length), (8, I64 (k : Int))], [], Amb.none, false, 0⟩) (fun k => l.length - k) ?_ 0 ⟨Nat.zero_le _, fun i _ hi => absurd hi (by omega)⟩
  intro k ⟨hk, hprev⟩
  refine wpC_sound (mu := fun _ => false) ?_
  refine ⟨fun h => ?_, fun h => ?_⟩
  · have hlt : k < l.length := by simpa using h
    skip
    refine ⟨eCount l[k], ⟨by omega, by simp [hlt]⟩, rfl, ?_⟩
    repeat' (first |(refine And.intro (Nat.le_of_ble_eq_true rfl) ?_) |fail)
    refine PureV.call (hp l[k] (List.getElem_mem _)) hF rfl ?_
    refine ⟨fun h2 => ?_, fun h2 => ?_⟩
    · skip
      refine ⟨[_], ⟨Fz.deep rfl, trivial⟩, ?_⟩
      rw [idxF_here hlt hprev h2]; rfl
    · repeat' (first |(refine And.intro (by omega) ?_) |fail)
      refine ⟨k + 1, ⟨hlt, fun i hi hik => ?_⟩, (by dsimp only; omega), Weaker.to 0 rfl ⟨rfl, rfl, rfl, i64c (by simp), trivial⟩ (Nat.le_refl _) (by simp [inb_fl, inb_sl, deep_inb 0 _ hF]) rfl⟩
      by_cases hik' : i = k
      · subst hik'; exact h2
      · exact hprev i hi (by omega)
  · skip
    refine ⟨[_], ⟨Fz.deep rfl, trivial⟩, ?_⟩
    have : k = l.length := by simp at h; omega
    rw [idxF_none fun i hi => hprev i hi (by omega)]; rfl
theorem containsFunc98_c (one : Bool) (g : FuncId) (fs cs : List AV) (hF : (AV.fn g fs cs).deep = true) (p : Count → Bool) (l : List Count) (full : Bool) (hl : l.length ≤ maxLen) (hp : ∀ x ∈ l, PureV TT TB one (.fn g fs cs) [.ag (eCount x)] (BB (p x))) :
    Pu one 98 [.sl (l.map eCount) full, .fn g fs cs] (BB (l.any p)) := by
  refine PureV.body (fn := Try.f98) rfl rfl rfl rfl ?_
  refine wpC_sound (mu := fun _ => false) ?_
  skip
  refine PureV.call (indexFunc116_c one g fs cs hF p l full hl hp) rfl (by simp only [deepL, AV.deep, Bool.and_true, Bool.true_and]; exact hF) ?_
  skip
  refine ⟨[_], ⟨Fz.deep rfl, trivial⟩, ?_⟩
  rw [← idxF_ge]; rfl
end Go.Proofs.Ytmkaeohmdcoanaa
open Go Go.RM
namespace Go.Proofs.Ytmkaeohmdcoanaa
set_option maxRecDepth 100000
def outB (lo hi : Int) (l : List Int) : Bool := l.any fun n => decide (n < lo) || decide (hi < n)
def unI : List AV → Int
  | [.fl (.int _ n)] => n
  | _ => 0
def isI : List AV → Bool
  | [.fl (.int .i64 _)] => true
  | _ => false
theorem allI : ∀ {els : List (List AV)}, els.all isI = true → els = ints (els.map unI)
  | [], _ => rfl
  | el :: els, h => by
    simp only [List.all_cons, Bool.and_eq_true] at h
    have ih := allI h.2
    have : el = eI (unI el) := by
      have h1 := h.1
      unfold isI at h1
      split at h1
      · rfl
      · cases h1
    show el :: els = eI (unI el) :: ints (els.map unI)
    rw [← this, ← ih]
theorem outside_c (one : Bool) (lo hi : Int) (els : List (List AV)) (full : Bool) (h : els.all isI = true) (hl : els.length ≤ maxLen) : Pu one 50 [I64 lo, I64 hi, .sl els full] (BB (outB lo hi (els.map unI))) := by
  obtain ⟨l, hl'⟩ : ∃ l, els.map unI = l := ⟨_, rfl⟩
  have he : els = ints l := by rw [← hl']; exact allI h
  rw [hl']
  subst he
  refine PureV.body (fn := Try.f50) rfl rfl rfl rfl ?_
  refine wpC_sound (mu := fun _ => false) ?_
  repeat' (first |(refine ⟨rfl, rfl, rfl, ?_⟩) |fail)
  refine PureV.call (containsFunc88_c one 89 [] _ rfl (fun n => decide (n < lo) || decide (hi < n)) l full (by simpa using hl) (fun n _ => outside1_c one n lo hi)) rfl rfl ?_
  skip
  refine ⟨[_], ⟨Fz.deep rfl, trivial⟩, ?_⟩
  rfl
def nmL : UInt8 → List UInt8 → Bool
  | last, [] => decide (last.toNat ≠ 45)
  | last, c :: l => if 97 ≤ c.toNat ∧ c.toNat ≤ 122 then nmL c l else if c.toNat ≠ 45 ∨ last.toNat = 45 then false else nmL c l
theorem nmL_cons (last c : UInt8) (l : List UInt8) : nmL last (c :: l) = if 97 ≤ c.toNat ∧ c.toNat ≤ 122 then nmL c l else if c.toNat ≠ 45 ∨ last.toNat = 45 then false else nmL c l := rfl
def nameB (s : ByteArray) : Bool := decide (s.data.toList.length ≤ 14) && nmL 45 s.data.toList
theorem decode_at {s : ByteArray} {i : Nat} (h : i < s.data.toList.length) : (s.get! i) = s.data.toList[i] := by
  have : i < s.data.size := by simpa using h
  simp only [ByteArray.get!, getElem!_pos s.data i this]
  simp
theorem decode_lo {s : ByteArray} {i : Nat} (h : i < s.data.toList.length) (hb : (s.data.toList[i]).toNat < 128) : Utf8.decode s i = ((s.data.toList[i]).toNat, 1) := by
  unfold Utf8.decode
  simp only [Nat.add_zero, decode_at h]
  rw [if_pos hb]
theorem decode_hi {s : ByteArray} {i : Nat} (h : i < s.data.toList.length) (hb : 128 ≤ (s.data.toList[i]).toNat) : 128 ≤ (Utf8.decode s i).1 := by
  unfold Utf8.decode
  simp only [Nat.add_zero, decode_at h, Utf8.runeError]
  rw [if_neg (by omega)]
  repeat' split
  all_goals simp_all
  all_goals omega
theorem name_c (one : Bool) (s : ByteArray) (hs : s.data.toList.length ≤ maxLen) : Pu one 90 [ST s] (BB (nameB s)) := by
  unfold maxLen at hs
  refine PureV.body (fn := Try.f90) rfl rfl rfl rfl ?_
  refine wpC_sound (mu := fun _ => false) ?_
  skip
  refine SemC.weaker (Weaker.to (l := [(0, ST s), (7, .ptr 0 0 0), (3, .fl (.int .i32 (((45 : UInt8).toNat : Nat) : Int)))]) 1 rfl ⟨rfl, rfl, rfl, trivial⟩ (Nat.zero_le _) rfl rfl) ?_
  refine SemC.loop (fun x : Nat × UInt8 => x.1 ≤ s.data.toList.length ∧ nmL 45 s.data.toList = nmL x.2 (s.data.toList.drop x.1)) (fun x => ⟨mkFr [(0, ST s), (7, .ptr 0 0 0), (3, .fl (.int .i32 ((x.2.toNat : Nat) : Int)))], [.siter s x.1], Amb.none, false, 0⟩) (fun x => s.data.toList.length - x.1) ?_ (0, 45) ⟨Nat.zero_le _, rfl⟩
  intro ⟨pos, last⟩ ⟨hpos, hrel⟩
  refine wpC_sound (mu := fun _ => false) ?_
  have hdrop : ∀ h : pos < s.data.toList.length, s.data.toList.drop pos = s.data.toList[pos] :: s.data.toList.drop (pos + 1) := fun h => List.drop_eq_getElem_cons h
  refine ⟨s, pos, rfl, fun hlt => ?_, fun hge => ?_⟩
  · rw [hdrop hlt] at hrel
    simp only at hrel
    generalize hc : s.data.toList[pos] = c at hrel
    have hc256 : c.toNat < 256 := c.toNat_lt
    rw [nmL_cons] at hrel
    by_cases hb : c.toNat < 128
    · have hd := decode_lo hlt (by rw [hc]; exact hb)
      rw [hc] at hd
      rw [hd]
      clear hd hc hdrop
      repeat' (first |(refine ⟨_, rfl, ?_⟩) |(refine guardYes (by assumption) ?_) |(refine guardYes rfl ?_) |(refine guardNo rfl ?_) |(refine guardNo (by assumption) ?_) |(refine ⟨_, _, rfl, rfl, _, rfl, rfl, ?_⟩) |(refine ⟨fun h => ?_, fun h => ?_⟩) |fail)
      all_goals first
        | (refine ⟨(pos + 1, c), ⟨hlt, ?_⟩, (by dsimp only; omega), Weaker.to 1 rfl ⟨rfl, rfl, rfl, trivial⟩ (Nat.zero_le _) rfl rfl⟩
           first
             | rw [hrel, if_pos (by simp at *; omega)]
             | rw [hrel, if_neg (by simp at *; omega), if_neg (by simp at *; omega)])
        | (refine ⟨[_], ⟨Fz.deep rfl, trivial⟩, bbc ?_⟩
           rw [nameB, hrel, if_neg (by simp at *; omega), if_pos (by simp at *; omega)]
           simp)
    · have hd := decode_hi hlt (by rw [hc]; omega)
      generalize Utf8.decode s pos = d at hd
      clear hc hdrop
      repeat' (first |(refine ⟨_, rfl, ?_⟩) |(refine guardYes (by assumption) ?_) |(refine guardYes rfl ?_) |(refine guardNo rfl ?_) |(refine guardNo (by assumption) ?_) |(refine ⟨_, _, rfl, rfl, _, rfl, rfl, ?_⟩) |(refine ⟨fun h => ?_, fun h => ?_⟩) |fail)
      all_goals first
        | (exfalso; simp at *; omega)
        | (refine ⟨[_], ⟨Fz.deep rfl, trivial⟩, bbc ?_⟩
           rw [nameB, hrel, if_neg (by omega), if_pos (by omega)]
           simp)
  · have hlen : pos = s.data.toList.length := by simp only at hpos; omega
    subst hlen
    simp only [List.drop_length, nmL] at hrel
    repeat' (first |(refine ⟨_, rfl, ?_⟩) |(refine guardYes (by assumption) ?_) |(refine guardNo rfl ?_) |(refine guardNo (by assumption) ?_) |(refine ⟨_, _, rfl, rfl, _, rfl, rfl, ?_⟩) |(refine ⟨fun h => ?_, fun h => ?_⟩) |fail)
    all_goals refine ⟨[_], ⟨Fz.deep rfl, trivial⟩, bbc ?_⟩
    all_goals rw [nameB, hrel, Bool.eq_iff_iff]
    all_goals simp at *
    all_goals omega
end Go.Proofs.Ytmkaeohmdcoanaa
open Go Go.RM
namespace Go.Proofs.Ytmkaeohmdcoanaa
abbrev shI : Sh := .int .i64
abbrev shSpan : Sh := .cons shI (.cons shI .nil)
abbrev shKind : Sh := .cons .str (.cons shSpan (.cons shSpan (.cons shSpan (.cons shI (.cons shI .nil)))))
abbrev shCargo : Sh := .cons shI (.cons shI (.cons shI .nil))
abbrev shCount : Sh := .cons shI (.cons shI (.cons shSpan .nil))
abbrev shStores : Sh := .cons (.slice shI) (.cons (.slice shKind) (.cons (.slice shCargo) .nil))
theorem tvI {l : List AV} (h : TV shI l) : ∃ n, (Lit.int .i64 n).wf = true ∧ l = eI n := by
  cases h with
  | int h => exact ⟨_, h, rfl⟩
theorem tvS {l : List AV} (h : TV .str l) : ∃ s : ByteArray, s.size ≤ maxLen ∧ l = [ST s] := by
  cases h with
  | str h => exact ⟨_, h, rfl⟩
theorem tvC {a b : Sh} {l : List AV} (h : TV (.cons a b) l) : ∃ x y, TV a x ∧ TV b y ∧ l = x ++ y := by
  cases h with
  | cons h k => exact ⟨_, _, h, k, rfl⟩
theorem tvN {l : List AV} (h : TV .nil l) : l = [] := by cases h; rfl
theorem tvL {s : Sh} {l : List AV} (h : TV (.slice s) l) : ∃ els, els.length ≤ maxLen ∧ (∀ el ∈ els, TV s el) ∧ l = [.sl els false] := by
  cases h with
  | slice h k => exact ⟨_, h, k, rfl⟩
/-- Elements, each of which stands for something. -/
theorem tvAll {α : Type} {e : α → List AV} {P : α → Prop} : ∀ {els : List (List AV)}, (∀ el ∈ els, ∃ x, P x ∧ el = e x) → ∃ l : List α, (∀ x ∈ l, P x) ∧ els = l.map e
  | [], _ => ⟨[], ⟨List.forall_mem_nil _, rfl⟩⟩
  | el :: els, h => by
    obtain ⟨x, hx, rfl⟩ := h el (by simp)
    obtain ⟨l, hl, rfl⟩ := tvAll fun el hel => h el (List.mem_cons_of_mem _ hel)
    exact ⟨x :: l, ⟨List.forall_mem_cons.2 ⟨hx, hl⟩, rfl⟩⟩
theorem tvSpan {l : List AV} (h : TV shSpan l) : ∃ s : Span, l = eSpan s := by
  obtain ⟨_, _, h1, k1, rfl⟩ := tvC h
  obtain ⟨_, _, h2, k2, rfl⟩ := tvC k1
  obtain ⟨a, _, rfl⟩ := tvI h1
  obtain ⟨b, _, rfl⟩ := tvI h2
  obtain rfl := tvN k2
  exact ⟨⟨a, b⟩, rfl⟩
theorem tvKind {l : List AV} (h : TV shKind l) : ∃ k : Kind, k.name.data.toList.length ≤ maxLen ∧ l = eKind k := by
  obtain ⟨_, _, h1, k1, rfl⟩ := tvC h
  obtain ⟨_, _, h2, k2, rfl⟩ := tvC k1
  obtain ⟨_, _, h3, k3, rfl⟩ := tvC k2
  obtain ⟨_, _, h4, k4, rfl⟩ := tvC k3
  obtain ⟨_, _, h5, k5, rfl⟩ := tvC k4
  obtain ⟨_, _, h6, k6, rfl⟩ := tvC k5
  obtain ⟨a, ha, rfl⟩ := tvS h1
  obtain ⟨b, rfl⟩ := tvSpan h2
  obtain ⟨c, rfl⟩ := tvSpan h3
  obtain ⟨d, rfl⟩ := tvSpan h4
  obtain ⟨e, _, rfl⟩ := tvI h5
  obtain ⟨f, _, rfl⟩ := tvI h6
  obtain rfl := tvN k6
  exact ⟨⟨a, b, c, d, e, f⟩, by simpa using ha, rfl⟩
theorem tvCargo {l : List AV} (h : TV shCargo l) : ∃ c : Cargo, l = eCargo c := by
  obtain ⟨_, _, h1, k1, rfl⟩ := tvC h
  obtain ⟨_, _, h2, k2, rfl⟩ := tvC k1
  obtain ⟨_, _, h3, k3, rfl⟩ := tvC k2
  obtain ⟨a, _, rfl⟩ := tvI h1
  obtain ⟨b, _, rfl⟩ := tvI h2
  obtain ⟨c, _, rfl⟩ := tvI h3
  obtain rfl := tvN k3
  exact ⟨⟨a, b, c⟩, rfl⟩
theorem tvCount {l : List AV} (h : TV shCount l) : ∃ c : Count, l = eCount c := by
  obtain ⟨_, _, h1, k1, rfl⟩ := tvC h
  obtain ⟨_, _, h2, k2, rfl⟩ := tvC k1
  obtain ⟨_, _, h3, k3, rfl⟩ := tvC k2
  obtain ⟨a, _, rfl⟩ := tvI h1
  obtain ⟨b, _, rfl⟩ := tvI h2
  obtain ⟨c, rfl⟩ := tvSpan h3
  obtain rfl := tvN k3
  exact ⟨⟨a, b, c⟩, rfl⟩
structure Stores.Ok (s : Stores) : Prop where
  men : s.men.length ≤ maxLen
  kinds : s.kinds.length ≤ maxLen
  cargos : s.cargos.length ≤ maxLen
  names : ∀ k ∈ s.kinds, k.name.data.toList.length ≤ maxLen
theorem tvStores {l : List AV} (h : TV shStores l) : ∃ s : Stores, s.Ok ∧ l = eStores s := by
  obtain ⟨_, _, h1, k1, rfl⟩ := tvC h
  obtain ⟨_, _, h2, k2, rfl⟩ := tvC k1
  obtain ⟨_, _, h3, k3, rfl⟩ := tvC k2
  obtain rfl := tvN k3
  obtain ⟨a, ha, ha', rfl⟩ := tvL h1
  obtain ⟨b, hb, hb', rfl⟩ := tvL h2
  obtain ⟨c, hc, hc', rfl⟩ := tvL h3
  obtain ⟨a, _, rfl⟩ := tvAll (e := eI) (P := fun _ => True) fun el hel => by obtain ⟨n, _, h⟩ := tvI (ha' el hel); exact ⟨n, trivial, h⟩
  obtain ⟨b, hn, rfl⟩ := tvAll (e := eKind) fun el hel => tvKind (hb' el hel)
  obtain ⟨c, _, rfl⟩ := tvAll (e := eCargo) (P := fun _ => True) fun el hel => by obtain ⟨n, h⟩ := tvCargo (hc' el hel); exact ⟨n, trivial, h⟩
  exact ⟨⟨a, b, c⟩, ⟨by simpa using ha, by simpa using hb, by simpa using hc, hn⟩, rfl⟩
theorem tvCounts {l : List AV} (h : TV (.slice shCount) l) : ∃ c : List Count, c.length ≤ maxLen ∧ l = [.sl (c.map eCount) false] := by
  obtain ⟨a, ha, ha', rfl⟩ := tvL h
  obtain ⟨a, _, rfl⟩ := tvAll (e := eCount) (P := fun _ => True) fun el hel => by obtain ⟨n, h⟩ := tvCount (ha' el hel); exact ⟨n, trivial, h⟩
  exact ⟨a, by simpa using ha, rfl⟩
end Go.Proofs.Ytmkaeohmdcoanaa
open Go Go.RM
namespace Go.Proofs.Ytmkaeohmdcoanaa
set_option maxRecDepth 100000
def sEq (a b : ByteArray) : Bool := a.toList == b.toList
def kindErr (k : Kind) (names : List ByteArray) : Int :=
  if nameB k.name = false then 6
  else if names.any (fun x => sEq x k.name) then 5
  else if outB 0 300 [k.first.lo, k.first.hi, k.room] || outB 0 6 [k.man.lo, k.man.hi] || outB 0 12 [k.ship.lo, k.ship.hi] || outB 0 1000 [k.ration] then 7
  else if decide (k.first.hi < k.first.lo) || decide (k.man.hi < k.man.lo) || decide (k.ship.hi < k.ship.lo) then 2
  else 0
def firstN (n : Nat) (e : Nat → Int) : Int × Int := match (List.range n).find? (fun i => e i != 0) with
  | some i => ((i : Int), e i)
  | none => (0, 0)
theorem firstN_here {n k : Nat} {e : Nat → Int} (hk : k < n) (hprev : ∀ i, i < k → e i = 0) (h : e k ≠ 0) : firstN n e = ((k : Int), e k) := by
  unfold firstN
  have : (List.range n).find? (fun i => e i != 0) = some k := by
    rw [List.find?_range_eq_some]
    exact ⟨by simpa using h, by simpa using hk, fun j hj => by simp [hprev j hj]⟩
  rw [this]
theorem firstN_none {n : Nat} {e : Nat → Int} (hprev : ∀ i, i < n → e i = 0) : firstN n e = (0, 0) := by
  unfold firstN
  have : (List.range n).find? (fun i => e i != 0) = none := by
    rw [List.find?_eq_none]
    intro x hx
    simp [hprev x (by simpa using hx)]
  rw [this]
theorem cells_fl {v : Value} : (AV.fl v).cells = [AV.fl v] := rfl
theorem unI_fl {n : Int} : unI [AV.fl (.int .i64 n)] = n := rfl
theorem check1_c (one : Bool) (n : Int) : Pu one 52 [I64 n] (BB (outB 0 12 [n])) := by
  refine PureV.body (fn := Try.f52) rfl rfl rfl rfl ?_
  refine wpC_sound (mu := fun _ => false) ?_
  repeat' (first |(refine ⟨rfl, rfl, rfl, ?_⟩) |(refine ⟨rfl, rfl, ?_⟩) |(refine PureV.call (outside_c one _ _ _ _ rfl (Nat.le_of_ble_eq_true rfl)) rfl rfl ?_) |fail)
  exact ⟨[_], ⟨Fz.deep rfl, trivial⟩, rfl⟩
theorem kind1_c (one : Bool) (k x : Kind) : PureV TT TB one (.fn 92 [] [.pt (eKind k) 0]) [.ag (eKind x)] (BB (sEq x.name k.name)) := by
  refine PureV.body (fn := Try.f92) rfl rfl rfl rfl ?_
  refine wpC_sound (mu := fun _ => false) ?_
  repeat' (first |(refine ⟨_, rfl, ?_⟩) |(refine ⟨_, _, rfl, by decide, ?_⟩) |(refine ⟨rfl, rfl, rfl, ?_⟩) |(refine ⟨_, _, rfl, rfl, _, rfl, rfl, ?_⟩) |fail)
  exact ⟨[_], ⟨Fz.deep rfl, trivial⟩, rfl⟩
theorem kind_c (one : Bool) (k : Kind) (others : List Kind) (els : List (List AV)) (full : Bool) (he : els = others.map eKind) (hk : k.name.data.toList.length ≤ maxLen) (ho : others.length ≤ maxLen) : Pu one 55 [.ag (eKind k), .sl els full] (I64 (kindErr k (others.map (·.name)))) := by
  subst he
  have hany : (others.map (·.name)).any (fun x => sEq x k.name) = others.any (fun x => sEq x.name k.name) := by simp [List.any_map, Function.comp_def]
  have hc := containsFunc91_c one 92 [] [.pt (eKind k) 0] rfl (fun x => sEq x.name k.name) others full ho (fun x _ => kind1_c one k x)
  unfold kindErr
  rw [hany]
  generalize others.any (fun x => sEq x.name k.name) = b at hc
  refine PureV.body (fn := Try.f55) rfl rfl rfl rfl ?_
  refine wpC_sound (mu := fun _ => false) ?_
  repeat' (first |(refine ⟨_, rfl, ?_⟩) |(refine guardYes (by assumption) ?_) |(refine guardYes rfl ?_) |(refine guardNo rfl ?_) |(refine guardNo (by assumption) ?_) |(refine ⟨_, _, rfl, by decide, ?_⟩) |(refine ⟨rfl, rfl, rfl, ?_⟩) |(refine ⟨rfl, rfl, ?_⟩) |(refine PureV.call (outside_c one _ _ _ _ rfl (Nat.le_of_ble_eq_true rfl)) rfl rfl ?_) |(refine PureV.call (name_c one _ hk) rfl rfl ?_) |(refine PureV.call hc rfl rfl ?_) |(refine ⟨fun h => ?_, fun h => ?_⟩) |fail)
  all_goals refine ⟨[_], ⟨Fz.deep rfl, trivial⟩, i64c ?_⟩
  all_goals simp_all [cells_fl, unI_fl]
theorem first53_c (one : Bool) (g : FuncId) (fs cs : List AV) (hF : (AV.fn g fs cs).deep = true) (e : Nat → Int) (l : List Kind) (full : Bool) (hl : l.length ≤ maxLen) (hp : ∀ i (h : i < l.length), PureV TT TB one (.fn g fs cs) [I64 i, .ag (eKind l[i])] (I64 (e i))) :
    Pu one 53 [.sl (l.map eKind) full, .fn g fs cs] (.tp [I64 (firstN l.length e).1, I64 (firstN l.length e).2]) := by
  unfold maxLen at hl
  refine PureV.body (fn := Try.f53) rfl rfl rfl rfl ?_
  refine wpC_sound (mu := fun _ => false) ?_
  skip
  refine SemC.weaker (Weaker.to (l := [(1, .fn g fs cs), (9, .sl (l.map eKind) full), (10, I64 l.length), (11, I64 ((0 : Nat) : Int))]) 0 rfl ⟨rfl, rfl, i64c (by simp), rfl, trivial⟩ (Nat.le_refl _) (by simp [inb_fl, inb_sl, deep_inb 0 _ hF]) rfl) ?_
  refine SemC.loop (fun k : Nat => k ≤ l.length ∧ ∀ i, i < k → e i = 0) (fun k => ⟨mkFr [(1, .fn g fs cs), (9, .sl (l.map eKind) full), (10, I64 l.length), (11, I64 (k : Int))], [], Amb.none, false, 0⟩) (fun k => l.length - k) ?_ 0 ⟨Nat.zero_le _, fun i hi => absurd hi (by omega)⟩
  intro k ⟨hk, hprev⟩
  refine wpC_sound (mu := fun _ => false) ?_
  refine ⟨fun h => ?_, fun h => ?_⟩
  · have hlt : k < l.length := by simpa using h
    skip
    refine ⟨eKind l[k], ⟨by omega, by simp [hlt]⟩, rfl, ?_⟩
    repeat' (first |(refine And.intro (Nat.le_of_ble_eq_true rfl) ?_) |(refine And.intro (by kernel_rfl) ?_) |fail)
    refine ⟨_, _, rfl, rfl, rfl, rfl, Nat.le_of_ble_eq_true rfl, ?_⟩
    skip
    refine ⟨_, _, rfl, Nat.le_of_ble_eq_true rfl, ?_⟩
    skip
    refine PureV.call (hp k hlt) hF rfl ?_
    skip
    refine ⟨fun h2 => ?_, fun h2 => ?_⟩
    · skip
      refine ⟨[_, _], ⟨Fz.deep rfl, Fz.deep rfl, trivial⟩, ?_⟩
      rw [firstN_here hlt hprev (by simpa using h2)]; rfl
    · repeat' (first |(refine And.intro (by omega) ?_) |fail)
      refine ⟨k + 1, ⟨hlt, fun i hik => ?_⟩, (by dsimp only; omega), Weaker.to 0 rfl ⟨rfl, rfl, rfl, i64c (by simp), trivial⟩ (Nat.le_refl _) (by simp [inb_fl, inb_sl, deep_inb 0 _ hF]) rfl⟩
      by_cases hik' : i = k
      · subst hik'; simpa using h2
      · exact hprev i (by omega)
  · skip
    refine ⟨[_, _], ⟨Fz.deep rfl, Fz.deep rfl, trivial⟩, ?_⟩
    have : k = l.length := by simp at h; omega
    rw [firstN_none fun i hi => hprev i (by omega)]; rfl
theorem first56_c (one : Bool) (g : FuncId) (fs cs : List AV) (hF : (AV.fn g fs cs).deep = true) (e : Nat → Int) (l : List Cargo) (full : Bool) (hl : l.length ≤ maxLen) (hp : ∀ i (h : i < l.length), PureV TT TB one (.fn g fs cs) [I64 i, .ag (eCargo l[i])] (I64 (e i))) :
    Pu one 56 [.sl (l.map eCargo) full, .fn g fs cs] (.tp [I64 (firstN l.length e).1, I64 (firstN l.length e).2]) := by
  unfold maxLen at hl
  refine PureV.body (fn := Try.f56) rfl rfl rfl rfl ?_
  refine wpC_sound (mu := fun _ => false) ?_
  skip
  refine SemC.weaker (Weaker.to (l := [(1, .fn g fs cs), (9, .sl (l.map eCargo) full), (10, I64 l.length), (11, I64 ((0 : Nat) : Int))]) 0 rfl ⟨rfl, rfl, i64c (by simp), rfl, trivial⟩ (Nat.le_refl _) (by simp [inb_fl, inb_sl, deep_inb 0 _ hF]) rfl) ?_
  refine SemC.loop (fun k : Nat => k ≤ l.length ∧ ∀ i, i < k → e i = 0) (fun k => ⟨mkFr [(1, .fn g fs cs), (9, .sl (l.map eCargo) full), (10, I64 l.length), (11, I64 (k : Int))], [], Amb.none, false, 0⟩) (fun k => l.length - k) ?_ 0 ⟨Nat.zero_le _, fun i hi => absurd hi (by omega)⟩
  intro k ⟨hk, hprev⟩
  refine wpC_sound (mu := fun _ => false) ?_
  refine ⟨fun h => ?_, fun h => ?_⟩
  · have hlt : k < l.length := by simpa using h
    skip
    refine ⟨eCargo l[k], ⟨by omega, by simp [hlt]⟩, rfl, ?_⟩
    repeat' (first |(refine And.intro (Nat.le_of_ble_eq_true rfl) ?_) |(refine And.intro (by kernel_rfl) ?_) |fail)
    refine ⟨_, _, rfl, rfl, rfl, rfl, Nat.le_of_ble_eq_true rfl, ?_⟩
    skip
    refine ⟨_, _, rfl, Nat.le_of_ble_eq_true rfl, ?_⟩
    skip
    refine PureV.call (hp k hlt) hF rfl ?_
    skip
    refine ⟨fun h2 => ?_, fun h2 => ?_⟩
    · skip
      refine ⟨[_, _], ⟨Fz.deep rfl, Fz.deep rfl, trivial⟩, ?_⟩
      rw [firstN_here hlt hprev (by simpa using h2)]; rfl
    · repeat' (first |(refine And.intro (by omega) ?_) |fail)
      refine ⟨k + 1, ⟨hlt, fun i hik => ?_⟩, (by dsimp only; omega), Weaker.to 0 rfl ⟨rfl, rfl, rfl, i64c (by simp), trivial⟩ (Nat.le_refl _) (by simp [inb_fl, inb_sl, deep_inb 0 _ hF]) rfl⟩
      by_cases hik' : i = k
      · subst hik'; simpa using h2
      · exact hprev i (by omega)
  · skip
    refine ⟨[_, _], ⟨Fz.deep rfl, Fz.deep rfl, trivial⟩, ?_⟩
    have : k = l.length := by simp at h; omega
    rw [firstN_none fun i hi => hprev i (by omega)]; rfl
theorem first107_c (one : Bool) (g : FuncId) (fs cs : List AV) (hF : (AV.fn g fs cs).deep = true) (e : Nat → Int) (l : List Count) (full : Bool) (hl : l.length ≤ maxLen) (hp : ∀ i (h : i < l.length), PureV TT TB one (.fn g fs cs) [I64 i, .ag (eCount l[i])] (I64 (e i))) :
    Pu one 107 [.sl (l.map eCount) full, .fn g fs cs] (.tp [I64 (firstN l.length e).1, I64 (firstN l.length e).2]) := by
  unfold maxLen at hl
  refine PureV.body (fn := Try.f107) rfl rfl rfl rfl ?_
  refine wpC_sound (mu := fun _ => false) ?_
  skip
  refine SemC.weaker (Weaker.to (l := [(1, .fn g fs cs), (9, .sl (l.map eCount) full), (10, I64 l.length), (11, I64 ((0 : Nat) : Int))]) 0 rfl ⟨rfl, rfl, i64c (by simp), rfl, trivial⟩ (Nat.le_refl _) (by simp [inb_fl, inb_sl, deep_inb 0 _ hF]) rfl) ?_
  refine SemC.loop (fun k : Nat => k ≤ l.length ∧ ∀ i, i < k → e i = 0) (fun k => ⟨mkFr [(1, .fn g fs cs), (9, .sl (l.map eCount) full), (10, I64 l.length), (11, I64 (k : Int))], [], Amb.none, false, 0⟩) (fun k => l.length - k) ?_ 0 ⟨Nat.zero_le _, fun i hi => absurd hi (by omega)⟩
  intro k ⟨hk, hprev⟩
  refine wpC_sound (mu := fun _ => false) ?_
  refine ⟨fun h => ?_, fun h => ?_⟩
  · have hlt : k < l.length := by simpa using h
    skip
    refine ⟨eCount l[k], ⟨by omega, by simp [hlt]⟩, rfl, ?_⟩
    repeat' (first |(refine And.intro (Nat.le_of_ble_eq_true rfl) ?_) |(refine And.intro (by kernel_rfl) ?_) |fail)
    refine ⟨_, _, rfl, rfl, rfl, rfl, Nat.le_of_ble_eq_true rfl, ?_⟩
    skip
    refine ⟨_, _, rfl, Nat.le_of_ble_eq_true rfl, ?_⟩
    skip
    refine PureV.call (hp k hlt) hF rfl ?_
    skip
    refine ⟨fun h2 => ?_, fun h2 => ?_⟩
    · skip
      refine ⟨[_, _], ⟨Fz.deep rfl, Fz.deep rfl, trivial⟩, ?_⟩
      rw [firstN_here hlt hprev (by simpa using h2)]; rfl
    · repeat' (first |(refine And.intro (by omega) ?_) |fail)
      refine ⟨k + 1, ⟨hlt, fun i hik => ?_⟩, (by dsimp only; omega), Weaker.to 0 rfl ⟨rfl, rfl, rfl, i64c (by simp), trivial⟩ (Nat.le_refl _) (by simp [inb_fl, inb_sl, deep_inb 0 _ hF]) rfl⟩
      by_cases hik' : i = k
      · subst hik'; simpa using h2
      · exact hprev i (by omega)
  · skip
    refine ⟨[_, _], ⟨Fz.deep rfl, Fz.deep rfl, trivial⟩, ?_⟩
    have : k = l.length := by simp at h; omega
    rw [firstN_none fun i hi => hprev i (by omega)]; rfl
theorem check2_c (s : Stores) (i : Nat) (k : Kind) (hi : i ≤ s.kinds.length) (hk : k.name.data.toList.length ≤ maxLen) (hs : s.kinds.length ≤ maxLen) (one : Bool) : PureV TT TB one (.fn 54 [] [.pt (eStores s) 0]) [I64 i, .ag (eKind k)] (I64 (kindErr k ((s.kinds.take i).map (·.name)))) := by
  unfold maxLen at hs
  refine PureV.body (fn := Try.f54) rfl rfl rfl rfl ?_
  refine wpC_sound (mu := fun _ => false) ?_
  repeat' (first |(refine ⟨_, rfl, ?_⟩) |(refine ⟨_, _, rfl, by decide, ?_⟩) |(refine ⟨rfl, rfl, rfl, ?_⟩) |(refine And.intro (Nat.le_of_ble_eq_true rfl) ?_) |fail)
  refine ⟨0, i, rfl, rfl, ⟨by omega, by simpa using hi⟩, by decide, by simp, ?_⟩
  repeat' (first |(refine handed0 rfl rfl ?_) |fail)
  refine ⟨_, kind_c true k (s.kinds.take i) _ _ (by simp) hk (by simp; unfold maxLen; omega), ?_⟩
  repeat' (first |(refine ⟨_, rfl, ?_⟩) |(refine And.intro (by kernel_rfl) ?_) |fail)
  exact ⟨[_], ⟨Fz.deep rfl, trivial⟩, rfl⟩
def cargoErr (s : Stores) (c : Cargo) : Int :=
  if outB 0 ((s.kinds.length : Int) - 1) [c.kind] then 4
  else if outB 0 ((s.men.length : Int) - 1) [c.day] || outB 0 300 [c.amount] then 7
  else 0
theorem check3_c (s : Stores) (i : Int) (c : Cargo) (hk : s.kinds.length ≤ maxLen) (hm : s.men.length ≤ maxLen) (one : Bool) : PureV TT TB one (.fn 57 [] [.pt (eStores s) 0]) [I64 i, .ag (eCargo c)] (I64 (cargoErr s c)) := by
  unfold maxLen at hk hm
  unfold cargoErr
  have e1 : ((s.kinds.map eKind).length : Int) = s.kinds.length := by simp
  have e2 : ((s.men.map eI).length : Int) = s.men.length := by simp
  refine PureV.body (fn := Try.f57) rfl rfl rfl rfl ?_
  refine wpC_sound (mu := fun _ => false) ?_
  repeat' (first |(refine ⟨_, rfl, ?_⟩) |(refine guardYes (by assumption) ?_) |(refine guardYes rfl ?_) |(refine guardNo (by assumption) ?_) |(refine ⟨_, _, rfl, by decide, ?_⟩) |(refine ⟨rfl, rfl, rfl, ?_⟩) |(refine ⟨rfl, rfl, ?_⟩) |(refine And.intro (by omega) ?_) |(refine PureV.call (outside_c one _ _ _ _ rfl (Nat.le_of_ble_eq_true rfl)) rfl rfl ?_) |(refine ⟨fun h => ?_, fun h => ?_⟩) |fail)
  all_goals refine ⟨[_], ⟨Fz.deep rfl, trivial⟩, i64c ?_⟩
  all_goals simp_all [cells_fl, unI_fl]
/-- P8.1. -/
def chk (s : Stores) : Int × Int × Int :=
  if outB 1 30 [(s.men.length : Int)] || outB 1 4 [(s.kinds.length : Int)] || decide (8 < (s.cargos.length : Int)) then (1, 0, 3)
  else
    let i := idxF (fun n => outB 0 12 [n]) s.men
    if 0 ≤ i then (1, i, 7)
    else
      let a := firstN s.kinds.length fun i => match s.kinds[i]? with | some k => kindErr k ((s.kinds.take i).map (·.name)) | none => 0
      if a.2 ≠ 0 then (2, a.1, a.2)
      else
        let b := firstN s.cargos.length fun i => match s.cargos[i]? with | some c => cargoErr s c | none => 0
        if b.2 ≠ 0 then (3, b.1, b.2) else (0, 0, 0)
theorem tp3 {a b c a' b' c' : Int} (h1 : a = a') (h2 : b = b') (h3 : c = c') : AV.tp [I64 a, I64 b, I64 c] = AV.tp [I64 a', I64 b', I64 c'] := by rw [h1, h2, h3]
theorem check_c (s : Stores) (h : s.Ok) (one : Bool) : Pu one 17 [.ag (eStores s)] (.tp [I64 (chk s).1, I64 (chk s).2.1, I64 (chk s).2.2]) := by
  have hm := h.men
  have hk := h.kinds
  have hc := h.cargos
  have c1 := indexFunc51_c one 52 [] [] rfl (fun n => outB 0 12 [n]) s.men false hm (fun n _ => check1_c one n)
  have c2 := first53_c one 54 [] [.pt (eStores s) 0] rfl (fun i => match s.kinds[i]? with | some k => kindErr k ((s.kinds.take i).map (·.name)) | none => 0) s.kinds false hk (fun i hi => by
    simp only [List.getElem?_eq_getElem hi]
    exact check2_c s i _ (by omega) (h.names _ (List.getElem_mem hi)) hk one)
  have c3 := first56_c one 57 [] [.pt (eStores s) 0] rfl (fun i => match s.cargos[i]? with | some c => cargoErr s c | none => 0) s.cargos false hc (fun i hi => by
    simp only [List.getElem?_eq_getElem hi]
    exact check3_c s i _ hk hm one)
  unfold chk
  generalize idxF (fun n => outB 0 12 [n]) s.men = i at c1 ⊢
  generalize (firstN s.kinds.length fun i => match s.kinds[i]? with | some k => kindErr k ((s.kinds.take i).map (·.name)) | none => 0) = a at c2 ⊢
  generalize (firstN s.cargos.length fun i => match s.cargos[i]? with | some c => cargoErr s c | none => 0) = b at c3 ⊢
  unfold maxLen at hm hk hc
  refine PureV.body (fn := Try.f17) rfl rfl rfl rfl ?_
  refine wpC_sound (mu := fun _ => false) ?_
  repeat' (first |(refine ⟨_, rfl, ?_⟩) |(refine guardYes (by assumption) ?_) |(refine guardYes rfl ?_) |(refine guardNo rfl ?_) |(refine guardNo (by assumption) ?_) |(refine ⟨_, _, rfl, by decide, ?_⟩) |(refine ⟨rfl, rfl, rfl, ?_⟩) |(refine ⟨rfl, rfl, ?_⟩) |(refine PureV.call (outside_c one _ _ _ _ rfl (Nat.le_of_ble_eq_true rfl)) rfl rfl ?_) |(refine PureV.call c1 rfl rfl ?_) |(refine PureV.call c2 rfl rfl ?_) |(refine PureV.call c3 rfl rfl ?_) |(refine ⟨fun h => ?_, fun h => ?_⟩) |fail)
  all_goals refine ⟨[_, _, _], ⟨Fz.deep rfl, Fz.deep rfl, Fz.deep rfl, trivial⟩, ?_⟩
  all_goals refine tp3 ?_ ?_ ?_
  all_goals simp_all [cells_fl, unI_fl]
  all_goals (repeat' split) <;> first | rfl | omega | (simp_all <;> omega)
end Go.Proofs.Ytmkaeohmdcoanaa
open Go Go.RM
namespace Go.Proofs.Ytmkaeohmdcoanaa
set_option maxRecDepth 100000
def inB (n lo hi : Int) : Bool := decide (lo ≤ n) && decide (n ≤ hi)
theorem inB_iff {n lo hi : Int} : inB n lo hi = true ↔ lo ≤ n ∧ n ≤ hi := by simp [inB]
theorem outB_one (n lo hi : Int) : outB lo hi [n] = !inB n lo hi := by
  unfold outB inB
  rw [Bool.eq_iff_iff]
  simp
theorem in58_c (one : Bool) (n lo hi : Int) : Pu one 58 [I64 n, I64 lo, I64 hi] (BB (inB n lo hi)) := by
  refine PureV.body (fn := Try.f58) rfl rfl rfl rfl ?_
  refine wpC_sound (mu := fun _ => false) ?_
  repeat' (first |(refine guardYes (by assumption) ?_) |(refine guardNo (by assumption) ?_) |(refine ⟨fun h => ?_, fun h => ?_⟩) |fail)
  all_goals refine ⟨[_], ⟨Fz.deep rfl, trivial⟩, bbc ?_⟩
  all_goals simp_all [inB]
  all_goals omega
theorem in130_c (one : Bool) (n lo hi : Int) : Pu one 130 [I64 n, I64 lo, I64 hi] (BB (inB n lo hi)) := by
  refine PureV.body (fn := Try.f130) rfl rfl rfl rfl ?_
  refine wpC_sound (mu := fun _ => false) ?_
  repeat' (first |(refine guardYes (by assumption) ?_) |(refine guardNo (by assumption) ?_) |(refine ⟨fun h => ?_, fun h => ?_⟩) |fail)
  all_goals refine ⟨[_], ⟨Fz.deep rfl, trivial⟩, bbc ?_⟩
  all_goals simp_all [inB]
  all_goals omega
theorem index_str {s : ByteArray} {k : Nat} (h : k < s.data.toList.length) : pureV (pureRun TT.P (Instr.index 9 (.string s) (.int .i64 (k : Int)))) = some (.int .u8 ((s.data.toList[k].toNat : Nat) : Int), .none) := by
  have hk : k < s.size := by rwa [Array.length_toList] at h
  have e : (if (0 : Int) ≤ (k : Int) then s[(k : Int).toNat]? else none) = some (s.data.toList[k]) := by
    rw [if_pos (by omega), Int.toNat_natCast]
    rw [getElem?_pos s k hk]
    rfl
  unfold Instr.index
  show pureV (pureRun TT.P (match (if (0 : Int) ≤ (k : Int) then s[(k : Int).toNat]? else none) with
    | some b => pure (.int .u8 b.toNat)
    | none => boundsPanic .i64 k s.size .index)) = _
  rw [e]
  rfl
theorem map_at {α β : Type} {f : α → β} {l : List α} {k : Nat} (h : k < l.length) : (l.map f)[((k : Nat) : Int).toNat]? = some (f l[k]) := by
  rw [Int.toNat_natCast, List.getElem?_map, List.getElem?_eq_getElem h]
  rfl
/-- Where the names' law stands: the last byte before place k. -/
def lastB (l : List UInt8) : Nat → UInt8
  | 0 => 45
  | k + 1 => l[k]?.getD 45
theorem lastB_succ {l : List UInt8} {k : Nat} (h : k < l.length) : lastB l (k + 1) = l[k] := by
  show (l[k]?).getD 45 = l[k]
  rw [List.getElem?_eq_getElem h]
  rfl
theorem nmL_drop {l : List UInt8} {k : Nat} (h : k < l.length) : nmL (lastB l k) (l.drop k) = if 97 ≤ l[k].toNat ∧ l[k].toNat ≤ 122 then nmL (lastB l (k + 1)) (l.drop (k + 1)) else if l[k].toNat ≠ 45 ∨ (lastB l k).toNat = 45 then false else nmL (lastB l (k + 1)) (l.drop (k + 1)) := by
  rw [List.drop_eq_getElem_cons h, nmL_cons, lastB_succ h]
theorem nmL_end {l : List UInt8} {k : Nat} (h : k + 1 = l.length) (h45 : l[k].toNat = 45) : nmL (lastB l (k + 1)) (l.drop (k + 1)) = false := by
  rw [lastB_succ (by omega), h, List.drop_length]
  unfold nmL
  simp [h45]
abbrev eS (s : ByteArray) : List AV := [ST s]
theorem place_c (one : Bool) (names : List ByteArray) (full : Bool) (s : ByteArray) (hl : names.length ≤ maxLen) : Pu one 115 [.sl (names.map eS) full, ST s] (I64 (idxF (fun x => sEq x s) names)) := by
  unfold maxLen at hl
  refine PureV.body (fn := Try.f115) rfl rfl rfl rfl ?_
  refine wpC_sound (mu := fun _ => false) ?_
  skip
  refine SemC.weaker (Weaker.to (l := [(0, .sl (names.map eS) full), (1, ST s), (5, I64 ((0 : Nat) : Int))]) 0 rfl ⟨rfl, rfl, rfl, trivial⟩ (Nat.le_refl _) rfl rfl) ?_
  refine SemC.loop (fun k : Nat => k ≤ names.length ∧ ∀ i (h : i < names.length), i < k → sEq names[i] s = false) (fun k => ⟨mkFr [(0, .sl (names.map eS) full), (1, ST s), (5, I64 (k : Int))], [], Amb.none, false, 0⟩) (fun k => names.length - k) ?_ 0 ⟨Nat.zero_le _, fun i _ hi => absurd hi (by omega)⟩
  intro k ⟨hk, hprev⟩
  refine wpC_sound (mu := fun _ => false) ?_
  skip
  refine ⟨fun h => ?_, fun h => ?_⟩
  · have hlt : k < names.length := by simpa using h
    skip
    refine ⟨eS names[k], ⟨by omega, map_at hlt⟩, rfl, ?_⟩
    repeat' (first |(refine ⟨_, rfl, ?_⟩) |(refine ⟨_, _, rfl, rfl, _, rfl, rfl, ?_⟩) |fail)
    refine ⟨fun h2 => ?_, fun h2 => ?_⟩
    · skip
      refine ⟨[_], ⟨Fz.deep rfl, trivial⟩, i64c ?_⟩
      exact (idxF_here hlt hprev h2).symm
    · repeat' (first |(refine And.intro (by omega) ?_) |fail)
      refine ⟨k + 1, ⟨hlt, fun i hi hik => ?_⟩, (by dsimp only; omega), Weaker.to 0 rfl ⟨rfl, rfl, i64c (by simp), trivial⟩ (Nat.le_refl _) rfl rfl⟩
      by_cases hik' : i = k
      · subst hik'; exact h2
      · exact hprev i hi (by omega)
  · skip
    refine ⟨[_], ⟨Fz.deep rfl, trivial⟩, i64c ?_⟩
    have : k = names.length := by simp at h; omega
    rw [idxF_none fun i hi => hprev i hi (by omega)]
theorem rname_c (one : Bool) (s : ByteArray) (hs : s.data.toList.length ≤ maxLen) : Pu one 114 [ST s] (BB (nameB s)) := by
  unfold maxLen at hs
  refine PureV.body (fn := Try.f114) rfl rfl rfl rfl ?_
  refine wpC_sound (mu := fun _ => false) ?_
  repeat' (first |(refine PureV.call (in130_c one _ _ _) rfl rfl ?_) |fail)
  refine ⟨fun h => ?_, fun h => ?_⟩
  · skip
    refine ⟨[_], ⟨Fz.deep rfl, trivial⟩, bbc ?_⟩
    have h : ¬ (1 ≤ s.data.toList.length ∧ s.data.toList.length ≤ 14) := by
      rw [Bool.not_eq_true', ← Bool.not_eq_true, inB_iff] at h
      omega
    unfold nameB
    generalize s.data.toList = l at h
    cases l with
    | nil => simp [nmL]
    | cons a l =>
      have : 0 < (a :: l).length := Nat.succ_pos _
      rw [decide_eq_false (by omega)]
      rfl
  · have h : 1 ≤ s.data.toList.length ∧ s.data.toList.length ≤ 14 := by
      rw [Bool.not_eq_false', inB_iff] at h
      omega
    have hn : nameB s = nmL 45 s.data.toList := by
      unfold nameB
      rw [decide_eq_true h.2, Bool.true_and]
    skip
    refine SemC.weaker (Weaker.to (l := [(0, ST s), (3, I64 ((0 : Nat) : Int))]) 0 rfl ⟨rfl, rfl, trivial⟩ (Nat.le_refl _) rfl rfl) ?_
    refine SemC.loop (fun k : Nat => k ≤ s.data.toList.length ∧ nameB s = nmL (lastB s.data.toList k) (s.data.toList.drop k) ∧ (k = s.data.toList.length → (lastB s.data.toList k).toNat ≠ 45)) (fun k => ⟨mkFr [(0, ST s), (3, I64 (k : Int))], [], Amb.none, false, 0⟩) (fun k => s.data.toList.length - k) ?_ 0 ⟨Nat.zero_le _, hn, fun h0 => by omega⟩
    intro k ⟨hk, hrel, hlast⟩
    refine wpC_sound (mu := fun _ => false) ?_
    skip
    refine ⟨fun h => ?_, fun h => ?_⟩
    · have hlt : k < s.data.toList.length := by rw [decide_eq_true_eq] at h; omega
      rw [nmL_drop hlt] at hrel
      have hix := index_str hlt
      generalize hc : s.data.toList[k] = c at hrel hix
      have hix1 : 0 < k → pureV (pureRun TT.P (Instr.index 9 (.string s) (.int .i64 ((k : Int) - 1)))) = some (.int .u8 (((lastB s.data.toList k).toNat : Nat) : Int), .none) := by
        intro h0
        obtain ⟨m, rfl⟩ : ∃ m, k = m + 1 := ⟨k - 1, by omega⟩
        rw [lastB_succ (by omega), show (((m + 1 : Nat) : Int) - 1) = ((m : Nat) : Int) from by omega]
        exact index_str (by omega)
      have hl0 : k = 0 → (lastB s.data.toList k).toNat = 45 := by
        rintro rfl
        rfl
      have hend : k + 1 = s.data.toList.length → c.toNat = 45 → nmL (lastB s.data.toList (k + 1)) (s.data.toList.drop (k + 1)) = false := fun h1 h2 => nmL_end h1 (by rw [hc]; exact h2)
      have hsucc : lastB s.data.toList (k + 1) = c := by rw [lastB_succ hlt, hc]
      clear hc hn hlast
      generalize lastB s.data.toList k = d at hrel hix1 hl0
      generalize hr : nmL (lastB s.data.toList (k + 1)) (s.data.toList.drop (k + 1)) = r at hrel hend
      repeat' (first |(refine guardYes (by assumption) ?_) |(refine guardYes rfl ?_) |(refine guardNo rfl ?_) |(refine guardNo (by assumption) ?_) |(refine And.intro (by omega) ?_) |(refine ⟨_, _, rfl, rfl, _, rfl, rfl, ?_⟩) |(refine ⟨_, _, rfl, rfl, _, hix, rfl, ?_⟩) |(refine ⟨_, _, rfl, rfl, _, hix1 (by rcases Nat.eq_zero_or_pos k with h0 | h0; (exfalso; simp_all); exact h0), rfl, ?_⟩) |(refine ⟨fun h => ?_, fun h => ?_⟩) |fail)
      all_goals first
        | (refine ⟨k + 1, ⟨hlt, ?_, fun h1 => by rw [hsucc]; clear hix hix1 hr hsucc; simp at *; omega⟩, (by dsimp only; omega), Weaker.to 0 rfl ⟨rfl, i64c (by simp), trivial⟩ (Nat.le_refl _) rfl rfl⟩
           rw [hr]
           first
             | rw [hrel, if_pos (by simp at *; omega)]
             | rw [hrel, if_neg (by simp at *; omega), if_neg (by simp at *; omega)])
        | (refine ⟨[_], ⟨Fz.deep rfl, trivial⟩, bbc ?_⟩
           rw [hrel, if_neg (by simp at *; omega)]
           split
           · rfl
           · exact (hend (by simp at *; omega) (by simp at *; omega)).symm)
    · skip
      refine ⟨[_], ⟨Fz.deep rfl, trivial⟩, bbc ?_⟩
      have : k = s.data.toList.length := by rw [decide_eq_false_iff_not] at h; omega
      rw [hrel, this, List.drop_length]
      have := hlast this
      rw [‹k = s.data.toList.length›] at this
      unfold nmL
      simp only [ne_eq, this, not_false_eq_true, decide_true]
end Go.Proofs.Ytmkaeohmdcoanaa
open Go Go.RM
namespace Go.Proofs.Ytmkaeohmdcoanaa
set_option maxRecDepth 100000
def freshErr (name : ByteArray) (names : List ByteArray) : Int := if nameB name = false then 6 else if names.any (fun x => sEq x name) then 5 else 0
theorem fresh_c (one : Bool) (names : List ByteArray) (full : Bool) (s : ByteArray) (hs : s.data.toList.length ≤ maxLen) (hl : names.length ≤ maxLen) : Pu one 93 [ST s, .sl (names.map eS) full] (I64 (freshErr s names)) := by
  have hg := idxF_ge (fun x => sEq x s) names
  have hc := place_c one names full s hl
  unfold freshErr
  generalize idxF (fun x => sEq x s) names = i at hg hc
  generalize names.any (fun x => sEq x s) = b at hg
  refine PureV.body (fn := Try.f93) rfl rfl rfl rfl ?_
  refine wpC_sound (mu := fun _ => false) ?_
  repeat' (first |with_reducible (first|refine wpC_skip ?_|refine wpC_seq ?_|refine wpC_ops ?_|refine seqQ_normal ?_) |(refine PureV.call (rname_c one _ hs) rfl rfl ?_) |(refine PureV.call hc rfl rfl ?_) |(refine ⟨fun h => ?_, fun h => ?_⟩) |fail)
  all_goals refine ⟨[_], ⟨Fz.deep rfl, trivial⟩, i64c ?_⟩
  all_goals simp_all
def rangeErr (lo hi : Int) (s : Span) : Int := if !inB s.lo lo hi || !inB s.hi lo hi then 7 else if s.hi < s.lo then 2 else 0
def spreadErr (lo hi : Int) (l : List Span) : Int := if l.any (fun s => !inB s.lo lo hi || !inB s.hi lo hi) then 7 else if l.any (fun s => decide (s.hi < s.lo)) then 2 else 0
theorem spread_c (one : Bool) (l : List Span) (full : Bool) (lo hi : Int) (hl : l.length ≤ maxLen) : Pu one 112 [.sl (l.map eSpan) full, I64 lo, I64 hi] (I64 (spreadErr lo hi l)) := by
  unfold maxLen at hl
  refine PureV.body (fn := Try.f112) rfl rfl rfl rfl ?_
  refine wpC_sound (mu := fun _ => false) ?_
  repeat' (first |with_reducible (first|refine wpC_seq ?_|refine wpC_ops ?_) |fail)
  refine SemC.weaker (Weaker.to (l := [(0, .sl (l.map eSpan) full), (1, I64 lo), (2, I64 hi), (7, I64 0), (8, I64 ((0 : Nat) : Int))]) 0 rfl ⟨rfl, rfl, rfl, rfl, rfl, trivial⟩ (Nat.le_refl _) rfl rfl) ?_
  refine SemC.loop (fun k : Nat => k ≤ l.length ∧ (l.take k).any (fun s => !inB s.lo lo hi || !inB s.hi lo hi) = false) (fun k => ⟨mkFr [(0, .sl (l.map eSpan) full), (1, I64 lo), (2, I64 hi), (7, I64 (if (l.take k).any (fun s => decide (s.hi < s.lo)) then 2 else 0)), (8, I64 (k : Int))], [], Amb.none, false, 0⟩) (fun k => l.length - k) ?_ 0 ⟨Nat.zero_le _, rfl⟩
  intro k ⟨hk, hprev⟩
  refine wpC_sound (mu := fun _ => false) ?_
  repeat' (first |with_reducible (first|refine wpC_seq ?_|refine wpC_ops ?_) |fail)
  refine ⟨fun h => ?_, fun h => ?_⟩
  · have hlt : k < l.length := by simpa using h
    have htake : l.take (k + 1) = l.take k ++ [l[k]] := by rw [List.take_add_one, List.getElem?_eq_getElem hlt]; rfl
    repeat' (first |with_reducible (first|refine wpC_skip ?_|refine wpC_seq ?_|refine wpC_block ?_|refine wpC_draw ?_|refine wpC_ops ?_|refine seqQ_normal ?_) |(refine ⟨_, rfl, ?_⟩) |(refine guardYes (by assumption) ?_) |(refine guardYes rfl ?_) |(refine guardNo (by assumption) ?_) |(refine ⟨_, _, rfl, by decide, ?_⟩) |(refine And.intro (by omega) ?_) |(refine And.intro (by kernel_rfl) ?_) |(refine ⟨eSpan l[k], ⟨by omega, map_at hlt⟩, rfl, ?_⟩) |(refine PureV.call (in130_c one _ _ _) rfl rfl ?_) |(refine ⟨fun h => ?_, fun h => ?_⟩) |fail)
    all_goals first
      | (refine ⟨[_], ⟨Fz.deep rfl, trivial⟩, i64c ?_⟩
         have : l.any (fun s => !inB s.lo lo hi || !inB s.hi lo hi) = true := by
           rw [List.any_eq_true]
           exact ⟨l[k], List.getElem_mem hlt, by simp_all⟩
         simp only [spreadErr, this]
         rfl)
      | (refine ⟨k + 1, ⟨hlt, by rw [htake, List.any_append, hprev]; simp_all⟩, (by dsimp only; omega), Weaker.to 0 rfl ⟨rfl, rfl, rfl, i64c ?_, i64c (by simp), trivial⟩ (Nat.le_refl _) rfl rfl⟩
         rw [htake, List.any_append]
         generalize (l.take k).any (fun s => decide (s.hi < s.lo)) = b
         cases b <;> simp_all)
  · skip
    refine ⟨[_], ⟨Fz.deep rfl, trivial⟩, i64c ?_⟩
    have : k = l.length := by simp at h; omega
    subst this
    rw [List.take_length] at hprev ⊢
    simp only [spreadErr, hprev]
    rfl
theorem spread_one {lo hi : Int} {s : Span} : spreadErr lo hi [s] = rangeErr lo hi s := by
  simp [spreadErr, rangeErr]
theorem range_c (one : Bool) (s : Span) (lo hi : Int) : Pu one 86 [.ag (eSpan s), I64 lo, I64 hi] (I64 (rangeErr lo hi s)) := by
  rw [← spread_one]
  refine PureV.body (fn := Try.f86) rfl rfl rfl rfl ?_
  refine wpC_sound (mu := fun _ => false) ?_
  repeat' (first |with_reducible (first|refine wpC_seq ?_|refine wpC_ops ?_) |(refine ⟨rfl, rfl, rfl, ?_⟩) |(refine ⟨rfl, rfl, ?_⟩) |(refine And.intro (Nat.le_of_ble_eq_true rfl) ?_) |(refine PureV.call (spread_c one [s] true lo hi (Nat.le_of_ble_eq_true rfl)) rfl rfl ?_) |fail)
  exact ⟨[_], ⟨Fz.deep rfl, trivial⟩, rfl⟩
theorem outB_cons (lo hi n : Int) (l : List Int) : outB lo hi (n :: l) = (!inB n lo hi || outB lo hi l) := by
  rw [← outB_one]
  simp [outB]
theorem outB_nil (lo hi : Int) : outB lo hi [] = false := rfl
theorem kind_bools : ∀ o1 b1 o2 b2 o3 b3 r t : Bool,
    (if (o1 || r) || o2 || o3 || t then (7 : Int) else if b1 || b2 || b3 then 2 else 0) =
    (let a : Int := if o1 then 7 else if b1 then 2 else 0
     let b : Int := if o2 then 7 else if b2 then 2 else 0
     let c : Int := if o3 then 7 else if b3 then 2 else 0
     if a = 7 ∨ b = 7 ∨ c = 7 ∨ r = true ∨ t = true then 7 else if a ≠ 0 ∨ b ≠ 0 ∨ c ≠ 0 then 2 else 0) := by decide
theorem kindErr_eq (k : Kind) (names : List ByteArray) : kindErr k names = if freshErr k.name names ≠ 0 then freshErr k.name names else
    if rangeErr 0 300 k.first = 7 ∨ rangeErr 0 6 k.man = 7 ∨ rangeErr 0 12 k.ship = 7 ∨ (!inB k.room 0 300) = true ∨ (!inB k.ration 0 1000) = true then 7
    else if rangeErr 0 300 k.first ≠ 0 ∨ rangeErr 0 6 k.man ≠ 0 ∨ rangeErr 0 12 k.ship ≠ 0 then 2 else 0 := by
  have h := kind_bools (!inB k.first.lo 0 300 || !inB k.first.hi 0 300) (decide (k.first.hi < k.first.lo)) (!inB k.man.lo 0 6 || !inB k.man.hi 0 6) (decide (k.man.hi < k.man.lo)) (!inB k.ship.lo 0 12 || !inB k.ship.hi 0 12) (decide (k.ship.hi < k.ship.lo)) (!inB k.room 0 300) (!inB k.ration 0 1000)
  simp only [decide_eq_true_eq] at h
  unfold rangeErr
  rw [← h]
  unfold kindErr freshErr
  simp only [outB_cons, outB_nil, Bool.or_false, Bool.or_assoc]
  by_cases h1 : nameB k.name = false
  · simp [h1]
  · by_cases h2 : (names.any fun x => sEq x k.name) = true
    · simp [h1, h2]
    · simp only [h1, h2]
      simp
theorem rkind_c (one : Bool) (k : Kind) (names : List ByteArray) (full : Bool) (hk : k.name.data.toList.length ≤ maxLen) (ho : names.length ≤ maxLen) : Pu one 59 [.ag (eKind k), .sl (names.map eS) full] (I64 (kindErr k names)) := by
  rw [kindErr_eq]
  have c1 := fresh_c one names full k.name hk ho
  have c2 := range_c one k.first 0 300
  have c3 := range_c one k.man 0 6
  have c4 := range_c one k.ship 0 12
  generalize freshErr k.name names = e at c1 ⊢
  generalize rangeErr 0 300 k.first = a at c2 ⊢
  generalize rangeErr 0 6 k.man = b at c3 ⊢
  generalize rangeErr 0 12 k.ship = c at c4 ⊢
  refine PureV.body (fn := Try.f59) rfl rfl rfl rfl ?_
  refine wpC_sound (mu := fun _ => false) ?_
  repeat' (first |with_reducible (first|refine wpC_skip ?_|refine wpC_seq ?_|refine wpC_ops ?_|refine seqQ_normal ?_) |(refine ⟨_, rfl, ?_⟩) |(refine guardYes (by assumption) ?_) |(refine guardYes rfl ?_) |(refine guardNo rfl ?_) |(refine guardNo (by assumption) ?_) |(refine ⟨_, _, rfl, by decide, ?_⟩) |(refine ⟨rfl, rfl, rfl, ?_⟩) |(refine And.intro (Nat.le_of_ble_eq_true rfl) ?_) |(refine PureV.call (in58_c one _ _ _) rfl rfl ?_) |(refine PureV.call c1 rfl rfl ?_) |(refine PureV.call c2 rfl rfl ?_) |(refine PureV.call c3 rfl rfl ?_) |(refine PureV.call c4 rfl rfl ?_) |(refine ⟨fun h => ?_, fun h => ?_⟩) |fail)
  all_goals refine ⟨[_], ⟨Fz.deep rfl, trivial⟩, i64c ?_⟩
  all_goals simp_all
end Go.Proofs.Ytmkaeohmdcoanaa
open Go Go.RM
namespace Go.Proofs.Ytmkaeohmdcoanaa
set_option maxRecDepth 100000
def sizesBad (s : Stores) : Bool := outB 1 30 [(s.men.length : Int)] || outB 1 4 [(s.kinds.length : Int)] || decide (8 < (s.cargos.length : Int))
theorem chk_1 {s : Stores} (h : sizesBad s = true) : chk s = (1, 0, 3) := by
  unfold chk
  unfold sizesBad at h
  rw [if_pos h]
theorem chk_2 {s : Stores} (h : sizesBad s = false) {k : Nat} (hk : k < s.men.length) (hprev : ∀ i (h : i < s.men.length), i < k → outB 0 12 [s.men[i]] = false) (hp : outB 0 12 [s.men[k]] = true) : chk s = (1, (k : Int), 7) := by
  unfold chk
  unfold sizesBad at h
  rw [if_neg (by rw [h]; decide), idxF_here hk hprev hp]
  simp
def kErr (s : Stores) (i : Nat) : Int := match s.kinds[i]? with | some k => kindErr k ((s.kinds.take i).map (·.name)) | none => 0
def cErr (s : Stores) (i : Nat) : Int := match s.cargos[i]? with | some c => cargoErr s c | none => 0
theorem kErr_at {s : Stores} {i : Nat} (h : i < s.kinds.length) : kErr s i = kindErr s.kinds[i] ((s.kinds.take i).map (·.name)) := by
  unfold kErr
  rw [List.getElem?_eq_getElem h]
theorem cErr_at {s : Stores} {i : Nat} (h : i < s.cargos.length) : cErr s i = cargoErr s s.cargos[i] := by
  unfold cErr
  rw [List.getElem?_eq_getElem h]
theorem chk_men {s : Stores} (h : sizesBad s = false) (h1 : ∀ i (h : i < s.men.length), outB 0 12 [s.men[i]] = false) : chk s =
    if (firstN s.kinds.length (kErr s)).2 ≠ 0 then (2, (firstN s.kinds.length (kErr s)).1, (firstN s.kinds.length (kErr s)).2)
    else if (firstN s.cargos.length (cErr s)).2 ≠ 0 then (3, (firstN s.cargos.length (cErr s)).1, (firstN s.cargos.length (cErr s)).2) else (0, 0, 0) := by
  unfold chk
  unfold sizesBad at h
  rw [if_neg (by rw [h]; decide), idxF_none h1]
  rfl
theorem chk_3 {s : Stores} (h : sizesBad s = false) (h1 : ∀ i (h : i < s.men.length), outB 0 12 [s.men[i]] = false) {k : Nat} (hk : k < s.kinds.length) (hprev : ∀ i, i < k → kErr s i = 0) (hp : kErr s k ≠ 0) : chk s = (2, (k : Int), kErr s k) := by
  rw [chk_men h h1, firstN_here hk hprev hp, if_pos hp]
theorem chk_4 {s : Stores} (h : sizesBad s = false) (h1 : ∀ i (h : i < s.men.length), outB 0 12 [s.men[i]] = false) (h2 : ∀ i, i < s.kinds.length → kErr s i = 0) {k : Nat} (hk : k < s.cargos.length) (hprev : ∀ i, i < k → cErr s i = 0) (hp : cErr s k ≠ 0) : chk s = (3, (k : Int), cErr s k) := by
  rw [chk_men h h1, firstN_none h2, firstN_here hk hprev hp, if_neg (by simp), if_pos hp]
theorem chk_5 {s : Stores} (h : sizesBad s = false) (h1 : ∀ i (h : i < s.men.length), outB 0 12 [s.men[i]] = false) (h2 : ∀ i, i < s.kinds.length → kErr s i = 0) (h3 : ∀ i, i < s.cargos.length → cErr s i = 0) : chk s = (0, 0, 0) := by
  rw [chk_men h h1, firstN_none h2, firstN_none h3, if_neg (by simp), if_neg (by simp)]
theorem sizes_ok {s : Stores} (h : sizesBad s = false) : (1 ≤ s.men.length ∧ s.men.length ≤ 30) ∧ (1 ≤ s.kinds.length ∧ s.kinds.length ≤ 4) ∧ s.cargos.length ≤ 8 := by
  unfold sizesBad at h
  simp only [outB_one, Bool.or_eq_false_iff, Bool.not_eq_false', inB_iff, decide_eq_false_iff_not] at h
  omega
def namesV : Nat → AV
  | 0 => .fl (.slice none 0 0)
  | k + 1 => .osl 0 k 0 (k + 1) (k + 2)
def namesB (s : Stores) : Nat → List AB
  | 0 => []
  | k + 1 => [.cells ((s.kinds.take (k + 1)).map fun x => ST x.name) 1 k]
theorem namesB_inb (s : Stores) (k : Nat) : (namesB s k).all (AB.inb 1) = true := by
  cases k with
  | zero => rfl
  | succ k =>
    simp only [namesB, List.all_cons, List.all_nil, Bool.and_true, AB.inb]
    induction s.kinds.take (k + 1) with
    | nil => rfl
    | cons a l ih => exact ih
theorem names_take (s : Stores) {k : Nat} (h : k < s.kinds.length) : (s.kinds.take (k + 1)).map (fun x => ST x.name) = (s.kinds.take k).map (fun x => ST x.name) ++ [ST s.kinds[k].name] := by
  rw [List.take_add_one, List.getElem?_eq_getElem h, List.map_append]
  rfl
theorem flat_names (l : List Kind) : ((l.map (·.name)).map eS).flatten = l.map (fun x => ST x.name) := by
  induction l with
  | nil => rfl
  | cons a l ih =>
    simp only [List.map_cons, List.flatten_cons, ih]
    rfl
theorem deepL_names (l : List Kind) : deepL (l.map (fun x => ST x.name)) = true := by
  induction l with
  | nil => rfl
  | cons a l ih => exact ih
theorem names_row (l : List Kind) {n v c : Nat} (h : l.length = n) : Fz [.cells (l.map fun x => ST x.name) 1 v] (.osl 0 v 0 n c) (.sl ((l.map (·.name)).map eS) false) :=
  Fz.row (es := 1) rfl (by simp; omega) (by simp; omega) (fun el hel => by obtain ⟨x, _, rfl⟩ := List.mem_map.1 hel; rfl) (by rw [flat_names, List.drop_zero, List.take_of_length_le (by simp; omega)]) (by rw [flat_names]; exact deepL_names _) (fun h => Bool.noConfusion h)
theorem rcheck_c (s : Stores) (h : s.Ok) (one : Bool) : Pu one 18 [.ag (eStores s)] (.tp [I64 (chk s).1, I64 (chk s).2.1, I64 (chk s).2.2]) := by
  have hm := h.men
  have hk := h.kinds
  have hc := h.cargos
  have hnm := h.names
  have em : ((s.men.map eI).length : Int) = s.men.length := by simp
  have ek : ((s.kinds.map eKind).length : Int) = s.kinds.length := by simp
  have ec : ((s.cargos.map eCargo).length : Int) = s.cargos.length := by simp
  unfold maxLen at hm hk hc
  refine PureV.body (fn := Try.f18) rfl rfl rfl rfl ?_
  refine wpC_sound (mu := fun t => Nat.beq t 66) ?_
  repeat' (first |with_reducible (first|refine wpC_skip ?_|refine wpC_seq ?_|refine wpC_ops ?_|refine seqQ_normal ?_) |(refine ⟨_, rfl, ?_⟩) |(refine guardYes (by assumption) ?_) |(refine guardYes rfl ?_) |(refine guardNo rfl ?_) |(refine guardNo (by assumption) ?_) |(refine ⟨_, _, rfl, by decide, ?_⟩) |(refine ⟨rfl, rfl, rfl, ?_⟩) |(refine PureV.call (in58_c one _ _ _) rfl rfl ?_) |(refine ⟨fun h => ?_, fun h => ?_⟩) |fail)
  all_goals first
    | (have hb : sizesBad s = true := by
         unfold sizesBad
         simp only [outB_one]
         simp_all
       rw [chk_1 hb]
       exact ⟨[_, _, _], ⟨Fz.deep rfl, Fz.deep rfl, Fz.deep rfl, trivial⟩, rfl⟩)
    | skip
  have hb : sizesBad s = false := by
    unfold sizesBad
    simp only [outB_one]
    simp_all
  obtain ⟨⟨m1, m2⟩, ⟨k1, k2⟩, c1⟩ := sizes_ok hb
  skip
  refine SemC.weaker (Weaker.to (l := [(1, .pt (eStores s) 0), (5, I64 ((0 : Nat) : Int))]) 0 rfl ⟨rfl, rfl, trivial⟩ (Nat.le_refl _) rfl rfl) ?_
  refine SemC.loop (fun k : Nat => k ≤ s.men.length ∧ ∀ i (h : i < s.men.length), i < k → outB 0 12 [s.men[i]] = false) (fun k => ⟨mkFr [(1, .pt (eStores s) 0), (5, I64 (k : Int))], [], Amb.none, false, 0⟩) (fun k => s.men.length - k) ?_ 0 ⟨Nat.zero_le _, fun i _ hi => absurd hi (by omega)⟩
  intro k ⟨hk', hprev⟩
  refine wpC_sound (mu := fun t => Nat.beq t 66) ?_
  repeat' (first |with_reducible (first|refine wpC_seq ?_|refine wpC_ops ?_) |(refine ⟨_, rfl, ?_⟩) |(refine ⟨_, _, rfl, by decide, ?_⟩) |fail)
  refine ⟨fun h => ?_, fun h => ?_⟩
  · have hlt : k < s.men.length := by simpa using h
    repeat' (first |with_reducible (first|refine wpC_skip ?_|refine wpC_seq ?_|refine wpC_block ?_|refine wpC_ops ?_|refine seqQ_normal ?_) |(refine ⟨_, rfl, ?_⟩) |(refine ⟨_, _, rfl, by decide, ?_⟩) |(refine ⟨eI s.men[k], ⟨by omega, map_at hlt⟩, rfl, ?_⟩) |(refine PureV.call (in58_c one _ _ _) rfl rfl ?_) |fail)
    refine ⟨fun h2 => ?_, fun h2 => ?_⟩
    · repeat' (first |with_reducible (first|refine wpC_seq ?_|refine wpC_ops ?_) |fail)
      refine ⟨[_, _, _], ⟨Fz.deep rfl, Fz.deep rfl, Fz.deep rfl, trivial⟩, ?_⟩
      rw [chk_2 hb hlt hprev (by rw [outB_one]; exact h2)]; rfl
    · repeat' (first |with_reducible refine wpC_skip ?_ |(refine And.intro (by omega) ?_) |fail)
      refine ⟨k + 1, ⟨hlt, fun i hi hik => ?_⟩, (by dsimp only; omega), Weaker.to 0 rfl ⟨rfl, i64c (by simp), trivial⟩ (Nat.le_refl _) rfl rfl⟩
      by_cases hik' : i = k
      · subst hik'; rw [outB_one]; exact h2
      · exact hprev i hi (by omega)
  have hmen : ∀ i (h : i < s.men.length), outB 0 12 [s.men[i]] = false := fun i hi => hprev i hi (by simp at h; omega)
  clear hprev h
  skip
  refine SemC.weaker (Weaker.to (l := [(1, .pt (eStores s) 0), (6, namesV 0), (7, I64 ((0 : Nat) : Int))]) 0 rfl ⟨rfl, rfl, rfl, trivial⟩ (Nat.le_refl _) rfl rfl) ?_
  refine SemC.loop (fun k : Nat => k ≤ s.kinds.length ∧ ∀ i, i < k → kErr s i = 0) (fun k => ⟨mkFr [(1, .pt (eStores s) 0), (6, namesV k), (7, I64 (k : Int))], namesB s k, Amb.none, false, 0⟩) (fun k => s.kinds.length - k) ?_ 0 ⟨Nat.zero_le _, fun i hi => absurd hi (by omega)⟩
  intro k ⟨hk', hprev⟩
  cases k with
  | zero =>
    refine wpC_sound (mu := fun t => Nat.beq t 66) ?_
    repeat' (first |with_reducible (first|refine wpC_seq ?_|refine wpC_ops ?_) |(refine ⟨_, rfl, ?_⟩) |(refine ⟨_, _, rfl, by decide, ?_⟩) |fail)
    refine ⟨fun h => ?_, fun h => ?_⟩
    · have hlt : 0 < s.kinds.length := k1
      have hce := kErr_at hlt
      repeat' (first |with_reducible (first|refine wpC_skip ?_|refine wpC_seq ?_|refine wpC_block ?_|refine wpC_ops ?_|refine seqQ_normal ?_) |(refine ⟨_, rfl, ?_⟩) |(refine ⟨_, _, rfl, by decide, ?_⟩) |(refine ⟨rfl, rfl, rfl, ?_⟩) |(refine And.intro (Nat.le_of_ble_eq_true rfl) ?_) |(refine ⟨eKind s.kinds[0], ⟨by omega, map_at hlt⟩, rfl, ?_⟩) |(refine PureV.lend (rkind_c one s.kinds[0] [] false (hnm _ (List.getElem_mem _)) (Nat.zero_le _)) rfl (FzL.two (Fz.deep rfl) Fz.nil) (Free.fl _) ?_) |fail)
      refine ⟨[eS s.kinds[0].name], ⟨fun el hel => by rw [List.mem_singleton.1 hel]; rfl, rfl⟩, rfl, And.intro (Nat.le_of_ble_eq_true rfl) (Nat.le_of_ble_eq_true rfl), fun hn => absurd hn (by simp), fun _ => ?_⟩
      rw [show kindErr s.kinds[0] [] = kErr s 0 from by rw [hce]; rfl]
      skip
      refine ⟨fun h2 => ?_, fun h2 => ?_⟩
      · have h2 : kErr s 0 ≠ 0 := by simpa using h2
        repeat' (first |with_reducible (first|refine wpC_seq ?_|refine wpC_ops ?_) |fail)
        refine ⟨[_, _, _], ⟨Fz.deep rfl, Fz.deep rfl, Fz.deep rfl, trivial⟩, ?_⟩
        rw [chk_3 hb hmen hlt hprev h2]; rfl
      · have h2 : kErr s 0 = 0 := by simpa using h2
        repeat' (first |with_reducible refine wpC_skip ?_ |(refine And.intro (by omega) ?_) |fail)
        refine ⟨1, ⟨hlt, fun i hi => ?_⟩, (by dsimp only; omega), Weaker.to 1 ?_ ⟨rfl, rfl, rfl, trivial⟩ (Nat.zero_le _) rfl (namesB_inb s 1)⟩
        · rw [show i = 0 from by omega]; exact h2
        · show [AB.cells [ST s.kinds[0].name] 1 0] = [AB.cells ((s.kinds.take 1).map fun x => ST x.name) 1 0]
          rw [names_take s hlt]
          rfl
    · exact absurd h (by simp only [ek, decide_eq_false_iff_not]; omega)
  | succ k =>
    have hlen : ((s.kinds.take (k + 1)).map fun x => ST x.name).length = k + 1 := by simp; omega
    refine wpC_sound (mu := fun t => Nat.beq t 66) ?_
    repeat' (first |with_reducible (first|refine wpC_seq ?_|refine wpC_ops ?_) |(refine ⟨_, rfl, ?_⟩) |(refine ⟨_, _, rfl, by decide, ?_⟩) |fail)
    refine ⟨fun h => ?_, fun h => ?_⟩
    · have hlt : k + 1 < s.kinds.length := by simpa only [ek, decide_eq_true_eq, Int.ofNat_lt] using h
      have hce := kErr_at hlt
      have hz : FzL (namesB s (k + 1)) [.ag (eKind s.kinds[k + 1]), namesV (k + 1)] [.ag (eKind s.kinds[k + 1]), .sl (((s.kinds.take (k + 1)).map (·.name)).map eS) false] :=
        FzL.two (Fz.deep rfl) (names_row _ (by simp; omega))
      repeat' (first |with_reducible (first|refine wpC_skip ?_|refine wpC_seq ?_|refine wpC_block ?_|refine wpC_ops ?_|refine seqQ_normal ?_) |(refine ⟨_, rfl, ?_⟩) |(refine ⟨_, _, rfl, by decide, ?_⟩) |(refine ⟨rfl, rfl, rfl, ?_⟩) |(refine And.intro (Nat.le_of_ble_eq_true rfl) ?_) |(refine ⟨eKind s.kinds[k + 1], ⟨by omega, map_at hlt⟩, rfl, ?_⟩) |(refine PureV.lend (rkind_c one s.kinds[k + 1] ((s.kinds.take (k + 1)).map (·.name)) false (hnm _ (List.getElem_mem _)) (by simp; unfold maxLen; omega)) rfl hz (Free.fl _) ?_) |fail)
      refine ⟨[eS s.kinds[k + 1].name], ⟨fun el hel => by rw [List.mem_singleton.1 hel]; rfl, rfl⟩, rfl, _, rfl, by rw [Nat.mul_one]; exact hlen, Or.inr rfl, And.intro (by dsimp only [List.length]; omega) (by dsimp only [List.length]; omega), fun hn => absurd hn (by simp), fun _ => ?_⟩
      rw [← hce]
      skip
      refine ⟨fun h2 => ?_, fun h2 => ?_⟩
      · have h2 : kErr s (k + 1) ≠ 0 := by simpa using h2
        repeat' (first |with_reducible (first|refine wpC_seq ?_|refine wpC_ops ?_) |fail)
        refine ⟨[_, _, _], ⟨Fz.deep rfl, Fz.deep rfl, Fz.deep rfl, trivial⟩, ?_⟩
        rw [chk_3 hb hmen hlt hprev h2]; rfl
      · have h2 : kErr s (k + 1) = 0 := by simpa using h2
        repeat' (first |with_reducible refine wpC_skip ?_ |(refine And.intro (by omega) ?_) |fail)
        refine ⟨k + 2, ⟨hlt, fun i hi => ?_⟩, (by dsimp only; omega), Weaker.to 1 ?_ ⟨rfl, rfl, i64c (by simp; omega), trivial⟩ (Nat.zero_le _) rfl (namesB_inb s (k + 2))⟩
        · by_cases hik : i = k + 1
          · rw [hik]; exact h2
          · exact hprev i (by omega)
        · show [AB.cells (((s.kinds.take (k + 1)).map fun x => ST x.name) ++ [ST s.kinds[k + 1].name]) 1 (k + 1)] = [AB.cells ((s.kinds.take (k + 2)).map fun x => ST x.name) 1 (k + 1)]
          rw [names_take s hlt]
    · have hkin : ∀ i, i < s.kinds.length → kErr s i = 0 := fun i hi => hprev i (by simp only [ek, decide_eq_false_iff_not] at h; omega)
      clear hprev h
      skip
      refine SemC.weaker (Weaker.to (l := [(1, .pt (eStores s) 0), (9, I64 ((0 : Nat) : Int))]) 0 rfl ⟨rfl, rfl, trivial⟩ (Nat.le_refl _) rfl rfl) ?_
      refine SemC.loop (fun k : Nat => k ≤ s.cargos.length ∧ ∀ i, i < k → cErr s i = 0) (fun k => ⟨mkFr [(1, .pt (eStores s) 0), (9, I64 (k : Int))], [], Amb.none, false, 0⟩) (fun k => s.cargos.length - k) ?_ 0 ⟨Nat.zero_le _, fun i hi => absurd hi (by omega)⟩
      intro k ⟨hk', hprev⟩
      refine wpC_sound (mu := fun t => Nat.beq t 66) ?_
      repeat' (first |with_reducible (first|refine wpC_seq ?_|refine wpC_ops ?_) |(refine ⟨_, rfl, ?_⟩) |(refine ⟨_, _, rfl, by decide, ?_⟩) |fail)
      refine ⟨fun h => ?_, fun h => ?_⟩
      · have hlt : k < s.cargos.length := by simpa only [ec, decide_eq_true_eq, Int.ofNat_lt] using h
        have hce := cErr_at hlt
        unfold cargoErr at hce
        simp only [outB_one] at hce
        repeat' (first |with_reducible (first|refine wpC_skip ?_|refine wpC_seq ?_|refine wpC_block ?_|refine wpC_ops ?_|refine seqQ_normal ?_) |(refine ⟨_, rfl, ?_⟩) |(refine guardYes (by assumption) ?_) |(refine guardYes rfl ?_) |(refine guardNo (by assumption) ?_) |(refine ⟨_, _, rfl, by decide, ?_⟩) |(refine ⟨_, _, rfl, _, rfl, ?_⟩) |(refine And.intro (Nat.le_of_ble_eq_true rfl) ?_) |(refine And.intro (by omega) ?_) |(refine And.intro (by kernel_rfl) ?_) |(refine ⟨eCargo s.cargos[k], ⟨by omega, map_at hlt⟩, rfl, ?_⟩) |(refine PureV.call (in58_c one _ _ _) rfl rfl ?_) |(refine ⟨_, _, rfl, rfl, rfl, rfl, Nat.le_of_ble_eq_true rfl, ?_⟩) |(refine ⟨fun h => ?_, fun h => ?_⟩) |fail)
        all_goals first
          | (refine ⟨[_, _, _], ⟨Fz.deep rfl, Fz.deep rfl, Fz.deep rfl, trivial⟩, ?_⟩
             first
               | (have hp : cErr s k = 4 := by rw [hce]; simp_all
                  rw [chk_4 hb hmen hkin hlt hprev (by rw [hp]; decide), hp]; rfl)
               | (have hp : cErr s k = 7 := by rw [hce]; simp_all
                  rw [chk_4 hb hmen hkin hlt hprev (by rw [hp]; decide), hp]; rfl))
          | (have hp : cErr s k = 0 := by rw [hce]; simp_all
             refine ⟨k + 1, ⟨hlt, fun i hi => ?_⟩, (by dsimp only; omega), Weaker.to 0 rfl ⟨rfl, i64c (by simp), trivial⟩ (Nat.le_refl _) rfl rfl⟩
             by_cases hik : i = k
             · rw [hik]; exact hp
             · exact hprev i (by omega))
      · skip
        refine ⟨[_, _, _], ⟨Fz.deep rfl, Fz.deep rfl, Fz.deep rfl, trivial⟩, ?_⟩
        rw [chk_5 hb hmen hkin fun i hi => hprev i (by simp only [ec, decide_eq_false_iff_not] at h; omega)]; rfl
end Go.Proofs.Ytmkaeohmdcoanaa
open Go Go.RM
namespace Go.Proofs.Ytmkaeohmdcoanaa
set_option maxRecDepth 100000
def addCargo (k : Int) (l : List Int) (c : Cargo) : List Int := if c.kind = k then l.set c.day.toNat (l.getD c.day.toNat 0 + c.amount) else l
def cargoRow (k : Int) (cs : List Cargo) : List Int := cs.foldl (addCargo k) (List.replicate 30 0)
theorem addCargo_length {k : Int} {l : List Int} {c : Cargo} : (addCargo k l c).length = l.length := by
  unfold addCargo
  split <;> simp
theorem cargoRow_snoc (k : Int) (cs : List Cargo) (c : Cargo) : cargoRow k (cs ++ [c]) = addCargo k (cargoRow k cs) c := by
  simp [cargoRow]
structure RowOk (n : Nat) (l : List Int) : Prop where
  len : l.length = 30
  bnd : ∀ x ∈ l, 0 ≤ x ∧ x ≤ 300 * n
theorem RowOk.zero {k : Int} : RowOk 0 (cargoRow k []) := ⟨by simp [cargoRow], fun x hx => by simp [cargoRow] at hx; omega⟩
theorem RowOk.get {n : Nat} {l : List Int} (h : RowOk n l) {d : Nat} (hd : d < 30) : 0 ≤ l.getD d 0 ∧ l.getD d 0 ≤ 300 * n := by
  have : d < l.length := by rw [h.len]; exact hd
  rw [List.getD_eq_getElem?_getD, List.getElem?_eq_getElem this]
  exact h.bnd _ (List.getElem_mem _)
theorem RowOk.add {n : Nat} {l : List Int} (h : RowOk n l) {k : Int} {c : Cargo} (hd : 0 ≤ c.day ∧ c.day < 30) (ha : 0 ≤ c.amount ∧ c.amount ≤ 300) : RowOk (n + 1) (addCargo k l c) := by
  refine ⟨by rw [addCargo_length]; exact h.len, fun x hx => ?_⟩
  unfold addCargo at hx
  split at hx
  · rcases List.mem_or_eq_of_mem_set hx with hx | rfl
    · have := h.bnd x hx; omega
    · have := h.get (d := c.day.toNat) (by omega); omega
  · have := h.bnd x hx; omega
theorem cargoRow_ok {k : Int} : ∀ {cs : List Cargo}, (∀ c ∈ cs, (0 ≤ c.day ∧ c.day < 30) ∧ 0 ≤ c.amount ∧ c.amount ≤ 300) → RowOk cs.length (cargoRow k cs) := by
  intro cs h
  have key : ∀ (cs : List Cargo) (l : List Int) (n : Nat), RowOk n l → (∀ c ∈ cs, (0 ≤ c.day ∧ c.day < 30) ∧ 0 ≤ c.amount ∧ c.amount ≤ 300) → RowOk (n + cs.length) (cs.foldl (addCargo k) l) := by
    intro cs
    induction cs with
    | nil => intro l n h _; exact h
    | cons c cs ih =>
      intro l n h1 h2
      have := ih _ (n + 1) (h1.add (k := k) (h2 c (by simp)).1 (h2 c (by simp)).2) (fun x hx => h2 x (List.mem_cons_of_mem _ hx))
      rw [List.foldl_cons, List.length_cons, show n + (cs.length + 1) = n + 1 + cs.length from by omega]
      exact this
  have := key cs _ 0 (RowOk.zero (k := k)) h
  rwa [Nat.zero_add] at this
noncomputable def z109 : List AV := match TT.ty.get 109 with | some ⟨_, _, _, some z, _, _, _⟩ => z.cells.toList.map .fl | _ => []
abbrev eC (n : Int) : AV := I64 n
def preH (s : Stores) (k : Kind) : List AV := eStores s ++ eKind k
abbrev nilV : AV := .fl (.slice none 0 0)
abbrev eHoldV (s : Stores) (k : Kind) (row : List Int) (c : AV) : List AV := preH s k ++ (row.map eC ++ [c])
theorem inbL_append {n : Nat} {a b : List AV} (h : inbL n a = true) (k : inbL n b = true) : inbL n (a ++ b) = true := by
  induction a with
  | nil => exact k
  | cons x a ih =>
    simp only [inbL, Bool.and_eq_true] at h
    simp only [List.cons_append, inbL, Bool.and_eq_true]
    exact ⟨h.1, ih h.2⟩
theorem deepL_append {a b : List AV} (h : deepL a = true) (k : deepL b = true) : deepL (a ++ b) = true := by
  induction a with
  | nil => exact k
  | cons x a ih =>
    simp only [deepL, Bool.and_eq_true] at h
    simp only [List.cons_append, deepL, Bool.and_eq_true]
    exact ⟨h.1, ih h.2⟩
theorem deepL_ints (l : List Int) : deepL (l.map eC) = true := by
  induction l with
  | nil => rfl
  | cons a l ih => exact ih
theorem eHold_deep {s : Stores} {k : Kind} {row : List Int} {c : AV} (h : c.deep = true) : (AV.ag (eHoldV s k row c)).deep = true :=
  deepL_append rfl (deepL_append (deepL_ints row) (by simp [deepL, h]))
theorem hold_len {s : Stores} {k : Kind} {row : List Int} {c : AV} (h : row.length = 30) : (eHoldV s k row c).length = 43 := by
  simp [eHoldV, preH, h]
theorem hold_get {s : Stores} {k : Kind} {row : List Int} {c : AV} {d : Nat} (h : d < row.length) : (eHoldV s k row c)[0 + 12 + d * 1]? = some (I64 (row.getD d 0)) := by
  rw [List.getElem?_append_right (by simp [preH]), List.getElem?_append_left (by simp [preH]; omega), List.getElem?_map]
  have e : 0 + 12 + d * 1 - (preH s k).length = d := by simp [preH]
  rw [e, List.getD_eq_getElem?_getD, List.getElem?_eq_getElem h]
  rfl
theorem hold_getc {s : Stores} {k : Kind} {row : List Int} {c : AV} (h : row.length = 30) : (eHoldV s k row c)[0 + 42]? = some c := by
  rw [List.getElem?_append_right (by simp [preH]), List.getElem?_append_right (by simp [preH, h])]
  have e : 0 + 42 - (preH s k).length - (row.map eC).length = 0 := by simp [preH, h]
  rw [e]
  rfl
theorem hold_putc {s : Stores} {k : Kind} {row : List Int} {c : AV} (h : row.length = 30) (x : AV) : spliceV (eHoldV s k row c) [x] (0 + 42) = eHoldV s k row x := by
  have e : (preH s k).length = 12 := by simp [preH]
  have h1 : spliceV (eHoldV s k row c) [x] (0 + 42) = (eHoldV s k row c).set (0 + 42) x := by
    rw [List.set_eq_take_append_cons_drop, if_pos (by simp [eHoldV, preH]; omega)]
    unfold spliceV
    simp
  rw [h1, List.set_append_right _ _ (by omega), List.set_append_right _ _ (by simp [e]; omega), e, List.length_map, h]
  rfl
theorem hold_put {s : Stores} {k : Kind} {row : List Int} {c : AV} {d : Nat} (h : d < row.length) (v : Int) : spliceV (eHoldV s k row c) [I64 v] (0 + 12 + d * 1) = eHoldV s k (row.set d v) c := by
  have e : (preH s k).length = 12 := by simp [preH]
  have h1 : spliceV (eHoldV s k row c) [I64 v] (0 + 12 + d * 1) = (eHoldV s k row c).set (0 + 12 + d * 1) (I64 v) := by
    rw [List.set_eq_take_append_cons_drop, if_pos (by simp [eHoldV, preH]; omega)]
    unfold spliceV
    simp
  rw [h1, List.set_append_right _ _ (by omega), List.set_append_left _ _ (by simp [e]; omega), e, show 0 + 12 + d * 1 - 12 = d from by omega]
  show _ = preH s k ++ ((row.set d v).map eC ++ [c])
  rw [List.map_set]
theorem hold_inb {s : Stores} {k : Kind} {row : List Int} {c : AV} {n : Nat} (h : c.inb n = true) : ([.cells z109 0 0, .cells (eHoldV s k row c) 0 0] : List AB).all (AB.inb n) = true := by
  have e : inbL n (eHoldV s k row c) = true := by
    refine inbL_append rfl (inbL_append ?_ (by simp [inbL, h]))
    induction row with
    | nil => rfl
    | cons a l ih => exact ih
  simp only [List.all_cons, AB.inb, e, List.all_nil, Bool.and_true]
  rfl
def cntB : List Count → List AB
  | [] => []
  | c :: l => [.cells (eCount c) 0 0, .cells ((c :: l).map eCount).flatten 4 l.length]
def cntV : List Count → AV
  | [] => nilV
  | _ :: l => .osl 3 l.length 0 (l.length + 1) (l.length + 2)
theorem deepL_counts (l : List Count) : deepL (l.map eCount).flatten = true := by
  induction l with
  | nil => rfl
  | cons a l ih => exact ih
theorem flat_counts_len (l : List Count) : (l.map eCount).flatten.length = l.length * 4 := by
  induction l with
  | nil => rfl
  | cons a l ih =>
    simp only [List.map_cons, List.flatten_cons, List.length_append, ih, List.length_cons, List.length_nil]
    omega
theorem inbL_counts (n : Nat) (l : List Count) : inbL n (l.map eCount).flatten = true := by
  induction l with
  | nil => rfl
  | cons a l ih => exact ih
theorem cntB_inb (n : Nat) (f : List Count) : (cntB f).all (AB.inb n) = true := by
  cases f with
  | nil => rfl
  | cons c l =>
    simp only [cntB, List.all_cons, AB.inb, inbL_counts, List.all_nil, Bool.and_true]
    rfl
theorem Fz.agSnoc {hp : List AB} {l : List AV} {x y : AV} (hl : deepL l = true) (h : Fz hp x y) : Fz hp (.ag (l ++ [x])) (.ag (l ++ [y])) := by
  refine Fz.ag (by simp) (fun i a b ha hb => ?_)
  by_cases hi : i < l.length
  · rw [List.getElem?_append_left hi] at ha hb
    rw [ha] at hb
    cases hb
    exact Fz.deep (deepL_get hl i a ha)
  · rw [List.getElem?_append_right (by omega)] at ha hb
    cases hii : i - l.length with
    | zero => rw [hii] at ha hb; cases ha; cases hb; exact h
    | succ n => rw [hii] at ha; cases ha
theorem cnt_fz (a b : AB) (f : List Count) : Fz (a :: b :: cntB f) (cntV f) (.sl (f.map eCount) false) := by
  cases f with
  | nil => exact Fz.nil
  | cons c l => exact Fz.row (es := 4) rfl (by rw [flat_counts_len]; simp) (by simp) (fun el hel => by obtain ⟨x, _, rfl⟩ := List.mem_map.1 hel; rfl) (by rw [List.drop_zero, List.take_of_length_le (by rw [flat_counts_len]; simp)]) (deepL_counts _) (fun h => Bool.noConfusion h)
theorem hp_inb {s : Stores} {k : Kind} {row : List Int} {f : List Count} : (.cells z109 0 0 :: .cells (eHoldV s k row (cntV f)) 0 0 :: cntB f : List AB).all (AB.inb 4) = true := by
  have h := hold_inb (s := s) (k := k) (row := row) (c := cntV f) (n := 4) (by cases f <;> rfl)
  simp only [List.all_cons, List.all_nil, Bool.and_true, Bool.and_eq_true] at h ⊢
  exact ⟨h.1, h.2, cntB_inb 4 f⟩
theorem cntV_snoc (c0 c : Count) (f : List Count) : cntV (c0 :: (f ++ [c])) = .osl 3 (f.length + 1) 0 (f.length + 1 + 1) (f.length + 1 + 1 + 1) := by simp [cntV]
theorem cntB_snoc (c0 c : Count) (f : List Count) : cntB (c0 :: (f ++ [c])) = [.cells (eCount c0) 0 0, .cells (((c0 :: f).map eCount).flatten ++ [eCount c].flatten) 4 (f.length + 1)] := by simp [cntB]
theorem hold_all {s : Stores} {k : Kind} {row : List Int} {c : AV} (h : row.length = 30) : List.take 43 (List.drop 0 (eHoldV s k row c)) = eHoldV s k row c := by
  rw [List.drop_zero, List.take_of_length_le (by rw [hold_len h]; omega)]
theorem hold_one {s : Stores} {k : Kind} {row : List Int} {f : List Count} : (AV.ag (eHoldV s k row (cntV f))).cells.all AV.one = true := by
  show (eHoldV s k row (cntV f)).all AV.one = true
  have h1 : (row.map eC).all AV.one = true := by
    induction row with
    | nil => rfl
    | cons a l ih => exact ih
  rw [List.all_append, List.all_append, h1]
  cases f <;> rfl
theorem hold_fz {s : Stores} {k : Kind} {row : List Int} {f : List Count} {a b : AB} : Fz (a :: b :: cntB f) (.ag (eHoldV s k row (cntV f))) (.ag (eHoldV s k row (.sl (f.map eCount) false))) := by
  have h : ∀ c : AV, eHoldV s k row c = (preH s k ++ row.map eC) ++ [c] := fun c => by simp [eHoldV]
  rw [h, h]
  exact Fz.agSnoc (deepL_append rfl (deepL_ints row)) (cnt_fz a b f)
theorem open_c (one : Bool) (s : Stores) (counts : List Count) (full : Bool) (i : Nat) (hi : i < s.kinds.length) (hc : ∀ c ∈ s.cargos, (0 ≤ c.day ∧ c.day < 30) ∧ 0 ≤ c.amount ∧ c.amount ≤ 300) (hl : s.cargos.length ≤ 9) (hn : counts.length ≤ 1000) :
    Pu one 60 [.ag (eStores s), .sl (counts.map eCount) full, I64 i] (.ag (eHoldV s s.kinds[i] (cargoRow i s.cargos) (.sl ((counts.filter (fun c => decide (c.kind = (i : Int)))).map eCount) false))) := by
  have ec : ((s.cargos.map eCargo).length : Int) = s.cargos.length := by simp
  have en : ((counts.map eCount).length : Int) = counts.length := by simp
  refine PureV.body (fn := Try.f60) rfl rfl rfl (eHold_deep rfl) ?_
  refine wpC_sound (mu := fun t => Nat.beq t 55) ?_
  repeat' (first |with_reducible (first|refine wpC_seq ?_|refine wpC_ops ?_) |(refine ⟨_, rfl, ?_⟩) |(refine ⟨_, _, rfl, by decide, ?_⟩) |(refine ⟨rfl, rfl, rfl, ?_⟩) |(refine And.intro (Nat.le_of_ble_eq_true rfl) ?_) |(refine And.intro (by kernel_rfl) ?_) |(refine ⟨eKind s.kinds[i], ⟨by omega, map_at hi⟩, rfl, ?_⟩) |fail)
  refine ⟨_, _, rfl, rfl, rfl, rfl, Nat.le_of_ble_eq_true rfl, ?_⟩
  repeat' (first |with_reducible (first|refine wpC_seq ?_|refine wpC_ops ?_|refine seqQ_normal ?_) |(refine ⟨_, rfl, ?_⟩) |(refine ⟨_, _, rfl, by decide, ?_⟩) |(refine And.intro (by kernel_rfl) ?_) |fail)
  refine SemC.weaker (Weaker.to (l := [(1, .sl (counts.map eCount) full), (2, I64 i), (6, .ptr 0 0 0), (7, .ptr 1 0 0), (20, .sl (s.cargos.map eCargo) false), (21, I64 s.cargos.length), (22, I64 ((0 : Nat) : Int))]) (hp := [.cells z109 0 0, .cells (eHoldV s s.kinds[i] (cargoRow i (s.cargos.take 0)) nilV) 0 0]) 2 rfl ⟨rfl, rfl, rfl, rfl, rfl, i64c ec, rfl, trivial⟩ (Nat.zero_le _) rfl rfl) ?_
  refine SemC.loop (fun j : Nat => j ≤ s.cargos.length) (fun j => ⟨mkFr [(1, .sl (counts.map eCount) full), (2, I64 i), (6, .ptr 0 0 0), (7, .ptr 1 0 0), (20, .sl (s.cargos.map eCargo) false), (21, I64 s.cargos.length), (22, I64 (j : Int))], [.cells z109 0 0, .cells (eHoldV s s.kinds[i] (cargoRow i (s.cargos.take j)) nilV) 0 0], Amb.none, false, 0⟩) (fun j => s.cargos.length - j) ?_ 0 (Nat.zero_le _)
  intro j hj
  have hrow : RowOk (s.cargos.take j).length (cargoRow i (s.cargos.take j)) := cargoRow_ok fun c hx => hc c (List.mem_of_mem_take hx)
  have hrl : (s.cargos.take j).length = j := by simp; omega
  rw [hrl] at hrow
  refine wpC_sound (mu := fun t => Nat.beq t 55) ?_
  repeat' (first |with_reducible (first|refine wpC_seq ?_|refine wpC_ops ?_) |fail)
  refine ⟨fun h => ?_, fun h => ?_⟩
  · have hlt : j < s.cargos.length := by simpa only [decide_eq_true_eq, Int.ofNat_lt] using h
    have hcj := hc s.cargos[j] (List.getElem_mem hlt)
    have hrow' : cargoRow i (s.cargos.take (j + 1)) = addCargo i (cargoRow i (s.cargos.take j)) s.cargos[j] := by
      rw [List.take_add_one, List.getElem?_eq_getElem hlt]
      exact cargoRow_snoc _ _ _
    generalize cargoRow i (s.cargos.take j) = row at hrow hrow' ⊢
    have hg := hrow.get (d := s.cargos[j].day.toNat) (by omega)
    repeat' (first |with_reducible (first|refine wpC_skip ?_|refine wpC_seq ?_|refine wpC_block ?_|refine wpC_ops ?_|refine seqQ_normal ?_) |(refine ⟨_, _, rfl, by decide, ?_⟩) |(refine ⟨_, _, rfl, _, rfl, ?_⟩) |(refine And.intro (Nat.le_of_ble_eq_true rfl) ?_) |(refine And.intro (by kernel_rfl) ?_) |(refine ⟨eCargo s.cargos[j], ⟨by omega, map_at hlt⟩, rfl, ?_⟩) |(refine ⟨_, _, rfl, rfl, rfl, rfl, Nat.le_of_ble_eq_true rfl, ?_⟩) |fail)
    refine ⟨fun h2 => ?_, fun h2 => ?_⟩
    · have hd : s.cargos[j].day.toNat < row.length := by rw [hrow.len]; omega
      repeat' (first |with_reducible refine wpC_draw ?_ |(refine ⟨_, rfl, ?_⟩) |(refine ⟨_, _, rfl, by decide, ?_⟩) |(refine ⟨_, _, rfl, _, rfl, ?_⟩) |(refine And.intro (by omega) ?_) |(refine And.intro (by kernel_rfl) ?_) |(refine ⟨_, _, rfl, I64 (row.getD s.cargos[j].day.toNat 0), hold_get hd, ?_⟩) |(refine ⟨_, _, rfl, rfl, rfl, rfl, by rw [hold_len hrow.len]; omega, ?_⟩) |fail)
      have h2 : s.cargos[j].kind = (i : Int) := by simpa using h2
      refine ⟨j + 1, hlt, (by dsimp only; omega), Weaker.to 2 ?_ ⟨rfl, rfl, rfl, rfl, rfl, rfl, i64c (by simp), trivial⟩ (Nat.zero_le _) rfl (hold_inb rfl)⟩
      rw [hrow', addCargo, if_pos h2, ← hold_put hd]
      rfl
    · have h2 : ¬ s.cargos[j].kind = (i : Int) := by simpa using h2
      repeat' (first |with_reducible refine wpC_skip ?_ |(refine And.intro (by omega) ?_) |fail)
      refine ⟨j + 1, hlt, (by dsimp only; omega), Weaker.to 2 ?_ ⟨rfl, rfl, rfl, rfl, rfl, rfl, i64c (by simp), trivial⟩ (Nat.zero_le _) rfl (hold_inb rfl)⟩
      rw [hrow', addCargo, if_neg h2]
      rfl
  · have hj : s.cargos.take j = s.cargos := List.take_of_length_le (by simp only [decide_eq_false_iff_not] at h; omega)
    rw [hj] at hrow ⊢
    generalize cargoRow i s.cargos = row at hrow ⊢
    have h30 := hrow.len
    clear hrow
    skip
    refine SemC.weaker (Weaker.to (l := [(2, I64 i), (6, .ptr 0 0 0), (7, .ptr 1 0 0), (41, .sl (counts.map eCount) full), (42, I64 counts.length), (43, I64 ((0 : Nat) : Int))]) (hp := .cells z109 0 0 :: .cells (eHoldV s s.kinds[i] row (cntV [])) 0 0 :: cntB []) 2 rfl ⟨rfl, rfl, rfl, rfl, i64c en, rfl, trivial⟩ (Nat.zero_le _) rfl (hold_inb rfl)) ?_
    refine SemC.loop (fun x : Nat × List Count => x.1 ≤ counts.length ∧ x.2 = (counts.take x.1).filter (fun c => decide (c.kind = (i : Int)))) (fun x => ⟨mkFr [(2, I64 i), (6, .ptr 0 0 0), (7, .ptr 1 0 0), (41, .sl (counts.map eCount) full), (42, I64 counts.length), (43, I64 (x.1 : Int))], .cells z109 0 0 :: .cells (eHoldV s s.kinds[i] row (cntV x.2)) 0 0 :: cntB x.2, Amb.none, false, 0⟩) (fun x => counts.length - x.1) ?_ (0, []) ⟨Nat.zero_le _, rfl⟩
    intro ⟨m, f⟩ ⟨hm, hf⟩
    refine wpC_sound (mu := fun t => Nat.beq t 55) ?_
    repeat' (first |with_reducible (first|refine wpC_seq ?_|refine wpC_ops ?_) |fail)
    refine ⟨fun h => ?_, fun h => ?_⟩
    · have hlt : m < counts.length := by simpa only [decide_eq_true_eq, Int.ofNat_lt] using h
      have hft : (counts.take (m + 1)).filter (fun c => decide (c.kind = (i : Int))) = f ++ (if counts[m].kind = (i : Int) then [counts[m]] else []) := by
        rw [List.take_add_one, List.getElem?_eq_getElem hlt, List.filter_append, ← hf]
        by_cases hk : counts[m].kind = (i : Int)
        · simp [hk]
        · simp [hk]
      cases f with
      | nil =>
        repeat' (first |with_reducible (first|refine wpC_skip ?_|refine wpC_seq ?_|refine wpC_block ?_|refine wpC_ops ?_|refine seqQ_normal ?_) |(refine ⟨_, _, rfl, by decide, ?_⟩) |(refine ⟨_, _, rfl, _, rfl, ?_⟩) |(refine And.intro (Nat.le_of_ble_eq_true rfl) ?_) |(refine And.intro (by kernel_rfl) ?_) |(refine ⟨eCount counts[m], ⟨by omega, map_at hlt⟩, rfl, ?_⟩) |(refine ⟨_, _, rfl, rfl, rfl, rfl, Nat.le_of_ble_eq_true rfl, ?_⟩) |fail)
        refine ⟨fun h2 => ?_, fun h2 => ?_⟩
        · have h2 : counts[m].kind = (i : Int) := by simpa using h2
          repeat' (first |with_reducible refine wpC_ops ?_ |(refine ⟨_, _, rfl, by decide, ?_⟩) |(refine ⟨rfl, rfl, rfl, ?_⟩) |(refine ⟨_, _, rfl, _, hold_getc h30, ?_⟩) |(refine ⟨_, _, rfl, Nat.le_of_ble_eq_true rfl, ?_⟩) |fail)
          refine ⟨[eCount counts[m]], ⟨fun el hel => by rw [List.mem_singleton.1 hel]; rfl, rfl⟩, rfl, And.intro (Nat.le_of_ble_eq_true rfl) (Nat.le_of_ble_eq_true rfl), fun hn => absurd hn (by simp), fun _ => ?_⟩
          repeat' (first |(refine ⟨_, _, rfl, by decide, ?_⟩) |(refine And.intro (by omega) ?_) |(refine ⟨_, _, rfl, rfl, rfl, rfl, by rw [hold_len h30]; omega, ?_⟩) |fail)
          refine ⟨(m + 1, [counts[m]]), ⟨hlt, by rw [hft, if_pos h2]; rfl⟩, (by dsimp only; omega), Weaker.to 4 ?_ ⟨rfl, rfl, rfl, rfl, rfl, i64c (by simp), trivial⟩ (Nat.zero_le _) rfl ?_⟩
          · show _ = AB.cells z109 0 0 :: AB.cells (eHoldV s s.kinds[i] row (cntV [counts[m]])) 0 0 :: cntB [counts[m]]
            rw [← hold_putc (c := nilV) h30 (cntV [counts[m]])]
            rfl
          · exact hp_inb
        · have h2 : ¬ counts[m].kind = (i : Int) := by simpa using h2
          repeat' (first |with_reducible refine wpC_skip ?_ |(refine And.intro (by omega) ?_) |fail)
          refine ⟨(m + 1, []), ⟨hlt, by rw [hft, if_neg h2]; rfl⟩, (by dsimp only; omega), Weaker.to 2 rfl ⟨rfl, rfl, rfl, rfl, rfl, i64c (by simp), trivial⟩ (Nat.zero_le _) rfl (hold_inb rfl)⟩
      | cons c0 f =>
        have hfl : f.length + 1 ≤ 1000 := by
          have : ((counts.take m).filter (fun c => decide (c.kind = (i : Int)))).length ≤ counts.length := Nat.le_trans (List.length_filter_le _ _) (by simp; omega)
          rw [← hf] at this
          simpa using Nat.le_trans this hn
        repeat' (first |with_reducible (first|refine wpC_skip ?_|refine wpC_seq ?_|refine wpC_block ?_|refine wpC_ops ?_|refine seqQ_normal ?_) |(refine ⟨_, _, rfl, by decide, ?_⟩) |(refine ⟨_, _, rfl, _, rfl, ?_⟩) |(refine And.intro (Nat.le_of_ble_eq_true rfl) ?_) |(refine And.intro (by kernel_rfl) ?_) |(refine ⟨eCount counts[m], ⟨by omega, map_at hlt⟩, rfl, ?_⟩) |(refine ⟨_, _, rfl, rfl, rfl, rfl, Nat.le_of_ble_eq_true rfl, ?_⟩) |fail)
        refine ⟨fun h2 => ?_, fun h2 => ?_⟩
        · have h2 : counts[m].kind = (i : Int) := by simpa using h2
          repeat' (first |with_reducible refine wpC_ops ?_ |(refine ⟨_, _, rfl, by decide, ?_⟩) |(refine ⟨rfl, rfl, rfl, ?_⟩) |(refine ⟨_, _, rfl, _, hold_getc h30, ?_⟩) |(refine ⟨_, _, rfl, Nat.le_of_ble_eq_true rfl, ?_⟩) |fail)
          refine ⟨[eCount counts[m]], ⟨fun el hel => by rw [List.mem_singleton.1 hel]; rfl, rfl⟩, rfl, _, rfl, flat_counts_len (c0 :: f), Or.inr rfl, And.intro (by dsimp only [List.length]; omega) (by dsimp only [List.length]; omega), fun hn => absurd hn (by simp), fun _ => ?_⟩
          repeat' (first |(refine ⟨_, _, rfl, by decide, ?_⟩) |(refine And.intro (by omega) ?_) |(refine ⟨_, _, rfl, rfl, rfl, rfl, by rw [hold_len h30]; omega, ?_⟩) |fail)
          refine ⟨(m + 1, c0 :: (f ++ [counts[m]])), ⟨hlt, by rw [hft, if_pos h2]; rfl⟩, (by dsimp only; omega), Weaker.to 4 ?_ ⟨rfl, rfl, rfl, rfl, rfl, i64c (by simp), trivial⟩ (Nat.zero_le _) rfl hp_inb⟩
          show _ = AB.cells z109 0 0 :: AB.cells (eHoldV s s.kinds[i] row (cntV (c0 :: (f ++ [counts[m]])))) 0 0 :: cntB (c0 :: (f ++ [counts[m]]))
          rw [← hold_putc (c := cntV (c0 :: f)) h30 (cntV (c0 :: (f ++ [counts[m]]))), cntV_snoc, cntB_snoc]
          rfl
        · have h2 : ¬ counts[m].kind = (i : Int) := by simpa using h2
          repeat' (first |with_reducible refine wpC_skip ?_ |(refine And.intro (by omega) ?_) |fail)
          refine ⟨(m + 1, c0 :: f), ⟨hlt, by rw [hft, if_neg h2, List.append_nil]⟩, (by dsimp only; omega), Weaker.to 4 rfl ⟨rfl, rfl, rfl, rfl, rfl, i64c (by simp), trivial⟩ (Nat.zero_le _) rfl hp_inb⟩
    · have hm : counts.take m = counts := List.take_of_length_le (by simp only [decide_eq_false_iff_not] at h; omega)
      rw [hm] at hf
      simp only at hf
      subst hf
      generalize hF : counts.filter (fun c => decide (c.kind = (i : Int))) = f
      repeat' (first |(refine ⟨_, _, rfl, by rw [hold_len h30]; omega, ?_⟩) |fail)
      rw [hold_all h30]
      repeat' (first |(refine ⟨_, _, rfl, rfl, hold_one, hold_len h30, Nat.le_of_ble_eq_true rfl, ?_⟩) |fail)
      have e : spliceV z109 (AV.ag (eHoldV s s.kinds[i] row (cntV f))).cells 0 = eHoldV s s.kinds[i] row (cntV f) := by
        show [] ++ (eHoldV s s.kinds[i] row (cntV f)) ++ z109.drop (0 + (eHoldV s s.kinds[i] row (cntV f)).length) = _
        rw [hold_len h30, show z109.drop (0 + 43) = [] from rfl, List.nil_append, List.append_nil]
      rw [e]
      refine ⟨_, _, rfl, by rw [hold_len h30]; omega, ?_⟩
      rw [hold_all h30]
      exact ⟨[_], ⟨hold_fz, trivial⟩, rfl⟩
end Go.Proofs.Ytmkaeohmdcoanaa
open Go Go.RM
namespace Go.Proofs.Ytmkaeohmdcoanaa
set_option maxRecDepth 100000
def useOf (k : Kind) (t : Truth) (down : Int) (i : Nat) (n : Int) : Int := if down ≤ i then (n * t.man * k.ration + 1000 - 1) / 1000 else n * t.man
def rawAt (men : List Int) (k : Kind) (row : List Int) (t : Truth) (down : Int) (i : Nat) (have_ : Int) : Int :=
  max have_ (min (have_ + row.getD i 0) k.room) - useOf k t down i (men.getD i 0) - t.ship
def haveAt (men : List Int) (k : Kind) (row : List Int) (t : Truth) (down : Int) : Nat → Int
  | 0 => t.first
  | i + 1 => max 0 (rawAt men k row t down i (haveAt men k row t down i))
def shortAt (men : List Int) (k : Kind) (row : List Int) (t : Truth) (down : Int) : Nat → Int
  | 0 => men.length
  | i + 1 => if rawAt men k row t down i (haveAt men k row t down i) < 0 then min (shortAt men k row t down i) i else shortAt men k row t down i
structure RunOk (men : List Int) (k : Kind) (row : List Int) (t : Truth) : Prop where
  men30 : men.length ≤ 30
  men : ∀ n ∈ men, 0 ≤ n ∧ n ≤ 12
  row : RowOk 9 row
  room : 0 ≤ k.room ∧ k.room ≤ 300
  ration : 0 ≤ k.ration ∧ k.ration ≤ 1000
  first : 0 ≤ t.first ∧ t.first ≤ 300
  man : 0 ≤ t.man ∧ t.man ≤ 6
  ship : 0 ≤ t.ship ∧ t.ship ≤ 12
theorem RunOk.n {men : List Int} {k : Kind} {row : List Int} {t : Truth} (h : RunOk men k row t) {i : Nat} (hi : i < men.length) : 0 ≤ men.getD i 0 ∧ men.getD i 0 ≤ 12 := by
  rw [List.getD_eq_getElem?_getD, List.getElem?_eq_getElem hi]
  exact h.men _ (List.getElem_mem _)
theorem mul_bnd {a b A B : Int} (ha : 0 ≤ a ∧ a ≤ A) (hb : 0 ≤ b ∧ b ≤ B) : 0 ≤ a * b ∧ a * b ≤ A * B :=
  ⟨Int.mul_nonneg ha.1 hb.1, Int.mul_le_mul ha.2 hb.2 hb.1 (by omega)⟩
theorem RunOk.useB {men : List Int} {k : Kind} {row : List Int} {t : Truth} (h : RunOk men k row t) (down : Int) {i : Nat} (hi : i < men.length) : 0 ≤ useOf k t down i (men.getD i 0) ∧ useOf k t down i (men.getD i 0) ≤ 72 := by
  have h1 := mul_bnd (h.n hi) h.man
  have h2 := mul_bnd h1 h.ration
  unfold useOf
  split <;> omega
theorem RunOk.haveB {men : List Int} {k : Kind} {row : List Int} {t : Truth} (h : RunOk men k row t) (down : Int) : ∀ i, i ≤ men.length → 0 ≤ haveAt men k row t down i ∧ haveAt men k row t down i ≤ 300
  | 0, _ => h.first
  | i + 1, hi => by
    have ih := h.haveB down i (by omega)
    have h1 := h.useB down (i := i) (by omega)
    have h2 := h.row.get (d := i) (by have := h.men30; omega)
    have h3 := h.room
    have h4 := h.ship
    simp only [haveAt, rawAt]
    omega
theorem have_succ (men : List Int) (k : Kind) (row : List Int) (t : Truth) (down : Int) (i : Nat) : haveAt men k row t down (i + 1) = max 0 (max (haveAt men k row t down i) (min (haveAt men k row t down i + row.getD i 0) k.room) - (if down ≤ i then (men.getD i 0 * t.man * k.ration + 1000 - 1) / 1000 else men.getD i 0 * t.man) - t.ship) := rfl
theorem short_succ (men : List Int) (k : Kind) (row : List Int) (t : Truth) (down : Int) (i : Nat) : shortAt men k row t down (i + 1) = if max (haveAt men k row t down i) (min (haveAt men k row t down i + row.getD i 0) k.room) - (if down ≤ i then (men.getD i 0 * t.man * k.ration + 1000 - 1) / 1000 else men.getD i 0 * t.man) - t.ship < 0 then min (shortAt men k row t down i) i else shortAt men k row t down i := rfl
def capF : Nat → Nat
  | 0 => 1
  | k + 1 => k + 3
abbrev runB (men : List Int) (k : Kind) (row : List Int) (t : Truth) (down : Int) (n : Nat) : AB := .cells ((List.range (n + 1)).map fun i => I64 (haveAt men k row t down i)) 1 n
theorem holdd_one {s : Stores} {k : Kind} {row : List Int} {f : List (List AV)} {b : Bool} : (AV.ag (eHoldV s k row (.sl f b))).cells.all AV.one = true := by
  show (eHoldV s k row (.sl f b)).all AV.one = true
  have h1 : (row.map eC).all AV.one = true := by
    induction row with
    | nil => rfl
    | cons a l ih => exact ih
  rw [List.all_append, List.all_append, h1]
  rfl
theorem holdd_deep {s : Stores} {k : Kind} {row : List Int} {f : List (List AV)} {b : Bool} : deepL (AV.ag (eHoldV s k row (.sl f b))).cells = true := eHold_deep rfl
theorem capF_ok (i : Nat) : capF i = i + 1 ∨ capF i = i + 1 + 1 := by
  cases i <;> simp [capF]
theorem runB_snoc {men : List Int} {k : Kind} {row : List Int} {t : Truth} {down : Int} {i : Nat} {v : Int} (h : haveAt men k row t down (i + 1) = v) :
    [AB.cells (((List.range (i + 1)).map fun i => I64 (haveAt men k row t down i)) ++ [eI v].flatten) 1 (i + 1)] = [runB men k row t down (i + 1)] := by
  rw [runB, List.range_succ (n := i + 1), List.map_append, List.map_cons, h]
  rfl
theorem inbL_map {α : Type} {f : α → AV} {n : Nat} (h : ∀ a, (f a).inb n = true) : ∀ l : List α, inbL n (l.map f) = true
  | [] => rfl
  | a :: l => by simp only [List.map_cons, inbL, h a, inbL_map h l, Bool.and_true]
theorem deepL_map {α : Type} {f : α → AV} (h : ∀ a, (f a).deep = true) : ∀ l : List α, deepL (l.map f) = true
  | [] => rfl
  | a :: l => by simp only [List.map_cons, deepL, h a, deepL_map h l, Bool.and_true]
theorem flat_map1 {α : Type} {f : α → AV} : ∀ l : List α, (l.map fun a => [f a]).flatten = l.map f
  | [] => rfl
  | a :: l => by simp only [List.map_cons, List.flatten_cons, flat_map1 l]; rfl
theorem runB_inb (men : List Int) (k : Kind) (row : List Int) (t : Truth) (down : Int) (i : Nat) : ([runB men k row t down i] : List AB).all (AB.inb 1) = true := by
  simp only [List.all_cons, List.all_nil, Bool.and_true, AB.inb]
  exact inbL_map (fun _ => rfl) _
theorem run_fz (men : List Int) (k : Kind) (row : List Int) (t : Truth) (down : Int) (i : Nat) : Fz [runB men k row t down i] (.osl 0 i 0 (i + 1) (capF i)) (.sl ((List.range (i + 1)).map fun i => eI (haveAt men k row t down i)) false) :=
  Fz.row (es := 1) rfl (by simp) (by simp) (fun el hel => by obtain ⟨x, _, rfl⟩ := List.mem_map.1 hel; rfl) (by rw [flat_map1 (f := fun i => I64 (haveAt men k row t down i)), List.drop_zero, List.take_of_length_le (by simp)]) (by rw [flat_map1 (f := fun i => I64 (haveAt men k row t down i))]; exact deepL_map (fun _ => rfl) _) (fun h => Bool.noConfusion h)
theorem run_c (one : Bool) (s : Stores) (k : Kind) (row : List Int) (cnts : List (List AV)) (t : Truth) (down : Int) (h : RunOk s.men k row t) :
    Pu one 61 [.ag (eHoldV s k row (.sl cnts false)), .ag (eTruth t), I64 down] (.tp [.sl ((List.range (s.men.length + 1)).map fun i => eI (haveAt s.men k row t down i)) false, I64 (shortAt s.men k row t down s.men.length)]) := by
  have em : ((s.men.map eI).length : Int) = s.men.length := by simp
  refine PureV.body (fn := Try.f61) rfl rfl rfl rfl ?_
  refine wpC_sound (mu := fun t => Nat.beq t 69 || Nat.beq t 15) ?_
  refine ⟨rfl, holdd_one, holdd_deep, ?_⟩
  repeat' (first |with_reducible (first|refine wpC_seq ?_|refine wpC_ops ?_|refine seqQ_normal ?_) |(refine ⟨_, rfl, ?_⟩) |(refine ⟨_, _, rfl, by decide, ?_⟩) |(refine ⟨rfl, rfl, rfl, ?_⟩) |(refine And.intro (by kernel_rfl) ?_) |fail)
  refine SemC.weaker (Weaker.to (l := [(2, I64 down), (3, .pt (eHoldV s k row (.sl cnts false)) 0), (4, .pt (eTruth t) 0), (6, .osl 0 0 0 1 1), (7, I64 s.men.length), (8, I64 t.first), (22, .sl (s.men.map eI) false), (23, I64 s.men.length), (24, I64 ((0 : Nat) : Int))]) (hp := [runB s.men k row t down 0]) 1 rfl ⟨rfl, rfl, rfl, rfl, i64c em, rfl, rfl, i64c em, rfl, trivial⟩ (Nat.zero_le _) rfl rfl) ?_
  refine SemC.loop (fun i : Nat => i ≤ s.men.length) (fun i => ⟨mkFr [(2, I64 down), (3, .pt (eHoldV s k row (.sl cnts false)) 0), (4, .pt (eTruth t) 0), (6, .osl 0 i 0 (i + 1) (capF i)), (7, I64 (shortAt s.men k row t down i)), (8, I64 (haveAt s.men k row t down i)), (22, .sl (s.men.map eI) false), (23, I64 s.men.length), (24, I64 (i : Int))], [runB s.men k row t down i], Amb.none, false, 0⟩) (fun i => s.men.length - i) ?_ 0 (Nat.zero_le _)
  intro i hi
  refine wpC_sound (mu := fun t => Nat.beq t 69 || Nat.beq t 15) ?_
  repeat' (first |with_reducible (first|refine wpC_seq ?_|refine wpC_ops ?_) |fail)
  refine ⟨fun h2 => ?_, fun h2 => ?_⟩
  · have hlt : i < s.men.length := by simpa only [decide_eq_true_eq, Int.ofNat_lt] using h2
    have b1 := h.n hlt
    have b2 := mul_bnd b1 h.man
    have b3 := mul_bnd b2 h.ration
    have b4 := h.haveB down i hi
    have b5 := h.row.get (d := i) (by have := h.men30; omega)
    have b6 := h.room
    have b7 := h.ship
    have hget : s.men[i] = s.men.getD i 0 := by rw [List.getD_eq_getElem?_getD, List.getElem?_eq_getElem hlt]; rfl
    have hhv := have_succ s.men k row t down i
    have hsh := short_succ s.men k row t down i
    rw [← hget] at b1 b2 b3 hhv hsh
    repeat' (first |with_reducible (first|refine wpC_skip ?_|refine wpC_seq ?_|refine wpC_block ?_|refine wpC_ops ?_|refine seqQ_normal ?_) |(refine ⟨_, rfl, ?_⟩) |(refine ⟨_, _, rfl, by decide, ?_⟩) |(refine And.intro (by omega) ?_) |(refine ⟨eI s.men[i], ⟨by omega, map_at hlt⟩, rfl, ?_⟩) |fail)
    generalize s.men[i] = n at b1 b2 b3 hhv hsh
    generalize haveAt s.men k row t down i = hv at b4 hhv hsh
    have b8 := h.men30
    have hd : i < row.length := by rw [h.row.len]; omega
    have hg : (eHoldV s k row (.sl cnts false))[0 + 12 + (i : Int).toNat * 1]? = some (I64 (row.getD i 0)) := hold_get (d := i) hd
    have hq : IntKind.i64.wrap ((n * t.man * k.ration + 1000 - 1).tdiv 1000) = (n * t.man * k.ration + 1000 - 1) / 1000 := IntWalk.i64_quo _ 1000 (by omega)
    skip
    refine ⟨fun h3 => ?_, fun h3 => ?_⟩
    · rw [if_pos (show down ≤ (i : Int) by simpa using h3)] at hhv hsh
      repeat' (first |with_reducible refine wpC_ops ?_ |(refine ⟨_, rfl, ?_⟩) |(refine ⟨_, _, rfl, by decide, ?_⟩) |(refine And.intro (by omega) ?_) |(refine And.intro (by kernel_rfl) ?_) |fail)
      rw [hq]
      have hu : 0 ≤ (n * t.man * k.ration + 1000 - 1) / 1000 ∧ (n * t.man * k.ration + 1000 - 1) / 1000 ≤ 72 := by omega
      generalize (n * t.man * k.ration + 1000 - 1) / 1000 = u at hhv hsh hu
      refine ⟨_, hg, ?_⟩
      repeat' (first |with_reducible (first|refine wpC_skip ?_|refine wpC_seq ?_|refine wpC_ops ?_|refine seqQ_normal ?_) |(refine ⟨_, rfl, ?_⟩) |(refine ⟨_, _, rfl, by decide, ?_⟩) |(refine ⟨rfl, rfl, rfl, ?_⟩) |(refine And.intro (by omega) ?_) |(refine And.intro (by kernel_rfl) ?_) |(refine ⟨fun h => ?_, fun h => ?_⟩) |fail)
      · refine ⟨[eI 0], ⟨fun el hel => by rw [List.mem_singleton.1 hel]; rfl, rfl⟩, rfl, _, rfl, by simp, capF_ok i, And.intro (by dsimp only [List.length]; omega) (by dsimp only [List.length]; omega), fun hn => absurd hn (by simp), fun _ => ?_⟩
        repeat' (first |(refine And.intro (by omega) ?_) |fail)
        rw [decide_eq_true_eq] at h
        rw [if_pos h] at hsh
        refine ⟨i + 1, hlt, (by dsimp only; omega), Weaker.to 1 (runB_snoc (by rw [hhv]; omega)) ⟨rfl, rfl, rfl, rfl, i64c hsh.symm, i64c (by rw [hhv]; omega), rfl, rfl, i64c (by simp), trivial⟩ (Nat.zero_le _) rfl (runB_inb _ _ _ _ _ _)⟩
      · refine ⟨[eI _], ⟨fun el hel => by rw [List.mem_singleton.1 hel]; rfl, rfl⟩, rfl, _, rfl, by simp, capF_ok i, And.intro (by dsimp only [List.length]; omega) (by dsimp only [List.length]; omega), fun hn => absurd hn (by simp), fun _ => ?_⟩
        repeat' (first |(refine And.intro (by omega) ?_) |fail)
        rw [decide_eq_false_iff_not] at h
        rw [if_neg h] at hsh
        refine ⟨i + 1, hlt, (by dsimp only; omega), Weaker.to 1 (runB_snoc (by rw [hhv]; omega)) ⟨rfl, rfl, rfl, rfl, i64c hsh.symm, i64c (by rw [hhv]; omega), rfl, rfl, i64c (by simp), trivial⟩ (Nat.zero_le _) rfl (runB_inb _ _ _ _ _ _)⟩
    · rw [if_neg (show ¬ down ≤ (i : Int) by simpa using h3)] at hhv hsh
      clear hq
      have hu : 0 ≤ n * t.man ∧ n * t.man ≤ 72 := by omega
      repeat' (first |with_reducible (first|refine wpC_skip ?_|refine wpC_seq ?_|refine wpC_draw ?_|refine seqQ_normal ?_) |(refine ⟨_, rfl, ?_⟩) |(refine ⟨_, _, rfl, by decide, ?_⟩) |(refine And.intro (by omega) ?_) |fail)
      generalize n * t.man = u at hhv hsh hu
      refine ⟨_, hg, ?_⟩
      repeat' (first |with_reducible (first|refine wpC_skip ?_|refine wpC_seq ?_|refine wpC_ops ?_|refine seqQ_normal ?_) |(refine ⟨_, rfl, ?_⟩) |(refine ⟨_, _, rfl, by decide, ?_⟩) |(refine ⟨rfl, rfl, rfl, ?_⟩) |(refine And.intro (by omega) ?_) |(refine And.intro (by kernel_rfl) ?_) |(refine ⟨fun h => ?_, fun h => ?_⟩) |fail)
      · refine ⟨[eI 0], ⟨fun el hel => by rw [List.mem_singleton.1 hel]; rfl, rfl⟩, rfl, _, rfl, by simp, capF_ok i, And.intro (by dsimp only [List.length]; omega) (by dsimp only [List.length]; omega), fun hn => absurd hn (by simp), fun _ => ?_⟩
        repeat' (first |(refine And.intro (by omega) ?_) |fail)
        rw [decide_eq_true_eq] at h
        rw [if_pos h] at hsh
        refine ⟨i + 1, hlt, (by dsimp only; omega), Weaker.to 1 (runB_snoc (by rw [hhv]; omega)) ⟨rfl, rfl, rfl, rfl, i64c hsh.symm, i64c (by rw [hhv]; omega), rfl, rfl, i64c (by simp), trivial⟩ (Nat.zero_le _) rfl (runB_inb _ _ _ _ _ _)⟩
      · refine ⟨[eI _], ⟨fun el hel => by rw [List.mem_singleton.1 hel]; rfl, rfl⟩, rfl, _, rfl, by simp, capF_ok i, And.intro (by dsimp only [List.length]; omega) (by dsimp only [List.length]; omega), fun hn => absurd hn (by simp), fun _ => ?_⟩
        repeat' (first |(refine And.intro (by omega) ?_) |fail)
        rw [decide_eq_false_iff_not] at h
        rw [if_neg h] at hsh
        refine ⟨i + 1, hlt, (by dsimp only; omega), Weaker.to 1 (runB_snoc (by rw [hhv]; omega)) ⟨rfl, rfl, rfl, rfl, i64c hsh.symm, i64c (by rw [hhv]; omega), rfl, rfl, i64c (by simp), trivial⟩ (Nat.zero_le _) rfl (runB_inb _ _ _ _ _ _)⟩
  · have hi : i = s.men.length := by rw [decide_eq_false_iff_not] at h2; omega
    subst hi
    skip
    exact ⟨[_, _], ⟨run_fz _ _ _ _ _ _, Fz.deep rfl, trivial⟩, rfl⟩
end Go.Proofs.Ytmkaeohmdcoanaa
open Go Go.RM
namespace Go.Proofs.Ytmkaeohmdcoanaa
set_option maxRecDepth 100000
theorem firstN_zero {n : Nat} {e : Nat → Int} (h : (firstN n e).2 = 0) : ∀ i, i < n → e i = 0 := by
  intro i hi
  unfold firstN at h
  split at h
  · rename_i j hj
    have := List.find?_some hj
    simp only at h
    rw [h] at this
    exact absurd this (by decide)
  · rename_i hj
    rw [List.find?_eq_none] at hj
    have := hj i (by simpa using hi)
    simpa using this
theorem outB_false {lo hi : Int} {l : List Int} : outB lo hi l = false ↔ ∀ n ∈ l, lo ≤ n ∧ n ≤ hi := by
  unfold outB
  rw [List.any_eq_false]
  constructor
  · intro h n hn
    have := h n hn
    simp at this
    omega
  · intro h n hn
    have := h n hn
    simp
    omega
structure KindGood (k : Kind) : Prop where
  first : 0 ≤ k.first.lo ∧ k.first.lo ≤ k.first.hi ∧ k.first.hi ≤ 300
  man : 0 ≤ k.man.lo ∧ k.man.lo ≤ k.man.hi ∧ k.man.hi ≤ 6
  ship : 0 ≤ k.ship.lo ∧ k.ship.lo ≤ k.ship.hi ∧ k.ship.hi ≤ 12
  room : 0 ≤ k.room ∧ k.room ≤ 300
  ration : 0 ≤ k.ration ∧ k.ration ≤ 1000
theorem kindErr_good {k : Kind} {names : List ByteArray} (h : kindErr k names = 0) : KindGood k := by
  unfold kindErr at h
  split at h
  · exact absurd h (by decide)
  · split at h
    · exact absurd h (by decide)
    · split at h
      · exact absurd h (by decide)
      · rename_i h7
        split at h
        · exact absurd h (by decide)
        · rename_i h2
          simp only [Bool.not_eq_true, Bool.or_eq_false_iff, outB_false, decide_eq_false_iff_not, List.mem_cons, List.not_mem_nil, or_false, forall_eq_or_imp, forall_eq] at h7 h2
          obtain ⟨⟨⟨a, b⟩, c⟩, d⟩ := h7
          constructor <;> omega
/-- One cargo more than a check lets through: the laws add one. -/
def sizes9 (s : Stores) : Prop := (1 ≤ s.men.length ∧ s.men.length ≤ 30) ∧ (1 ≤ s.kinds.length ∧ s.kinds.length ≤ 4) ∧ s.cargos.length ≤ 9
theorem sizes_9 {s : Stores} (h : sizes9 s) : (1 ≤ s.men.length ∧ s.men.length ≤ 30) ∧ (1 ≤ s.kinds.length ∧ s.kinds.length ≤ 4) ∧ s.cargos.length ≤ 9 := h
structure Good (s : Stores) : Prop where
  sizes : sizes9 s
  men : ∀ n ∈ s.men, 0 ≤ n ∧ n ≤ 12
  kinds : ∀ k ∈ s.kinds, KindGood k
  cargos : ∀ c ∈ s.cargos, (0 ≤ c.day ∧ c.day < s.men.length) ∧ (0 ≤ c.amount ∧ c.amount ≤ 300) ∧ 0 ≤ c.kind ∧ c.kind < s.kinds.length
theorem cargoErr_good {s : Stores} {c : Cargo} (h : cargoErr s c = 0) : (0 ≤ c.day ∧ c.day < s.men.length) ∧ (0 ≤ c.amount ∧ c.amount ≤ 300) ∧ 0 ≤ c.kind ∧ c.kind < s.kinds.length := by
  unfold cargoErr at h
  split at h
  · exact absurd h (by decide)
  · rename_i h4
    split at h
    · exact absurd h (by decide)
    · rename_i h7
      simp only [Bool.not_eq_true, Bool.or_eq_false_iff, outB_false, List.mem_cons, List.not_mem_nil, or_false, forall_eq] at h4 h7
      omega
theorem chk_good {s : Stores} (h : (chk s).2.2 = 0) : Good s := by
  cases hb : sizesBad s with
  | true => rw [chk_1 hb] at h; exact absurd h (by decide)
  | false =>
    by_cases hi : 0 ≤ idxF (fun n => outB 0 12 [n]) s.men
    · exfalso
      unfold chk at h
      unfold sizesBad at hb
      rw [if_neg (by rw [hb]; decide)] at h
      simp only [if_pos hi] at h
      exact absurd h (by decide)
    · have hany := idxF_ge (fun n => outB 0 12 [n]) s.men
      rw [decide_eq_false hi] at hany
      have hm : ∀ n ∈ s.men, 0 ≤ n ∧ n ≤ 12 := fun n hn => by
        have := List.any_eq_false.1 hany.symm n hn
        rw [Bool.not_eq_true, outB_false] at this
        exact this n (by simp)
      rw [chk_men hb (fun i hi => outB_false.2 fun n hn => by rw [List.mem_singleton.1 hn]; exact hm _ (List.getElem_mem _))] at h
      by_cases h1 : (firstN s.kinds.length (kErr s)).2 = 0
      · rw [if_neg (by simpa using h1)] at h
        by_cases h2 : (firstN s.cargos.length (cErr s)).2 = 0
        · refine ⟨by have := sizes_ok hb; unfold sizes9; omega, hm, fun k hk => ?_, fun c hc => ?_⟩
          · obtain ⟨i, hi, rfl⟩ := List.getElem_of_mem hk
            have := firstN_zero h1 i hi
            rw [kErr_at hi] at this
            exact kindErr_good this
          · obtain ⟨i, hi, rfl⟩ := List.getElem_of_mem hc
            have := firstN_zero h2 i hi
            rw [cErr_at hi] at this
            exact cargoErr_good this
        · rw [if_pos h2] at h
          exact absurd h h2
      · rw [if_pos h1] at h
        exact absurd h h1
def truthBad (s : Stores) (k : Kind) (t : Truth) (down : Int) : Bool :=
  outB k.first.lo k.first.hi [t.first] || outB k.man.lo k.man.hi [t.man] || outB k.ship.lo k.ship.hi [t.ship] || outB 0 s.men.length [down]
theorem Good.row {s : Stores} (h : Good s) (k : Int) : RowOk 9 (cargoRow k s.cargos) := by
  have h8 := sizes_9 h.sizes
  have := cargoRow_ok (k := k) (cs := s.cargos) (fun c hc => by have := h.cargos c hc; omega)
  exact ⟨this.len, fun x hx => by have := this.bnd x hx; omega⟩
theorem Good.run {s : Stores} (h : Good s) {k : Kind} (hk : k ∈ s.kinds) (kind : Int) {t : Truth} {down : Int} (ht : truthBad s k t down = false) : RunOk s.men k (cargoRow kind s.cargos) t ∧ 0 ≤ down ∧ down ≤ s.men.length := by
  have h8 := sizes_9 h.sizes
  have hg := h.kinds k hk
  simp only [truthBad, Bool.or_eq_false_iff, outB_false, List.mem_cons, List.not_mem_nil, or_false, forall_eq] at ht
  have := hg.first
  have := hg.man
  have := hg.ship
  exact ⟨⟨by omega, h.men, h.row kind, hg.room, hg.ration, by omega, by omega, by omega⟩, by omega⟩
theorem hold_over {s : Stores} {k : Kind} {row : List Int} {c : AV} (h : row.length = 30) {z : List AV} (hz : z.length = 43) : spliceV z (AV.ag (eHoldV s k row c)).cells 0 = eHoldV s k row c := by
  show [] ++ (eHoldV s k row c) ++ z.drop (0 + (eHoldV s k row c).length) = _
  rw [hold_len h, List.drop_of_length_le (by omega), List.nil_append, List.append_nil]
end Go.Proofs.Ytmkaeohmdcoanaa
open Go Go.RM
namespace Go.Proofs.Ytmkaeohmdcoanaa
set_option maxRecDepth 100000
def truthOk (k : Kind) (t : Truth) : Bool := inB t.first k.first.lo k.first.hi && (inB t.man k.man.lo k.man.hi && inB t.ship k.ship.lo k.ship.hi)
theorem addCargo_getD {k : Int} {l : List Int} {c : Cargo} {d : Nat} (hd : d < l.length) (hc : 0 ≤ c.day) : (addCargo k l c).getD d 0 = if c.day = (d : Int) ∧ c.kind = k then l.getD d 0 + c.amount else l.getD d 0 := by
  unfold addCargo
  by_cases hk : c.kind = k
  · rw [if_pos hk]
    by_cases he : c.day = (d : Int)
    · rw [if_pos ⟨he, hk⟩, he, Int.toNat_natCast]
      rw [List.getD_eq_getElem?_getD, List.getElem?_set_self (by omega)]
      rfl
    · rw [if_neg (fun h => he h.1)]
      rw [List.getD_eq_getElem?_getD, List.getElem?_set_ne (by omega), ← List.getD_eq_getElem?_getD]
  · rw [if_neg hk, if_neg (fun h => hk h.2)]
theorem tpG4 {a b c d a' b' c' d' : AV} (h1 : a = a') (h2 : b = b') (h3 : c = c') (h4 : d = d') : AV.tp [a, b, c, d] = AV.tp [a', b', c', d'] := by rw [h1, h2, h3, h4]
def wasteAt (k : Kind) (row : List Int) (i : Nat) (hv : Int) : Int := max 0 (min (row.getD i 0) (hv + row.getD i 0 - k.room))
def usedAt (men : List Int) (k : Kind) (row : List Int) (t : Truth) (down : Int) (i : Nat) (hv : Int) : Int :=
  if rawAt men k row t down i hv < 0 then max hv (min (hv + row.getD i 0) k.room) else useOf k t down i (men.getD i 0) + t.ship
theorem day_c (one : Bool) (s : Stores) (hg : Good s) (i : Nat) (hi : i < s.kinds.length) (t : Truth) (down : Int) (h : RunOk s.men s.kinds[i] (cargoRow i s.cargos) t) (d : Nat) (hd : d < s.men.length) (hv : Int) (hh : 0 ≤ hv ∧ hv ≤ 300) :
    Pu one 94 [.ag (eStores s), I64 i, .ag (eTruth t), I64 d, I64 hv, BB (decide (down ≤ (d : Int)))] (.tp [I64 (max 0 (rawAt s.men s.kinds[i] (cargoRow i s.cargos) t down d hv)), I64 (wasteAt s.kinds[i] (cargoRow i s.cargos) d hv), I64 (usedAt s.men s.kinds[i] (cargoRow i s.cargos) t down d hv), BB (decide (rawAt s.men s.kinds[i] (cargoRow i s.cargos) t down d hv < 0))]) := by
  have ec : ((s.cargos.map eCargo).length : Int) = s.cargos.length := by simp
  have h8 := sizes_9 hg.sizes
  refine PureV.body (fn := Try.f94) rfl rfl rfl rfl ?_
  refine wpC_sound (mu := fun _ => false) ?_
  repeat' (first |with_reducible (first|refine wpC_seq ?_|refine wpC_ops ?_) |(refine ⟨rfl, rfl, rfl, ?_⟩) |fail)
  refine SemC.weaker (Weaker.to (l := [(1, I64 i), (3, I64 d), (4, I64 hv), (5, BB (decide (down ≤ (d : Int)))), (6, .pt (eStores s) 0), (8, .pt (eTruth t) 0), (16, I64 ((cargoRow i (s.cargos.take 0)).getD d 0)), (17, I64 ((0 : Nat) : Int))]) 0 rfl ⟨rfl, rfl, rfl, rfl, rfl, rfl, i64c (by have := (RowOk.zero (k := (i : Int))).get (d := d) (by omega); show 0 = (cargoRow i []).getD d 0; omega), rfl, trivial⟩ (Nat.zero_le _) rfl rfl) ?_
  refine SemC.loop (fun j : Nat => j ≤ s.cargos.length) (fun j => ⟨mkFr [(1, I64 i), (3, I64 d), (4, I64 hv), (5, BB (decide (down ≤ (d : Int)))), (6, .pt (eStores s) 0), (8, .pt (eTruth t) 0), (16, I64 ((cargoRow i (s.cargos.take j)).getD d 0)), (17, I64 (j : Int))], [], Amb.none, false, 0⟩) (fun j => s.cargos.length - j) ?_ 0 (Nat.zero_le _)
  intro j hj
  have hrow : RowOk (s.cargos.take j).length (cargoRow i (s.cargos.take j)) := cargoRow_ok fun c hx => by have := hg.cargos c (List.mem_of_mem_take hx); omega
  have hrl : (s.cargos.take j).length = j := by simp; omega
  rw [hrl] at hrow
  have hget := hrow.get (d := d) (by omega)
  refine wpC_sound (mu := fun _ => false) ?_
  repeat' (first |with_reducible (first|refine wpC_seq ?_|refine wpC_ops ?_) |(refine ⟨_, rfl, ?_⟩) |(refine ⟨_, _, rfl, by decide, ?_⟩) |fail)
  refine ⟨fun h2 => ?_, fun h2 => ?_⟩
  · have hlt : j < s.cargos.length := by simpa only [ec, decide_eq_true_eq, Int.ofNat_lt] using h2
    have hcj := hg.cargos s.cargos[j] (List.getElem_mem hlt)
    have hrow' : (cargoRow i (s.cargos.take (j + 1))).getD d 0 = if s.cargos[j].day = (d : Int) ∧ s.cargos[j].kind = (i : Int) then (cargoRow i (s.cargos.take j)).getD d 0 + s.cargos[j].amount else (cargoRow i (s.cargos.take j)).getD d 0 := by
      rw [List.take_add_one, List.getElem?_eq_getElem hlt]
      exact (congrArg (fun l => l.getD d 0) (cargoRow_snoc _ _ _)).trans (addCargo_getD (by rw [hrow.len]; omega) hcj.1.1)
    generalize (cargoRow i (s.cargos.take j)).getD d 0 = sum at hget hrow'
    repeat' (first |with_reducible (first|refine wpC_skip ?_|refine wpC_seq ?_|refine wpC_block ?_|refine wpC_ops ?_|refine seqQ_normal ?_) |(refine ⟨_, rfl, ?_⟩) |(refine guardYes (by assumption) ?_) |(refine guardNo rfl ?_) |(refine guardNo (by assumption) ?_) |(refine ⟨_, _, rfl, by decide, ?_⟩) |(refine And.intro (by omega) ?_) |(refine ⟨eCargo s.cargos[j], ⟨by omega, map_at hlt⟩, rfl, ?_⟩) |(refine ⟨fun h => ?_, fun h => ?_⟩) |fail)
    all_goals refine ⟨j + 1, hlt, (by dsimp only; omega), Weaker.to 0 rfl ⟨rfl, rfl, rfl, rfl, rfl, rfl, i64c ?_, i64c (by simp), trivial⟩ (Nat.zero_le _) rfl rfl⟩
    all_goals rw [hrow']
    all_goals simp_all
  · have hj : s.cargos.take j = s.cargos := List.take_of_length_le (by rw [ec, decide_eq_false_iff_not] at h2; omega)
    rw [hj] at hget ⊢
    have b1 := h.n hd
    have b2 := mul_bnd b1 h.man
    have b3 := mul_bnd b2 h.ration
    have b6 := h.room
    have b7 := h.ship
    have hgd : s.men[d] = s.men.getD d 0 := by rw [List.getD_eq_getElem?_getD, List.getElem?_eq_getElem hd]; rfl
    have hget8 : (cargoRow i s.cargos).getD d 0 ≤ 2700 := by omega
    unfold usedAt wasteAt rawAt useOf
    rw [← hgd] at b1 b2 b3 ⊢
    generalize (cargoRow i s.cargos).getD d 0 = c at hget hget8 ⊢
    have hq : IntKind.i64.wrap ((s.men[d] * t.man * s.kinds[i].ration + 1000 - 1).tdiv 1000) = (s.men[d] * t.man * s.kinds[i].ration + 1000 - 1) / 1000 := IntWalk.i64_quo _ 1000 (by omega)
    repeat' (first |with_reducible (first|refine wpC_seq ?_|refine wpC_ops ?_|refine seqQ_normal ?_) |(refine ⟨_, rfl, ?_⟩) |(refine ⟨_, _, rfl, by decide, ?_⟩) |(refine And.intro (by omega) ?_) |(refine And.intro (by kernel_rfl) ?_) |(refine ⟨eKind s.kinds[i], ⟨by omega, map_at hi⟩, rfl, ?_⟩) |(refine ⟨eI s.men[d], ⟨by omega, map_at hd⟩, rfl, ?_⟩) |fail)
    refine ⟨fun h3 => ?_, fun h3 => ?_⟩
    · rw [if_pos (show down ≤ (d : Int) by simpa using h3)]
      repeat' (first |with_reducible refine wpC_ops ?_ |(refine ⟨_, rfl, ?_⟩) |(refine ⟨_, _, rfl, by decide, ?_⟩) |(refine And.intro (by omega) ?_) |(refine And.intro (by kernel_rfl) ?_) |(refine ⟨eKind s.kinds[i], ⟨by omega, map_at hi⟩, rfl, ?_⟩) |fail)
      rw [hq]
      have hu : 0 ≤ (s.men[d] * t.man * s.kinds[i].ration + 1000 - 1) / 1000 ∧ (s.men[d] * t.man * s.kinds[i].ration + 1000 - 1) / 1000 ≤ 72 := by omega
      generalize (s.men[d] * t.man * s.kinds[i].ration + 1000 - 1) / 1000 = u at hu ⊢
      repeat' (first |with_reducible (first|refine wpC_skip ?_|refine wpC_seq ?_|refine wpC_ops ?_|refine seqQ_normal ?_) |(refine And.intro (by omega) ?_) |(refine ⟨fun h => ?_, fun h => ?_⟩) |fail)
      all_goals refine ⟨[_, _, _, _], ⟨Fz.deep rfl, Fz.deep rfl, Fz.deep rfl, Fz.deep rfl, trivial⟩, ?_⟩
      · rw [decide_eq_true_eq] at h
        refine tpG4 (i64c ?_) (i64c ?_) (i64c ?_) (bbc ?_)
        · omega
        · rfl
        · rw [if_pos (by omega)]; omega
        · rw [decide_eq_true (by omega)]
      · rw [decide_eq_false_iff_not] at h
        refine tpG4 (i64c ?_) (i64c ?_) (i64c ?_) (bbc ?_)
        · omega
        · rfl
        · rw [if_neg (by omega)]
        · rw [decide_eq_false (by omega)]
    · rw [if_neg (show ¬ down ≤ (d : Int) by simpa using h3)]
      clear hq
      have hu : 0 ≤ s.men[d] * t.man ∧ s.men[d] * t.man ≤ 72 := by omega
      generalize s.men[d] * t.man = u at hu ⊢
      repeat' (first |with_reducible (first|refine wpC_skip ?_|refine wpC_seq ?_|refine wpC_ops ?_|refine seqQ_normal ?_) |(refine ⟨_, rfl, ?_⟩) |(refine ⟨_, _, rfl, by decide, ?_⟩) |(refine And.intro (by omega) ?_) |(refine ⟨fun h => ?_, fun h => ?_⟩) |fail)
      all_goals refine ⟨[_, _, _, _], ⟨Fz.deep rfl, Fz.deep rfl, Fz.deep rfl, Fz.deep rfl, trivial⟩, ?_⟩
      · rw [decide_eq_true_eq] at h
        refine tpG4 (i64c ?_) (i64c ?_) (i64c ?_) (bbc ?_)
        · omega
        · rfl
        · rw [if_pos (by omega)]; omega
        · rw [decide_eq_true (by omega)]
      · rw [decide_eq_false_iff_not] at h
        refine tpG4 (i64c ?_) (i64c ?_) (i64c ?_) (bbc ?_)
        · omega
        · rfl
        · rw [if_neg (by omega)]
        · rw [decide_eq_false (by omega)]
end Go.Proofs.Ytmkaeohmdcoanaa
open Go Go.RM
namespace Go.Proofs.Ytmkaeohmdcoanaa
set_option maxRecDepth 100000
theorem shortAt_or (men : List Int) (k : Kind) (row : List Int) (t : Truth) (down : Int) : ∀ i : Nat, shortAt men k row t down i = men.length ∨ (0 ≤ shortAt men k row t down i ∧ shortAt men k row t down i < i)
  | 0 => .inl rfl
  | i + 1 => by
    have ih := shortAt_or men k row t down i
    unfold shortAt
    split
    · by_cases h : shortAt men k row t down i ≤ i
      · rw [Int.min_eq_left h]
        omega
      · rw [Int.min_eq_right (by omega)]
        omega
    · omega
theorem rrun_c (one : Bool) (s : Stores) (hg : Good s) (i : Nat) (hi : i < s.kinds.length) (t : Truth) (down : Int) (h : RunOk s.men s.kinds[i] (cargoRow i s.cargos) t) :
    Pu one 62 [.ag (eStores s), I64 i, .ag (eTruth t), I64 down] (.tp [.sl ((List.range (s.men.length + 1)).map fun j => eI (haveAt s.men s.kinds[i] (cargoRow i s.cargos) t down j)) false, I64 (shortAt s.men s.kinds[i] (cargoRow i s.cargos) t down s.men.length)]) := by
  have em : ((s.men.map eI).length : Int) = s.men.length := by simp
  have hday := fun d hd hv hh => day_c true s hg i hi t down h d hd hv hh
  have hhave := h.haveB down
  have h8 := sizes_9 hg.sizes
  generalize s.kinds[i] = k at h hday hhave ⊢
  generalize cargoRow i s.cargos = row at h hday hhave ⊢
  refine PureV.body (fn := Try.f62) rfl rfl rfl rfl ?_
  refine wpC_sound (mu := fun t => Nat.beq t 19 || Nat.beq t 59) ?_
  repeat' (first |with_reducible (first|refine wpC_seq ?_|refine wpC_ops ?_|refine seqQ_normal ?_) |(refine ⟨_, rfl, ?_⟩) |(refine ⟨_, _, rfl, by decide, ?_⟩) |(refine ⟨rfl, rfl, rfl, ?_⟩) |(refine And.intro (by kernel_rfl) ?_) |fail)
  refine SemC.weaker (Weaker.to (l := [(1, I64 i), (3, I64 down), (4, .pt (eStores s) 0), (6, .pt (eTruth t) 0), (10, .osl 0 0 0 1 1), (11, I64 s.men.length), (12, I64 ((0 : Nat) : Int))]) (hp := [runB s.men k row t down 0]) 1 rfl ⟨rfl, rfl, rfl, rfl, rfl, i64c em, rfl, trivial⟩ (Nat.zero_le _) rfl rfl) ?_
  refine SemC.loop (fun j : Nat => j ≤ s.men.length) (fun j => ⟨mkFr [(1, I64 i), (3, I64 down), (4, .pt (eStores s) 0), (6, .pt (eTruth t) 0), (10, .osl 0 j 0 (j + 1) (capF j)), (11, I64 (shortAt s.men k row t down j)), (12, I64 (j : Int))], [runB s.men k row t down j], Amb.none, false, 0⟩) (fun j => s.men.length - j) ?_ 0 (Nat.zero_le _)
  intro j hj
  refine wpC_sound (mu := fun t => Nat.beq t 19 || Nat.beq t 59) ?_
  repeat' (first |with_reducible (first|refine wpC_seq ?_|refine wpC_ops ?_) |(refine ⟨_, rfl, ?_⟩) |(refine ⟨_, _, rfl, by decide, ?_⟩) |fail)
  refine ⟨fun h2 => ?_, fun h2 => ?_⟩
  · have hlt : j < s.men.length := by simpa only [em, decide_eq_true_eq, Int.ofNat_lt] using h2
    have b4 := hhave j hj
    have hdj := hday j hlt _ b4
    have hhv : haveAt s.men k row t down (j + 1) = max 0 (rawAt s.men k row t down j (haveAt s.men k row t down j)) := rfl
    have hsh : shortAt s.men k row t down (j + 1) = if rawAt s.men k row t down j (haveAt s.men k row t down j) < 0 then min (shortAt s.men k row t down j) j else shortAt s.men k row t down j := rfl
    have hor := shortAt_or s.men k row t down j
    have hg : ((List.range (j + 1)).map fun i => I64 (haveAt s.men k row t down i))[0 + (j : Int).toNat * 1]? = some (I64 (haveAt s.men k row t down j)) := by
      rw [show 0 + (j : Int).toNat * 1 = j from by omega, List.getElem?_map, List.getElem?_range (by omega)]
      rfl
    generalize haveAt s.men k row t down j = hv at hdj hhv hsh hg b4
    repeat' (first |with_reducible (first|refine wpC_skip ?_|refine wpC_seq ?_|refine wpC_block ?_|refine wpC_draw ?_|refine seqQ_normal ?_) |(refine ⟨_, rfl, ?_⟩) |(refine handed0 rfl rfl ?_) |(refine And.intro (Nat.le_of_ble_eq_true rfl) ?_) |(refine And.intro (by omega) ?_) |(refine ⟨_, _, rfl, _, hg, ?_⟩) |fail)
    refine ⟨_, hdj, ?_⟩
    generalize rawAt s.men k row t down j hv = raw at hhv hsh ⊢
    repeat' (first |with_reducible (first|refine wpC_skip ?_|refine wpC_seq ?_|refine wpC_ops ?_|refine seqQ_normal ?_) |(refine ⟨_, rfl, ?_⟩) |(refine guardYes (by assumption) ?_) |(refine guardNo rfl ?_) |(refine guardNo (by assumption) ?_) |(refine ⟨_, _, rfl, by decide, ?_⟩) |(refine ⟨rfl, rfl, rfl, ?_⟩) |(refine And.intro (by kernel_rfl) ?_) |(refine ⟨fun h => ?_, fun h => ?_⟩) |fail)
    all_goals refine ⟨[eI _], ⟨fun el hel => by rw [List.mem_singleton.1 hel]; rfl, rfl⟩, rfl, _, rfl, by simp, capF_ok j, And.intro (by dsimp only [List.length]; have := h8.1; omega) (by dsimp only [List.length]; have := h8.1; omega), fun hn => absurd hn (by simp), fun _ => ?_⟩
    · repeat' (first |(refine And.intro (by omega) ?_) |fail)
      have h1 : raw < 0 := by simpa using ‹decide (raw < 0) = true›
      have h2 : shortAt s.men k row t down j = s.men.length := by simp_all
      rw [if_pos h1, h2, Int.min_eq_right (by omega)] at hsh
      refine ⟨j + 1, hlt, (by dsimp only; omega), Weaker.to 1 (runB_snoc hhv) ⟨rfl, rfl, rfl, rfl, rfl, i64c hsh.symm, i64c (by simp), trivial⟩ (Nat.zero_le _) rfl (runB_inb _ _ _ _ _ _)⟩
    · repeat' (first |(refine And.intro (by omega) ?_) |fail)
      have h1 : raw < 0 := by simpa using ‹decide (raw < 0) = true›
      have h2 : ¬ shortAt s.men k row t down j = s.men.length := by simp_all
      rw [if_pos h1, Int.min_eq_left (by omega)] at hsh
      refine ⟨j + 1, hlt, (by dsimp only; omega), Weaker.to 1 (runB_snoc hhv) ⟨rfl, rfl, rfl, rfl, rfl, i64c hsh.symm, i64c (by simp), trivial⟩ (Nat.zero_le _) rfl (runB_inb _ _ _ _ _ _)⟩
    · repeat' (first |(refine And.intro (by omega) ?_) |fail)
      have h1 : ¬ raw < 0 := by simpa using h
      rw [if_neg h1] at hsh
      refine ⟨j + 1, hlt, (by dsimp only; omega), Weaker.to 1 (runB_snoc hhv) ⟨rfl, rfl, rfl, rfl, rfl, i64c hsh.symm, i64c (by simp), trivial⟩ (Nat.zero_le _) rfl (runB_inb _ _ _ _ _ _)⟩
  · have hi : j = s.men.length := by rw [em, decide_eq_false_iff_not] at h2; omega
    subst hi
    skip
    exact ⟨[_, _], ⟨run_fz _ _ _ _ _ _, Fz.deep rfl, trivial⟩, rfl⟩
end Go.Proofs.Ytmkaeohmdcoanaa
open Go Go.RM
namespace Go.Proofs.Ytmkaeohmdcoanaa
set_option maxRecDepth 100000
set_option maxHeartbeats 4000000
theorem ints_c (one : Bool) (a b : List Int) (f g : Bool) (_ : a.length ≤ maxLen) (hb : b.length ≤ maxLen) : Pu one 21 [.sl (a.map eI) f, .sl (b.map eI) g] (BB (decide (a = b))) := by
  unfold maxLen at hb
  have ea : ((a.map eI).length : Int) = a.length := by simp
  have eb : ((b.map eI).length : Int) = b.length := by simp
  refine PureV.body (fn := Try.f21) rfl rfl rfl rfl ?_
  refine wpC_sound (mu := fun _ => false) ?_
  repeat' (first |with_reducible (first|refine RM.c2 ?_|refine RM.c4 ?_|refine RM.c9 ?_|refine RM.o1 ?_|refine RM.o2 ?_|refine RM.o4 ?_|refine RM.o5 ?_|refine RM.p2 ?_|refine RM.p3 ?_|refine RM.p5 ?_|refine RM.p6 ?_) |((with_reducible show force _ _);first|refine RM.f1 rfl ?_|refine RM.f2 rfl ?_) |((with_reducible show wpOne _ _ _ _ _ _ _ _ _ _ _ _);refine RM.o8 rfl ?_) |((with_reducible show wpBin _ _ _ _ _ _ _ _ _);refine RM.b5 rfl rfl ?_) |((with_reducible show wpLen _ _ _ _ _);refine RM.l1 rfl ?_) |fail)
  refine ⟨fun h => ?_, fun h => ?_⟩
  · repeat' (first |with_reducible (first|refine RM.c2 ?_|refine RM.c4 ?_|refine RM.c7 ?_|refine RM.c9 ?_|refine RM.d1 ?_|refine RM.o1 ?_|refine RM.o2 ?_|refine RM.o4 ?_|refine RM.o5 ?_|refine RM.p3 ?_) |((with_reducible show force _ _);refine RM.f1 rfl ?_) |((with_reducible show wpOne _ _ _ _ _ _ _ _ _ _ _ _);refine RM.o8 rfl ?_) |fail)
    refine ⟨[_], ⟨Fz.deep rfl, trivial⟩, bbc ?_⟩
    rw [ea, eb] at h
    symm
    rw [decide_eq_false_iff_not]
    rintro rfl
    simp at h
  · have hl : a.length = b.length := Int.ofNat_inj.1 (by rw [ea, eb] at h; simpa using h)
    repeat' (first |with_reducible (first|refine RM.c1 ?_|refine RM.c2 ?_|refine RM.c3 ?_|refine RM.c4 ?_|refine RM.c9 ?_|refine RM.o1 ?_|refine RM.o2 ?_|refine RM.o4 ?_|refine RM.o5 ?_|refine RM.p3 ?_) |((with_reducible show force _ _);refine RM.f1 rfl ?_) |((with_reducible show wpOne _ _ _ _ _ _ _ _ _ _ _ _);refine RM.o8 rfl ?_) |fail)
    refine SemC.weaker (Weaker.to (l := [(0, .sl (a.map eI) f), (1, .sl (b.map eI) g), (5, I64 ((0 : Nat) : Int))]) 0 rfl ⟨rfl, rfl, rfl, trivial⟩ (Nat.le_refl _) rfl rfl) ?_
    refine SemC.loop (fun k : Nat => k ≤ a.length ∧ ∀ i (h : i < a.length), i < k → a[i] = b[i]) (fun k => ⟨mkFr [(0, .sl (a.map eI) f), (1, .sl (b.map eI) g), (5, I64 (k : Int))], [], Amb.none, false, 0⟩) (fun k => a.length - k) ?_ 0 ⟨Nat.zero_le _, fun i _ hi => absurd hi (by omega)⟩
    intro k ⟨hk, hprev⟩
    refine wpC_sound (mu := fun _ => false) ?_
    repeat' (first |with_reducible (first|refine RM.c2 ?_|refine RM.c4 ?_|refine RM.c9 ?_|refine RM.o1 ?_|refine RM.o2 ?_|refine RM.o4 ?_|refine RM.o5 ?_|refine RM.p2 ?_|refine RM.p5 ?_|refine RM.p6 ?_) |((with_reducible show force _ _);first|refine RM.f1 rfl ?_|refine RM.f2 rfl ?_) |((with_reducible show wpOne _ _ _ _ _ _ _ _ _ _ _ _);refine RM.o8 rfl ?_) |((with_reducible show wpBin _ _ _ _ _ _ _ _ _);refine RM.b6 rfl rfl ?_) |((with_reducible show wpLen _ _ _ _ _);refine RM.l1 rfl ?_) |fail)
    refine ⟨fun h => ?_, fun h => ?_⟩
    · have hlt : k < a.length := by simpa only [ea, decide_eq_true_eq, Int.ofNat_lt] using h
      have hltb : k < b.length := by omega
      repeat' (first |with_reducible (first|refine RM.c1 ?_|refine RM.c2 ?_|refine RM.c3 ?_|refine RM.c4 ?_|refine RM.c5 ?_|refine RM.c7 ?_|refine RM.c9 ?_|refine RM.d1 ?_|refine RM.d3 ?_|refine RM.d4 ?_|refine RM.o1 ?_|refine RM.o2 ?_|refine RM.o3 ?_|refine RM.o4 ?_|refine RM.o5 ?_|refine RM.p2 ?_|refine RM.p3 ?_|refine RM.p5 ?_) |((with_reducible show force _ _);first|refine RM.f1 rfl ?_|refine RM.f2 rfl ?_|refine RM.f3 rfl ?_) |((with_reducible show wpOne _ _ _ _ _ _ _ _ _ _ _ _);refine RM.o8 rfl ?_) |((with_reducible show wpDOne _ _ _ _ _ _ _ _ _ _);refine RM.p9 rfl ?_) |((with_reducible show wpBin _ _ _ _ _ _ _ _ _);first|refine RM.b5 rfl rfl ?_|refine RM.b1 rfl rfl (by omega) ?_) |(refine ⟨_, rfl, ?_⟩) |(refine And.intro (by kernel_rfl) ?_) |(refine ⟨eI a[k], ⟨by omega, map_at hlt⟩, rfl, ?_⟩) |(refine ⟨eI b[k], ⟨by omega, map_at hltb⟩, rfl, ?_⟩) |((with_reducible show wpC _ _ _ _ (.cond _ _ _) _ _);refine RM.e1 rfl ⟨fun h => ?_, fun h => ?_⟩) |fail)
      · refine ⟨[_], ⟨Fz.deep rfl, trivial⟩, bbc ?_⟩
        symm
        rw [decide_eq_false_iff_not]
        rintro rfl
        simp_all
      · refine ⟨k + 1, ⟨hlt, fun i hi hik => ?_⟩, (by dsimp only; omega), Weaker.to 0 rfl ⟨rfl, rfl, i64c (by simp), trivial⟩ (Nat.le_refl _) rfl rfl⟩
        by_cases hik' : i = k
        · subst hik'; simp_all
        · exact hprev i hi (by omega)
    · repeat' (first |with_reducible (first|refine RM.c6 ?_|refine RM.d2 ?_) |fail)
      refine ⟨[_], ⟨Fz.deep rfl, trivial⟩, bbc ?_⟩
      have hkl : k = a.length := by rw [ea, decide_eq_false_iff_not] at h; omega
      symm
      rw [decide_eq_true_eq]
      exact List.ext_getElem hl fun i h1 _ => hprev i h1 (by omega)
theorem aw_c (one : Bool) : Pu one 22 [] (BB true) := PureV.closed (fun _ => rfl) rfl
end Go.Proofs.Ytmkaeohmdcoanaa
open Go Go.RM
namespace Go.Proofs.Ytmkaeohmdcoanaa
set_option maxRecDepth 100000
set_option maxHeartbeats 4000000
structure SpanOk (s : Span) : Prop where
  lo : -1000000 ≤ s.lo
  le : s.lo ≤ s.hi
  hi : s.hi ≤ 1000000
end Go.Proofs.Ytmkaeohmdcoanaa
open Go Go.RM
namespace Go.Proofs.Ytmkaeohmdcoanaa
set_option maxRecDepth 100000
set_option maxHeartbeats 4000000
theorem cvu {n : Int} (h : 0 ≤ n ∧ n ≤ 9223372036854775807) : pureV (pureRun TT.P (convert 3 169 (.int .i64 n))) = some (.int .u64 n, .none) := by
  have : pureV (pureRun TT.P (convert 3 169 (.int .i64 n))) = some (.int .u64 (IntKind.u64.wrap n), .none) := rfl
  rw [this, IntWalk.u64_in n (by omega)]
theorem cuv {n : Int} (h : 0 ≤ n ∧ n ≤ 9223372036854775807) : pureV (pureRun TT.P (convert 169 3 (.int .u64 n))) = some (.int .i64 n, .none) := by
  have : pureV (pureRun TT.P (convert 169 3 (.int .u64 n))) = some (.int .i64 (IntKind.i64.wrap n), .none) := rfl
  rw [this, IntWalk.i64_in n (by omega)]
/-- What a search by halves comes to. -/
def bs (p : Nat → Bool) (i j : Nat) : Nat :=
  if i < j then (if p ((i + j) / 2) then bs p i ((i + j) / 2) else bs p ((i + j) / 2 + 1) j) else i
termination_by j - i
decreasing_by all_goals omega
theorem bs_in (p : Nat → Bool) (i j : Nat) (h : i ≤ j) : i ≤ bs p i j ∧ bs p i j ≤ j := by
  rw [bs]
  split
  · split
    · have := bs_in p i ((i + j) / 2) (by omega); omega
    · have := bs_in p ((i + j) / 2 + 1) j (by omega); omega
  · omega
termination_by j - i
decreasing_by all_goals omega
/-- Of what does not stop to do: the least that does. -/
theorem bs_least (p : Nat → Bool) (i j : Nat) (h : i ≤ j) (hm : ∀ a b, i ≤ a → a ≤ b → b < j → p a = true → p b = true) : (∀ a, i ≤ a → a < bs p i j → p a = false) ∧ (bs p i j < j → p (bs p i j) = true) := by
  rw [bs]
  split
  · rename_i hlt
    split
    · rename_i hp
      have hh := bs_in p i ((i + j) / 2) (by omega)
      have := bs_least p i ((i + j) / 2) (by omega) fun a b h1 h2 h3 => hm a b h1 h2 (by omega)
      refine ⟨this.1, fun hl => ?_⟩
      by_cases he : bs p i ((i + j) / 2) = (i + j) / 2
      · rw [he]; exact hp
      · exact this.2 (by omega)
    · rename_i hp
      have := bs_least p ((i + j) / 2 + 1) j (by omega) fun a b h1 h2 h3 => hm a b (by omega) h2 h3
      refine ⟨fun a h1 h2 => ?_, this.2⟩
      by_cases ha : (i + j) / 2 + 1 ≤ a
      · exact this.1 a ha h2
      · cases hpa : p a with
        | false => rfl
        | true => exact absurd (hm a ((i + j) / 2) h1 (by omega) (by omega) hpa) hp
  · exact ⟨fun a h1 h2 => by omega, fun hl => by omega⟩
termination_by j - i
decreasing_by all_goals omega
theorem search_c (one : Bool) (g : FuncId) (fs cs : List AV) (hF : (AV.fn g fs cs).deep = true) (p : Nat → Bool) (n : Nat) (hn : n ≤ 1000000000) (hp : ∀ i, i < n → PureV TT TB one (.fn g fs cs) [I64 i] (BB (p i))) : Pu one 103 [I64 n, .fn g fs cs] (I64 (bs p 0 n)) := by
  refine PureV.body (fn := Try.f103) rfl rfl rfl rfl ?_
  refine wpC_sound (mu := fun _ => false) ?_
  repeat' (first |with_reducible (first|refine RM.c2 ?_|refine RM.c3 ?_|refine RM.c4 ?_|refine RM.c9 ?_|refine RM.o1 ?_|refine RM.o2 ?_|refine RM.o4 ?_|refine RM.o5 ?_|refine RM.p2 ?_|refine RM.p3 ?_) |((with_reducible show force _ _);refine RM.f1 rfl ?_) |((with_reducible show wpOne _ _ _ _ _ _ _ _ _ _ _ _);refine RM.o8 rfl ?_) |fail)
  refine SemC.weaker (Weaker.to (l := [(1, .fn g fs cs), (5, I64 ((0 : Nat) : Int)), (6, I64 n)]) 0 rfl ⟨rfl, rfl, rfl, trivial⟩ (Nat.le_refl _) (by simp [inb_fl, deep_inb 0 _ hF]) rfl) ?_
  refine SemC.loop (fun x : Nat × Nat => x.1 ≤ x.2 ∧ x.2 ≤ n ∧ bs p x.1 x.2 = bs p 0 n) (fun x => ⟨mkFr [(1, .fn g fs cs), (5, I64 (x.1 : Int)), (6, I64 (x.2 : Int))], [], Amb.none, false, 0⟩) (fun x => x.2 - x.1) ?_ (0, n) ⟨Nat.zero_le _, Nat.le_refl _, rfl⟩
  rintro ⟨i, j⟩ ⟨h1, h2, h3⟩
  dsimp only at h1 h2 h3
  change SemC TT TB one _ ⟨mkFr [(1, .fn g fs cs), (5, I64 (i : Int)), (6, I64 (j : Int))], [], Amb.none, false, 0⟩ _
  refine wpC_sound (mu := fun _ => false) ?_
  repeat' (first |with_reducible (first|refine RM.c2 ?_|refine RM.c4 ?_|refine RM.c9 ?_|refine RM.o1 ?_|refine RM.o2 ?_|refine RM.o4 ?_|refine RM.o5 ?_|refine RM.p2 ?_|refine RM.p5 ?_) |((with_reducible show force _ _);refine RM.f1 rfl ?_) |((with_reducible show wpOne _ _ _ _ _ _ _ _ _ _ _ _);refine RM.o8 rfl ?_) |((with_reducible show wpBin _ _ _ _ _ _ _ _ _);refine RM.b6 rfl rfl ?_) |fail)
  refine RM.e1 rfl ⟨fun hc => ?_, fun hc => ?_⟩
  · have hlt : i < j := by simpa using hc
    rw [bs, if_pos hlt] at h3
    have hm : (((i : Int) + j) / 2) = (((i + j) / 2 : Nat) : Int) := by omega
    repeat' (first |(refine ⟨_, cvu (by omega), rfl, ?_⟩) |(refine ⟨_, _, rfl, rfl, _, bin_shr1, rfl, ?_⟩) |(refine ⟨_, cuv (by omega), rfl, ?_⟩) |with_reducible (first|refine RM.c1 ?_|refine RM.c2 ?_|refine RM.c3 ?_|refine RM.c4 ?_|refine RM.c9 ?_|refine RM.o1 ?_|refine RM.o2 ?_|refine RM.o4 ?_|refine RM.o5 ?_|refine RM.o7 ?_|refine RM.o9 ?_|refine RM.p1 ?_|refine RM.p2 ?_|refine RM.p3 ?_|refine RM.p5 ?_) |((with_reducible show force _ _);first|refine RM.f1 rfl ?_|refine RM.f4 rfl ?_) |((with_reducible show wpOne _ _ _ _ _ _ _ _ _ _ _ _);refine RM.o8 rfl ?_) |((with_reducible show wpBin _ _ _ _ _ _ _ _ _);refine RM.b1 rfl rfl (by omega) ?_) |(refine ⟨_, rfl, ?_⟩) |fail)
    rw [hm]
    repeat' (first |with_reducible (first|refine RM.c9 ?_|refine RM.o1 ?_|refine RM.o2 ?_|refine RM.o4 ?_|refine RM.o5 ?_) |((with_reducible show force _ _);refine RM.f1 rfl ?_) |((with_reducible show wpOne _ _ _ _ _ _ _ _ _ _ _ _);refine RM.o8 rfl ?_) |((with_reducible show RM.wpOp _ _ _ _ _ _);refine RM.n3 rfl ?_) |(refine PureV.call (hp ((i + j) / 2) (by omega)) hF rfl ?_) |fail)
    cases hb : p ((i + j) / 2) with
    | true =>
      rw [if_pos hb] at h3
      repeat' (first |with_reducible (first|refine RM.c4 ?_|refine RM.d3 ?_|refine RM.o1 ?_|refine RM.o2 ?_|refine RM.o4 ?_|refine RM.o5 ?_|refine RM.p2 ?_|refine RM.p3 ?_) |((with_reducible show force _ _);refine RM.f1 rfl ?_) |((with_reducible show wpOne _ _ _ _ _ _ _ _ _ _ _ _);refine RM.o8 rfl ?_) |((with_reducible show wpC _ _ _ _ (.cond _ _ _) _ _);refine RM.e3 rfl rfl ?_) |fail)
      exact ⟨(i, (i + j) / 2), ⟨by dsimp only; omega, by dsimp only; omega, h3⟩, (by dsimp only; omega), Weaker.to 0 rfl ⟨rfl, rfl, rfl, trivial⟩ (Nat.le_refl _) (by simp [inb_fl, deep_inb 0 _ hF]) rfl⟩
    | false =>
      rw [if_neg (by simp [hb])] at h3
      repeat' (first |with_reducible (first|refine RM.c4 ?_|refine RM.d3 ?_|refine RM.o1 ?_|refine RM.o2 ?_|refine RM.o4 ?_|refine RM.o5 ?_|refine RM.p2 ?_|refine RM.p3 ?_|refine RM.p5 ?_) |((with_reducible show force _ _);refine RM.f1 rfl ?_) |((with_reducible show wpOne _ _ _ _ _ _ _ _ _ _ _ _);refine RM.o8 rfl ?_) |((with_reducible show wpC _ _ _ _ (.cond _ _ _) _ _);refine RM.e2 rfl rfl ?_) |((with_reducible show wpBin _ _ _ _ _ _ _ _ _);refine RM.b1 rfl rfl (by omega) ?_) |fail)
      exact ⟨((i + j) / 2 + 1, j), ⟨by dsimp only; omega, by dsimp only; omega, h3⟩, (by dsimp only; omega), Weaker.to 0 rfl ⟨rfl, i64c (by simp), rfl, trivial⟩ (Nat.le_refl _) (by simp [inb_fl, deep_inb 0 _ hF]) rfl⟩
  · rw [bs, if_neg (by simpa using hc)] at h3
    repeat' (first |with_reducible (first|refine RM.c6 ?_|refine RM.d2 ?_) |fail)
    exact ⟨[_], ⟨Fz.deep rfl, trivial⟩, by rw [← h3]; rfl⟩
theorem least1_c (one : Bool) (g : FuncId) (fs cs : List AV) (hF : (AV.fn g fs cs).deep = true) (lo i : Int) (b : Bool) (hb : -1000000000 ≤ lo ∧ lo ≤ 1000000000 ∧ 0 ≤ i ∧ i ≤ 1000000000) (hp : PureV TT TB one (.fn g fs cs) [I64 (lo + i)] (BB b)) :
    PureV TT TB one (.fn 104 [] [.pt [.fn g fs cs] 0, .pt [I64 lo] 0]) [I64 i] (BB b) := by
  refine PureV.body (fn := Try.f104) rfl rfl rfl rfl ?_
  refine wpC_sound (mu := fun _ => false) ?_
  repeat' (first |with_reducible (first|refine RM.c2 ?_|refine RM.c4 ?_|refine RM.c7 ?_|refine RM.c9 ?_|refine RM.o1 ?_|refine RM.o2 ?_|refine RM.o4 ?_|refine RM.o5 ?_|refine RM.o7 ?_|refine RM.o9 ?_|refine RM.p1 ?_|refine RM.p2 ?_|refine RM.p3 ?_|refine RM.p5 ?_) |((with_reducible show force _ _);first|refine RM.f1 rfl ?_|refine RM.f4 rfl ?_) |((with_reducible show wpOne _ _ _ _ _ _ _ _ _ _ _ _);refine RM.o8 rfl ?_) |((with_reducible show wpBin _ _ _ _ _ _ _ _ _);refine RM.b1 rfl rfl (by omega) ?_) |(refine ⟨_, rfl, ?_⟩) |(refine PureV.call hp hF rfl ?_) |fail)
  exact ⟨[_], ⟨Fz.deep rfl, trivial⟩, rfl⟩
theorem least_c (one : Bool) (g : FuncId) (fs cs : List AV) (hF : (AV.fn g fs cs).deep = true) (lo : Int) (n : Nat) (hlo : -1000000 ≤ lo ∧ lo ≤ 1000000) (hn : n ≤ 1000000) (p : Int → Bool) (hp : ∀ i : Nat, i < n → PureV TT TB true (.fn g fs cs) [I64 (lo + i)] (BB (p (lo + i)))) :
    Pu one 72 [I64 lo, I64 (lo + n - 1), .fn g fs cs] (I64 (lo + bs (fun i => p (lo + (i : Int))) 0 n)) := by
  have hs := search_c true 104 [] [.pt [.fn g fs cs] 0, .pt [I64 lo] 0] rfl (fun i => p (lo + (i : Int))) n (by omega) fun i hi => least1_c true g fs cs hF lo i _ (by omega) (hp i hi)
  have hb := bs_in (fun i => p (lo + (i : Int))) 0 n (Nat.zero_le _)
  generalize bs (fun i => p (lo + (i : Int))) 0 n = r at hs hb
  have he : lo + (n : Int) - 1 - lo + 1 = n := by omega
  refine PureV.body (fn := Try.f72) rfl rfl rfl rfl ?_
  refine wpC_sound (mu := fun _ => false) ?_
  repeat' (first |(refine ⟨rfl, rfl, (by show ((AV.fn g fs cs).deep && true) = true; rw [hF]; rfl), ?_⟩) |with_reducible (first|refine RM.c2 ?_|refine RM.c4 ?_|refine RM.c5 ?_|refine RM.c9 ?_|refine RM.o1 ?_|refine RM.o2 ?_|refine RM.o3 ?_|refine RM.o4 ?_|refine RM.o5 ?_|refine RM.o9 ?_|refine RM.p1 ?_|refine RM.p2 ?_|refine RM.p3 ?_|refine RM.p5 ?_|refine RM.p7 ?_|refine RM.n1 ?_) |((with_reducible show force _ _);first|refine RM.f1 rfl ?_|refine RM.f3 rfl ?_|refine RM.f4 rfl ?_) |((with_reducible show wpOne _ _ _ _ _ _ _ _ _ _ _ _);refine RM.o8 rfl ?_) |((with_reducible show wpDOne _ _ _ _ _ _ _ _ _ _);refine RM.p9 rfl ?_) |((with_reducible show wpBin _ _ _ _ _ _ _ _ _);first|refine RM.b1 rfl rfl (by omega) ?_|refine RM.b2 rfl rfl (by omega) ?_) |(refine ⟨_, rfl, ?_⟩) |(refine ⟨rfl, rfl, rfl, ?_⟩) |(refine ⟨rfl, rfl, ?_⟩) |fail)
  rw [he]
  refine ⟨_, hs, ?_⟩
  repeat' (first |with_reducible (first|refine RM.c7 ?_|refine RM.c9 ?_|refine RM.o3 ?_|refine RM.o4 ?_|refine RM.o5 ?_|refine RM.p3 ?_|refine RM.p5 ?_) |((with_reducible show force _ _);refine RM.f1 rfl ?_) |((with_reducible show wpDOne _ _ _ _ _ _ _ _ _ _);refine RM.p9 rfl ?_) |((with_reducible show wpBin _ _ _ _ _ _ _ _ _);refine RM.b1 rfl rfl (by omega) ?_) |(refine ⟨_, rfl, ?_⟩) |(refine And.intro (by kernel_rfl) ?_) |fail)
  exact ⟨[_], ⟨Fz.deep rfl, trivial⟩, rfl⟩
end Go.Proofs.Ytmkaeohmdcoanaa
open Go Go.RM
namespace Go.Proofs.Ytmkaeohmdcoanaa
set_option maxRecDepth 100000
set_option maxHeartbeats 4000000
def lvl (men : List Int) (k : Kind) (row : List Int) (t : Truth) : List Int := (List.range (men.length + 1)).map (haveAt men k row t men.length)
theorem lvl_len (men : List Int) (k : Kind) (row : List Int) (t : Truth) : (lvl men k row t).length = men.length + 1 := by simp [lvl]
def cntOver (lv : List Int) (c : Count) : Bool := decide (c.amount.hi < lv.getD c.day.toNat 0)
def cntUnder (lv : List Int) (c : Count) : Bool := decide (lv.getD c.day.toNat 0 < c.amount.lo)
def enough (men : List Int) (k : Kind) (row : List Int) (f : List Count) (passed : Bool) (t : Truth) : Bool :=
  bif passed then f.any (cntOver (lvl men k row t)) else !(f.any (cntUnder (lvl men k row t)))
theorem getD_at {L : List Int} {d : Int} (h : 0 ≤ d ∧ d < L.length) : (L.map eI)[d.toNat]? = some (eI (L.getD d.toNat 0)) := by
  rw [List.getElem?_map, List.getD_eq_getElem?_getD, List.getElem?_eq_getElem (by omega)]
  rfl
theorem over_c (one : Bool) (L : List Int) (c : Count) (h : 0 ≤ c.day ∧ c.day < L.length) : PureV TT TB one (.fn 99 [] [.pt [.sl (L.map eI) false] 0]) [.ag (eCount c)] (BB (cntOver L c)) := by
  refine PureV.body (fn := Try.f99) rfl rfl rfl rfl ?_
  refine wpC_sound (mu := fun _ => false) ?_
  repeat' (first |with_reducible (first|refine RM.c2 ?_|refine RM.c4 ?_|refine RM.c5 ?_|refine RM.c7 ?_|refine RM.c9 ?_|refine RM.o1 ?_|refine RM.o2 ?_|refine RM.o3 ?_|refine RM.o4 ?_|refine RM.o5 ?_|refine RM.p3 ?_|refine RM.p5 ?_) |((with_reducible show force _ _);first|refine RM.f1 rfl ?_|refine RM.f2 rfl ?_|refine RM.f3 rfl ?_) |((with_reducible show wpOne _ _ _ _ _ _ _ _ _ _ _ _);refine RM.o8 rfl ?_) |((with_reducible show wpDOne _ _ _ _ _ _ _ _ _ _);refine RM.p9 rfl ?_) |((with_reducible show wpBin _ _ _ _ _ _ _ _ _);refine RM.b8 rfl rfl ?_) |(refine ⟨_, rfl, ?_⟩) |(refine ⟨_, _, rfl, by decide, ?_⟩) |(refine ⟨rfl, rfl, rfl, ?_⟩) |(refine And.intro (by kernel_rfl) ?_) |(refine ⟨eI _, ⟨h.1, getD_at h⟩, rfl, ?_⟩) |fail)
  exact ⟨[_], ⟨Fz.deep rfl, trivial⟩, rfl⟩
theorem under_c (one : Bool) (L : List Int) (c : Count) (h : 0 ≤ c.day ∧ c.day < L.length) : PureV TT TB one (.fn 100 [] [.pt [.sl (L.map eI) false] 0]) [.ag (eCount c)] (BB (cntUnder L c)) := by
  refine PureV.body (fn := Try.f100) rfl rfl rfl rfl ?_
  refine wpC_sound (mu := fun _ => false) ?_
  repeat' (first |with_reducible (first|refine RM.c2 ?_|refine RM.c4 ?_|refine RM.c5 ?_|refine RM.c7 ?_|refine RM.c9 ?_|refine RM.o1 ?_|refine RM.o2 ?_|refine RM.o3 ?_|refine RM.o4 ?_|refine RM.o5 ?_|refine RM.p3 ?_|refine RM.p5 ?_) |((with_reducible show force _ _);first|refine RM.f1 rfl ?_|refine RM.f2 rfl ?_|refine RM.f3 rfl ?_) |((with_reducible show wpOne _ _ _ _ _ _ _ _ _ _ _ _);refine RM.o8 rfl ?_) |((with_reducible show wpDOne _ _ _ _ _ _ _ _ _ _);refine RM.p9 rfl ?_) |((with_reducible show wpBin _ _ _ _ _ _ _ _ _);refine RM.b6 rfl rfl ?_) |(refine ⟨_, rfl, ?_⟩) |(refine ⟨_, _, rfl, by decide, ?_⟩) |(refine ⟨rfl, rfl, rfl, ?_⟩) |(refine And.intro (by kernel_rfl) ?_) |(refine ⟨eI _, ⟨h.1, getD_at h⟩, rfl, ?_⟩) |fail)
  exact ⟨[_], ⟨Fz.deep rfl, trivial⟩, rfl⟩
structure HoldOk (s : Stores) (k : Kind) (row : List Int) (f : List Count) : Prop where
  good : Good s
  kind : KindGood k
  row : RowOk 9 row
  cnt : ∀ c ∈ f, 0 ≤ c.day ∧ c.day ≤ s.men.length
  len : f.length ≤ 1000
theorem run_l {one : Bool} {s : Stores} {k : Kind} {row : List Int} {cnts : List (List AV)} {t : Truth} (h : RunOk s.men k row t) :
    Pu one 61 [.ag (eHoldV s k row (.sl cnts false)), .ag (eTruth t), I64 s.men.length] (.tp [.sl ((lvl s.men k row t).map eI) false, I64 (shortAt s.men k row t s.men.length s.men.length)]) := by
  have := run_c one s k row cnts t s.men.length h
  rw [show ((List.range (s.men.length + 1)).map fun i => eI (haveAt s.men k row t s.men.length i)) = (lvl s.men k row t).map eI by unfold lvl; rw [List.map_map]; rfl] at this
  exact this
theorem enough_c (one passed : Bool) {s : Stores} {k : Kind} {row : List Int} {f : List Count} (h : HoldOk s k row f) (t : Truth) (n : Int) (hr : RunOk s.men k row ⟨n, t.man, t.ship⟩) :
    PureV TT TB one (.fn 97 [] [.pt (eHoldV s k row (.sl (f.map eCount) false)) 0, .pt (eTruth t) 0, .pt [BB passed] 0]) [I64 n] (BB (enough s.men k row f passed ⟨n, t.man, t.ship⟩)) := by
  have em : ((s.men.map eI).length : Int) = s.men.length := by simp
  have h30 := h.row.len
  have hrun := run_l (one := one) (cnts := f.map eCount) hr
  rw [← em] at hrun
  have hl := lvl_len s.men k row ⟨n, t.man, t.ship⟩
  have hfl : f.length ≤ maxLen := by have := h.len; unfold maxLen; omega
  have ho := containsFunc98_c one 99 [] [.pt [.sl ((lvl s.men k row ⟨n, t.man, t.ship⟩).map eI) false] 0] rfl (cntOver (lvl s.men k row ⟨n, t.man, t.ship⟩)) f false hfl fun c hc => over_c one _ c (by have := h.cnt c hc; omega)
  have hu := containsFunc98_c one 100 [] [.pt [.sl ((lvl s.men k row ⟨n, t.man, t.ship⟩).map eI) false] 0] rfl (cntUnder (lvl s.men k row ⟨n, t.man, t.ship⟩)) f false hfl fun c hc => under_c one _ c (by have := h.cnt c hc; omega)
  unfold enough
  generalize lvl s.men k row ⟨n, t.man, t.ship⟩ = L at *
  refine PureV.body (fn := Try.f97) rfl rfl rfl rfl ?_
  refine RM.c2s (mu := fun _ => false) ?_
  repeat' (first |with_reducible (first|refine RM.c4 ?_|refine RM.c9 ?_|refine RM.o1 ?_|refine RM.o2 ?_|refine RM.o4 ?_|refine RM.o5 ?_|refine RM.p3 ?_) |((with_reducible show force _ _);refine RM.f1 rfl ?_) |((with_reducible show wpOne _ _ _ _ _ _ _ _ _ _ _ _);refine RM.o8 rfl ?_) |fail)
  refine RM.c2s (mu := fun _ => false) ?_
  repeat' (first |with_reducible (first|refine RM.c4 ?_|refine RM.o2 ?_|refine RM.o4 ?_|refine RM.o5 ?_|refine RM.o7 ?_|refine RM.o9 ?_|refine RM.p1 ?_|refine RM.p2 ?_|refine RM.p6 ?_) |((with_reducible show force _ _);first|refine RM.f1 rfl ?_|refine RM.f2 rfl ?_|refine RM.f3 rfl ?_|refine RM.f4 rfl ?_|refine RM.f5 rfl ?_) |((with_reducible show wpOne _ _ _ _ _ _ _ _ _ _ _ _);refine RM.o8 rfl ?_) |((with_reducible show wpLen _ _ _ _ _);refine RM.l1 rfl ?_) |(refine ⟨_, rfl, ?_⟩) |(refine ⟨_, _, rfl, by decide, ?_⟩) |(refine And.intro (by kernel_rfl) ?_) |(refine And.intro (by rw [hold_len h30]; exact Nat.le_refl _) ?_) |fail)
  rw [hold_all h30]
  repeat' (first |with_reducible (first|refine RM.c9 ?_|refine RM.o1 ?_|refine RM.o2 ?_|refine RM.o4 ?_|refine RM.o5 ?_|refine RM.o6 ?_|refine RM.p2 ?_|refine RM.p3 ?_) |((with_reducible show force _ _);first|refine RM.f1 rfl ?_|refine RM.f2 rfl ?_|refine RM.f6 rfl ?_|refine RM.f7 rfl ?_|refine RM.g2 rfl ?_) |((with_reducible show wpOne _ _ _ _ _ _ _ _ _ _ _ _);refine RM.o8 rfl ?_) |(refine ⟨_, rfl, ?_⟩) |(refine And.intro (by kernel_rfl) ?_) |(refine ⟨_, _, rfl, rfl, rfl, rfl, Nat.le_of_ble_eq_true rfl, ?_⟩) |(refine PureV.call hrun rfl (by simp only [deepL, Bool.and_true, eHold_deep (c := .sl _ false) rfl]; rfl) ?_) |fail)
  refine SemC.weaker (Weaker.giveUp 0 (l := [(1, .pt (eHoldV s k row (.sl (f.map eCount) false)) 0), (3, .pt [BB passed] 0), (6, .pt [.sl (L.map eI) false] 0)]) (hp := [.gone]) rfl (Nat.le_refl _) rfl ⟨.same rfl, .same rfl, .ptr, trivial⟩ rfl rfl) ?_
  refine wpC_sound (mu := fun _ => false) ?_
  cases passed with
  | true =>
    repeat' (first |with_reducible (first|refine RM.c2 ?_|refine RM.c4 ?_|refine RM.c7 ?_|refine RM.c9 ?_|refine RM.d1 ?_|refine RM.o1 ?_|refine RM.o2 ?_|refine RM.o4 ?_|refine RM.o5 ?_|refine RM.o7 ?_|refine RM.o9 ?_|refine RM.p1 ?_|refine RM.p3 ?_|refine RM.p7 ?_) |((with_reducible show force _ _);first|refine RM.f1 rfl ?_|refine RM.f2 rfl ?_|refine RM.f3 rfl ?_|refine RM.f4 rfl ?_) |((with_reducible show wpOne _ _ _ _ _ _ _ _ _ _ _ _);refine RM.o8 rfl ?_) |((with_reducible show wpC _ _ _ _ (.cond _ _ _) _ _);refine RM.e2 rfl rfl ?_) |(refine ⟨_, rfl, ?_⟩) |(refine ⟨_, _, rfl, by decide, ?_⟩) |(refine ⟨_, hold_getc h30, ?_⟩) |(refine PureV.call ho rfl rfl ?_) |fail)
    exact ⟨[_], ⟨Fz.deep rfl, trivial⟩, rfl⟩
  | false =>
    repeat' (first |with_reducible (first|refine RM.c1 ?_|refine RM.c2 ?_|refine RM.c4 ?_|refine RM.c7 ?_|refine RM.c9 ?_|refine RM.o1 ?_|refine RM.o2 ?_|refine RM.o4 ?_|refine RM.o5 ?_|refine RM.o7 ?_|refine RM.o9 ?_|refine RM.p1 ?_|refine RM.p3 ?_|refine RM.p7 ?_) |((with_reducible show force _ _);first|refine RM.f1 rfl ?_|refine RM.f2 rfl ?_|refine RM.f3 rfl ?_|refine RM.f4 rfl ?_) |((with_reducible show wpOne _ _ _ _ _ _ _ _ _ _ _ _);refine RM.o8 rfl ?_) |((with_reducible show wpC _ _ _ _ (.cond _ _ _) _ _);refine RM.e3 rfl rfl ?_) |((with_reducible show RM.wpOp _ _ _ _ _ _);refine RM.n3 rfl ?_) |(refine ⟨_, rfl, ?_⟩) |(refine ⟨_, _, rfl, by decide, ?_⟩) |(refine ⟨_, hold_getc h30, ?_⟩) |(refine PureV.call hu rfl rfl ?_) |fail)
    exact ⟨[_], ⟨Fz.deep rfl, trivial⟩, rfl⟩
theorem passed_c (one passed : Bool) (H T : List AV) : PureV TT TB one (.fn 96 [] [.pt H 0, .pt T 0]) [BB passed] (.fn 97 [] [.pt H 0, .pt T 0, .pt [BB passed] 0]) := by
  refine PureV.body (fn := Try.f96) rfl rfl rfl rfl ?_
  refine wpC_sound (mu := fun _ => false) ?_
  repeat' (first |with_reducible (first|refine RM.c2 ?_|refine RM.c4 ?_|refine RM.c7 ?_|refine RM.c9 ?_|refine RM.o1 ?_|refine RM.o2 ?_|refine RM.o4 ?_|refine RM.o5 ?_|refine RM.o9 ?_|refine RM.p1 ?_|refine RM.p3 ?_|refine RM.p7 ?_) |((with_reducible show force _ _);first|refine RM.f1 rfl ?_|refine RM.f3 rfl ?_|refine RM.f4 rfl ?_) |((with_reducible show wpOne _ _ _ _ _ _ _ _ _ _ _ _);refine RM.o8 rfl ?_) |(refine ⟨rfl, rfl, rfl, ?_⟩) |fail)
  exact ⟨[_], ⟨Fz.deep rfl, trivial⟩, rfl⟩
end Go.Proofs.Ytmkaeohmdcoanaa
open Go Go.RM
namespace Go.Proofs.Ytmkaeohmdcoanaa
set_option maxRecDepth 100000
set_option maxHeartbeats 4000000
def spanN (s : Span) : Nat := (s.hi - s.lo + 1).toNat
def lowF (men : List Int) (k : Kind) (row : List Int) (f : List Count) (m p : Int) : Int :=
  k.first.lo + bs (fun i => enough men k row f false ⟨k.first.lo + (i : Int), m, p⟩) 0 (spanN k.first)
def highF (men : List Int) (k : Kind) (row : List Int) (f : List Count) (m p : Int) : Int :=
  k.first.lo + bs (fun i => enough men k row f true ⟨k.first.lo + (i : Int), m, p⟩) 0 (spanN k.first) - 1
def pairAt (men : List Int) (k : Kind) (row : List Int) (f : List Count) (m p : Int) : Option (Truth × Truth) :=
  if lowF men k row f m p ≤ highF men k row f m p then some (⟨lowF men k row f m p, m, p⟩, ⟨highF men k row f m p, m, p⟩) else none
def useAt (men : List Int) (k : Kind) (row : List Int) (f : List Count) (q : Nat) : Option (Truth × Truth) :=
  pairAt men k row f (k.man.lo + (q / spanN k.ship : Nat)) (k.ship.lo + (q % spanN k.ship : Nat))
def pairs (men : List Int) (k : Kind) (row : List Int) (f : List Count) (n : Nat) : List (Truth × Truth) := (List.range n).filterMap (useAt men k row f)
def truthsL (men : List Int) (k : Kind) (row : List Int) (f : List Count) : List (Truth × Truth) := pairs men k row f (spanN k.man * spanN k.ship)
abbrev ePair (x : Truth × Truth) : List AV := [.ag (eTruth x.1), .ag (eTruth x.2)]
theorem pairs_succ (men : List Int) (k : Kind) (row : List Int) (f : List Count) (n : Nat) : pairs men k row f (n + 1) = pairs men k row f n ++ (useAt men k row f n).toList := by
  unfold pairs
  rw [List.range_succ, List.filterMap_append]
  cases h : useAt men k row f n <;> simp [h]
theorem pairs_prefix (men : List Int) (k : Kind) (row : List Int) (f : List Count) {n m : Nat} (h : n ≤ m) : ∃ l, pairs men k row f m = pairs men k row f n ++ l := by
  induction h with
  | refl => exact ⟨[], by simp⟩
  | step _ ih =>
    obtain ⟨l, hl⟩ := ih
    exact ⟨l ++ (useAt men k row f _).toList, by rw [pairs_succ, hl, List.append_assoc]⟩
theorem pairs_at (men : List Int) (k : Kind) (row : List Int) (f : List Count) {n m : Nat} (h : n < m) {x : Truth × Truth} (hx : useAt men k row f n = some x) : (pairs men k row f m)[(pairs men k row f n).length]? = some x := by
  obtain ⟨l, hl⟩ := pairs_prefix men k row f (show n + 1 ≤ m from h)
  rw [hl, pairs_succ, hx]
  simp
theorem use_at (men : List Int) (k : Kind) (row : List Int) (f : List Count) {m p : Nat} (hp : p < spanN k.ship) : useAt men k row f (m * spanN k.ship + p) = pairAt men k row f (k.man.lo + m) (k.ship.lo + p) := by
  unfold useAt
  rw [Nat.mul_comm, Nat.mul_add_div (by omega), Nat.div_eq_of_lt hp, Nat.mul_add_mod, Nat.mod_eq_of_lt hp, Nat.add_zero]
theorem HoldOk.run {s : Stores} {k : Kind} {row : List Int} {f : List Count} (h : HoldOk s k row f) {n m p : Int} (hn : k.first.lo ≤ n ∧ n ≤ k.first.hi) (hm : k.man.lo ≤ m ∧ m ≤ k.man.hi) (hp : k.ship.lo ≤ p ∧ p ≤ k.ship.hi) : RunOk s.men k row ⟨n, m, p⟩ := by
  have h8 := sizes_9 h.good.sizes
  have h1 := h.kind.first
  have h2 := h.kind.man
  have h3 := h.kind.ship
  exact ⟨by omega, h.good.men, h.row, h.kind.room, h.kind.ration, by dsimp only; omega, by dsimp only; omega, by dsimp only; omega⟩
theorem truths_c (one : Bool) {s : Stores} {k : Kind} {row : List Int} {f : List Count} :
    Pu one 64 [.ag (eHoldV s k row (.sl (f.map eCount) false))] (.fn 95 [] [.pt (eHoldV s k row (.sl (f.map eCount) false)) 0]) := by
  refine PureV.body (fn := Try.f64) rfl rfl rfl rfl ?_
  refine wpC_sound (mu := fun _ => false) ?_
  repeat' (first |(refine ⟨rfl, holdd_one, holdd_deep, ?_⟩) |with_reducible (first|refine RM.c2 ?_|refine RM.c4 ?_|refine RM.c7 ?_|refine RM.c9 ?_|refine RM.o1 ?_|refine RM.o2 ?_|refine RM.o4 ?_|refine RM.o5 ?_|refine RM.o9 ?_|refine RM.p1 ?_|refine RM.p3 ?_|refine RM.p7 ?_) |((with_reducible show force _ _);first|refine RM.f1 rfl ?_|refine RM.f3 rfl ?_|refine RM.f4 rfl ?_) |((with_reducible show wpOne _ _ _ _ _ _ _ _ _ _ _ _);refine RM.o8 rfl ?_) |fail)
  exact ⟨[_], ⟨Fz.deep rfl, trivial⟩, rfl⟩
theorem truths_g (one : Bool) {s : Stores} {k : Kind} {row : List Int} {f : List Count} (h : HoldOk s k row f) :
    GenV TT TB one (.fn 95 [] [.pt (eHoldV s k row (.sl (f.map eCount) false)) 0]) ((truthsL s.men k row f).map ePair) := by
  have h30 := h.row.len
  have k1 := h.kind.first
  have k2 := h.kind.man
  have k3 := h.kind.ship
  have em : ((spanN k.man : Nat) : Int) = k.man.hi - k.man.lo + 1 := by unfold spanN; omega
  have ep : ((spanN k.ship : Nat) : Int) = k.ship.hi - k.ship.lo + 1 := by unfold spanN; omega
  have ef : ((spanN k.first : Nat) : Int) = k.first.hi - k.first.lo + 1 := by unfold spanN; omega
  have hdp : (AV.pt (eHoldV s k row (.sl (f.map eCount) false)) 0).deep = true := rfl
  refine GenV.body (fn := Try.f95) rfl rfl rfl rfl (fun x hx a ha => ?_) fun u J Stop hy => ?_
  · obtain ⟨y, _, rfl⟩ := List.mem_map.1 hx
    simp only [List.mem_cons, List.not_mem_nil, or_false] at ha
    rcases ha with rfl | rfl
    · exact Free.ag fun b hb => by simp only [List.mem_cons, List.not_mem_nil, or_false] at hb; rcases hb with rfl | rfl | rfl <;> exact Free.fl _
    · exact Free.ag fun b hb => by simp only [List.mem_cons, List.not_mem_nil, or_false] at hb; rcases hb with rfl | rfl | rfl <;> exact Free.fl _
  rw [List.length_map]
  refine wpC_sound (mu := fun _ => false) ?_
  repeat' (first |with_reducible (first|refine RM.c2 ?_|refine RM.c3 ?_|refine RM.c4 ?_|refine RM.c9 ?_|refine RM.o1 ?_|refine RM.o2 ?_|refine RM.o4 ?_|refine RM.o5 ?_|refine RM.p2 ?_|refine RM.p5 ?_) |((with_reducible show force _ _);first|refine RM.f1 rfl ?_|refine RM.f3 rfl ?_) |((with_reducible show wpOne _ _ _ _ _ _ _ _ _ _ _ _);refine RM.o8 rfl ?_) |((with_reducible show wpBin _ _ _ _ _ _ _ _ _);first|refine RM.b1 rfl rfl (by omega) ?_|refine RM.b2 rfl rfl (by omega) ?_) |(refine ⟨_, rfl, ?_⟩) |(refine ⟨_, _, rfl, by decide, ?_⟩) |fail)
  rw [← em, show J 0 = J (pairs s.men k row f (0 * spanN k.ship)).length by rw [Nat.zero_mul]; rfl]
  refine SemC.weaker (Weaker.to (l := [(0, .oq u), (1, .pt (eHoldV s k row (.sl (f.map eCount) false)) 0), (18, I64 (spanN k.man)), (19, I64 ((0 : Nat) : Int))]) (hp := []) 0 rfl ⟨rfl, rfl, rfl, rfl, trivial⟩ (Nat.zero_le _) rfl rfl) ?_
  refine SemC.loop (fun m : Nat => m ≤ spanN k.man) (fun m => ⟨mkFr [(0, .oq u), (1, .pt (eHoldV s k row (.sl (f.map eCount) false)) 0), (18, I64 (spanN k.man)), (19, I64 (m : Int))], [], J (pairs s.men k row f (m * spanN k.ship)).length, false, 0⟩) (fun m => spanN k.man - m) ?_ 0 (Nat.zero_le _)
  intro m hm
  refine wpC_sound (mu := fun _ => false) ?_
  repeat' (first |with_reducible (first|refine RM.c2 ?_|refine RM.c4 ?_|refine RM.c9 ?_|refine RM.o1 ?_|refine RM.o2 ?_|refine RM.o4 ?_|refine RM.o5 ?_|refine RM.p5 ?_) |((with_reducible show force _ _);refine RM.f1 rfl ?_) |((with_reducible show wpOne _ _ _ _ _ _ _ _ _ _ _ _);refine RM.o8 rfl ?_) |((with_reducible show wpBin _ _ _ _ _ _ _ _ _);refine RM.b6 rfl rfl ?_) |fail)
  refine RM.e1 rfl ⟨fun hc => ?_, fun hc => ?_⟩
  · have hm1 : m < spanN k.man := by simpa using hc
    repeat' (first |with_reducible (first|refine RM.c1 ?_|refine RM.c2 ?_|refine RM.c3 ?_|refine RM.c4 ?_|refine RM.c9 ?_|refine RM.o1 ?_|refine RM.o2 ?_|refine RM.o4 ?_|refine RM.o5 ?_|refine RM.p2 ?_|refine RM.p3 ?_|refine RM.p5 ?_) |((with_reducible show force _ _);first|refine RM.f1 rfl ?_|refine RM.f3 rfl ?_) |((with_reducible show wpOne _ _ _ _ _ _ _ _ _ _ _ _);refine RM.o8 rfl ?_) |((with_reducible show wpBin _ _ _ _ _ _ _ _ _);first|refine RM.b1 rfl rfl (by omega) ?_|refine RM.b2 rfl rfl (by omega) ?_) |(refine ⟨_, rfl, ?_⟩) |(refine ⟨_, _, rfl, by decide, ?_⟩) |fail)
    rw [← ep]
    refine SemC.weaker (Weaker.to (l := [(0, .oq u), (1, .pt (eHoldV s k row (.sl (f.map eCount) false)) 0), (3, I64 m), (18, I64 (spanN k.man)), (19, I64 m), (31, I64 (spanN k.ship)), (32, I64 ((0 : Nat) : Int))]) (hp := []) 0 rfl ⟨rfl, rfl, rfl, rfl, rfl, rfl, rfl, trivial⟩ (Nat.zero_le _) rfl rfl) ?_
    refine SemC.loop (fun p : Nat => p ≤ spanN k.ship) (fun p => ⟨mkFr [(0, .oq u), (1, .pt (eHoldV s k row (.sl (f.map eCount) false)) 0), (3, I64 m), (18, I64 (spanN k.man)), (19, I64 m), (31, I64 (spanN k.ship)), (32, I64 (p : Int))], [], J (pairs s.men k row f (m * spanN k.ship + p)).length, false, 0⟩) (fun p => spanN k.ship - p) ?_ 0 (Nat.zero_le _)
    intro p hp
    refine RM.c2s (mu := fun _ => false) ?_
    repeat' (first |with_reducible (first|refine RM.c4 ?_|refine RM.c9 ?_|refine RM.o1 ?_|refine RM.o2 ?_|refine RM.o4 ?_|refine RM.o5 ?_|refine RM.p5 ?_) |((with_reducible show force _ _);refine RM.f1 rfl ?_) |((with_reducible show wpOne _ _ _ _ _ _ _ _ _ _ _ _);refine RM.o8 rfl ?_) |((with_reducible show wpBin _ _ _ _ _ _ _ _ _);refine RM.b6 rfl rfl ?_) |fail)
    refine RM.c2s (mu := fun _ => false) ?_
    refine RM.e1 rfl ⟨fun hc => ?_, fun hc => ?_⟩
    · have hp1 : p < spanN k.ship := by simpa using hc
      have hq : m * spanN k.ship + p < spanN k.man * spanN k.ship := by
        have : (m + 1) * spanN k.ship ≤ spanN k.man * spanN k.ship := Nat.mul_le_mul_right _ hm1
        rw [Nat.add_mul, Nat.one_mul] at this
        omega
      have hus := use_at s.men k row f (m := m) hp1
      have hsucc := pairs_succ s.men k row f (m * spanN k.ship + p)
      have hat := fun x => pairs_at s.men k row f hq (x := x)
      rw [hus] at hsucc hat
      have hrun : ∀ n : Int, k.first.lo ≤ n ∧ n ≤ k.first.hi → RunOk s.men k row ⟨n, k.man.lo + m, k.ship.lo + p⟩ := fun n hn => h.run hn (by omega) (by omega)
      have hle := fun b => least_c true 97 [] [.pt (eHoldV s k row (.sl (f.map eCount) false)) 0, .pt (eTruth ⟨0, k.man.lo + m, k.ship.lo + p⟩) 0, .pt [BB b] 0] rfl k.first.lo (spanN k.first) (by omega) (by omega) (fun n => enough s.men k row f b ⟨n, k.man.lo + m, k.ship.lo + p⟩) (fun i hi => enough_c true b h ⟨0, k.man.lo + m, k.ship.lo + p⟩ (k.first.lo + i) (hrun _ (by omega)))
      rw [show k.first.lo + (spanN k.first : Int) - 1 = k.first.hi by omega] at hle
      have hlo : lowF s.men k row f (k.man.lo + m) (k.ship.lo + p) = k.first.lo + bs (fun i => enough s.men k row f false ⟨k.first.lo + (i : Int), k.man.lo + m, k.ship.lo + p⟩) 0 (spanN k.first) := rfl
      have hhi : highF s.men k row f (k.man.lo + m) (k.ship.lo + p) = k.first.lo + bs (fun i => enough s.men k row f true ⟨k.first.lo + (i : Int), k.man.lo + m, k.ship.lo + p⟩) 0 (spanN k.first) - 1 := rfl
      have hb1 := (bs_in (fun i => enough s.men k row f true ⟨k.first.lo + (i : Int), k.man.lo + m, k.ship.lo + p⟩) 0 (spanN k.first) (Nat.zero_le _)).2
      have hl0 := hle false
      have hl1 := hle true
      rw [← hlo] at hl0
      generalize bs (fun i => enough s.men k row f true ⟨k.first.lo + (i : Int), k.man.lo + m, k.ship.lo + p⟩) 0 (spanN k.first) = r1 at hl1 hhi hb1
      repeat' (first |with_reducible (first|refine RM.c1 ?_|refine RM.c9 ?_) |fail)
      refine SemC.seq ?_
      refine SemC.block ?_
      refine RM.c2s (mu := fun _ => false) ?_
      repeat' (first |with_reducible (first|refine RM.c4 ?_|refine RM.c9 ?_|refine RM.o1 ?_|refine RM.o2 ?_|refine RM.o4 ?_|refine RM.o5 ?_|refine RM.p2 ?_|refine RM.p3 ?_) |((with_reducible show force _ _);refine RM.f1 rfl ?_) |((with_reducible show wpOne _ _ _ _ _ _ _ _ _ _ _ _);refine RM.o8 rfl ?_) |fail)
      refine RM.c2s (mu := fun _ => false) ?_
      repeat' (first |with_reducible (first|refine RM.c4 ?_|refine RM.c9 ?_|refine RM.o1 ?_|refine RM.o2 ?_|refine RM.o4 ?_|refine RM.o5 ?_|refine RM.o6 ?_|refine RM.p2 ?_|refine RM.p5 ?_) |((with_reducible show force _ _);first|refine RM.f1 rfl ?_|refine RM.f3 rfl ?_|refine RM.f5 rfl ?_|refine RM.f7 rfl ?_|refine RM.g2 rfl ?_) |((with_reducible show wpOne _ _ _ _ _ _ _ _ _ _ _ _);refine RM.o8 rfl ?_) |((with_reducible show wpBin _ _ _ _ _ _ _ _ _);refine RM.b1 rfl rfl (by omega) ?_) |(refine ⟨_, rfl, ?_⟩) |(refine ⟨_, _, rfl, by decide, ?_⟩) |(refine And.intro (by kernel_rfl) ?_) |(refine ⟨_, _, rfl, rfl, rfl, rfl, Nat.le_of_ble_eq_true rfl, ?_⟩) |fail)
      refine SemC.weaker (Weaker.giveUp 0 (l := [(0, .oq u), (1, .pt (eHoldV s k row (.sl (f.map eCount) false)) 0), (3, I64 m), (5, .pt (eTruth ⟨0, k.man.lo + m, k.ship.lo + p⟩) 0), (18, I64 (spanN k.man)), (19, I64 m), (31, I64 (spanN k.ship)), (32, I64 (p : Int))]) (hp := [.gone]) rfl (Nat.le_refl _) rfl ⟨.same rfl, .same rfl, .same rfl, .ptr, .same rfl, .same rfl, .same rfl, .same rfl, trivial⟩ rfl rfl) ?_
      refine wpC_sound (mu := fun _ => false) ?_
      repeat' (first |(refine ⟨_, passed_c true false _ _, ?_⟩) |(refine ⟨_, passed_c true true _ _, ?_⟩) |(refine ⟨_, hl0, ?_⟩) |(refine ⟨_, hl1, ?_⟩) |with_reducible (first|refine RM.c2 ?_|refine RM.c4 ?_|refine RM.c5 ?_|refine RM.c9 ?_|refine RM.o1 ?_|refine RM.o2 ?_|refine RM.o3 ?_|refine RM.o4 ?_|refine RM.o5 ?_|refine RM.o6 ?_|refine RM.o9 ?_|refine RM.p1 ?_|refine RM.p2 ?_|refine RM.p3 ?_|refine RM.p5 ?_|refine RM.p7 ?_|refine RM.n1 ?_) |((with_reducible show force _ _);first|refine RM.f1 rfl ?_|refine RM.f3 rfl ?_|refine RM.f4 rfl ?_|refine RM.f5 rfl ?_|refine RM.f7 rfl ?_|refine RM.g2 rfl ?_) |((with_reducible show wpOne _ _ _ _ _ _ _ _ _ _ _ _);refine RM.o8 rfl ?_) |((with_reducible show wpDOne _ _ _ _ _ _ _ _ _ _);refine RM.p9 rfl ?_) |((with_reducible show wpBin _ _ _ _ _ _ _ _ _);first|refine RM.b7 rfl rfl ?_|refine RM.b2 rfl rfl (by omega) ?_) |(refine ⟨_, rfl, ?_⟩) |(refine ⟨_, _, rfl, by decide, ?_⟩) |(refine ⟨rfl, rfl, ?_⟩) |(refine ⟨_, _, rfl, _, rfl, ?_⟩) |(refine And.intro (Nat.le_of_ble_eq_true rfl) ?_) |(refine And.intro (by kernel_rfl) ?_) |(refine ⟨_, _, rfl, rfl, rfl, rfl, Nat.le_of_ble_eq_true rfl, ?_⟩) |fail)
      rw [← hhi]
      by_cases hd : lowF s.men k row f (k.man.lo + m) (k.ship.lo + p) ≤ highF s.men k row f (k.man.lo + m) (k.ship.lo + p)
      · have hdd := decide_eq_true hd
        have hpa : pairAt s.men k row f (k.man.lo + m) (k.ship.lo + p) = some (⟨lowF s.men k row f (k.man.lo + m) (k.ship.lo + p), k.man.lo + m, k.ship.lo + p⟩, ⟨highF s.men k row f (k.man.lo + m) (k.ship.lo + p), k.man.lo + m, k.ship.lo + p⟩) := by unfold pairAt; rw [if_pos hd]
        have hx := hat _ hpa
        have e1 : (pairs s.men k row f (m * spanN k.ship + (p + 1))).length = (pairs s.men k row f (m * spanN k.ship + p)).length + 1 := by rw [← Nat.add_assoc, hsucc, hpa]; simp
        repeat' (first |with_reducible (first|refine RM.o2 ?_|refine RM.o5 ?_|refine RM.o7 ?_|refine RM.o9 ?_|refine RM.p1 ?_|refine RM.p2 ?_) |((with_reducible show force _ _);first|refine RM.f5 rfl ?_|refine RM.g1 rfl ?_) |((with_reducible show wpOne _ _ _ _ _ _ _ _ _ _ _ _);refine RM.o8 rfl ?_) |((with_reducible show wpGuard _ _ _ _ _);refine wpGuard_yes rfl rfl (by assumption) ?_) |(refine ⟨_, _, rfl, Nat.le_of_ble_eq_true rfl, ?_⟩) |fail)
        have hyx := hy _ (ePair (⟨lowF s.men k row f (k.man.lo + m) (k.ship.lo + p), k.man.lo + m, k.ship.lo + p⟩, ⟨highF s.men k row f (k.man.lo + m) (k.ship.lo + p), k.man.lo + m, k.ship.lo + p⟩)) (by rw [List.getElem?_map]; exact congrArg (Option.map ePair) hx)
        refine CallV.mono (hyx _) (fun a hp' amb' hq => ?_)
        obtain ⟨rfl, b, rfl, hb⟩ := hq
        rcases hb with ⟨rfl, rfl⟩ | ⟨rfl, hstop⟩
        · repeat' (first |with_reducible (first|refine RM.c1 ?_|refine RM.c9 ?_|refine RM.d3 ?_|refine RM.o1 ?_|refine RM.o2 ?_|refine RM.o4 ?_|refine RM.o5 ?_|refine RM.p4 ?_) |((with_reducible show force _ _);refine RM.f1 rfl ?_) |((with_reducible show wpOne _ _ _ _ _ _ _ _ _ _ _ _);refine RM.o8 rfl ?_) |((with_reducible show wpGuard _ _ _ _ _);refine wpGuard_yes rfl rfl (by assumption) ?_) |((with_reducible show wpC _ _ _ _ (.cond _ _ _) _ _);refine RM.e3 rfl rfl ?_) |((with_reducible show wpPick _ _ _ _ _);refine RM.k1 rfl ?_) |((with_reducible show wpPickB _ _ _ _ _);refine RM.k2 (by assumption) ?_) |((with_reducible show RM.wpOp _ _ _ _ _ _);refine RM.n3 rfl ?_) |fail)
          refine wpC_sound (mu := fun _ => false) ?_
          repeat' (first |with_reducible (first|refine RM.c4 ?_|refine RM.o1 ?_|refine RM.o2 ?_|refine RM.o4 ?_|refine RM.o5 ?_|refine RM.p2 ?_|refine RM.p5 ?_) |((with_reducible show force _ _);refine RM.f1 rfl ?_) |((with_reducible show wpOne _ _ _ _ _ _ _ _ _ _ _ _);refine RM.o8 rfl ?_) |((with_reducible show wpBin _ _ _ _ _ _ _ _ _);refine RM.b1 rfl rfl (by omega) ?_) |fail)
          refine ⟨p + 1, hp1, (by dsimp only; omega), ?_⟩
          show Weaker _ ⟨mkFr [(0, .oq u), (1, .pt (eHoldV s k row (.sl (f.map eCount) false)) 0), (3, I64 m), (18, I64 (spanN k.man)), (19, I64 m), (31, I64 (spanN k.ship)), (32, I64 ((p + 1 : Nat) : Int))], [], J (pairs s.men k row f (m * spanN k.ship + (p + 1))).length, false, 0⟩
          rw [e1]
          exact Weaker.to 0 rfl ⟨rfl, rfl, rfl, rfl, rfl, rfl, i64c (by simp), trivial⟩ (Nat.zero_le _) rfl rfl
        · repeat' (first |with_reducible (first|refine RM.c7 ?_|refine RM.c9 ?_|refine RM.d1 ?_|refine RM.d4 ?_|refine RM.o1 ?_|refine RM.o2 ?_|refine RM.o4 ?_|refine RM.o5 ?_|refine RM.p4 ?_) |((with_reducible show force _ _);refine RM.f1 rfl ?_) |((with_reducible show wpOne _ _ _ _ _ _ _ _ _ _ _ _);refine RM.o8 rfl ?_) |((with_reducible show wpGuard _ _ _ _ _);refine wpGuard_yes rfl rfl (by assumption) ?_) |((with_reducible show wpC _ _ _ _ (.cond _ _ _) _ _);refine RM.e2 rfl rfl ?_) |((with_reducible show wpPick _ _ _ _ _);refine RM.k1 rfl ?_) |((with_reducible show wpPickB _ _ _ _ _);refine RM.k2 (by assumption) ?_) |((with_reducible show RM.wpOp _ _ _ _ _ _);refine RM.n3 rfl ?_) |fail)
          exact Or.inr hstop
      · have hdd := decide_eq_false hd
        have hpa : pairAt s.men k row f (k.man.lo + m) (k.ship.lo + p) = none := by unfold pairAt; rw [if_neg hd]
        have e1 : (pairs s.men k row f (m * spanN k.ship + (p + 1))).length = (pairs s.men k row f (m * spanN k.ship + p)).length := by rw [← Nat.add_assoc, hsucc, hpa]; simp
        repeat' (first |with_reducible (first|refine RM.c1 ?_|refine RM.c9 ?_|refine RM.d3 ?_|refine RM.o1 ?_|refine RM.o2 ?_|refine RM.o4 ?_|refine RM.o5 ?_|refine RM.p4 ?_) |((with_reducible show force _ _);refine RM.f1 rfl ?_) |((with_reducible show wpOne _ _ _ _ _ _ _ _ _ _ _ _);refine RM.o8 rfl ?_) |((with_reducible show wpGuard _ _ _ _ _);refine wpGuard_no rfl rfl (by assumption) ?_) |((with_reducible show wpC _ _ _ _ (.cond _ _ _) _ _);refine RM.e3 rfl rfl ?_) |((with_reducible show wpPick _ _ _ _ _);refine RM.k1 rfl ?_) |((with_reducible show wpPickB _ _ _ _ _);refine RM.k3 (by assumption) ?_) |fail)
        refine wpC_sound (mu := fun _ => false) ?_
        repeat' (first |with_reducible (first|refine RM.c4 ?_|refine RM.o1 ?_|refine RM.o2 ?_|refine RM.o4 ?_|refine RM.o5 ?_|refine RM.p2 ?_|refine RM.p5 ?_) |((with_reducible show force _ _);refine RM.f1 rfl ?_) |((with_reducible show wpOne _ _ _ _ _ _ _ _ _ _ _ _);refine RM.o8 rfl ?_) |((with_reducible show wpBin _ _ _ _ _ _ _ _ _);refine RM.b1 rfl rfl (by omega) ?_) |fail)
        refine ⟨p + 1, hp1, (by dsimp only; omega), ?_⟩
        show Weaker _ ⟨mkFr [(0, .oq u), (1, .pt (eHoldV s k row (.sl (f.map eCount) false)) 0), (3, I64 m), (18, I64 (spanN k.man)), (19, I64 m), (31, I64 (spanN k.ship)), (32, I64 ((p + 1 : Nat) : Int))], [], J (pairs s.men k row f (m * spanN k.ship + (p + 1))).length, false, 0⟩
        rw [e1]
        exact Weaker.to 0 rfl ⟨rfl, rfl, rfl, rfl, rfl, rfl, i64c (by simp), trivial⟩ (Nat.zero_le _) rfl rfl
    · have hp1 : p = spanN k.ship := by have : ¬ p < spanN k.ship := by simpa using hc
                                        omega
      subst hp1
      repeat' (first |with_reducible (first|refine RM.c6 ?_|refine RM.d2 ?_|refine RM.o1 ?_|refine RM.o2 ?_|refine RM.o4 ?_|refine RM.o5 ?_|refine RM.p2 ?_) |((with_reducible show force _ _);refine RM.f1 rfl ?_) |((with_reducible show wpOne _ _ _ _ _ _ _ _ _ _ _ _);refine RM.o8 rfl ?_) |(refine And.intro (by omega) ?_) |fail)
      refine ⟨m + 1, hm1, (by dsimp only; omega), ?_⟩
      show Weaker _ ⟨mkFr [(0, .oq u), (1, .pt (eHoldV s k row (.sl (f.map eCount) false)) 0), (18, I64 (spanN k.man)), (19, I64 ((m + 1 : Nat) : Int))], [], J (pairs s.men k row f ((m + 1) * spanN k.ship)).length, false, 0⟩
      rw [Nat.add_mul, Nat.one_mul]
      exact Weaker.to 0 rfl ⟨rfl, rfl, rfl, i64c (by simp), trivial⟩ (Nat.zero_le _) rfl rfl
  · have hm1 : m = spanN k.man := by have : ¬ m < spanN k.man := by simpa using hc
                                     omega
    subst hm1
    repeat' (first |with_reducible (first|refine RM.c6 ?_|refine RM.d2 ?_) |fail)
    exact Or.inl rfl
end Go.Proofs.Ytmkaeohmdcoanaa
open Go Go.RM
namespace Go.Proofs.Ytmkaeohmdcoanaa
set_option maxRecDepth 100000
set_option maxHeartbeats 4000000
theorem hdeep {s : Stores} {k : Kind} {row : List Int} {c : List (List AV)} {b : Bool} {l : List AV} (h : deepL l = true) : deepL (.ag (eHoldV s k row (.sl c b)) :: l) = true := by
  show ((AV.ag (eHoldV s k row (.sl c b))).deep && deepL l) = true
  rw [eHold_deep rfl, h]
  rfl
theorem pair_of {L : List (Truth × Truth)} {i : Nat} {x : List AV} (h : (L.map ePair)[i]? = some x) : ∃ y, L[i]? = some y ∧ x = ePair y := by
  rw [List.getElem?_map, Option.map_eq_some_iff] at h
  obtain ⟨y, h1, h2⟩ := h
  exact ⟨y, h1, h2.symm⟩
structure Earl where
  t : Truth
  day : Int
  e : Int
def shortF (men : List Int) (k : Kind) (row : List Int) (t : Truth) : Int := shortAt men k row t men.length men.length
theorem truthsL_run {s : Stores} {k : Kind} {row : List Int} {f : List Count} (h : HoldOk s k row f) {y : Truth × Truth} (hy : y ∈ truthsL s.men k row f) :
    (RunOk s.men k row y.1 ∧ RunOk s.men k row y.2) ∧ (k.first.lo ≤ y.1.first ∧ y.1.first ≤ y.2.first ∧ y.2.first ≤ k.first.hi) ∧ (k.man.lo ≤ y.1.man ∧ y.1.man ≤ k.man.hi ∧ y.2.man = y.1.man) ∧ (k.ship.lo ≤ y.1.ship ∧ y.1.ship ≤ k.ship.hi ∧ y.2.ship = y.1.ship) := by
  have k1 := h.kind.first
  have k2 := h.kind.man
  have k3 := h.kind.ship
  unfold truthsL pairs at hy
  rw [List.mem_filterMap] at hy
  obtain ⟨q, hq, hy⟩ := hy
  rw [List.mem_range] at hq
  unfold useAt pairAt at hy
  split at hy
  · rename_i hle
    cases hy
    have hpos : 0 < spanN k.ship := by unfold spanN; omega
    have h1 : q / spanN k.ship < spanN k.man := Nat.div_lt_of_lt_mul (by rw [Nat.mul_comm]; exact hq)
    have h2 := Nat.mod_lt q hpos
    have em : ((spanN k.man : Nat) : Int) = k.man.hi - k.man.lo + 1 := by unfold spanN; omega
    have ep : ((spanN k.ship : Nat) : Int) = k.ship.hi - k.ship.lo + 1 := by unfold spanN; omega
    have ef : ((spanN k.first : Nat) : Int) = k.first.hi - k.first.lo + 1 := by unfold spanN; omega
    have b1 := (bs_in (fun i => enough s.men k row f false ⟨k.first.lo + (i : Int), k.man.lo + (q / spanN k.ship : Nat), k.ship.lo + (q % spanN k.ship : Nat)⟩) 0 (spanN k.first) (Nat.zero_le _)).2
    have b2 := (bs_in (fun i => enough s.men k row f true ⟨k.first.lo + (i : Int), k.man.lo + (q / spanN k.ship : Nat), k.ship.lo + (q % spanN k.ship : Nat)⟩) 0 (spanN k.first) (Nat.zero_le _)).2
    have c1 : lowF s.men k row f (k.man.lo + (q / spanN k.ship : Nat)) (k.ship.lo + (q % spanN k.ship : Nat)) = k.first.lo + bs (fun i => enough s.men k row f false ⟨k.first.lo + (i : Int), k.man.lo + (q / spanN k.ship : Nat), k.ship.lo + (q % spanN k.ship : Nat)⟩) 0 (spanN k.first) := rfl
    have c2 : highF s.men k row f (k.man.lo + (q / spanN k.ship : Nat)) (k.ship.lo + (q % spanN k.ship : Nat)) = k.first.lo + bs (fun i => enough s.men k row f true ⟨k.first.lo + (i : Int), k.man.lo + (q / spanN k.ship : Nat), k.ship.lo + (q % spanN k.ship : Nat)⟩) 0 (spanN k.first) - 1 := rfl
    generalize bs (fun i => enough s.men k row f false ⟨k.first.lo + (i : Int), k.man.lo + (q / spanN k.ship : Nat), k.ship.lo + (q % spanN k.ship : Nat)⟩) 0 (spanN k.first) = r1 at b1 c1
    generalize bs (fun i => enough s.men k row f true ⟨k.first.lo + (i : Int), k.man.lo + (q / spanN k.ship : Nat), k.ship.lo + (q % spanN k.ship : Nat)⟩) 0 (spanN k.first) = r2 at b2 c2
    generalize q / spanN k.ship = m at *
    generalize q % spanN k.ship = p at *
    refine ⟨⟨h.run (by omega) (by omega) (by omega), h.run (by omega) (by omega) (by omega)⟩, by dsimp only; omega, by dsimp only; omega, by dsimp only; omega⟩
  · cases hy
end Go.Proofs.Ytmkaeohmdcoanaa
open Go Go.RM
namespace Go.Proofs.Ytmkaeohmdcoanaa
set_option maxRecDepth 100000
set_option maxHeartbeats 4000000
def cntErr (s : Stores) (c : Count) : Int :=
  if outB 0 ((s.kinds.length : Int) - 1) [c.kind] then 4
  else if outB 0 (s.men.length : Int) [c.day] || outB 0 600 [c.amount.lo, c.amount.hi] then 7
  else if decide (c.amount.hi < c.amount.lo) then 2 else 0
def cntE (s : Stores) (l : List Count) (i : Nat) : Int := match l[i]? with | some c => cntErr s c | none => 0
def cntsErr (s : Stores) (l : List Count) : Int :=
  if (chk s).2.2 ≠ 0 then (chk s).2.2 else if 8 < (l.length : Int) then 3 else (firstN l.length (cntE s l)).2
theorem counted1_c (s : Stores) (i : Int) (c : Count) (hk : s.kinds.length ≤ maxLen) (one : Bool) : PureV TT TB one (.fn 108 [] [.pt (eStores s) 0]) [I64 i, .ag (eCount c)] (I64 (cntErr s c)) := by
  unfold maxLen at hk
  unfold cntErr
  have e1 : ((s.kinds.map eKind).length : Int) = s.kinds.length := by simp
  have e2 : ((s.men.map eI).length : Int) = s.men.length := by simp
  refine PureV.body (fn := Try.f108) rfl rfl rfl rfl ?_
  refine wpC_sound (mu := fun _ => false) ?_
  repeat' (first |with_reducible (first|refine RM.c1 ?_|refine RM.c2 ?_|refine RM.c3 ?_|refine RM.c4 ?_|refine RM.c7 ?_|refine RM.c9 ?_|refine RM.d1 ?_|refine RM.d3 ?_|refine RM.d4 ?_|refine RM.o1 ?_|refine RM.o2 ?_|refine RM.o4 ?_|refine RM.o5 ?_|refine RM.o7 ?_|refine RM.o9 ?_|refine RM.p1 ?_|refine RM.p2 ?_|refine RM.p3 ?_|refine RM.p4 ?_|refine RM.p5 ?_|refine RM.p6 ?_) |((with_reducible show force _ _);first|refine RM.f1 rfl ?_|refine RM.f2 rfl ?_|refine RM.f3 rfl ?_|refine RM.f4 rfl ?_) |((with_reducible show wpOne _ _ _ _ _ _ _ _ _ _ _ _);refine RM.o8 rfl ?_) |((with_reducible show wpGuard _ _ _ _ _);first|refine wpGuard_yes rfl rfl (by assumption) ?_|refine wpGuard_no rfl rfl (by assumption) ?_) |((with_reducible show wpC _ _ _ _ (.cond _ _ _) _ _);refine RM.e2 rfl rfl ?_) |((with_reducible show wpPick _ _ _ _ _);refine RM.k1 rfl ?_) |((with_reducible show wpPickB _ _ _ _ _);first|refine RM.k2 (by assumption) ?_|refine RM.k3 (by assumption) ?_) |((with_reducible show wpBin _ _ _ _ _ _ _ _ _);first|refine RM.b8 rfl rfl ?_|refine RM.b2 rfl rfl (by omega) ?_) |((with_reducible show wpLen _ _ _ _ _);refine RM.l1 rfl ?_) |(refine ⟨_, rfl, ?_⟩) |(refine ⟨_, _, rfl, by decide, ?_⟩) |(refine ⟨rfl, rfl, rfl, ?_⟩) |(refine ⟨rfl, rfl, ?_⟩) |(refine PureV.call (outside_c one _ _ _ _ rfl (Nat.le_of_ble_eq_true rfl)) rfl rfl ?_) |((with_reducible show wpGuard _ _ _ _ _);refine wpGuard_split rfl rfl (fun h => ?_) (fun h => ?_)) |((with_reducible show wpC _ _ _ _ (.cond _ _ _) _ _);refine RM.e1 rfl ⟨fun h => ?_, fun h => ?_⟩) |fail)
  all_goals refine ⟨[_], ⟨Fz.deep rfl, trivial⟩, i64c ?_⟩
  all_goals simp_all [cells_fl, unI_fl]
theorem counted_c (one : Bool) (s : Stores) (h : s.Ok) (l : List Count) (hl : l.length ≤ maxLen) : Pu one 77 [.ag (eStores s), .sl (l.map eCount) false] (I64 (cntsErr s l)) := by
  have hc := check_c s h one
  have c3 := first107_c one 108 [] [.pt (eStores s) 0] rfl (cntE s l) l false hl (fun i hi => by
    unfold cntE
    simp only [List.getElem?_eq_getElem hi]
    exact counted1_c s i _ h.kinds one)
  have el : ((l.map eCount).length : Int) = l.length := by simp
  unfold cntsErr
  generalize chk s = c at hc ⊢
  generalize firstN l.length (cntE s l) = r at c3 ⊢
  by_cases h1 : c.2.2 = 0
  · rw [h1] at hc
    rw [if_neg (by simpa using h1)]
    by_cases h2 : 8 < (l.length : Int)
    · have d2 : decide ((8 : Int) < ((l.map eCount).length : Int)) = true := by rw [el]; exact decide_eq_true h2
      rw [if_pos h2]
      refine PureV.body (fn := Try.f77) rfl rfl rfl rfl ?_
      refine wpC_sound (mu := fun _ => false) ?_
      repeat' (first |with_reducible (first|refine RM.c1 ?_|refine RM.c2 ?_|refine RM.c4 ?_|refine RM.c7 ?_|refine RM.c9 ?_|refine RM.d1 ?_|refine RM.o1 ?_|refine RM.o2 ?_|refine RM.o4 ?_|refine RM.o5 ?_|refine RM.o7 ?_|refine RM.o9 ?_|refine RM.p1 ?_|refine RM.p2 ?_|refine RM.p3 ?_|refine RM.p5 ?_|refine RM.p6 ?_) |((with_reducible show force _ _);first|refine RM.f1 rfl ?_|refine RM.f2 rfl ?_|refine RM.f3 rfl ?_|refine RM.f4 rfl ?_|refine RM.f5 rfl ?_|refine RM.f6 rfl ?_) |((with_reducible show wpOne _ _ _ _ _ _ _ _ _ _ _ _);refine RM.o8 rfl ?_) |((with_reducible show wpC _ _ _ _ (.cond _ _ _) _ _);first|refine RM.e3 rfl rfl ?_|refine RM.e2 rfl (by assumption) ?_) |((with_reducible show wpBin _ _ _ _ _ _ _ _ _);first|refine RM.b5 rfl rfl ?_|refine RM.b8 rfl rfl ?_) |((with_reducible show wpLen _ _ _ _ _);refine RM.l1 rfl ?_) |(refine ⟨_, rfl, ?_⟩) |(refine ⟨rfl, rfl, rfl, ?_⟩) |(refine And.intro (Nat.le_of_ble_eq_true rfl) ?_) |(refine PureV.call hc rfl rfl ?_) |fail)
      exact ⟨[_], ⟨Fz.deep rfl, trivial⟩, rfl⟩
    · have d2 : decide ((8 : Int) < ((l.map eCount).length : Int)) = false := by rw [el]; exact decide_eq_false h2
      rw [if_neg h2]
      refine PureV.body (fn := Try.f77) rfl rfl rfl rfl ?_
      refine wpC_sound (mu := fun _ => false) ?_
      repeat' (first |with_reducible (first|refine RM.c1 ?_|refine RM.c2 ?_|refine RM.c4 ?_|refine RM.c7 ?_|refine RM.c9 ?_|refine RM.o1 ?_|refine RM.o2 ?_|refine RM.o4 ?_|refine RM.o5 ?_|refine RM.o7 ?_|refine RM.o9 ?_|refine RM.p1 ?_|refine RM.p2 ?_|refine RM.p3 ?_|refine RM.p5 ?_|refine RM.p6 ?_|refine RM.p7 ?_) |((with_reducible show force _ _);first|refine RM.f1 rfl ?_|refine RM.f2 rfl ?_|refine RM.f3 rfl ?_|refine RM.f4 rfl ?_|refine RM.f5 rfl ?_|refine RM.f6 rfl ?_) |((with_reducible show wpOne _ _ _ _ _ _ _ _ _ _ _ _);refine RM.o8 rfl ?_) |((with_reducible show wpC _ _ _ _ (.cond _ _ _) _ _);first|refine RM.e3 rfl rfl ?_|refine RM.e3 rfl (by assumption) ?_) |((with_reducible show wpBin _ _ _ _ _ _ _ _ _);first|refine RM.b5 rfl rfl ?_|refine RM.b8 rfl rfl ?_) |((with_reducible show wpLen _ _ _ _ _);refine RM.l1 rfl ?_) |(refine ⟨_, rfl, ?_⟩) |(refine ⟨rfl, rfl, rfl, ?_⟩) |(refine And.intro (Nat.le_of_ble_eq_true rfl) ?_) |(refine PureV.call hc rfl rfl ?_) |(refine PureV.call c3 rfl rfl ?_) |fail)
      exact ⟨[_], ⟨Fz.deep rfl, trivial⟩, rfl⟩
  · have d1 : (!decide (c.2.2 = 0)) = true := by simpa using h1
    rw [if_pos h1]
    refine PureV.body (fn := Try.f77) rfl rfl rfl rfl ?_
    refine wpC_sound (mu := fun _ => false) ?_
    repeat' (first |with_reducible (first|refine RM.c2 ?_|refine RM.c4 ?_|refine RM.c7 ?_|refine RM.c9 ?_|refine RM.d1 ?_|refine RM.o1 ?_|refine RM.o2 ?_|refine RM.o4 ?_|refine RM.o5 ?_|refine RM.o7 ?_|refine RM.o9 ?_|refine RM.p1 ?_|refine RM.p2 ?_|refine RM.p3 ?_|refine RM.p5 ?_) |((with_reducible show force _ _);first|refine RM.f1 rfl ?_|refine RM.f3 rfl ?_|refine RM.f4 rfl ?_|refine RM.f5 rfl ?_|refine RM.f6 rfl ?_) |((with_reducible show wpOne _ _ _ _ _ _ _ _ _ _ _ _);refine RM.o8 rfl ?_) |((with_reducible show wpC _ _ _ _ (.cond _ _ _) _ _);refine RM.e2 rfl (by assumption) ?_) |((with_reducible show wpBin _ _ _ _ _ _ _ _ _);refine RM.b5 rfl rfl ?_) |(refine ⟨_, rfl, ?_⟩) |(refine ⟨rfl, rfl, rfl, ?_⟩) |(refine And.intro (Nat.le_of_ble_eq_true rfl) ?_) |(refine PureV.call hc rfl rfl ?_) |fail)
    exact ⟨[_], ⟨Fz.deep rfl, trivial⟩, rfl⟩
theorem cnts_good {s : Stores} {l : List Count} (h : cntsErr s l = 0) : Good s ∧ l.length ≤ 8 ∧ ∀ c ∈ l, (0 ≤ c.kind ∧ c.kind < s.kinds.length) ∧ (0 ≤ c.day ∧ c.day ≤ s.men.length) ∧ (0 ≤ c.amount.lo ∧ c.amount.lo ≤ c.amount.hi ∧ c.amount.hi ≤ 600) := by
  unfold cntsErr at h
  by_cases h1 : (chk s).2.2 = 0
  · rw [if_neg (by simpa using h1)] at h
    by_cases h2 : 8 < (l.length : Int)
    · rw [if_pos h2] at h; exact absurd h (by decide)
    · rw [if_neg h2] at h
      refine ⟨chk_good h1, by omega, fun c hc => ?_⟩
      obtain ⟨i, hi, rfl⟩ := List.getElem_of_mem hc
      have := firstN_zero h i hi
      unfold cntE at this
      simp only [List.getElem?_eq_getElem hi] at this
      unfold cntErr at this
      split at this
      · exact absurd this (by decide)
      · rename_i h4
        split at this
        · exact absurd this (by decide)
        · rename_i h7
          split at this
          · exact absurd this (by decide)
          · rename_i h3
            simp only [Bool.not_eq_true, Bool.or_eq_false_iff, outB_false, decide_eq_false_iff_not, List.mem_cons, List.not_mem_nil, or_false, forall_eq_or_imp, forall_eq] at h4 h7 h3
            omega
  · rw [if_pos h1] at h; exact absurd h h1
def cntsOf (l : List Count) (i : Nat) : List Count := l.filter (fun c => decide (c.kind = (i : Int)))
theorem holdOk {s : Stores} {l : List Count} (h : cntsErr s l = 0) {i : Nat} (hi : i < s.kinds.length) : HoldOk s s.kinds[i] (cargoRow i s.cargos) (cntsOf l i) := by
  obtain ⟨hg, hl, hc⟩ := cnts_good h
  refine ⟨hg, hg.kinds _ (List.getElem_mem hi), hg.row i, fun c hx => ?_, ?_⟩
  · exact (hc c ((List.mem_filter.1 hx).1)).2.1
  · have := List.length_filter_le (fun c => decide (c.kind = (i : Int))) l
    unfold cntsOf
    omega
end Go.Proofs.Ytmkaeohmdcoanaa
open Go Go.RM
namespace Go.Proofs.Ytmkaeohmdcoanaa
set_option maxRecDepth 100000
set_option maxHeartbeats 4000000
theorem cntErr_eq (s : Stores) (c : Count) : cntErr s c = if inB c.kind 0 ((s.kinds.length : Int) - 1) = false then 4 else if inB c.day 0 s.men.length = false then 7 else rangeErr 0 600 c.amount := by
  unfold cntErr rangeErr
  rw [outB_one, outB_one, outB_cons, outB_cons, outB_nil, Bool.or_false]
  cases inB c.kind 0 ((s.kinds.length : Int) - 1) <;> cases inB c.day 0 s.men.length <;> cases inB c.amount.lo 0 600 <;> cases inB c.amount.hi 0 600 <;> simp
theorem rcounts_c (one : Bool) (s : Stores) (h : s.Ok) (l : List Count) (hl : l.length ≤ maxLen) : Pu one 43 [.ag (eStores s), .sl (l.map eCount) false] (I64 (cntsErr s l)) := by
  have hc := rcheck_c s h one
  have el : ((l.map eCount).length : Int) = l.length := by simp
  have em : ((s.men.map eI).length : Int) = s.men.length := by simp
  have ek : ((s.kinds.map eKind).length : Int) = s.kinds.length := by simp
  have hk := h.kinds
  unfold maxLen at hk hl
  by_cases h1 : (chk s).2.2 = 0
  · rw [h1] at hc
    by_cases h2 : 8 < (l.length : Int)
    · have hv : cntsErr s l = 3 := by unfold cntsErr; rw [if_neg (by simpa using h1), if_pos h2]
      rw [hv]
      have d2 : decide ((8 : Int) < ((l.map eCount).length : Int)) = true := by rw [el]; exact decide_eq_true h2
      refine PureV.body (fn := Try.f43) rfl rfl rfl rfl ?_
      refine wpC_sound (mu := fun _ => false) ?_
      repeat' (first |with_reducible (first|refine RM.c2 ?_|refine RM.c3 ?_|refine RM.c4 ?_|refine RM.c9 ?_|refine RM.o1 ?_|refine RM.o2 ?_|refine RM.o4 ?_|refine RM.o5 ?_|refine RM.o7 ?_|refine RM.o9 ?_|refine RM.p1 ?_|refine RM.p2 ?_|refine RM.p3 ?_|refine RM.p4 ?_|refine RM.p5 ?_|refine RM.p6 ?_) |((with_reducible show force _ _);first|refine RM.f1 rfl ?_|refine RM.f2 rfl ?_|refine RM.f3 rfl ?_|refine RM.f4 rfl ?_|refine RM.f5 rfl ?_|refine RM.f6 rfl ?_) |((with_reducible show wpOne _ _ _ _ _ _ _ _ _ _ _ _);refine RM.o8 rfl ?_) |((with_reducible show wpGuard _ _ _ _ _);refine wpGuard_yes rfl rfl rfl ?_) |((with_reducible show wpC _ _ _ _ (.cond _ _ _) _ _);refine RM.e2 rfl (by assumption) ?_) |((with_reducible show wpPick _ _ _ _ _);refine RM.k1 rfl ?_) |((with_reducible show wpPickB _ _ _ _ _);refine RM.k2 rfl ?_) |((with_reducible show wpBin _ _ _ _ _ _ _ _ _);first|refine RM.b4 rfl rfl ?_|refine RM.b8 rfl rfl ?_) |((with_reducible show wpLen _ _ _ _ _);refine RM.l1 rfl ?_) |(refine ⟨_, rfl, ?_⟩) |(refine ⟨rfl, rfl, rfl, ?_⟩) |(refine And.intro (Nat.le_of_ble_eq_true rfl) ?_) |(refine PureV.call hc rfl rfl ?_) |fail)
      refine SemC.weaker (Weaker.to (l := [(1, .sl (l.map eCount) false), (2, .pt (eStores s) 0), (7, I64 3), (8, I64 0)]) 0 rfl ⟨rfl, rfl, rfl, rfl, trivial⟩ (Nat.le_refl _) rfl rfl) ?_
      refine SemC.loop (fun _ : Unit => True) (fun _ => ⟨mkFr [(1, .sl (l.map eCount) false), (2, .pt (eStores s) 0), (7, I64 3), (8, I64 0)], [], Amb.none, false, 0⟩) (fun _ => 0) ?_ () trivial
      intro _ _
      refine wpC_sound (mu := fun _ => false) ?_
      have d3 : decide ((0 : Int) < ((l.map eCount).length : Int)) = true := by rw [el]; exact decide_eq_true (by omega)
      repeat' (first |with_reducible (first|refine RM.c2 ?_|refine RM.c4 ?_|refine RM.c6 ?_|refine RM.c7 ?_|refine RM.c9 ?_|refine RM.d2 ?_|refine RM.o1 ?_|refine RM.o2 ?_|refine RM.o4 ?_|refine RM.o5 ?_|refine RM.p2 ?_|refine RM.p3 ?_|refine RM.p4 ?_|refine RM.p5 ?_|refine RM.p6 ?_|refine RM.q2 ?_) |((with_reducible show force _ _);first|refine RM.f1 rfl ?_|refine RM.f2 rfl ?_) |((with_reducible show wpOne _ _ _ _ _ _ _ _ _ _ _ _);refine RM.o8 rfl ?_) |((with_reducible show wpGuard _ _ _ _ _);refine wpGuard_yes rfl rfl (by assumption) ?_) |((with_reducible show wpC _ _ _ _ (.cond _ _ _) _ _);refine RM.e3 rfl rfl ?_) |((with_reducible show wpPick _ _ _ _ _);refine RM.k1 rfl ?_) |((with_reducible show wpPickB _ _ _ _ _);refine RM.k2 (by assumption) ?_) |((with_reducible show wpBin _ _ _ _ _ _ _ _ _);first|refine RM.b4 rfl rfl ?_|refine RM.b6 rfl rfl ?_) |((with_reducible show wpLen _ _ _ _ _);refine RM.l1 rfl ?_) |((with_reducible show blockK _ _ _ _);refine RM.d5 rfl ?_) |fail)
      exact ⟨[_], ⟨Fz.deep rfl, trivial⟩, rfl⟩
    · have hv : cntsErr s l = (firstN l.length (cntE s l)).2 := by unfold cntsErr; rw [if_neg (by simpa using h1), if_neg h2]
      rw [hv]
      have d2 : decide ((8 : Int) < ((l.map eCount).length : Int)) = false := by rw [el]; exact decide_eq_false h2
      refine PureV.body (fn := Try.f43) rfl rfl rfl rfl ?_
      refine wpC_sound (mu := fun _ => false) ?_
      repeat' (first |with_reducible (first|refine RM.c1 ?_|refine RM.c2 ?_|refine RM.c3 ?_|refine RM.c4 ?_|refine RM.c9 ?_|refine RM.o1 ?_|refine RM.o2 ?_|refine RM.o4 ?_|refine RM.o5 ?_|refine RM.o7 ?_|refine RM.o9 ?_|refine RM.p1 ?_|refine RM.p2 ?_|refine RM.p3 ?_|refine RM.p4 ?_|refine RM.p5 ?_|refine RM.p6 ?_) |((with_reducible show force _ _);first|refine RM.f1 rfl ?_|refine RM.f2 rfl ?_|refine RM.f3 rfl ?_|refine RM.f4 rfl ?_|refine RM.f5 rfl ?_|refine RM.f6 rfl ?_) |((with_reducible show wpOne _ _ _ _ _ _ _ _ _ _ _ _);refine RM.o8 rfl ?_) |((with_reducible show wpGuard _ _ _ _ _);refine wpGuard_yes rfl rfl rfl ?_) |((with_reducible show wpC _ _ _ _ (.cond _ _ _) _ _);refine RM.e3 rfl (by assumption) ?_) |((with_reducible show wpPick _ _ _ _ _);refine RM.k1 rfl ?_) |((with_reducible show wpPickB _ _ _ _ _);refine RM.k2 rfl ?_) |((with_reducible show wpBin _ _ _ _ _ _ _ _ _);first|refine RM.b4 rfl rfl ?_|refine RM.b8 rfl rfl ?_) |((with_reducible show wpLen _ _ _ _ _);refine RM.l1 rfl ?_) |(refine ⟨_, rfl, ?_⟩) |(refine ⟨rfl, rfl, rfl, ?_⟩) |(refine And.intro (Nat.le_of_ble_eq_true rfl) ?_) |(refine PureV.call hc rfl rfl ?_) |fail)
      refine SemC.weaker (Weaker.to (l := [(1, .sl (l.map eCount) false), (2, .pt (eStores s) 0), (7, I64 0), (8, I64 ((0 : Nat) : Int))]) 0 rfl ⟨rfl, rfl, rfl, rfl, trivial⟩ (Nat.le_refl _) rfl rfl) ?_
      refine SemC.loop (fun x : Nat × Int => x.1 ≤ l.length ∧ ((x.2 = 0 ∧ ∀ i, i < x.1 → cntE s l i = 0) ∨ (x.2 ≠ 0 ∧ (firstN l.length (cntE s l)).2 = x.2))) (fun x => ⟨mkFr [(1, .sl (l.map eCount) false), (2, .pt (eStores s) 0), (7, I64 x.2), (8, I64 (x.1 : Int))], [], Amb.none, false, 0⟩) (fun x => l.length - x.1) ?_ (0, 0) ⟨Nat.zero_le _, .inl ⟨rfl, fun i hi => absurd hi (Nat.not_lt_zero _)⟩⟩
      rintro ⟨k, e⟩ ⟨hk1, hst⟩
      dsimp only at hk1 hst
      change SemC TT TB one _ ⟨mkFr [(1, .sl (l.map eCount) false), (2, .pt (eStores s) 0), (7, I64 e), (8, I64 (k : Int))], [], Amb.none, false, 0⟩ _
      refine wpC_sound (mu := fun _ => false) ?_
      by_cases hlt : k < l.length
      · have d3 : decide ((k : Int) < ((l.map eCount).length : Int)) = true := by rw [el]; exact decide_eq_true (by omega)
        rcases hst with ⟨rfl, hprev⟩ | ⟨hne, hfin⟩
        · have hce : cntE s l k = cntErr s l[k] := by unfold cntE; simp only [List.getElem?_eq_getElem hlt]
          rw [cntErr_eq] at hce
          have hik := in58_c true l[k].kind 0 (((s.kinds.map eKind).length : Int) - 1)
          have hid := in58_c true l[k].day 0 ((s.men.map eI).length : Int)
          have hra := range_c one l[k].amount 0 600
          rw [ek] at hik
          rw [em] at hid
          cases b1 : inB l[k].kind 0 ((s.kinds.length : Int) - 1) with
          | false =>
            rw [b1, ← ek] at hik
            rw [if_pos b1] at hce
            repeat' (first |with_reducible (first|refine RM.c1 ?_|refine RM.c2 ?_|refine RM.c3 ?_|refine RM.c4 ?_|refine RM.c5 ?_|refine RM.c7 ?_|refine RM.c9 ?_|refine RM.d1 ?_|refine RM.d4 ?_|refine RM.o1 ?_|refine RM.o2 ?_|refine RM.o3 ?_|refine RM.o4 ?_|refine RM.o5 ?_|refine RM.o9 ?_|refine RM.p1 ?_|refine RM.p2 ?_|refine RM.p3 ?_|refine RM.p4 ?_|refine RM.p5 ?_|refine RM.p6 ?_|refine RM.n1 ?_|refine RM.q1 ?_) |((with_reducible show force _ _);first|refine RM.f1 rfl ?_|refine RM.f2 rfl ?_|refine RM.f3 rfl ?_|refine RM.f4 rfl ?_) |((with_reducible show wpOne _ _ _ _ _ _ _ _ _ _ _ _);refine RM.o8 rfl ?_) |((with_reducible show wpDOne _ _ _ _ _ _ _ _ _ _);refine RM.p9 rfl ?_) |((with_reducible show wpGuard _ _ _ _ _);refine wpGuard_yes rfl rfl (by assumption) ?_) |((with_reducible show wpC _ _ _ _ (.cond _ _ _) _ _);refine RM.e2 rfl rfl ?_) |((with_reducible show wpPick _ _ _ _ _);refine RM.k1 rfl ?_) |((with_reducible show wpPickB _ _ _ _ _);refine RM.k2 (by assumption) ?_) |((with_reducible show wpBin _ _ _ _ _ _ _ _ _);first|refine RM.b4 rfl rfl ?_|refine RM.b6 rfl rfl ?_|refine RM.b2 rfl rfl (by omega) ?_) |((with_reducible show wpLen _ _ _ _ _);refine RM.l1 rfl ?_) |((with_reducible show RM.wpOp _ _ _ _ _ _);refine RM.n3 rfl ?_) |(refine ⟨_, rfl, ?_⟩) |(refine ⟨_, _, rfl, by decide, ?_⟩) |(refine ⟨rfl, rfl, ?_⟩) |(refine And.intro (by kernel_rfl) ?_) |(refine ⟨eCount l[k], ⟨by omega, map_at hlt⟩, rfl, ?_⟩) |(refine ⟨_, hik, ?_⟩) |fail)
            exact ⟨[_], ⟨Fz.deep rfl, trivial⟩, by rw [firstN_here hlt hprev (by rw [hce]; decide), hce]; rfl⟩
          | true =>
            rw [b1, ← ek] at hik
            rw [if_neg (by rw [b1]; decide)] at hce
            cases b2 : inB l[k].day 0 s.men.length with
            | false =>
              rw [b2, ← em] at hid
              rw [if_pos b2] at hce
              repeat' (first |with_reducible (first|refine RM.c1 ?_|refine RM.c2 ?_|refine RM.c3 ?_|refine RM.c4 ?_|refine RM.c5 ?_|refine RM.c7 ?_|refine RM.c9 ?_|refine RM.d1 ?_|refine RM.d4 ?_|refine RM.o1 ?_|refine RM.o2 ?_|refine RM.o3 ?_|refine RM.o4 ?_|refine RM.o5 ?_|refine RM.o9 ?_|refine RM.p1 ?_|refine RM.p2 ?_|refine RM.p3 ?_|refine RM.p4 ?_|refine RM.p5 ?_|refine RM.p6 ?_|refine RM.n1 ?_|refine RM.q1 ?_) |((with_reducible show force _ _);first|refine RM.f1 rfl ?_|refine RM.f2 rfl ?_|refine RM.f3 rfl ?_|refine RM.f4 rfl ?_) |((with_reducible show wpOne _ _ _ _ _ _ _ _ _ _ _ _);refine RM.o8 rfl ?_) |((with_reducible show wpDOne _ _ _ _ _ _ _ _ _ _);refine RM.p9 rfl ?_) |((with_reducible show wpGuard _ _ _ _ _);refine wpGuard_yes rfl rfl (by assumption) ?_) |((with_reducible show wpC _ _ _ _ (.cond _ _ _) _ _);first|refine RM.e2 rfl rfl ?_|refine RM.e3 rfl rfl ?_) |((with_reducible show wpPick _ _ _ _ _);refine RM.k1 rfl ?_) |((with_reducible show wpPickB _ _ _ _ _);refine RM.k2 (by assumption) ?_) |((with_reducible show wpBin _ _ _ _ _ _ _ _ _);first|refine RM.b4 rfl rfl ?_|refine RM.b6 rfl rfl ?_|refine RM.b2 rfl rfl (by omega) ?_) |((with_reducible show wpLen _ _ _ _ _);refine RM.l1 rfl ?_) |((with_reducible show RM.wpOp _ _ _ _ _ _);refine RM.n3 rfl ?_) |(refine ⟨_, rfl, ?_⟩) |(refine ⟨_, _, rfl, by decide, ?_⟩) |(refine ⟨rfl, rfl, ?_⟩) |(refine And.intro (by kernel_rfl) ?_) |(refine ⟨eCount l[k], ⟨by omega, map_at hlt⟩, rfl, ?_⟩) |(refine ⟨_, hik, ?_⟩) |(refine ⟨_, hid, ?_⟩) |fail)
              exact ⟨[_], ⟨Fz.deep rfl, trivial⟩, by rw [firstN_here hlt hprev (by rw [hce]; decide), hce]; rfl⟩
            | true =>
              rw [b2, ← em] at hid
              rw [if_neg (by rw [b2]; decide)] at hce
              rw [← hce] at hra
              repeat' (first |with_reducible (first|refine RM.c1 ?_|refine RM.c2 ?_|refine RM.c3 ?_|refine RM.c4 ?_|refine RM.c5 ?_|refine RM.c9 ?_|refine RM.d3 ?_|refine RM.o1 ?_|refine RM.o2 ?_|refine RM.o3 ?_|refine RM.o4 ?_|refine RM.o5 ?_|refine RM.o7 ?_|refine RM.o9 ?_|refine RM.p1 ?_|refine RM.p2 ?_|refine RM.p3 ?_|refine RM.p4 ?_|refine RM.p5 ?_|refine RM.p6 ?_|refine RM.n1 ?_) |((with_reducible show force _ _);first|refine RM.f1 rfl ?_|refine RM.f2 rfl ?_|refine RM.f3 rfl ?_|refine RM.f4 rfl ?_|refine RM.f5 rfl ?_) |((with_reducible show wpOne _ _ _ _ _ _ _ _ _ _ _ _);refine RM.o8 rfl ?_) |((with_reducible show wpDOne _ _ _ _ _ _ _ _ _ _);refine RM.p9 rfl ?_) |((with_reducible show wpGuard _ _ _ _ _);refine wpGuard_yes rfl rfl (by assumption) ?_) |((with_reducible show wpC _ _ _ _ (.cond _ _ _) _ _);first|refine RM.e2 rfl rfl ?_|refine RM.e3 rfl rfl ?_) |((with_reducible show wpPick _ _ _ _ _);refine RM.k1 rfl ?_) |((with_reducible show wpPickB _ _ _ _ _);refine RM.k2 (by assumption) ?_) |((with_reducible show wpBin _ _ _ _ _ _ _ _ _);first|refine RM.b4 rfl rfl ?_|refine RM.b6 rfl rfl ?_|refine RM.b1 rfl rfl (by omega) ?_|refine RM.b2 rfl rfl (by omega) ?_) |((with_reducible show wpLen _ _ _ _ _);refine RM.l1 rfl ?_) |((with_reducible show RM.wpOp _ _ _ _ _ _);refine RM.n3 rfl ?_) |(refine ⟨_, rfl, ?_⟩) |(refine ⟨_, _, rfl, by decide, ?_⟩) |(refine ⟨rfl, rfl, ?_⟩) |(refine And.intro (Nat.le_of_ble_eq_true rfl) ?_) |(refine And.intro (by kernel_rfl) ?_) |(refine ⟨eCount l[k], ⟨by omega, map_at hlt⟩, rfl, ?_⟩) |(refine ⟨_, hik, ?_⟩) |(refine ⟨_, hid, ?_⟩) |(refine PureV.call hra rfl rfl ?_) |fail)
              refine ⟨(k + 1, cntE s l k), ⟨hlt, ?_⟩, (by dsimp only; omega), Weaker.to 0 rfl ⟨rfl, rfl, rfl, i64c (by simp), trivial⟩ (Nat.le_refl _) rfl rfl⟩
              by_cases hz : cntE s l k = 0
              · exact .inl ⟨hz, fun i hi => by
                  by_cases hik : i = k
                  · rw [hik]; exact hz
                  · exact hprev i (by dsimp only at hi; omega)⟩
              · exact .inr ⟨hz, by rw [firstN_here hlt hprev hz]⟩
        · have d4 : decide (e = 0) = false := decide_eq_false hne
          repeat' (first |with_reducible (first|refine RM.c2 ?_|refine RM.c4 ?_|refine RM.c6 ?_|refine RM.c7 ?_|refine RM.c9 ?_|refine RM.d2 ?_|refine RM.o1 ?_|refine RM.o2 ?_|refine RM.o4 ?_|refine RM.o5 ?_|refine RM.p2 ?_|refine RM.p3 ?_|refine RM.p4 ?_|refine RM.p5 ?_|refine RM.p6 ?_|refine RM.q2 ?_) |((with_reducible show force _ _);first|refine RM.f1 rfl ?_|refine RM.f2 rfl ?_) |((with_reducible show wpOne _ _ _ _ _ _ _ _ _ _ _ _);refine RM.o8 rfl ?_) |((with_reducible show wpGuard _ _ _ _ _);refine wpGuard_yes rfl rfl (by assumption) ?_) |((with_reducible show wpC _ _ _ _ (.cond _ _ _) _ _);refine RM.e3 rfl (by assumption) ?_) |((with_reducible show wpPick _ _ _ _ _);refine RM.k1 rfl ?_) |((with_reducible show wpPickB _ _ _ _ _);refine RM.k2 (by assumption) ?_) |((with_reducible show wpBin _ _ _ _ _ _ _ _ _);first|refine RM.b4 rfl rfl ?_|refine RM.b6 rfl rfl ?_) |((with_reducible show wpLen _ _ _ _ _);refine RM.l1 rfl ?_) |((with_reducible show blockK _ _ _ _);refine RM.d5 rfl ?_) |fail)
          exact ⟨[_], ⟨Fz.deep rfl, trivial⟩, by rw [hfin]; rfl⟩
      · have d3 : decide ((k : Int) < ((l.map eCount).length : Int)) = false := by rw [el]; exact decide_eq_false (by omega)
        repeat' (first |with_reducible (first|refine RM.c2 ?_|refine RM.c4 ?_|refine RM.c6 ?_|refine RM.c7 ?_|refine RM.c9 ?_|refine RM.d2 ?_|refine RM.o1 ?_|refine RM.o2 ?_|refine RM.o4 ?_|refine RM.o5 ?_|refine RM.p2 ?_|refine RM.p3 ?_|refine RM.p4 ?_|refine RM.p5 ?_|refine RM.p6 ?_|refine RM.q2 ?_) |((with_reducible show force _ _);first|refine RM.f1 rfl ?_|refine RM.f2 rfl ?_) |((with_reducible show wpOne _ _ _ _ _ _ _ _ _ _ _ _);refine RM.o8 rfl ?_) |((with_reducible show wpGuard _ _ _ _ _);refine wpGuard_no rfl rfl (by assumption) ?_) |((with_reducible show wpC _ _ _ _ (.cond _ _ _) _ _);refine RM.e3 rfl rfl ?_) |((with_reducible show wpPick _ _ _ _ _);refine RM.k1 rfl ?_) |((with_reducible show wpPickB _ _ _ _ _);refine RM.k3 (by assumption) ?_) |((with_reducible show wpBin _ _ _ _ _ _ _ _ _);refine RM.b6 rfl rfl ?_) |((with_reducible show wpLen _ _ _ _ _);refine RM.l1 rfl ?_) |((with_reducible show blockK _ _ _ _);refine RM.d5 rfl ?_) |fail)
        refine ⟨[_], ⟨Fz.deep rfl, trivial⟩, ?_⟩
        rcases hst with ⟨rfl, hprev⟩ | ⟨hne, hfin⟩
        · rw [firstN_none fun i hi => hprev i (by omega)]; rfl
        · rw [hfin]; rfl
  · have hv : cntsErr s l = (chk s).2.2 := by unfold cntsErr; rw [if_pos h1]
    rw [hv]
    have d1 : decide ((chk s).2.2 = 0) = false := decide_eq_false h1
    generalize chk s = c at *
    refine PureV.body (fn := Try.f43) rfl rfl rfl rfl ?_
    refine wpC_sound (mu := fun _ => false) ?_
    repeat' (first |with_reducible (first|refine RM.c1 ?_|refine RM.c2 ?_|refine RM.c3 ?_|refine RM.c4 ?_|refine RM.c9 ?_|refine RM.o1 ?_|refine RM.o2 ?_|refine RM.o4 ?_|refine RM.o5 ?_|refine RM.o7 ?_|refine RM.o9 ?_|refine RM.p1 ?_|refine RM.p2 ?_|refine RM.p3 ?_|refine RM.p4 ?_|refine RM.p5 ?_) |((with_reducible show force _ _);first|refine RM.f1 rfl ?_|refine RM.f3 rfl ?_|refine RM.f4 rfl ?_|refine RM.f5 rfl ?_|refine RM.f6 rfl ?_) |((with_reducible show wpOne _ _ _ _ _ _ _ _ _ _ _ _);refine RM.o8 rfl ?_) |((with_reducible show wpGuard _ _ _ _ _);refine wpGuard_no rfl rfl (by assumption) ?_) |((with_reducible show wpC _ _ _ _ (.cond _ _ _) _ _);refine RM.e3 rfl rfl ?_) |((with_reducible show wpPick _ _ _ _ _);refine RM.k1 rfl ?_) |((with_reducible show wpPickB _ _ _ _ _);refine RM.k3 (by assumption) ?_) |((with_reducible show wpBin _ _ _ _ _ _ _ _ _);refine RM.b4 rfl rfl ?_) |(refine ⟨_, rfl, ?_⟩) |(refine ⟨rfl, rfl, rfl, ?_⟩) |(refine And.intro (Nat.le_of_ble_eq_true rfl) ?_) |(refine PureV.call hc rfl rfl ?_) |fail)
    refine SemC.weaker (Weaker.to (l := [(1, .sl (l.map eCount) false), (2, .pt (eStores s) 0), (7, I64 c.2.2), (8, I64 0)]) 0 rfl ⟨rfl, rfl, rfl, rfl, trivial⟩ (Nat.le_refl _) rfl rfl) ?_
    refine SemC.loop (fun _ : Unit => True) (fun _ => ⟨mkFr [(1, .sl (l.map eCount) false), (2, .pt (eStores s) 0), (7, I64 c.2.2), (8, I64 0)], [], Amb.none, false, 0⟩) (fun _ => 0) ?_ () trivial
    intro _ _
    refine wpC_sound (mu := fun _ => false) ?_
    cases d3 : decide ((0 : Int) < ((l.map eCount).length : Int)) with
    | true =>
      repeat' (first |with_reducible (first|refine RM.c2 ?_|refine RM.c4 ?_|refine RM.c6 ?_|refine RM.c7 ?_|refine RM.c9 ?_|refine RM.d2 ?_|refine RM.o1 ?_|refine RM.o2 ?_|refine RM.o4 ?_|refine RM.o5 ?_|refine RM.p2 ?_|refine RM.p3 ?_|refine RM.p4 ?_|refine RM.p5 ?_|refine RM.p6 ?_|refine RM.q2 ?_) |((with_reducible show force _ _);first|refine RM.f1 rfl ?_|refine RM.f2 rfl ?_) |((with_reducible show wpOne _ _ _ _ _ _ _ _ _ _ _ _);refine RM.o8 rfl ?_) |((with_reducible show wpGuard _ _ _ _ _);refine wpGuard_yes rfl rfl (by assumption) ?_) |((with_reducible show wpC _ _ _ _ (.cond _ _ _) _ _);refine RM.e3 rfl (by assumption) ?_) |((with_reducible show wpPick _ _ _ _ _);refine RM.k1 rfl ?_) |((with_reducible show wpPickB _ _ _ _ _);refine RM.k2 (by assumption) ?_) |((with_reducible show wpBin _ _ _ _ _ _ _ _ _);first|refine RM.b4 rfl rfl ?_|refine RM.b6 rfl rfl ?_) |((with_reducible show wpLen _ _ _ _ _);refine RM.l1 rfl ?_) |((with_reducible show blockK _ _ _ _);refine RM.d5 rfl ?_) |fail)
      exact ⟨[_], ⟨Fz.deep rfl, trivial⟩, rfl⟩
    | false =>
      repeat' (first |with_reducible (first|refine RM.c2 ?_|refine RM.c4 ?_|refine RM.c6 ?_|refine RM.c7 ?_|refine RM.c9 ?_|refine RM.d2 ?_|refine RM.o1 ?_|refine RM.o2 ?_|refine RM.o4 ?_|refine RM.o5 ?_|refine RM.p2 ?_|refine RM.p3 ?_|refine RM.p4 ?_|refine RM.p5 ?_|refine RM.p6 ?_|refine RM.q2 ?_) |((with_reducible show force _ _);first|refine RM.f1 rfl ?_|refine RM.f2 rfl ?_) |((with_reducible show wpOne _ _ _ _ _ _ _ _ _ _ _ _);refine RM.o8 rfl ?_) |((with_reducible show wpGuard _ _ _ _ _);refine wpGuard_no rfl rfl (by assumption) ?_) |((with_reducible show wpC _ _ _ _ (.cond _ _ _) _ _);refine RM.e3 rfl rfl ?_) |((with_reducible show wpPick _ _ _ _ _);refine RM.k1 rfl ?_) |((with_reducible show wpPickB _ _ _ _ _);refine RM.k3 (by assumption) ?_) |((with_reducible show wpBin _ _ _ _ _ _ _ _ _);refine RM.b6 rfl rfl ?_) |((with_reducible show wpLen _ _ _ _ _);refine RM.l1 rfl ?_) |((with_reducible show blockK _ _ _ _);refine RM.d5 rfl ?_) |fail)
      exact ⟨[_], ⟨Fz.deep rfl, trivial⟩, rfl⟩
def cntIn (lv : List Int) (c : Count) : Bool := inB (lv.getD c.day.toNat 0) c.amount.lo c.amount.hi
theorem agrees_c (one : Bool) (c : Count) (L : List Int) (h : 0 ≤ c.day ∧ c.day < L.length) : Pu one 87 [.ag (eCount c), .sl (L.map eI) false] (BB (cntIn L c)) := by
  have hc := in58_c true (L.getD c.day.toNat 0) c.amount.lo c.amount.hi
  unfold cntIn
  refine PureV.body (fn := Try.f87) rfl rfl rfl rfl ?_
  refine wpC_sound (mu := fun _ => false) ?_
  repeat' (first |with_reducible (first|refine RM.c2 ?_|refine RM.c4 ?_|refine RM.c5 ?_|refine RM.c7 ?_|refine RM.c9 ?_|refine RM.o1 ?_|refine RM.o2 ?_|refine RM.o3 ?_|refine RM.o4 ?_|refine RM.o5 ?_|refine RM.o9 ?_|refine RM.p1 ?_|refine RM.p2 ?_|refine RM.p3 ?_|refine RM.n1 ?_) |((with_reducible show force _ _);first|refine RM.f1 rfl ?_|refine RM.f2 rfl ?_|refine RM.f3 rfl ?_|refine RM.f4 rfl ?_) |((with_reducible show wpOne _ _ _ _ _ _ _ _ _ _ _ _);refine RM.o8 rfl ?_) |((with_reducible show wpDOne _ _ _ _ _ _ _ _ _ _);refine RM.p9 rfl ?_) |(refine ⟨_, rfl, ?_⟩) |(refine ⟨_, _, rfl, by decide, ?_⟩) |(refine ⟨rfl, rfl, rfl, ?_⟩) |(refine ⟨rfl, rfl, ?_⟩) |(refine And.intro (by kernel_rfl) ?_) |(refine ⟨eI _, ⟨h.1, getD_at h⟩, rfl, ?_⟩) |(refine ⟨_, hc, ?_⟩) |fail)
  exact ⟨[_], ⟨Fz.deep rfl, trivial⟩, rfl⟩
end Go.Proofs.Ytmkaeohmdcoanaa
open Go Go.RM
namespace Go.Proofs.Ytmkaeohmdcoanaa
set_option maxRecDepth 100000
set_option maxHeartbeats 4000000
def agr (men : List Int) (k : Kind) (row : List Int) (l : List Count) (i : Nat) (t : Truth) : Bool := l.all fun c => !decide (c.kind = (i : Int)) || cntIn (lvl men k row t) c
def truthQ (k : Kind) (q : Nat) : Truth := ⟨k.first.lo + (q / spanN k.ship / spanN k.man : Nat), k.man.lo + (q / spanN k.ship % spanN k.man : Nat), k.ship.lo + (q % spanN k.ship : Nat)⟩
def pastN (men : List Int) (k : Kind) (row : List Int) (l : List Count) (i : Nat) (n : Nat) : List Truth := ((List.range n).map (truthQ k)).filter (agr men k row l i)
def allOf (men : List Int) (k : Kind) (row : List Int) (l : List Count) (i : Nat) : List Truth := pastN men k row l i (spanN k.first * spanN k.man * spanN k.ship)
theorem all_take {α : Type} {f : α → Bool} {l : List α} {j : Nat} (h : j < l.length) : (l.take (j + 1)).all f = ((l.take j).all f && f l[j]) := by
  rw [List.take_add_one, List.getElem?_eq_getElem h, List.all_append]
  simp
abbrev ePast (men : List Int) (k : Kind) (row : List Int) (t : Truth) : List AV := [I64 t.first, I64 t.man, I64 t.ship, .sl ((lvl men k row t).map eI) false, I64 (shortF men k row t)]
theorem pastN_succ (men : List Int) (k : Kind) (row : List Int) (l : List Count) (i n : Nat) : pastN men k row l i (n + 1) = if agr men k row l i (truthQ k n) = true then pastN men k row l i n ++ [truthQ k n] else pastN men k row l i n := by
  unfold pastN
  rw [List.range_succ, List.map_append, List.filter_append]
  by_cases h : agr men k row l i (truthQ k n) = true
  · rw [if_pos h]; simp [h]
  · rw [if_neg h]; simp [h]
theorem pastN_len (men : List Int) (k : Kind) (row : List Int) (l : List Count) (i n : Nat) : (pastN men k row l i n).length ≤ n := by
  unfold pastN
  have := List.length_filter_le (agr men k row l i) ((List.range n).map (truthQ k))
  simpa using this
theorem truthQ_at (k : Kind) {a m p : Nat} (hm : m < spanN k.man) (hp : p < spanN k.ship) : truthQ k ((a * spanN k.man + m) * spanN k.ship + p) = ⟨k.first.lo + a, k.man.lo + m, k.ship.lo + p⟩ := by
  unfold truthQ
  rw [Nat.mul_comm _ (spanN k.ship), Nat.mul_add_div (by omega), Nat.div_eq_of_lt hp, Nat.mul_add_mod, Nat.mod_eq_of_lt hp, Nat.add_zero, Nat.mul_comm a, Nat.mul_add_div (by omega), Nat.div_eq_of_lt hm, Nat.mul_add_mod, Nat.mod_eq_of_lt hm, Nat.add_zero]
theorem past_deep (men : List Int) (k : Kind) (row : List Int) : ∀ L : List Truth, deepL ((L.map (ePast men k row)).flatten) = true
  | [] => rfl
  | t :: L => by
    rw [List.map_cons, List.flatten_cons]
    exact deepL_append rfl (past_deep men k row L)
theorem past_flen (men : List Int) (k : Kind) (row : List Int) (L : List Truth) : ((L.map (ePast men k row)).flatten).length = L.length * 5 := by
  rw [flatten_len (es := 5) fun el he => by obtain ⟨t, _, rfl⟩ := List.mem_map.1 he; rfl, List.length_map]
abbrev pastB (men : List Int) (k : Kind) (row : List Int) (L : List Truth) : AB := .cells ((L.map (ePast men k row)).flatten) 5 L.length
abbrev pastV (L : List Truth) : AV := .osl 1 L.length 0 L.length (L.length + 1)
theorem past_inb (men : List Int) (k : Kind) (row : List Int) (L : List Truth) (b : AB) (hb : b.inb 2 = true) : ([b, pastB men k row L] : List AB).all (AB.inb 2) = true := by
  show (b.inb 2 && (inbL 2 ((L.map (ePast men k row)).flatten) && true)) = true
  rw [hb, show inbL 2 ((L.map (ePast men k row)).flatten) = true from deep_inb 2 (.ag _) (past_deep men k row L)]
  rfl
theorem past_inb3 (men : List Int) (k : Kind) (row : List Int) (L : List Truth) (b c : AB) (hb : b.inb 3 = true) (hc : c.inb 3 = true) : ([b, pastB men k row L, c] : List AB).all (AB.inb 3) = true := by
  show (b.inb 3 && (inbL 3 ((L.map (ePast men k row)).flatten) && (c.inb 3 && true))) = true
  rw [hb, hc, show inbL 3 ((L.map (ePast men k row)).flatten) = true from deep_inb 3 (.ag _) (past_deep men k row L)]
  rfl
theorem past_fz (men : List Int) (k : Kind) (row : List Int) (L : List Truth) (b : AB) : Fz [b, pastB men k row L] (pastV L) (.sl (L.map (ePast men k row)) false) :=
  Fz.row (es := 5) rfl (by rw [past_flen]; omega) (by simp) (fun el he => by obtain ⟨t, _, rfl⟩ := List.mem_map.1 he; rfl) (by rw [List.drop_zero, List.take_of_length_le (by rw [past_flen]; omega)]) (past_deep men k row L) (fun h => Bool.noConfusion h)
theorem pastB_snoc (men : List Int) (k : Kind) (row : List Int) (L : List Truth) (t : Truth) : pastB men k row (L ++ [t]) = .cells ((L.map (ePast men k row)).flatten ++ [ePast men k row t].flatten) 5 (L.length + 1) := by
  show AB.cells _ _ _ = _
  rw [List.map_append, List.flatten_append, List.length_append]
  rfl
theorem pastV_snoc (L : List Truth) (t : Truth) : pastV (L ++ [t]) = .osl 1 (L.length + 1) 0 (L.length + 1) (L.length + 1 + 1) := by
  show AV.osl _ _ _ _ _ = _
  rw [List.length_append]
  rfl
theorem rrun_l (one : Bool) {s : Stores} (hg : Good s) {i : Nat} (hi : i < s.kinds.length) {t : Truth} (h : RunOk s.men s.kinds[i] (cargoRow i s.cargos) t) :
    Pu one 62 [.ag (eStores s), I64 i, .ag (eTruth t), I64 s.men.length] (.tp [.sl ((lvl s.men s.kinds[i] (cargoRow i s.cargos) t).map eI) false, I64 (shortF s.men s.kinds[i] (cargoRow i s.cargos) t)]) := by
  have := rrun_c one s hg i hi t s.men.length h
  rw [show ((List.range (s.men.length + 1)).map fun j => eI (haveAt s.men s.kinds[i] (cargoRow i s.cargos) t s.men.length j)) = (lvl s.men s.kinds[i] (cargoRow i s.cargos) t).map eI by unfold lvl; rw [List.map_map]; rfl] at this
  exact this
theorem rtruths_c (one : Bool) (s : Stores) (l : List Count) (h0 : cntsErr s l = 0) (i : Nat) (hi : i < s.kinds.length) :
    Pu one 101 [.ag (eStores s), .sl (l.map eCount) false, I64 i] (.sl ((allOf s.men s.kinds[i] (cargoRow i s.cargos) l i).map (ePast s.men s.kinds[i] (cargoRow i s.cargos))) false) := by
  obtain ⟨hg, hl8, hlc⟩ := cnts_good h0
  have hh := holdOk h0 hi
  have em : ((s.men.map eI).length : Int) = s.men.length := by simp
  have el : ((l.map eCount).length : Int) = l.length := by simp
  have k1 := hh.kind.first
  have k2 := hh.kind.man
  have k3 := hh.kind.ship
  have hrr := fun t h => rrun_l one hg hi (t := t) h
  rw [← em] at hrr
  have hF : ((spanN s.kinds[i].first : Nat) : Int) = s.kinds[i].first.hi - s.kinds[i].first.lo + 1 := by unfold spanN; omega
  have hM : ((spanN s.kinds[i].man : Nat) : Int) = s.kinds[i].man.hi - s.kinds[i].man.lo + 1 := by unfold spanN; omega
  have hP : ((spanN s.kinds[i].ship : Nat) : Int) = s.kinds[i].ship.hi - s.kinds[i].ship.lo + 1 := by unfold spanN; omega
  have hrun : ∀ n m p : Int, s.kinds[i].first.lo ≤ n ∧ n ≤ s.kinds[i].first.hi → s.kinds[i].man.lo ≤ m ∧ m ≤ s.kinds[i].man.hi → s.kinds[i].ship.lo ≤ p ∧ p ≤ s.kinds[i].ship.hi → RunOk s.men s.kinds[i] (cargoRow i s.cargos) ⟨n, m, p⟩ := fun n m p a b c => hh.run a b c
  have hidx : (s.kinds.map eKind)[((i : Nat) : Int).toNat]? = some (eKind s.kinds[i]) := map_at hi
  clear hh
  unfold allOf
  generalize cargoRow i s.cargos = row at *
  generalize s.kinds[i] = k at *
  have hFM : spanN k.first * spanN k.man * spanN k.ship ≤ 301 * 7 * 13 := Nat.mul_le_mul (Nat.mul_le_mul (by omega) (by omega)) (by omega)
  refine PureV.body (fn := Try.f101) rfl rfl rfl rfl ?_
  refine wpC_sound (mu := fun _ => false) ?_
  repeat' (first |with_reducible (first|refine RM.c2 ?_|refine RM.c3 ?_|refine RM.c4 ?_|refine RM.c9 ?_|refine RM.o1 ?_|refine RM.o2 ?_|refine RM.o4 ?_|refine RM.o5 ?_|refine RM.o6 ?_|refine RM.p2 ?_|refine RM.p3 ?_) |((with_reducible show force _ _);first|refine RM.f1 rfl ?_|refine RM.f2 rfl ?_|refine RM.f3 rfl ?_|refine RM.f5 rfl ?_|refine RM.f7 rfl ?_|refine RM.g2 rfl ?_) |((with_reducible show wpOne _ _ _ _ _ _ _ _ _ _ _ _);refine RM.o8 rfl ?_) |(refine ⟨_, rfl, ?_⟩) |(refine ⟨_, _, rfl, by decide, ?_⟩) |(refine ⟨rfl, rfl, rfl, ?_⟩) |(refine ⟨_, _, rfl, _, rfl, ?_⟩) |(refine And.intro (Nat.le_of_ble_eq_true rfl) ?_) |(refine And.intro (by kernel_rfl) ?_) |(refine ⟨_, _, rfl, rfl, rfl, rfl, Nat.le_of_ble_eq_true rfl, ?_⟩) |(refine ⟨eKind k, ⟨by omega, hidx⟩, rfl, ?_⟩) |fail)
  refine SemC.weaker (Weaker.trans (Weaker.addNil 5) (Weaker.toS (l := [(1, .sl (l.map eCount) false), (2, I64 i), (3, .pt (eStores s) 0), (7, pastV (pastN s.men k row l i (0 * spanN k.man * spanN k.ship))), (8, .ptr 0 0 0), (9, I64 (k.first.lo + ((0 : Nat) : Int)))]) (hp := [.cells (eKind k) 0 0, pastB s.men k row (pastN s.men k row l i (0 * spanN k.man * spanN k.ship))]) 2 (by rw [Nat.zero_mul, Nat.zero_mul]; rfl) ⟨Soft.refl _, Soft.refl _, Soft.refl _, (by rw [Nat.zero_mul, Nat.zero_mul]; exact Soft.nilRow), Soft.refl _, Soft.of (i64c (by simp)), trivial⟩ (Nat.zero_le _) rfl (past_inb _ _ _ _ _ rfl))) ?_
  refine SemC.loop (fun a : Nat => a ≤ spanN k.first) (fun a => ⟨mkFr [(1, .sl (l.map eCount) false), (2, I64 i), (3, .pt (eStores s) 0), (7, pastV (pastN s.men k row l i (a * spanN k.man * spanN k.ship))), (8, .ptr 0 0 0), (9, I64 (k.first.lo + (a : Int)))], [.cells (eKind k) 0 0, pastB s.men k row (pastN s.men k row l i (a * spanN k.man * spanN k.ship))], Amb.none, false, 0⟩) (fun a => spanN k.first - a) ?_ 0 (Nat.zero_le _)
  intro a ha
  refine wpC_sound (mu := fun _ => false) ?_
  repeat' (first |with_reducible (first|refine RM.c2 ?_|refine RM.c4 ?_|refine RM.c9 ?_|refine RM.o1 ?_|refine RM.o2 ?_|refine RM.o4 ?_|refine RM.o5 ?_|refine RM.p2 ?_|refine RM.p5 ?_) |((with_reducible show force _ _);first|refine RM.f1 rfl ?_|refine RM.f7 rfl ?_) |((with_reducible show wpOne _ _ _ _ _ _ _ _ _ _ _ _);refine RM.o8 rfl ?_) |((with_reducible show wpBin _ _ _ _ _ _ _ _ _);refine RM.b7 rfl rfl ?_) |(refine ⟨_, _, rfl, by decide, ?_⟩) |(refine ⟨_, _, rfl, _, rfl, ?_⟩) |fail)
  refine RM.e1 rfl ⟨fun hc => ?_, fun hc => ?_⟩
  · rw [decide_eq_true_eq] at hc
    have ha1 : a < spanN k.first := by omega
    repeat' (first |with_reducible (first|refine RM.c1 ?_|refine RM.c2 ?_|refine RM.c3 ?_|refine RM.c4 ?_|refine RM.c9 ?_|refine RM.o1 ?_|refine RM.o2 ?_|refine RM.o4 ?_|refine RM.o5 ?_|refine RM.p3 ?_) |((with_reducible show force _ _);first|refine RM.f1 rfl ?_|refine RM.f7 rfl ?_) |((with_reducible show wpOne _ _ _ _ _ _ _ _ _ _ _ _);refine RM.o8 rfl ?_) |(refine ⟨_, _, rfl, by decide, ?_⟩) |(refine ⟨_, _, rfl, _, rfl, ?_⟩) |fail)
    refine SemC.weaker (Weaker.toS (l := [(1, .sl (l.map eCount) false), (2, I64 i), (3, .pt (eStores s) 0), (7, pastV (pastN s.men k row l i ((a * spanN k.man + 0) * spanN k.ship))), (8, .ptr 0 0 0), (9, I64 (k.first.lo + (a : Int))), (10, I64 (k.man.lo + ((0 : Nat) : Int)))]) (hp := [.cells (eKind k) 0 0, pastB s.men k row (pastN s.men k row l i ((a * spanN k.man + 0) * spanN k.ship))]) 2 rfl ⟨Soft.refl _, Soft.refl _, Soft.refl _, Soft.refl _, Soft.refl _, Soft.refl _, Soft.of (i64c (by simp)), trivial⟩ (Nat.zero_le _) rfl (past_inb _ _ _ _ _ rfl)) ?_
    refine SemC.loop (fun m : Nat => m ≤ spanN k.man) (fun m => ⟨mkFr [(1, .sl (l.map eCount) false), (2, I64 i), (3, .pt (eStores s) 0), (7, pastV (pastN s.men k row l i ((a * spanN k.man + m) * spanN k.ship))), (8, .ptr 0 0 0), (9, I64 (k.first.lo + (a : Int))), (10, I64 (k.man.lo + (m : Int)))], [.cells (eKind k) 0 0, pastB s.men k row (pastN s.men k row l i ((a * spanN k.man + m) * spanN k.ship))], Amb.none, false, 0⟩) (fun m => spanN k.man - m) ?_ 0 (Nat.zero_le _)
    intro m hm
    refine wpC_sound (mu := fun _ => false) ?_
    repeat' (first |with_reducible (first|refine RM.c2 ?_|refine RM.c4 ?_|refine RM.c9 ?_|refine RM.o1 ?_|refine RM.o2 ?_|refine RM.o4 ?_|refine RM.o5 ?_|refine RM.p2 ?_|refine RM.p5 ?_) |((with_reducible show force _ _);first|refine RM.f1 rfl ?_|refine RM.f7 rfl ?_) |((with_reducible show wpOne _ _ _ _ _ _ _ _ _ _ _ _);refine RM.o8 rfl ?_) |((with_reducible show wpBin _ _ _ _ _ _ _ _ _);refine RM.b7 rfl rfl ?_) |(refine ⟨_, _, rfl, by decide, ?_⟩) |(refine ⟨_, _, rfl, _, rfl, ?_⟩) |fail)
    refine RM.e1 rfl ⟨fun hc => ?_, fun hc => ?_⟩
    · rw [decide_eq_true_eq] at hc
      have hm1 : m < spanN k.man := by omega
      repeat' (first |with_reducible (first|refine RM.c1 ?_|refine RM.c2 ?_|refine RM.c3 ?_|refine RM.c4 ?_|refine RM.c9 ?_|refine RM.o1 ?_|refine RM.o2 ?_|refine RM.o4 ?_|refine RM.o5 ?_|refine RM.p3 ?_) |((with_reducible show force _ _);first|refine RM.f1 rfl ?_|refine RM.f7 rfl ?_) |((with_reducible show wpOne _ _ _ _ _ _ _ _ _ _ _ _);refine RM.o8 rfl ?_) |(refine ⟨_, _, rfl, by decide, ?_⟩) |(refine ⟨_, _, rfl, _, rfl, ?_⟩) |fail)
      refine SemC.weaker (Weaker.toS (l := [(1, .sl (l.map eCount) false), (2, I64 i), (3, .pt (eStores s) 0), (7, pastV (pastN s.men k row l i ((a * spanN k.man + m) * spanN k.ship + 0))), (8, .ptr 0 0 0), (9, I64 (k.first.lo + (a : Int))), (10, I64 (k.man.lo + (m : Int))), (11, I64 (k.ship.lo + ((0 : Nat) : Int)))]) (hp := [.cells (eKind k) 0 0, pastB s.men k row (pastN s.men k row l i ((a * spanN k.man + m) * spanN k.ship + 0))]) 2 rfl ⟨Soft.refl _, Soft.refl _, Soft.refl _, Soft.refl _, Soft.refl _, Soft.refl _, Soft.refl _, Soft.of (i64c (by simp)), trivial⟩ (Nat.zero_le _) rfl (past_inb _ _ _ _ _ rfl)) ?_
      refine SemC.loop (fun p : Nat => p ≤ spanN k.ship) (fun p => ⟨mkFr [(1, .sl (l.map eCount) false), (2, I64 i), (3, .pt (eStores s) 0), (7, pastV (pastN s.men k row l i ((a * spanN k.man + m) * spanN k.ship + p))), (8, .ptr 0 0 0), (9, I64 (k.first.lo + (a : Int))), (10, I64 (k.man.lo + (m : Int))), (11, I64 (k.ship.lo + (p : Int)))], [.cells (eKind k) 0 0, pastB s.men k row (pastN s.men k row l i ((a * spanN k.man + m) * spanN k.ship + p))], Amb.none, false, 0⟩) (fun p => spanN k.ship - p) ?_ 0 (Nat.zero_le _)
      intro p hp
      refine wpC_sound (mu := fun _ => false) ?_
      repeat' (first |with_reducible (first|refine RM.c2 ?_|refine RM.c4 ?_|refine RM.c9 ?_|refine RM.o1 ?_|refine RM.o2 ?_|refine RM.o4 ?_|refine RM.o5 ?_|refine RM.p2 ?_|refine RM.p5 ?_) |((with_reducible show force _ _);first|refine RM.f1 rfl ?_|refine RM.f7 rfl ?_) |((with_reducible show wpOne _ _ _ _ _ _ _ _ _ _ _ _);refine RM.o8 rfl ?_) |((with_reducible show wpBin _ _ _ _ _ _ _ _ _);refine RM.b7 rfl rfl ?_) |(refine ⟨_, _, rfl, by decide, ?_⟩) |(refine ⟨_, _, rfl, _, rfl, ?_⟩) |fail)
      refine RM.e1 rfl ⟨fun hc => ?_, fun hc => ?_⟩
      · rw [decide_eq_true_eq] at hc
        have hp1 : p < spanN k.ship := by omega
        have hq : (a * spanN k.man + m) * spanN k.ship + p < spanN k.first * spanN k.man * spanN k.ship := by
          have q1 : (a + 1) * spanN k.man ≤ spanN k.first * spanN k.man := Nat.mul_le_mul_right _ ha1
          rw [Nat.add_mul, Nat.one_mul] at q1
          have q2 : (a * spanN k.man + m + 1) * spanN k.ship ≤ spanN k.first * spanN k.man * spanN k.ship := Nat.mul_le_mul_right _ (by omega)
          rw [Nat.add_mul, Nat.one_mul] at q2
          omega
        have hsucc := pastN_succ s.men k row l i ((a * spanN k.man + m) * spanN k.ship + p)
        rw [truthQ_at k hm1 hp1] at hsucc
        have hlen := pastN_len s.men k row l i ((a * spanN k.man + m) * spanN k.ship + p)
        have hrr := hrr ⟨k.first.lo + a, k.man.lo + m, k.ship.lo + p⟩ (hrun _ _ _ (by omega) (by omega) (by omega))
        have hll := lvl_len s.men k row ⟨k.first.lo + a, k.man.lo + m, k.ship.lo + p⟩
        have hag : agr s.men k row l i ⟨k.first.lo + a, k.man.lo + m, k.ship.lo + p⟩ = l.all fun c => !decide (c.kind = (i : Int)) || cntIn (lvl s.men k row ⟨k.first.lo + a, k.man.lo + m, k.ship.lo + p⟩) c := rfl
        have hql : (pastN s.men k row l i ((a * spanN k.man + m) * spanN k.ship + p)).length ≤ 30000 := by omega
        generalize hLL : pastN s.men k row l i ((a * spanN k.man + m) * spanN k.ship + p) = L at *
        repeat' (first |with_reducible (first|refine RM.c1 ?_|refine RM.c2 ?_|refine RM.c3 ?_|refine RM.c4 ?_|refine RM.c9 ?_|refine RM.o1 ?_|refine RM.o2 ?_|refine RM.o4 ?_|refine RM.o5 ?_|refine RM.o6 ?_|refine RM.o7 ?_|refine RM.o9 ?_|refine RM.p1 ?_|refine RM.p2 ?_|refine RM.p3 ?_|refine RM.p6 ?_) |((with_reducible show force _ _);first|refine RM.f1 rfl ?_|refine RM.f2 rfl ?_|refine RM.f3 rfl ?_|refine RM.f4 rfl ?_|refine RM.f5 rfl ?_|refine RM.f6 rfl ?_|refine RM.f7 rfl ?_|refine RM.g2 rfl ?_) |((with_reducible show wpOne _ _ _ _ _ _ _ _ _ _ _ _);refine RM.o8 rfl ?_) |((with_reducible show wpLen _ _ _ _ _);refine RM.l1 rfl ?_) |(refine ⟨_, rfl, ?_⟩) |(refine ⟨_, _, rfl, by decide, ?_⟩) |(refine And.intro (Nat.le_of_ble_eq_true rfl) ?_) |(refine And.intro (by kernel_rfl) ?_) |(refine ⟨_, _, rfl, rfl, rfl, rfl, Nat.le_of_ble_eq_true rfl, ?_⟩) |(refine ⟨_, _, rfl, Nat.le_of_ble_eq_true rfl, ?_⟩) |(refine PureV.call hrr rfl rfl ?_) |fail)
        generalize hlv : lvl s.men k row ⟨k.first.lo + a, k.man.lo + m, k.ship.lo + p⟩ = lv at *
        generalize hff : (fun c : Count => !decide (c.kind = (i : Int)) || cntIn lv c) = ff at *
        refine SemC.weaker (Weaker.to (l := [(1, .sl (l.map eCount) false), (2, I64 i), (3, .pt (eStores s) 0), (7, pastV L), (8, .ptr 0 0 0), (9, I64 (k.first.lo + (a : Int))), (10, I64 (k.man.lo + (m : Int))), (11, I64 (k.ship.lo + (p : Int))), (12, .ptr 2 0 0), (13, .sl (lv.map eI) false), (14, I64 (shortF s.men k row ⟨k.first.lo + a, k.man.lo + m, k.ship.lo + p⟩)), (15, BB ((l.take 0).all ff)), (16, I64 ((0 : Nat) : Int))]) (hp := [.cells (eKind k) 0 0, pastB s.men k row L, .cells (eTruth ⟨k.first.lo + a, k.man.lo + m, k.ship.lo + p⟩) 0 0]) 3 rfl ⟨rfl, rfl, rfl, rfl, rfl, rfl, rfl, rfl, rfl, rfl, rfl, rfl, rfl, trivial⟩ (Nat.zero_le _) rfl (past_inb3 _ _ _ _ _ _ rfl rfl)) ?_
        refine SemC.loop (fun j : Nat => j ≤ l.length) (fun j => ⟨mkFr [(1, .sl (l.map eCount) false), (2, I64 i), (3, .pt (eStores s) 0), (7, pastV L), (8, .ptr 0 0 0), (9, I64 (k.first.lo + (a : Int))), (10, I64 (k.man.lo + (m : Int))), (11, I64 (k.ship.lo + (p : Int))), (12, .ptr 2 0 0), (13, .sl (lv.map eI) false), (14, I64 (shortF s.men k row ⟨k.first.lo + a, k.man.lo + m, k.ship.lo + p⟩)), (15, BB ((l.take j).all ff)), (16, I64 (j : Int))], [.cells (eKind k) 0 0, pastB s.men k row L, .cells (eTruth ⟨k.first.lo + a, k.man.lo + m, k.ship.lo + p⟩) 0 0], Amb.none, false, 0⟩) (fun j => l.length - j) ?_ 0 (Nat.zero_le _)
        intro j hj
        refine wpC_sound (mu := fun _ => false) ?_
        repeat' (first |with_reducible (first|refine RM.c2 ?_|refine RM.c4 ?_|refine RM.c9 ?_|refine RM.o1 ?_|refine RM.o2 ?_|refine RM.o4 ?_|refine RM.o5 ?_|refine RM.p2 ?_|refine RM.p5 ?_|refine RM.p6 ?_) |((with_reducible show force _ _);first|refine RM.f1 rfl ?_|refine RM.f2 rfl ?_) |((with_reducible show wpOne _ _ _ _ _ _ _ _ _ _ _ _);refine RM.o8 rfl ?_) |((with_reducible show wpBin _ _ _ _ _ _ _ _ _);refine RM.b6 rfl rfl ?_) |((with_reducible show wpLen _ _ _ _ _);refine RM.l1 rfl ?_) |fail)
        refine RM.e1 rfl ⟨fun hc => ?_, fun hc => ?_⟩
        · have hlt : j < l.length := by simpa only [el, decide_eq_true_eq, Int.ofNat_lt] using hc
          have hat := all_take (f := ff) hlt
          have hagc := agrees_c one l[j] lv (by have := hlc _ (List.getElem_mem hlt); omega)
          have hfj : ff l[j] = (!decide (l[j].kind = (i : Int)) || cntIn lv l[j]) := by rw [← hff]
          cases hb : (l.take j).all ff with
          | false =>
            rw [hb, Bool.false_and] at hat
            repeat' (first |with_reducible (first|refine RM.c1 ?_|refine RM.c2 ?_|refine RM.c3 ?_|refine RM.c4 ?_|refine RM.c9 ?_|refine RM.d3 ?_|refine RM.o1 ?_|refine RM.o2 ?_|refine RM.o4 ?_|refine RM.o5 ?_|refine RM.p2 ?_|refine RM.p3 ?_|refine RM.p4 ?_|refine RM.p5 ?_) |((with_reducible show force _ _);refine RM.f1 rfl ?_) |((with_reducible show wpOne _ _ _ _ _ _ _ _ _ _ _ _);refine RM.o8 rfl ?_) |((with_reducible show wpGuard _ _ _ _ _);first|refine wpGuard_no rfl rfl rfl ?_|refine wpGuard_skip rfl rfl ?_) |((with_reducible show wpPick _ _ _ _ _);refine RM.k1 rfl ?_) |((with_reducible show wpPickB _ _ _ _ _);refine RM.k3 rfl ?_) |((with_reducible show wpBin _ _ _ _ _ _ _ _ _);refine RM.b1 rfl rfl (by omega) ?_) |fail)
            exact ⟨j + 1, hlt, (by dsimp only; omega), Weaker.to 3 rfl ⟨rfl, rfl, rfl, rfl, rfl, rfl, rfl, rfl, rfl, rfl, rfl, bbc hat.symm, i64c (by simp), trivial⟩ (Nat.zero_le _) rfl (past_inb3 _ _ _ _ _ _ rfl rfl)⟩
          | true =>
            rw [hb, Bool.true_and, hfj] at hat
            by_cases hk : l[j].kind = (i : Int)
            · have d1 : (!decide (l[j].kind = (i : Int))) = false := by rw [decide_eq_true hk]; rfl
              rw [d1, Bool.false_or] at hat
              repeat' (first |with_reducible (first|refine RM.c1 ?_|refine RM.c2 ?_|refine RM.c3 ?_|refine RM.c4 ?_|refine RM.c9 ?_|refine RM.d3 ?_|refine RM.o1 ?_|refine RM.o2 ?_|refine RM.o4 ?_|refine RM.o5 ?_|refine RM.o7 ?_|refine RM.o9 ?_|refine RM.p1 ?_|refine RM.p2 ?_|refine RM.p3 ?_|refine RM.p4 ?_|refine RM.p5 ?_) |((with_reducible show force _ _);first|refine RM.f1 rfl ?_|refine RM.f2 rfl ?_|refine RM.f3 rfl ?_|refine RM.f4 rfl ?_|refine RM.f5 rfl ?_) |((with_reducible show wpOne _ _ _ _ _ _ _ _ _ _ _ _);refine RM.o8 rfl ?_) |((with_reducible show wpGuard _ _ _ _ _);first|refine wpGuard_yes rfl rfl rfl ?_|refine wpGuard_yes rfl rfl (by assumption) ?_) |((with_reducible show wpPick _ _ _ _ _);refine RM.k1 rfl ?_) |((with_reducible show wpPickB _ _ _ _ _);first|refine RM.k2 rfl ?_|refine RM.k3 (by assumption) ?_) |((with_reducible show wpBin _ _ _ _ _ _ _ _ _);first|refine RM.b5 rfl rfl ?_|refine RM.b1 rfl rfl (by omega) ?_) |(refine ⟨_, rfl, ?_⟩) |(refine ⟨_, _, rfl, by decide, ?_⟩) |(refine And.intro (Nat.le_of_ble_eq_true rfl) ?_) |(refine ⟨eCount l[j], ⟨by omega, map_at hlt⟩, rfl, ?_⟩) |(refine PureV.call hagc rfl rfl ?_) |fail)
              exact ⟨j + 1, hlt, (by dsimp only; omega), Weaker.to 3 rfl ⟨rfl, rfl, rfl, rfl, rfl, rfl, rfl, rfl, rfl, rfl, rfl, bbc hat.symm, i64c (by simp), trivial⟩ (Nat.zero_le _) rfl (past_inb3 _ _ _ _ _ _ rfl rfl)⟩
            · have d1 : (!decide (l[j].kind = (i : Int))) = true := by rw [decide_eq_false hk]; rfl
              rw [d1, Bool.true_or] at hat
              repeat' (first |with_reducible (first|refine RM.c1 ?_|refine RM.c2 ?_|refine RM.c3 ?_|refine RM.c4 ?_|refine RM.c9 ?_|refine RM.d3 ?_|refine RM.o1 ?_|refine RM.o2 ?_|refine RM.o4 ?_|refine RM.o5 ?_|refine RM.p2 ?_|refine RM.p3 ?_|refine RM.p4 ?_|refine RM.p5 ?_) |((with_reducible show force _ _);first|refine RM.f1 rfl ?_|refine RM.f2 rfl ?_|refine RM.f3 rfl ?_) |((with_reducible show wpOne _ _ _ _ _ _ _ _ _ _ _ _);refine RM.o8 rfl ?_) |((with_reducible show wpGuard _ _ _ _ _);first|refine wpGuard_yes rfl rfl rfl ?_|refine wpGuard_no rfl rfl (by assumption) ?_) |((with_reducible show wpPick _ _ _ _ _);refine RM.k1 rfl ?_) |((with_reducible show wpPickB _ _ _ _ _);first|refine RM.k2 rfl ?_|refine RM.k2 (by assumption) ?_) |((with_reducible show wpBin _ _ _ _ _ _ _ _ _);first|refine RM.b5 rfl rfl ?_|refine RM.b1 rfl rfl (by omega) ?_) |(refine ⟨_, rfl, ?_⟩) |(refine ⟨_, _, rfl, by decide, ?_⟩) |(refine ⟨eCount l[j], ⟨by omega, map_at hlt⟩, rfl, ?_⟩) |fail)
              exact ⟨j + 1, hlt, (by dsimp only; omega), Weaker.to 3 rfl ⟨rfl, rfl, rfl, rfl, rfl, rfl, rfl, rfl, rfl, rfl, rfl, bbc hat.symm, i64c (by simp), trivial⟩ (Nat.zero_le _) rfl (past_inb3 _ _ _ _ _ _ rfl rfl)⟩
        · have hjl : l.take j = l := List.take_of_length_le (by rw [el, decide_eq_false_iff_not] at hc; omega)
          rw [hjl]
          subst hlv
          cases hb : l.all ff with
          | true =>
            rw [hag, hb, if_pos rfl] at hsucc
            repeat' (first |with_reducible (first|refine RM.c2 ?_|refine RM.c4 ?_|refine RM.c6 ?_|refine RM.c9 ?_|refine RM.d2 ?_|refine RM.o1 ?_|refine RM.o2 ?_|refine RM.o4 ?_|refine RM.o5 ?_|refine RM.p2 ?_|refine RM.q2 ?_) |((with_reducible show force _ _);first|refine RM.f1 rfl ?_|refine RM.f2 rfl ?_|refine RM.f5 rfl ?_|refine RM.f8 rfl ?_) |((with_reducible show wpOne _ _ _ _ _ _ _ _ _ _ _ _);refine RM.o8 rfl ?_) |((with_reducible show wpC _ _ _ _ (.cond _ _ _) _ _);refine RM.e2 rfl rfl ?_) |((with_reducible show blockK _ _ _ _);refine RM.d5 rfl ?_) |(refine ⟨_, rfl, ?_⟩) |(refine ⟨rfl, rfl, rfl, ?_⟩) |(refine And.intro (by kernel_rfl) ?_) |(refine ⟨_, _, rfl, Nat.le_of_ble_eq_true rfl, ?_⟩) |fail)
            refine ⟨[ePast s.men k row ⟨k.first.lo + a, k.man.lo + m, k.ship.lo + p⟩], ⟨fun el hel => by rw [List.mem_singleton.1 hel]; rfl, rfl⟩, rfl, _, rfl, by rw [past_flen], Or.inr rfl, And.intro (by dsimp only [List.length]; omega) (by dsimp only [List.length]; omega), fun hn => absurd hn (by simp), fun _ => ?_⟩
            repeat' (first |with_reducible (first|refine RM.c4 ?_|refine RM.c9 ?_|refine RM.d3 ?_|refine RM.o1 ?_|refine RM.o2 ?_|refine RM.o4 ?_|refine RM.o5 ?_|refine RM.p2 ?_|refine RM.p3 ?_|refine RM.p5 ?_) |((with_reducible show force _ _);first|refine RM.f1 rfl ?_|refine RM.f8 rfl ?_) |((with_reducible show wpOne _ _ _ _ _ _ _ _ _ _ _ _);refine RM.o8 rfl ?_) |((with_reducible show wpBin _ _ _ _ _ _ _ _ _);refine RM.b1 rfl rfl (by omega) ?_) |fail)
            have e2 : pastN s.men k row l i ((a * spanN k.man + m) * spanN k.ship + (p + 1)) = L ++ [⟨k.first.lo + a, k.man.lo + m, k.ship.lo + p⟩] := hsucc
            refine ⟨p + 1, hp1, (by dsimp only; omega), ?_⟩
            show Weaker _ ⟨mkFr [(1, .sl (l.map eCount) false), (2, I64 i), (3, .pt (eStores s) 0), (7, pastV (pastN s.men k row l i ((a * spanN k.man + m) * spanN k.ship + (p + 1)))), (8, .ptr 0 0 0), (9, I64 (k.first.lo + (a : Int))), (10, I64 (k.man.lo + (m : Int))), (11, I64 (k.ship.lo + ((p + 1 : Nat) : Int)))], [.cells (eKind k) 0 0, pastB s.men k row (pastN s.men k row l i ((a * spanN k.man + m) * spanN k.ship + (p + 1)))], Amb.none, false, 0⟩
            rw [e2]
            exact Weaker.to 2 (by rw [pastB_snoc]; rfl) ⟨rfl, rfl, rfl, (by rw [pastV_snoc]; rfl), rfl, rfl, rfl, i64c (by simp; omega), trivial⟩ (Nat.zero_le _) rfl (past_inb _ _ _ _ _ rfl)
          | false =>
            rw [hag, hb, if_neg (by decide)] at hsucc
            repeat' (first |with_reducible (first|refine RM.c1 ?_|refine RM.c2 ?_|refine RM.c4 ?_|refine RM.c6 ?_|refine RM.c9 ?_|refine RM.d2 ?_|refine RM.d3 ?_|refine RM.o1 ?_|refine RM.o2 ?_|refine RM.o4 ?_|refine RM.o5 ?_|refine RM.p2 ?_|refine RM.p3 ?_|refine RM.p5 ?_|refine RM.q2 ?_) |((with_reducible show force _ _);refine RM.f1 rfl ?_) |((with_reducible show wpOne _ _ _ _ _ _ _ _ _ _ _ _);refine RM.o8 rfl ?_) |((with_reducible show wpC _ _ _ _ (.cond _ _ _) _ _);refine RM.e3 rfl rfl ?_) |((with_reducible show wpBin _ _ _ _ _ _ _ _ _);refine RM.b1 rfl rfl (by omega) ?_) |((with_reducible show blockK _ _ _ _);refine RM.d5 rfl ?_) |fail)
            have e2 : pastN s.men k row l i ((a * spanN k.man + m) * spanN k.ship + (p + 1)) = L := hsucc
            refine ⟨p + 1, hp1, (by dsimp only; omega), ?_⟩
            show Weaker _ ⟨mkFr [(1, .sl (l.map eCount) false), (2, I64 i), (3, .pt (eStores s) 0), (7, pastV (pastN s.men k row l i ((a * spanN k.man + m) * spanN k.ship + (p + 1)))), (8, .ptr 0 0 0), (9, I64 (k.first.lo + (a : Int))), (10, I64 (k.man.lo + (m : Int))), (11, I64 (k.ship.lo + ((p + 1 : Nat) : Int)))], [.cells (eKind k) 0 0, pastB s.men k row (pastN s.men k row l i ((a * spanN k.man + m) * spanN k.ship + (p + 1)))], Amb.none, false, 0⟩
            rw [e2]
            exact Weaker.to 2 rfl ⟨rfl, rfl, rfl, rfl, rfl, rfl, rfl, i64c (by simp; omega), trivial⟩ (Nat.zero_le _) rfl (past_inb _ _ _ _ _ rfl)
      · have hpP : p = spanN k.ship := by rw [decide_eq_false_iff_not] at hc; omega
        subst hpP
        repeat' (first |with_reducible (first|refine RM.c4 ?_|refine RM.c6 ?_|refine RM.c9 ?_|refine RM.d2 ?_|refine RM.d3 ?_|refine RM.o1 ?_|refine RM.o2 ?_|refine RM.o4 ?_|refine RM.o5 ?_|refine RM.p2 ?_|refine RM.p3 ?_|refine RM.p5 ?_|refine RM.q2 ?_) |((with_reducible show force _ _);refine RM.f1 rfl ?_) |((with_reducible show wpOne _ _ _ _ _ _ _ _ _ _ _ _);refine RM.o8 rfl ?_) |((with_reducible show wpBin _ _ _ _ _ _ _ _ _);refine RM.b1 rfl rfl (by omega) ?_) |((with_reducible show blockK _ _ _ _);refine RM.d5 rfl ?_) |fail)
        refine ⟨m + 1, hm1, (by dsimp only; omega), ?_⟩
        show Weaker _ ⟨mkFr [(1, .sl (l.map eCount) false), (2, I64 i), (3, .pt (eStores s) 0), (7, pastV (pastN s.men k row l i ((a * spanN k.man + (m + 1)) * spanN k.ship))), (8, .ptr 0 0 0), (9, I64 (k.first.lo + (a : Int))), (10, I64 (k.man.lo + ((m + 1 : Nat) : Int)))], [.cells (eKind k) 0 0, pastB s.men k row (pastN s.men k row l i ((a * spanN k.man + (m + 1)) * spanN k.ship))], Amb.none, false, 0⟩
        rw [← Nat.add_assoc, Nat.add_mul (a * spanN k.man + m), Nat.one_mul]
        exact Weaker.to 2 rfl ⟨rfl, rfl, rfl, rfl, rfl, rfl, i64c (by simp; omega), trivial⟩ (Nat.zero_le _) rfl (past_inb _ _ _ _ _ rfl)
    · have hmM : m = spanN k.man := by rw [decide_eq_false_iff_not] at hc; omega
      subst hmM
      repeat' (first |with_reducible (first|refine RM.c4 ?_|refine RM.c6 ?_|refine RM.c9 ?_|refine RM.d2 ?_|refine RM.d3 ?_|refine RM.o1 ?_|refine RM.o2 ?_|refine RM.o4 ?_|refine RM.o5 ?_|refine RM.p2 ?_|refine RM.p3 ?_|refine RM.p5 ?_|refine RM.q2 ?_) |((with_reducible show force _ _);refine RM.f1 rfl ?_) |((with_reducible show wpOne _ _ _ _ _ _ _ _ _ _ _ _);refine RM.o8 rfl ?_) |((with_reducible show wpBin _ _ _ _ _ _ _ _ _);refine RM.b1 rfl rfl (by omega) ?_) |((with_reducible show blockK _ _ _ _);refine RM.d5 rfl ?_) |fail)
      refine ⟨a + 1, ha1, (by dsimp only; omega), ?_⟩
      show Weaker _ ⟨mkFr [(1, .sl (l.map eCount) false), (2, I64 i), (3, .pt (eStores s) 0), (7, pastV (pastN s.men k row l i ((a + 1) * spanN k.man * spanN k.ship))), (8, .ptr 0 0 0), (9, I64 (k.first.lo + ((a + 1 : Nat) : Int)))], [.cells (eKind k) 0 0, pastB s.men k row (pastN s.men k row l i ((a + 1) * spanN k.man * spanN k.ship))], Amb.none, false, 0⟩
      rw [Nat.add_mul a, Nat.one_mul]
      exact Weaker.to 2 rfl ⟨rfl, rfl, rfl, rfl, rfl, i64c (by simp; omega), trivial⟩ (Nat.zero_le _) rfl (past_inb _ _ _ _ _ rfl)
  · have haF : a = spanN k.first := by rw [decide_eq_false_iff_not] at hc; omega
    subst haF
    repeat' (first |with_reducible (first|refine RM.c2 ?_|refine RM.c4 ?_|refine RM.c6 ?_|refine RM.c7 ?_|refine RM.c9 ?_|refine RM.d2 ?_|refine RM.o1 ?_|refine RM.o2 ?_|refine RM.o4 ?_|refine RM.o5 ?_|refine RM.p2 ?_|refine RM.p3 ?_|refine RM.q2 ?_) |((with_reducible show force _ _);refine RM.f8 rfl ?_) |((with_reducible show wpOne _ _ _ _ _ _ _ _ _ _ _ _);refine RM.o8 rfl ?_) |((with_reducible show blockK _ _ _ _);refine RM.d5 rfl ?_) |fail)
    exact ⟨[_], ⟨past_fz _ _ _ _ _, trivial⟩, rfl⟩
end Go.Proofs.Ytmkaeohmdcoanaa
open Go Go.RM
namespace Go.Proofs.Ytmkaeohmdcoanaa
set_option maxRecDepth 100000
set_option maxHeartbeats 4000000
theorem ldHO {own : Bool} {fr : Nat → AV} {hp : List AB} {K : AV → List AB → Prop} {x : Operand} {s : Stores} {k : Kind} {row : List Int} {c : AV} {j ver es : Nat} (h : row.length = 30) (hx : evA fr x = .ptr j ver 0) (hj : hp[j]? = some (.cells (eHoldV s k row c) es ver)) (hk : K (.ag (eHoldV s k row c)) hp) : RM.wpOp TT own (.load 109 x) fr hp K := by
  show wpLoad TT 109 (evA fr x) hp K
  rw [hx]
  refine ⟨_, es, hj, And.intro (by rw [hold_len h]; exact Nat.le_refl _) ?_⟩
  rw [hold_all h]
  exact hk
theorem stH {own : Bool} {fr : Nat → AV} {hp : List AB} {K : AV → List AB → Prop} {a x : Operand} {s : Stores} {k : Kind} {row : List Int} {f : List (List AV)} {b : Bool} {z : List AV} {j ver es : Nat} (h : row.length = 30) (ha : evA fr a = .ptr j ver 0) (hx : evA fr x = .ag (eHoldV s k row (.sl f b))) (hj : hp[j]? = some (.cells z es ver)) (hz : z.length = 43)
    (hk : K .junk (hp.set j (.cells (eHoldV s k row (.sl f b)) es ver))) : RM.wpOp TT own (.store 109 a x) fr hp K := by
  show force (evA fr x) fun v => wpStore TT 109 (evA fr a) v hp K
  rw [hx, ha]
  refine ⟨z, es, hj, rfl, holdd_one, hold_len h, by omega, ?_⟩
  rw [hold_over h hz]
  exact hk
end Go.Proofs.Ytmkaeohmdcoanaa
open Go Go.RM
namespace Go.Proofs.Ytmkaeohmdcoanaa
set_option maxRecDepth 100000
set_option maxHeartbeats 4000000
abbrev allS (s : Stores) (l : List Count) (i : Nat) (k : Kind) : List Truth := allOf s.men k (cargoRow i s.cargos) l i
theorem all_len (s : Stores) (l : List Count) (h0 : cntsErr s l = 0) (i : Nat) (hi : i < s.kinds.length) : (allS s l i s.kinds[i]).length ≤ 30000 := by
  have hh := holdOk h0 hi
  have k1 := hh.kind.first
  have k2 := hh.kind.man
  have k3 := hh.kind.ship
  have := pastN_len s.men s.kinds[i] (cargoRow i s.cargos) l i (spanN s.kinds[i].first * spanN s.kinds[i].man * spanN s.kinds[i].ship)
  have hFM : spanN s.kinds[i].first * spanN s.kinds[i].man * spanN s.kinds[i].ship ≤ 301 * 7 * 13 := Nat.mul_le_mul (Nat.mul_le_mul (by unfold spanN; omega) (by unfold spanN; omega)) (by unfold spanN; omega)
  unfold allS allOf
  omega
end Go.Proofs.Ytmkaeohmdcoanaa
open Go Go.RM
namespace Go.Proofs.Ytmkaeohmdcoanaa
set_option maxRecDepth 100000
set_option maxHeartbeats 4000000
end Go.Proofs.Ytmkaeohmdcoanaa
open Go Go.RM
namespace Go.Proofs.Ytmkaeohmdcoanaa
end Go.Proofs.Ytmkaeohmdcoanaa
open Go Go.RM
namespace Go.Proofs.Ytmkaeohmdcoanaa
def Le (sh : Truth → Int) (t u : Truth) : Prop := sh t < sh u ∨ sh t = sh u ∧ (t.first < u.first ∨ t.first = u.first ∧ (t.man < u.man ∨ t.man = u.man ∧ t.ship ≤ u.ship))
end Go.Proofs.Ytmkaeohmdcoanaa
open Go Go.RM
namespace Go.Proofs.Ytmkaeohmdcoanaa
set_option maxRecDepth 100000
set_option maxHeartbeats 4000000
theorem pr_bind {P : Program} {α β : Type} (m : Sem α) (f : α → Sem β) : pureRun P (m >>= f) = (pureRun P m).bind fun a => pureRun P (f a) := by
  show pureRun P (Sem.bind m f) = _
  induction m with
  | pure a => rfl
  | program k ih => exact ih P
  | mark _ k ih => exact ih
  | _ => rfl
theorem pr_pure {P : Program} {α : Type} (a : α) : pureRun P (pure a : Sem α) = some a := rfl
def vI (n : Int) : Value := .int .i64 n
end Go.Proofs.Ytmkaeohmdcoanaa
open Go Go.RM
namespace Go.Proofs.Ytmkaeohmdcoanaa
set_option maxRecDepth 100000
set_option maxHeartbeats 4000000
end Go.Proofs.Ytmkaeohmdcoanaa
open Go Go.RM
namespace Go.Proofs.Ytmkaeohmdcoanaa
set_option maxRecDepth 100000
set_option maxHeartbeats 4000000
end Go.Proofs.Ytmkaeohmdcoanaa
open Go Go.RM
namespace Go.Proofs.Ytmkaeohmdcoanaa
set_option maxRecDepth 100000
set_option maxHeartbeats 4000000
end Go.Proofs.Ytmkaeohmdcoanaa
open Go Go.RM
namespace Go.Proofs.Ytmkaeohmdcoanaa
set_option maxRecDepth 100000
set_option maxHeartbeats 4000000
theorem RowOk.more {row : List Int} (h : RowOk 8 row) {d : Nat} (hd : d < 30) {n : Int} (hn : 0 ≤ n ∧ n ≤ 300) : RowOk 9 (row.set d (row.getD d 0 + n)) := by
  have hg := h.get hd
  refine ⟨by rw [List.length_set]; exact h.len, fun x hx => ?_⟩
  rcases List.mem_or_eq_of_mem_set hx with hx | rfl
  · have := h.bnd x hx; omega
  · omega
theorem RunOk.more {men : List Int} {k : Kind} {row : List Int} {t : Truth} (h : RunOk men k row t) (hr : RowOk 8 row) {d : Nat} (hd : d < 30) {n : Int} (hn : 0 ≤ n ∧ n ≤ 300) : RunOk men k (row.set d (row.getD d 0 + n)) t :=
  ⟨h.men30, h.men, hr.more hd hn, h.room, h.ration, h.first, h.man, h.ship⟩
end Go.Proofs.Ytmkaeohmdcoanaa
open Go Go.RM
namespace Go.Proofs.Ytmkaeohmdcoanaa
set_option maxRecDepth 100000
set_option maxHeartbeats 4000000
end Go.Proofs.Ytmkaeohmdcoanaa
open Go Go.RM
namespace Go.Proofs.Ytmkaeohmdcoanaa
set_option maxRecDepth 100000
/-- The least amount, and none below. -/
structure IsLeast (p : Nat → Bool) (n r : Nat) : Prop where
  le : r ≤ n
  below : ∀ a, a < r → p a = false
  here : r < n → p r = true
end Go.Proofs.Ytmkaeohmdcoanaa
open Go Go.RM
namespace Go.Proofs.Ytmkaeohmdcoanaa
set_option maxRecDepth 100000
set_option maxHeartbeats 4000000
def other (t o : Truth) : Bool := !decide (o.man = t.man) || !decide (o.ship = t.ship)
end Go.Proofs.Ytmkaeohmdcoanaa
open Go Go.RM
namespace Go.Proofs.Ytmkaeohmdcoanaa
set_option maxRecDepth 100000
set_option maxHeartbeats 4000000
end Go.Proofs.Ytmkaeohmdcoanaa
open Go Go.RM
namespace Go.Proofs.Ytmkaeohmdcoanaa
set_option maxRecDepth 100000
theorem truthOk_iff {k : Kind} {t : Truth} : truthOk k t = true ↔ (k.first.lo ≤ t.first ∧ t.first ≤ k.first.hi) ∧ (k.man.lo ≤ t.man ∧ t.man ≤ k.man.hi) ∧ k.ship.lo ≤ t.ship ∧ t.ship ≤ k.ship.hi := by
  unfold truthOk
  simp only [Bool.and_eq_true, inB_iff]
theorem all_iff {men : List Int} {k : Kind} {row : List Int} {l : List Count} {i : Nat} {t : Truth} : t ∈ allOf men k row l i ↔ (truthOk k t = true ∧ agr men k row l i t = true) := by
  unfold allOf pastN
  rw [List.mem_filter, List.mem_map]
  constructor
  · rintro ⟨⟨q, hq, rfl⟩, ha⟩
    rw [List.mem_range] at hq
    refine ⟨?_, ha⟩
    have hP : 0 < spanN k.ship := by
      apply Nat.pos_of_ne_zero
      intro h0
      rw [h0, Nat.mul_zero] at hq
      exact absurd hq (Nat.not_lt_zero _)
    have hM : 0 < spanN k.man := by
      apply Nat.pos_of_ne_zero
      intro h0
      rw [h0, Nat.mul_zero, Nat.zero_mul] at hq
      exact absurd hq (Nat.not_lt_zero _)
    have h1 : q / spanN k.ship % spanN k.man < spanN k.man := Nat.mod_lt _ hM
    have h2 : q % spanN k.ship < spanN k.ship := Nat.mod_lt _ hP
    have h3 : q / spanN k.ship / spanN k.man < spanN k.first := by
      rw [Nat.div_lt_iff_lt_mul hM, Nat.div_lt_iff_lt_mul hP]
      exact hq
    rw [truthOk_iff]
    unfold truthQ
    dsimp only
    generalize q / spanN k.ship % spanN k.man = x at *
    generalize q % spanN k.ship = y at *
    generalize q / spanN k.ship / spanN k.man = z at *
    clear hq hP hM ha
    unfold spanN at *
    omega
  · rintro ⟨ht, ha⟩
    refine ⟨?_, ha⟩
    rw [truthOk_iff] at ht
    obtain ⟨a, b, c⟩ := t
    dsimp only at ht
    obtain ⟨x, rfl⟩ : ∃ x : Nat, a = k.first.lo + x := ⟨(a - k.first.lo).toNat, by omega⟩
    obtain ⟨y, rfl⟩ : ∃ x : Nat, b = k.man.lo + x := ⟨(b - k.man.lo).toNat, by omega⟩
    obtain ⟨z, rfl⟩ : ∃ x : Nat, c = k.ship.lo + x := ⟨(c - k.ship.lo).toNat, by omega⟩
    have hx : x < spanN k.first := by unfold spanN; omega
    have hy : y < spanN k.man := by unfold spanN; omega
    have hz : z < spanN k.ship := by unfold spanN; omega
    refine ⟨(x * spanN k.man + y) * spanN k.ship + z, ?_, truthQ_at k hy hz⟩
    rw [List.mem_range]
    have q1 : (x + 1) * spanN k.man ≤ spanN k.first * spanN k.man := Nat.mul_le_mul_right _ hx
    rw [Nat.add_mul, Nat.one_mul] at q1
    have q2 : (x * spanN k.man + y + 1) * spanN k.ship ≤ spanN k.first * spanN k.man * spanN k.ship := Nat.mul_le_mul_right _ (by omega)
    rw [Nat.add_mul, Nat.one_mul] at q2
    omega
end Go.Proofs.Ytmkaeohmdcoanaa
open Go Go.RM
namespace Go.Proofs.Ytmkaeohmdcoanaa
set_option maxRecDepth 100000
set_option maxHeartbeats 4000000
end Go.Proofs.Ytmkaeohmdcoanaa
open Go Go.RM
namespace Go.Proofs.Ytmkaeohmdcoanaa
set_option maxRecDepth 100000
set_option maxHeartbeats 4000000
end Go.Proofs.Ytmkaeohmdcoanaa
open Go Go.RM
namespace Go.Proofs.Ytmkaeohmdcoanaa
set_option maxRecDepth 100000
set_option maxHeartbeats 4000000
end Go.Proofs.Ytmkaeohmdcoanaa
open Go Go.RM
namespace Go.Proofs.Ytmkaeohmdcoanaa
set_option maxRecDepth 100000
set_option maxHeartbeats 4000000
end Go.Proofs.Ytmkaeohmdcoanaa
open Go Go.RM
namespace Go.Proofs.Ytmkaeohmdcoanaa
set_option maxRecDepth 100000
set_option maxHeartbeats 4000000
end Go.Proofs.Ytmkaeohmdcoanaa
open Go Go.RM
namespace Go.Proofs.Ytmkaeohmdcoanaa
set_option maxRecDepth 100000
set_option maxHeartbeats 4000000
end Go.Proofs.Ytmkaeohmdcoanaa
open Go Go.RM
namespace Go.Proofs.Ytmkaeohmdcoanaa
set_option maxRecDepth 100000
set_option maxHeartbeats 4000000
end Go.Proofs.Ytmkaeohmdcoanaa
open Go Go.RM
namespace Go.Proofs.Ytmkaeohmdcoanaa
set_option maxRecDepth 100000
set_option maxHeartbeats 4000000
def cmpI (a b : Int) : Int := if a < b then -1 else if b < a then 1 else 0
theorem isNaN_c (one : Bool) (a : Int) : Pu one 131 [I64 a] (BB false) := by
  have d1 : (!decide (a = a)) = false := by simp
  refine PureV.body (fn := Try.f131) rfl rfl rfl rfl ?_
  refine wpC_sound (mu := fun _ => false) ?_
  repeat' (first |with_reducible (first|refine RM.c2 ?_|refine RM.c4 ?_|refine RM.c7 ?_|refine RM.c9 ?_|refine RM.o1 ?_|refine RM.o2 ?_|refine RM.o4 ?_|refine RM.o5 ?_|refine RM.p2 ?_|refine RM.p3 ?_|refine RM.p5 ?_) |((with_reducible show force _ _);refine RM.f1 rfl ?_) |((with_reducible show wpOne _ _ _ _ _ _ _ _ _ _ _ _);refine RM.o8 rfl ?_) |((with_reducible show wpBin _ _ _ _ _ _ _ _ _);refine RM.b5 rfl rfl ?_) |fail)
  exact ⟨[_], ⟨Fz.deep rfl, trivial⟩, bbc d1⟩
theorem cmp_c (one : Bool) (a b : Int) : Pu one 118 [I64 a, I64 b] (I64 (cmpI a b)) := by
  have ha := isNaN_c one a
  have hb := isNaN_c one b
  unfold cmpI
  by_cases h1 : a < b
  · have d1 := decide_eq_true h1
    rw [if_pos h1]
    refine PureV.body (fn := Try.f118) rfl rfl rfl rfl ?_
    refine wpC_sound (mu := fun _ => false) ?_
    repeat' (first |with_reducible (first|refine RM.c1 ?_|refine RM.c2 ?_|refine RM.c4 ?_|refine RM.c7 ?_|refine RM.c9 ?_|refine RM.d1 ?_|refine RM.o1 ?_|refine RM.o2 ?_|refine RM.o4 ?_|refine RM.o5 ?_|refine RM.o7 ?_|refine RM.o9 ?_|refine RM.p1 ?_|refine RM.p2 ?_|refine RM.p3 ?_|refine RM.p5 ?_) |((with_reducible show force _ _);first|refine RM.f1 rfl ?_|refine RM.f4 rfl ?_) |((with_reducible show wpOne _ _ _ _ _ _ _ _ _ _ _ _);refine RM.o8 rfl ?_) |((with_reducible show wpC _ _ _ _ (.cond _ _ _) _ _);first|refine RM.e3 rfl rfl ?_|refine RM.e2 rfl (by assumption) ?_) |((with_reducible show wpBin _ _ _ _ _ _ _ _ _);refine RM.b6 rfl rfl ?_) |(refine PureV.call ha rfl rfl ?_) |(refine PureV.call hb rfl rfl ?_) |fail)
    exact ⟨[_], ⟨Fz.deep rfl, trivial⟩, rfl⟩
  · have d1 := decide_eq_false h1
    rw [if_neg h1]
    by_cases h2 : b < a
    · have d2 := decide_eq_true h2
      rw [if_pos h2]
      refine PureV.body (fn := Try.f118) rfl rfl rfl rfl ?_
      refine wpC_sound (mu := fun _ => false) ?_
      repeat' (first |with_reducible (first|refine RM.c1 ?_|refine RM.c2 ?_|refine RM.c4 ?_|refine RM.c7 ?_|refine RM.c9 ?_|refine RM.d1 ?_|refine RM.o1 ?_|refine RM.o2 ?_|refine RM.o4 ?_|refine RM.o5 ?_|refine RM.o7 ?_|refine RM.o9 ?_|refine RM.p1 ?_|refine RM.p2 ?_|refine RM.p3 ?_|refine RM.p5 ?_) |((with_reducible show force _ _);first|refine RM.f1 rfl ?_|refine RM.f4 rfl ?_) |((with_reducible show wpOne _ _ _ _ _ _ _ _ _ _ _ _);refine RM.o8 rfl ?_) |((with_reducible show wpC _ _ _ _ (.cond _ _ _) _ _);first|refine RM.e3 rfl rfl ?_|refine RM.e2 rfl (by assumption) ?_|refine RM.e3 rfl (by assumption) ?_) |((with_reducible show wpBin _ _ _ _ _ _ _ _ _);first|refine RM.b6 rfl rfl ?_|refine RM.b8 rfl rfl ?_) |(refine PureV.call ha rfl rfl ?_) |(refine PureV.call hb rfl rfl ?_) |fail)
      exact ⟨[_], ⟨Fz.deep rfl, trivial⟩, rfl⟩
    · have d2 := decide_eq_false h2
      rw [if_neg h2]
      refine PureV.body (fn := Try.f118) rfl rfl rfl rfl ?_
      refine wpC_sound (mu := fun _ => false) ?_
      repeat' (first |with_reducible (first|refine RM.c1 ?_|refine RM.c2 ?_|refine RM.c4 ?_|refine RM.c7 ?_|refine RM.c9 ?_|refine RM.o1 ?_|refine RM.o2 ?_|refine RM.o4 ?_|refine RM.o5 ?_|refine RM.o7 ?_|refine RM.o9 ?_|refine RM.p1 ?_|refine RM.p2 ?_|refine RM.p3 ?_|refine RM.p5 ?_) |((with_reducible show force _ _);first|refine RM.f1 rfl ?_|refine RM.f4 rfl ?_) |((with_reducible show wpOne _ _ _ _ _ _ _ _ _ _ _ _);refine RM.o8 rfl ?_) |((with_reducible show wpC _ _ _ _ (.cond _ _ _) _ _);first|refine RM.e3 rfl rfl ?_|refine RM.e3 rfl (by assumption) ?_) |((with_reducible show wpBin _ _ _ _ _ _ _ _ _);first|refine RM.b6 rfl rfl ?_|refine RM.b8 rfl rfl ?_) |(refine PureV.call ha rfl rfl ?_) |(refine PureV.call hb rfl rfl ?_) |fail)
      exact ⟨[_], ⟨Fz.deep rfl, trivial⟩, rfl⟩
theorem less_c (one : Bool) (a b : Int) : Pu one 125 [I64 a, I64 b] (BB (decide (a < b))) := by
  have ha := isNaN_c one a
  have hb := isNaN_c one b
  refine PureV.body (fn := Try.f125) rfl rfl rfl rfl ?_
  refine wpC_sound (mu := fun _ => false) ?_
  repeat' (first |with_reducible (first|refine RM.c2 ?_|refine RM.c4 ?_|refine RM.c7 ?_|refine RM.c9 ?_|refine RM.o1 ?_|refine RM.o2 ?_|refine RM.o4 ?_|refine RM.o5 ?_|refine RM.o7 ?_|refine RM.o9 ?_|refine RM.p1 ?_|refine RM.p2 ?_|refine RM.p3 ?_|refine RM.p4 ?_|refine RM.p5 ?_) |((with_reducible show force _ _);first|refine RM.f1 rfl ?_|refine RM.f4 rfl ?_) |((with_reducible show wpOne _ _ _ _ _ _ _ _ _ _ _ _);refine RM.o8 rfl ?_) |((with_reducible show wpGuard _ _ _ _ _);first|refine wpGuard_yes rfl rfl rfl ?_|refine wpGuard_no rfl rfl rfl ?_) |((with_reducible show wpPick _ _ _ _ _);refine RM.k1 rfl ?_) |((with_reducible show wpPickB _ _ _ _ _);refine RM.k3 rfl ?_) |((with_reducible show wpBin _ _ _ _ _ _ _ _ _);refine RM.b6 rfl rfl ?_) |(refine PureV.call ha rfl rfl ?_) |fail)
  exact ⟨[_], ⟨Fz.deep rfl, trivial⟩, rfl⟩
def cmpL : List Int → List Int → Int
  | [], [] => 0
  | [], _ :: _ => -1
  | _ :: _, [] => 1
  | a :: l, b :: m => if cmpI a b = 0 then cmpL l m else cmpI a b
theorem cmpL_cc (a b : Int) (l m : List Int) : cmpL (a :: l) (b :: m) = if cmpI a b = 0 then cmpL l m else cmpI a b := by rw [cmpL]
theorem cmpL_cn (a : Int) (l : List Int) : cmpL (a :: l) [] = 1 := by rw [cmpL]
theorem cmpL_nc (b : Int) (m : List Int) : cmpL [] (b :: m) = -1 := by rw [cmpL]
theorem cmpL_nn : cmpL [] [] = 0 := by rw [cmpL]
theorem compare_c (one : Bool) (a b : List Int) (f g : Bool) (ha : a.length ≤ 1000) (hb : b.length ≤ 1000) : Pu one 109 [.sl (a.map eI) f, .sl (b.map eI) g] (I64 (cmpL a b)) := by
  have ea : ((a.map eI).length : Int) = a.length := by simp
  have eb : ((b.map eI).length : Int) = b.length := by simp
  refine PureV.body (fn := Try.f109) rfl rfl rfl rfl ?_
  refine wpC_sound (mu := fun _ => false) ?_
  repeat' (first |with_reducible (first|refine RM.c2 ?_|refine RM.c3 ?_|refine RM.c4 ?_|refine RM.c9 ?_|refine RM.o1 ?_|refine RM.o2 ?_|refine RM.o4 ?_|refine RM.o5 ?_|refine RM.p2 ?_|refine RM.p3 ?_|refine RM.p6 ?_) |((with_reducible show force _ _);first|refine RM.f1 rfl ?_|refine RM.f2 rfl ?_) |((with_reducible show wpOne _ _ _ _ _ _ _ _ _ _ _ _);refine RM.o8 rfl ?_) |((with_reducible show wpLen _ _ _ _ _);refine RM.l1 rfl ?_) |fail)
  refine SemC.weaker (Weaker.to (l := [(0, .sl (a.map eI) f), (1, .sl (b.map eI) g), (9, .sl (a.map eI) f), (10, I64 ((a.map eI).length : Int)), (11, I64 (0 : Nat))]) (hp := []) 0 rfl ⟨rfl, rfl, rfl, rfl, rfl, trivial⟩ (Nat.zero_le _) rfl rfl) ?_
  refine SemC.loop (fun j : Nat => (j ≤ a.length ∧ j ≤ b.length) ∧ cmpL a b = cmpL (a.drop j) (b.drop j)) (fun j => ⟨mkFr [(0, .sl (a.map eI) f), (1, .sl (b.map eI) g), (9, .sl (a.map eI) f), (10, I64 ((a.map eI).length : Int)), (11, I64 (j : Nat))], [], Amb.none, false, 0⟩) (fun j => a.length - j) ?_ 0 ⟨⟨Nat.zero_le _, Nat.zero_le _⟩, rfl⟩
  rintro j ⟨⟨hj, hjb⟩, hcm⟩
  refine wpC_sound (mu := fun _ => false) ?_
  repeat' (first |with_reducible (first|refine RM.c2 ?_|refine RM.c4 ?_|refine RM.c9 ?_|refine RM.o1 ?_|refine RM.o2 ?_|refine RM.o4 ?_|refine RM.o5 ?_|refine RM.p5 ?_) |((with_reducible show force _ _);refine RM.f1 rfl ?_) |((with_reducible show wpOne _ _ _ _ _ _ _ _ _ _ _ _);refine RM.o8 rfl ?_) |((with_reducible show wpBin _ _ _ _ _ _ _ _ _);refine RM.b6 rfl rfl ?_) |fail)
  refine RM.e1 rfl ⟨fun hc => ?_, fun hc => ?_⟩
  · have hlt : j < a.length := by simpa only [ea, decide_eq_true_eq, Int.ofNat_lt] using hc
    have hda := List.drop_eq_getElem_cons hlt
    by_cases hl2 : j < b.length
    · have d1 : decide (((b.map eI).length : Int) ≤ (j : Int)) = false := decide_eq_false (by omega)
      have hdb := List.drop_eq_getElem_cons hl2
      have hcc := cmp_c one a[j] b[j]
      rw [hda, hdb, cmpL_cc] at hcm
      by_cases h0 : cmpI a[j] b[j] = 0
      · have d2 : (!decide (cmpI a[j] b[j] = 0)) = false := by simpa using h0
        rw [if_pos h0] at hcm
        repeat' (first |with_reducible (first|refine RM.c1 ?_|refine RM.c2 ?_|refine RM.c3 ?_|refine RM.c4 ?_|refine RM.c9 ?_|refine RM.d3 ?_|refine RM.o1 ?_|refine RM.o2 ?_|refine RM.o4 ?_|refine RM.o5 ?_|refine RM.o7 ?_|refine RM.o9 ?_|refine RM.p1 ?_|refine RM.p2 ?_|refine RM.p3 ?_|refine RM.p5 ?_|refine RM.p6 ?_) |((with_reducible show force _ _);first|refine RM.f1 rfl ?_|refine RM.f2 rfl ?_|refine RM.f3 rfl ?_|refine RM.f4 rfl ?_) |((with_reducible show wpOne _ _ _ _ _ _ _ _ _ _ _ _);refine RM.o8 rfl ?_) |((with_reducible show wpC _ _ _ _ (.cond _ _ _) _ _);refine RM.e3 rfl (by assumption) ?_) |((with_reducible show wpBin _ _ _ _ _ _ _ _ _);first|refine RM.b5 rfl rfl ?_|refine RM.b9 rfl rfl ?_|refine RM.b1 rfl rfl (by omega) ?_) |((with_reducible show wpLen _ _ _ _ _);refine RM.l1 rfl ?_) |(refine ⟨_, rfl, ?_⟩) |(refine ⟨eI a[j], ⟨by omega, map_at hlt⟩, rfl, ?_⟩) |(refine ⟨eI b[j], ⟨by omega, map_at hl2⟩, rfl, ?_⟩) |(refine PureV.call hcc rfl rfl ?_) |fail)
        exact ⟨j + 1, ⟨⟨hlt, hl2⟩, hcm⟩, (by dsimp only; omega), Weaker.to 0 rfl ⟨rfl, rfl, rfl, rfl, i64c (by simp), trivial⟩ (Nat.zero_le _) rfl rfl⟩
      · have d2 : (!decide (cmpI a[j] b[j] = 0)) = true := by simpa using h0
        rw [if_neg h0] at hcm
        rw [hcm]
        repeat' (first |with_reducible (first|refine RM.c1 ?_|refine RM.c2 ?_|refine RM.c3 ?_|refine RM.c4 ?_|refine RM.c7 ?_|refine RM.c9 ?_|refine RM.d1 ?_|refine RM.d4 ?_|refine RM.o1 ?_|refine RM.o2 ?_|refine RM.o4 ?_|refine RM.o5 ?_|refine RM.o7 ?_|refine RM.o9 ?_|refine RM.p1 ?_|refine RM.p2 ?_|refine RM.p3 ?_|refine RM.p5 ?_|refine RM.p6 ?_|refine RM.q1 ?_) |((with_reducible show force _ _);first|refine RM.f1 rfl ?_|refine RM.f2 rfl ?_|refine RM.f3 rfl ?_|refine RM.f4 rfl ?_) |((with_reducible show wpOne _ _ _ _ _ _ _ _ _ _ _ _);refine RM.o8 rfl ?_) |((with_reducible show wpC _ _ _ _ (.cond _ _ _) _ _);first|refine RM.e2 rfl (by assumption) ?_|refine RM.e3 rfl (by assumption) ?_) |((with_reducible show wpBin _ _ _ _ _ _ _ _ _);first|refine RM.b5 rfl rfl ?_|refine RM.b9 rfl rfl ?_) |((with_reducible show wpLen _ _ _ _ _);refine RM.l1 rfl ?_) |(refine ⟨_, rfl, ?_⟩) |(refine ⟨eI a[j], ⟨by omega, map_at hlt⟩, rfl, ?_⟩) |(refine ⟨eI b[j], ⟨by omega, map_at hl2⟩, rfl, ?_⟩) |(refine PureV.call hcc rfl rfl ?_) |fail)
        exact ⟨[_], ⟨Fz.deep rfl, trivial⟩, rfl⟩
    · have d1 : decide (((b.map eI).length : Int) ≤ (j : Int)) = true := decide_eq_true (by omega)
      rw [hda, List.drop_eq_nil_of_le (by omega : b.length ≤ j), cmpL_cn] at hcm
      rw [hcm]
      repeat' (first |with_reducible (first|refine RM.c1 ?_|refine RM.c2 ?_|refine RM.c3 ?_|refine RM.c4 ?_|refine RM.c7 ?_|refine RM.c9 ?_|refine RM.d1 ?_|refine RM.d4 ?_|refine RM.o1 ?_|refine RM.o2 ?_|refine RM.o4 ?_|refine RM.o5 ?_|refine RM.p2 ?_|refine RM.p3 ?_|refine RM.p5 ?_|refine RM.p6 ?_|refine RM.q1 ?_) |((with_reducible show force _ _);first|refine RM.f1 rfl ?_|refine RM.f2 rfl ?_|refine RM.f3 rfl ?_) |((with_reducible show wpOne _ _ _ _ _ _ _ _ _ _ _ _);refine RM.o8 rfl ?_) |((with_reducible show wpC _ _ _ _ (.cond _ _ _) _ _);refine RM.e2 rfl (by assumption) ?_) |((with_reducible show wpBin _ _ _ _ _ _ _ _ _);refine RM.b9 rfl rfl ?_) |((with_reducible show wpLen _ _ _ _ _);refine RM.l1 rfl ?_) |(refine ⟨_, rfl, ?_⟩) |(refine ⟨eI a[j], ⟨by omega, map_at hlt⟩, rfl, ?_⟩) |fail)
      exact ⟨[_], ⟨Fz.deep rfl, trivial⟩, rfl⟩
  · have hjl : j = a.length := by rw [ea, decide_eq_false_iff_not] at hc; omega
    subst hjl
    rw [List.drop_length] at hcm
    by_cases hl2 : a.length < b.length
    · have d1 : decide (((a.map eI).length : Int) < ((b.map eI).length : Int)) = true := decide_eq_true (by omega)
      rw [List.drop_eq_getElem_cons hl2, cmpL_nc] at hcm
      rw [hcm]
      repeat' (first |with_reducible (first|refine RM.c2 ?_|refine RM.c4 ?_|refine RM.c6 ?_|refine RM.c7 ?_|refine RM.c9 ?_|refine RM.d1 ?_|refine RM.d2 ?_|refine RM.o1 ?_|refine RM.o2 ?_|refine RM.o4 ?_|refine RM.o5 ?_|refine RM.p2 ?_|refine RM.p3 ?_|refine RM.p5 ?_|refine RM.p6 ?_|refine RM.q2 ?_) |((with_reducible show force _ _);first|refine RM.f1 rfl ?_|refine RM.f2 rfl ?_) |((with_reducible show wpOne _ _ _ _ _ _ _ _ _ _ _ _);refine RM.o8 rfl ?_) |((with_reducible show wpC _ _ _ _ (.cond _ _ _) _ _);refine RM.e2 rfl (by assumption) ?_) |((with_reducible show wpBin _ _ _ _ _ _ _ _ _);refine RM.b6 rfl rfl ?_) |((with_reducible show wpLen _ _ _ _ _);refine RM.l1 rfl ?_) |((with_reducible show blockK _ _ _ _);refine RM.d5 rfl ?_) |fail)
      exact ⟨[_], ⟨Fz.deep rfl, trivial⟩, rfl⟩
    · have d1 : decide (((a.map eI).length : Int) < ((b.map eI).length : Int)) = false := decide_eq_false (by omega)
      rw [List.drop_eq_nil_of_le (by omega : b.length ≤ a.length), cmpL_nn] at hcm
      rw [hcm]
      repeat' (first |with_reducible (first|refine RM.c1 ?_|refine RM.c2 ?_|refine RM.c4 ?_|refine RM.c6 ?_|refine RM.c7 ?_|refine RM.c9 ?_|refine RM.d2 ?_|refine RM.o1 ?_|refine RM.o2 ?_|refine RM.o4 ?_|refine RM.o5 ?_|refine RM.p2 ?_|refine RM.p3 ?_|refine RM.p5 ?_|refine RM.p6 ?_|refine RM.q2 ?_) |((with_reducible show force _ _);first|refine RM.f1 rfl ?_|refine RM.f2 rfl ?_) |((with_reducible show wpOne _ _ _ _ _ _ _ _ _ _ _ _);refine RM.o8 rfl ?_) |((with_reducible show wpC _ _ _ _ (.cond _ _ _) _ _);refine RM.e3 rfl (by assumption) ?_) |((with_reducible show wpBin _ _ _ _ _ _ _ _ _);refine RM.b6 rfl rfl ?_) |((with_reducible show wpLen _ _ _ _ _);refine RM.l1 rfl ?_) |((with_reducible show blockK _ _ _ _);refine RM.d5 rfl ?_) |fail)
      exact ⟨[_], ⟨Fz.deep rfl, trivial⟩, rfl⟩
end Go.Proofs.Ytmkaeohmdcoanaa
