/-
  Contracts of the program's functions and of the document's. Lemmas alone; their conditions stand in them.
-/
import Derived.Test.YtmkaeohmdcoanaaA2
import Derived.Test.YtmkaeohmdcoanaaX1
import Derived.Test.YtmkaeohmdcoanaaK1
import Derived.Test.YtmkaeohmdcoanaaRows
open Go Go.RM
namespace Go.Proofs.Ytmkaeohmdcoanaa
set_option maxRecDepth 100000
set_option maxHeartbeats 4000000
abbrev Met := List (List Int × Int)
def metAt (k : List Int) (E : Met) : Option Nat := E.findIdx? fun x => decide (k = x.1)
def metVal (k : List Int) (E : Met) : Int := match metAt k E with
  | some i => match E[i]? with | some x => x.2 | none => 0
  | none => 0
def metTouch (k : List Int) (E : Met) : Met := match metAt k E with
  | some _ => E
  | none => E ++ [(k, 0)]
def metIdx (k : List Int) (E : Met) : Nat := match metAt k E with
  | some i => i
  | none => E.length
def bump (k : List Int) (E : Met) : Met := (metTouch k E).set (metIdx k E) (k, metVal k E + 1)
def entsF : Nat → Met → List (AV × AV × Nat)
  | _, [] => []
  | b, (k, c) :: E => (.ag (k.map I64), I64 c, b) :: entsF (b + 1) E
theorem ents_get : ∀ (b : Nat) (E : Met) (i : Nat) (x : List Int × Int), E[i]? = some x → (entsF b E)[i]? = some (.ag (x.1.map I64), I64 x.2, b + i)
  | _, [], i, x, h => by cases h
  | b, (k, c) :: E, 0, x, h => by cases h; rfl
  | b, (k, c) :: E, i + 1, x, h => by
    unfold entsF
    rw [List.getElem?_cons_succ] at h ⊢
    rw [ents_get (b + 1) E i x h, show b + 1 + i = b + (i + 1) by omega]
theorem ents_set : ∀ (b : Nat) (E : Met) (i : Nat) (k : List Int) (c : Int), (entsF b E).set i (.ag (k.map I64), I64 c, b + i) = entsF b (E.set i (k, c))
  | _, [], i, k, c => rfl
  | b, (k', c') :: E, 0, k, c => rfl
  | b, (k', c') :: E, i + 1, k, c => by
    show (AV.ag (k'.map I64), I64 c', b) :: (entsF (b + 1) E).set i _ = (AV.ag (k'.map I64), I64 c', b) :: entsF (b + 1) (E.set i (k, c))
    rw [← ents_set (b + 1) E i k c, show b + 1 + i = b + (i + 1) by omega]
theorem ents_app : ∀ (b : Nat) (E : Met) (k : List Int) (c : Int), entsF b E ++ [(AV.ag (k.map I64), I64 c, b + E.length)] = entsF b (E ++ [(k, c)])
  | _, [], k, c => rfl
  | b, (k', c') :: E, k, c => by
    show (AV.ag (k'.map I64), I64 c', b) :: (entsF (b + 1) E ++ _) = (AV.ag (k'.map I64), I64 c', b) :: entsF (b + 1) (E ++ [(k, c)])
    rw [← ents_app (b + 1) E k c, List.length_cons, show b + 1 + E.length = b + (E.length + 1) by omega]
theorem ents_borns : ∀ (b : Nat) (E : Met), (entsF b E).map (fun p => ((p.2.2 : Nat) : Int)) = (List.range' b E.length).map fun (i : Nat) => (i : Int)
  | _, [] => rfl
  | b, (k, c) :: E => by
    unfold entsF
    rw [List.map_cons, ents_borns (b + 1) E, List.length_cons, List.range'_succ, List.map_cons]
theorem range_find : ∀ (n b i : Nat), i < n → ((List.range' b n).map fun (i : Nat) => (i : Int)).findIdx? (· == ((b + i : Nat) : Int)) = some i
  | 0, _, i, h => absurd h (Nat.not_lt_zero _)
  | n + 1, b, 0, _ => by
    rw [List.range'_succ, List.map_cons, List.findIdx?_cons]
    simp
  | n + 1, b, i + 1, h => by
    rw [List.range'_succ, List.map_cons, List.findIdx?_cons]
    have hne : ((b : Int) == ((b + (i + 1) : Nat) : Int)) = false := by
      rw [beq_eq_false_iff_ne]; omega
    rw [hne]
    have := range_find n (b + 1) i (by omega)
    rw [show b + 1 + i = b + (i + 1) by omega] at this
    simp only [Bool.false_eq_true, if_false, this, Option.map_some]
theorem flat_ints : ∀ l : List Int, flVs (l.map I64) = some (l.map vI)
  | [] => rfl
  | a :: l => by
    show (flVs (l.map I64)).map (vI a :: ·) = _
    rw [flat_ints l]; rfl
theorem flatv_key {k : List Int} : (AV.ag (k.map I64)).flatV = some (eKey k) := by
  show (flVs (k.map I64)).map _ = _
  rw [flat_ints]; rfl
theorem keys_ents : ∀ (b : Nat) (E : Met), keysOf (entsF b E) = some ((E.map (·.1)).map eKey)
  | _, [] => rfl
  | b, (k, c) :: E => by
    unfold entsF keysOf
    rw [flatv_key, keys_ents (b + 1) E]; rfl
theorem met_find (b : Bool) {k : List Int} (hk : k.length = 8) {E : Met} (h8 : ∀ x ∈ E, x.1.length = 8) : Finds TT b 165 (eKey k) ((E.map (·.1)).map eKey) (metAt k E) := by
  have := find_key b k hk (E.map (·.1)) (fun x hx => by obtain ⟨y, hy, rfl⟩ := List.mem_map.1 hx; exact h8 y hy)
  rw [List.findIdx?_map] at this
  exact this
section
variable {own : Bool} {fr : Nat → AV} {hp : List AB} {K : AV → List AB → Prop} {m k : Operand} {j : Nat} {key : List Int} {E : Met}
theorem met_some {i : Nat} (h : metAt key E = some i) : ∃ x, E[i]? = some x ∧ x.1 = key := by
  unfold metAt at h
  rw [List.findIdx?_eq_some_iff_getElem] at h
  obtain ⟨hi, h1, _⟩ := h
  exact ⟨E[i], List.getElem?_eq_getElem hi, (of_decide_eq_true h1).symm⟩
theorem lookMet (hm : evA fr m = .om j) (hk : evA fr k = .ag (key.map I64)) (hj : hp[j]? = some (.map (entsF 0 E) E.length)) (h8 : key.length = 8) (hE : ∀ x ∈ E, x.1.length = 8) (hK : K (I64 (metVal key E)) hp) :
    RM.wpOp TT own (.lookup 164 m k false) fr hp K := by
  show wpLookup TT 164 (evA fr m) (evA fr k) false hp K
  rw [hm, hk]
  refine ⟨_, _, _, eKey key, 165, vI 0, metAt key E, hj, keys_ents 0 E, flatv_key, by kernel_rfl, met_find _ h8 hE, ?_⟩
  cases h : metAt key E with
  | none =>
    refine ⟨rfl, ?_⟩
    unfold metVal at hK
    rw [h] at hK
    exact hK
  | some i =>
    obtain ⟨x, hx, _⟩ := met_some h
    refine ⟨_, ents_get 0 E i x hx, ?_⟩
    unfold metVal at hK
    simp only [h, hx] at hK
    exact hK
theorem entryMet (hm : evA fr m = .om j) (hk : evA fr k = .ag (key.map I64)) (hj : hp[j]? = some (.map (entsF 0 E) E.length)) (h8 : key.length = 8) (hE : ∀ x ∈ E, x.1.length = 8)
    (hK : K (.tp [I64 (metVal key E), I64 (metIdx key E : Nat)]) (hp.set j (.map (entsF 0 (metTouch key E)) (metTouch key E).length))) :
    RM.wpOp TT own (.mapEntry 164 m k) fr hp K := by
  show wpMapEntry TT 164 (evA fr m) (evA fr k) hp K
  rw [hm, hk]
  refine ⟨_, _, _, eKey key, 165, vI 0, metAt key E, hj, keys_ents 0 E, flatv_key, by kernel_rfl, met_find _ h8 hE, ?_⟩
  cases h : metAt key E with
  | none =>
    refine ⟨rfl, ?_⟩
    unfold metVal metIdx metTouch at hK
    simp only [h] at hK
    rw [← ents_app 0 E key 0, Nat.zero_add, List.length_append] at hK
    exact hK
  | some i =>
    obtain ⟨x, hx, hxk⟩ := met_some h
    have hg := ents_get 0 E i x hx
    refine ⟨_, hg, ⟨eKey x.1, flatv_key, by rw [hxk]; exact same_key key⟩, ?_⟩
    unfold metVal metIdx metTouch at hK
    simp only [h, hx] at hK
    rw [← hxk, set_same hg, Nat.zero_add]
    exact hK
theorem storeMet {s v : Operand} {n : Int} {t : TypeId} (hm : evA fr m = .om j) (hs : evA fr s = I64 (metIdx key E : Nat)) (hv : evA fr v = I64 n) (hj : hp[j]? = some (.map (entsF 0 (metTouch key E)) (metTouch key E).length)) (hn : n = metVal key E + 1)
    (hK : K .junk (hp.set j (.map (entsF 0 (bump key E)) (bump key E).length))) : RM.wpOp TT own (.entryStore t m s v) fr hp K := by
  show wpEntryStore (evA fr m) (evA fr s) (evA fr v) hp K
  rw [hm, hs, hv]
  obtain ⟨c, hx⟩ : ∃ c, (metTouch key E)[metIdx key E]? = some (key, c) := by
    unfold metTouch metIdx
    cases h : metAt key E with
    | none => exact ⟨0, by simp⟩
    | some i =>
      obtain ⟨x, hx, hxk⟩ := met_some h
      exact ⟨x.2, by dsimp only; rw [hx, ← hxk]⟩
  have hlt := (List.getElem?_eq_some_iff.1 hx).1
  have hf := range_find (metTouch key E).length 0 (metIdx key E) hlt
  rw [← ents_borns, Nat.zero_add] at hf
  have hst := ents_set 0 (metTouch key E) (metIdx key E) key (metVal key E + 1)
  refine ⟨_, _, _, _, _, hj, rfl, hf, ents_get 0 _ _ _ hx, ?_⟩
  rw [hn, hst]
  unfold bump at hK
  rw [List.length_set] at hK
  exact hK
end
theorem bump_mem {k : List Int} {E : Met} {x : List Int × Int} (hx : x ∈ bump k E) : x ∈ E ∨ x.1 = k ∧ x.2 = metVal k E + 1 := by
  unfold bump at hx
  rcases List.mem_or_eq_of_mem_set hx with h | rfl
  · unfold metTouch metIdx at *
    cases ha : metAt k E with
    | some i => rw [ha] at h; exact .inl h
    | none =>
      rw [ha] at h hx
      simp only at h hx
      rw [List.set_append_right _ _ (Nat.le_refl _)] at hx
      rcases List.mem_append.1 hx with h1 | h1
      · exact .inl h1
      · simp only [Nat.sub_self, List.set_cons_zero, List.mem_singleton] at h1
        subst h1
        exact .inr ⟨rfl, rfl⟩
  · exact .inr ⟨rfl, rfl⟩
theorem bump_has (k : List Int) (E : Met) : ∃ x ∈ bump k E, x.1 = k := by
  have hlt : metIdx k E < (metTouch k E).length := by
    unfold metTouch metIdx
    cases h : metAt k E with
    | none => simp
    | some i =>
      obtain ⟨x, hx, _⟩ := met_some h
      exact (List.getElem?_eq_some_iff.1 hx).1
  exact ⟨_, List.mem_set hlt _, rfl⟩
theorem bump_keeps {k : List Int} {E : Met} {x : List Int × Int} (hx : x ∈ E) : ∃ y ∈ bump k E, y.1 = x.1 := by
  obtain ⟨i, hi⟩ := List.getElem?_of_mem hx
  have hil := (List.getElem?_eq_some_iff.1 hi).1
  have hg : (metTouch k E)[i]? = some x := by
    unfold metTouch
    cases h : metAt k E with
    | none => dsimp only; rw [List.getElem?_append_left hil]; exact hi
    | some _ => exact hi
  have hlt := (List.getElem?_eq_some_iff.1 hg).1
  by_cases hik : metIdx k E = i
  · have hlt' : metIdx k E < (metTouch k E).length := by rw [hik]; exact hlt
    refine ⟨_, List.mem_set hlt' _, ?_⟩
    unfold metIdx at hik
    cases h : metAt k E with
    | none => simp only [h] at hik; omega
    | some j =>
      obtain ⟨z, hz, hzk⟩ := met_some h
      simp only [h] at hik
      subst hik
      rw [hi] at hz
      rw [Option.some.inj hz, hzk]
  · refine ⟨x, ?_, rfl⟩
    have : (bump k E)[i]? = some x := by
      unfold bump
      rw [List.getElem?_set_ne hik]; exact hg
    exact List.mem_of_getElem? this
section
variable {τ : Type} (key : τ → List Int)
def tally (T : List τ) : Met := T.foldl (fun E t => bump (key t) E) []
variable {key}
structure MetInv (T : List τ) (E : Met) : Prop where
  all : ∀ t ∈ T, ∃ x ∈ E, x.1 = key t
  some : ∀ x ∈ E, ∃ t ∈ T, x.1 = key t
  cnt : ∀ x ∈ E, 0 ≤ x.2 ∧ x.2 ≤ T.length
theorem metVal_le {T : List τ} {E : Met} (h : MetInv (key := key) T E) (k : List Int) : 0 ≤ metVal k E ∧ metVal k E ≤ T.length := by
  unfold metVal
  cases ha : metAt k E with
  | none => dsimp only; omega
  | some i =>
    obtain ⟨x, hx, _⟩ := met_some ha
    simp only [hx]
    exact h.cnt x (List.mem_of_getElem? hx)
theorem tally_inv : ∀ (T : List τ), MetInv (key := key) T (tally key T) := by
  have step : ∀ (T : List τ) (E : Met) (t : τ), MetInv (key := key) T E → MetInv (key := key) (T ++ [t]) (bump (key t) E) := by
    intro T E t h
    have hv := metVal_le h (key t)
    refine ⟨fun u hu => ?_, fun x hx => ?_, fun x hx => ?_⟩
    · rcases List.mem_append.1 hu with hu | hu
      · obtain ⟨x, hx, e⟩ := h.all u hu
        obtain ⟨y, hy, e'⟩ := bump_keeps (k := key t) hx
        exact ⟨y, hy, e'.trans e⟩
      · rw [List.mem_singleton.1 hu]; exact bump_has _ _
    · rcases bump_mem hx with hx | ⟨e, _⟩
      · obtain ⟨u, hu, e⟩ := h.some x hx
        exact ⟨u, List.mem_append_left _ hu, e⟩
      · exact ⟨t, by simp, e⟩
    · rw [List.length_append, List.length_singleton]
      rcases bump_mem hx with hx | ⟨_, e⟩
      · have := h.cnt x hx
        omega
      · omega
  have go : ∀ (L T : List τ) (E : Met), MetInv (key := key) T E → MetInv (key := key) (T ++ L) (L.foldl (fun E t => bump (key t) E) E) := by
    intro L
    induction L with
    | nil => intro T E h; rw [List.append_nil]; exact h
    | cons t L ih =>
      intro T E h
      have := ih (T ++ [t]) (bump (key t) E) (step T E t h)
      rw [List.append_assoc] at this
      exact this
  intro T
  exact go T [] [] ⟨fun t ht => absurd ht (by simp), fun x hx => absurd hx (by simp), fun x hx => absurd hx (by simp)⟩
theorem tally_app (T U : List τ) : tally key (T ++ U) = U.foldl (fun E t => bump (key t) E) (tally key T) := by
  unfold tally
  rw [List.foldl_append]
theorem tally_one (T : List τ) (t : τ) : tally key (T ++ [t]) = bump (key t) (tally key T) := by
  rw [tally_app]; rfl
end
end Go.Proofs.Ytmkaeohmdcoanaa
open Go Go.RM
namespace Go.Proofs.Ytmkaeohmdcoanaa
set_option maxRecDepth 100000
set_option maxHeartbeats 4000000
/-- A truth misses a count of the kind. -/
def missAt (men : List Int) (k : Kind) (row : List Int) (l : List Count) (ki : Nat) (t : Truth) (i : Nat) : Bool := match l[i]? with
  | some c => decide (c.kind = (ki : Int)) && !cntIn (lvl men k row t) c
  | none => false
def b2 (b : Bool) : Int := if b = true then 1 else 0
def keyOf (p : Nat → Bool) : List Int := [b2 (p 0), b2 (p 1), b2 (p 2), b2 (p 3), b2 (p 4), b2 (p 5), b2 (p 6), b2 (p 7)]
def upto (p : Nat → Bool) (j : Nat) (i : Nat) : Bool := decide (i < j) && p i
theorem upto_zero (p : Nat → Bool) : keyOf (upto p 0) = [0, 0, 0, 0, 0, 0, 0, 0] := by
  unfold keyOf upto
  simp [b2]
theorem upto_skip {p : Nat → Bool} {j : Nat} (h : p j = false) : upto p (j + 1) = upto p j := by
  funext i
  unfold upto
  by_cases hij : i = j
  · subst hij; rw [h]; simp
  · rw [show decide (i < j + 1) = decide (i < j) from decide_eq_decide.2 (by omega)]
theorem upto_all {p : Nat → Bool} {n : Nat} (h : ∀ i, n ≤ i → p i = false) : upto p n = p := by
  funext i
  unfold upto
  by_cases hij : i < n
  · simp [hij]
  · rw [h i (by omega)]; simp
theorem upto_set {p : Nat → Bool} {j : Nat} (h : p j = true) (hj : j < 8) : (keyOf (upto p j)).set j 1 = keyOf (upto p (j + 1)) := by
  have hne : ∀ i, i ≠ j → upto p (j + 1) i = upto p j i := by
    intro i hi
    unfold upto
    rw [show decide (i < j + 1) = decide (i < j) from decide_eq_decide.2 (by omega)]
  have hyes : upto p (j + 1) j = true := by unfold upto; simp [h]
  match j, hj with
  | 0, _ | 1, _ | 2, _ | 3, _ | 4, _ | 5, _ | 6, _ | 7, _ =>
    unfold keyOf
    simp only [hyes]
    repeat rw [hne _ (by omega)]
    rfl
theorem upto_splice {p : Nat → Bool} {j : Nat} (h : p j = true) (hj : j < 8) : spliceV ((keyOf (upto p j)).map I64) [I64 1] (0 + j * 1) = (keyOf (upto p (j + 1))).map I64 := by
  rw [← upto_set h hj]
  match j, hj with
  | 0, _ | 1, _ | 2, _ | 3, _ | 4, _ | 5, _ | 6, _ | 7, _ => rfl
theorem key_at {p : Nat → Bool} {i : Nat} (h : i < 8) : (keyOf p)[i]? = some (b2 (p i)) := by
  match i, h with
  | 0, _ | 1, _ | 2, _ | 3, _ | 4, _ | 5, _ | 6, _ | 7, _ => rfl
/-- The numbers that are not 0. -/
def nzs (key : List Int) : List Int := lst (fun i => !decide (key.getD i 0 = 0)) 0 8
theorem key_lst (p : Nat → Bool) : nzs (keyOf p) = lst p 0 8 := by
  unfold nzs
  apply lst_congr
  intro i hi
  rw [List.getD_eq_getElem?_getD, key_at hi]
  unfold b2
  cases p i <;> rfl
theorem miss_none {men : List Int} {k : Kind} {row : List Int} {l : List Count} {ki : Nat} {t : Truth} {i : Nat} (h : l.length ≤ i) : missAt men k row l ki t i = false := by
  unfold missAt
  rw [List.getElem?_eq_none h]
theorem miss_at {men : List Int} {k : Kind} {row : List Int} {l : List Count} {ki : Nat} {t : Truth} {i : Nat} (h : i < l.length) : missAt men k row l ki t i = (decide (l[i].kind = (ki : Int)) && !cntIn (lvl men k row t) l[i]) := by
  unfold missAt
  rw [List.getElem?_eq_getElem h]
theorem outB1 (lo hi n : Int) : outB lo hi [n] = !inB n lo hi := by
  rw [outB_one]
def spanT (x : Truth × Truth) : List Truth := (List.range (x.2.first - x.1.first + 1).toNat).map fun (i : Nat) => ⟨x.1.first + (i : Int), x.1.man, x.1.ship⟩
def metT (L : List (Truth × Truth)) : List Truth := (L.map spanT).flatten
theorem metT_take {L : List (Truth × Truth)} {i : Nat} {y : Truth × Truth} (h : L[i]? = some y) : metT (L.take (i + 1)) = metT (L.take i) ++ spanT y := by
  unfold metT
  rw [List.take_add_one, h, List.map_append, List.flatten_append]
  simp
theorem metT_len : ∀ (L : List (Truth × Truth)), (∀ y ∈ L, 0 ≤ y.1.first ∧ y.2.first ≤ 300) → (metT L).length ≤ L.length * 301
  | [], _ => Nat.le_refl _
  | y :: L, h => by
    have ih := metT_len L fun z hz => h z (List.mem_cons_of_mem _ hz)
    have h1 := h y (List.mem_cons_self ..)
    have : metT (y :: L) = spanT y ++ metT L := rfl
    have hs : (spanT y).length = (y.2.first - y.1.first + 1).toNat := by unfold spanT; simp
    rw [this, List.length_append, List.length_cons, hs]
    omega
theorem bs_true (n : Nat) : bs (fun _ => true) 0 n = 0 := by
  obtain ⟨h1, h2⟩ := bs_least (fun _ => true) 0 n (Nat.zero_le _) (fun _ _ _ _ _ _ => rfl)
  apply Nat.eq_zero_of_not_pos
  intro h
  exact absurd (h1 0 (Nat.le_refl _) h) (by decide)
theorem bs_false (n : Nat) : bs (fun _ => false) 0 n = n := by
  have h0 := (bs_in (fun _ => false) 0 n (Nat.zero_le _)).2
  obtain ⟨h1, h2⟩ := bs_least (fun _ => false) 0 n (Nat.zero_le _) (fun _ _ _ _ _ h => absurd h (by decide))
  by_cases h : bs (fun _ => false) 0 n < n
  · exact absurd (h2 h) (by decide)
  · omega
theorem mem_met {men : List Int} {k : Kind} {row : List Int} {t : Truth} (hk : k.first.lo ≤ k.first.hi) : t ∈ metT (truthsL men k row []) ↔ truthOk k t = true := by
  have hlo : ∀ m p, lowF men k row [] m p = k.first.lo := by
    intro m p
    unfold lowF
    rw [show (fun i : Nat => enough men k row [] false ⟨k.first.lo + (i : Int), m, p⟩) = fun _ => true from rfl, bs_true]
    simp
  have hhi : ∀ m p, highF men k row [] m p = k.first.hi := by
    intro m p
    unfold highF
    rw [show (fun i : Nat => enough men k row [] true ⟨k.first.lo + (i : Int), m, p⟩) = fun _ => false from rfl, bs_false]
    unfold spanN
    omega
  rw [truthOk_iff]
  unfold metT
  simp only [List.mem_flatten, List.mem_map]
  constructor
  · rintro ⟨_, ⟨y, hy, rfl⟩, ht⟩
    unfold truthsL pairs at hy
    rw [List.mem_filterMap] at hy
    obtain ⟨q, hq, hy⟩ := hy
    rw [List.mem_range] at hq
    unfold useAt pairAt at hy
    rw [hlo, hhi, if_pos hk] at hy
    cases hy
    unfold spanT at ht
    rw [List.mem_map] at ht
    obtain ⟨i, hi, rfl⟩ := ht
    rw [List.mem_range] at hi
    have hpos : 0 < spanN k.ship := by
      apply Nat.pos_of_ne_zero
      intro h0
      rw [h0, Nat.mul_zero] at hq
      exact absurd hq (Nat.not_lt_zero _)
    have h1 : q / spanN k.ship < spanN k.man := Nat.div_lt_of_lt_mul (by rw [Nat.mul_comm]; exact hq)
    have h2 := Nat.mod_lt q hpos
    generalize q / spanN k.ship = m at *
    generalize q % spanN k.ship = p at *
    clear hq
    unfold spanN at *
    dsimp only at *
    omega
  · rintro ⟨h1, h2, h3⟩
    obtain ⟨a, b, c⟩ := t
    dsimp only at h1 h2 h3
    obtain ⟨x, rfl⟩ : ∃ x : Nat, a = k.first.lo + x := ⟨(a - k.first.lo).toNat, by omega⟩
    obtain ⟨y, rfl⟩ : ∃ x : Nat, b = k.man.lo + x := ⟨(b - k.man.lo).toNat, by omega⟩
    obtain ⟨z, rfl⟩ : ∃ x : Nat, c = k.ship.lo + x := ⟨(c - k.ship.lo).toNat, by omega⟩
    have hy : y < spanN k.man := by unfold spanN; omega
    have hz : z < spanN k.ship := by unfold spanN; omega
    refine ⟨_, ⟨(⟨k.first.lo, k.man.lo + y, k.ship.lo + z⟩, ⟨k.first.hi, k.man.lo + y, k.ship.lo + z⟩), ?_, rfl⟩, ?_⟩
    · unfold truthsL pairs
      rw [List.mem_filterMap]
      refine ⟨y * spanN k.ship + z, ?_, ?_⟩
      · rw [List.mem_range]
        have : (y + 1) * spanN k.ship ≤ spanN k.man * spanN k.ship := Nat.mul_le_mul_right _ hy
        rw [Nat.add_mul, Nat.one_mul] at this
        omega
      · rw [use_at men k row [] hz]
        unfold pairAt
        rw [hlo, hhi, if_pos hk]
    · unfold spanT
      rw [List.mem_map]
      exact ⟨x, by rw [List.mem_range]; dsimp only; omega, rfl⟩
end Go.Proofs.Ytmkaeohmdcoanaa
open Go Go.RM
namespace Go.Proofs.Ytmkaeohmdcoanaa
set_option maxRecDepth 100000
set_option maxHeartbeats 4000000
def sndC : Code → Code
  | .seq _ b => b
  | c => c
def inC : Code → Code
  | .scope c => c
  | c => c
noncomputable def tail78 : Code := sndC (sndC (sndC (inC (sndC (Try.f78.body.getD .skip)))))
def unseen (n : Nat) (seen : List Nat) : Nat := ((List.range n).filter fun i => !decide (i ∈ seen)).length
theorem unseen_less {n i : Nat} {seen : List Nat} (hi : i < n) (h : i ∉ seen) : unseen n (seen ++ [i]) < unseen n seen := by
  unfold unseen
  have e : (List.range n).filter (fun j => !decide (j ∈ seen ++ [i])) = ((List.range n).filter fun j => !decide (j ∈ seen)).filter fun j => !decide (j = i) := by
    rw [List.filter_filter]
    congr 1
    funext j
    rw [Bool.eq_iff_iff]
    simp only [Bool.not_eq_true', decide_eq_false_iff_not, Bool.and_eq_true, List.mem_append, List.mem_singleton]
    constructor
    · intro h; exact ⟨fun e => h (.inr e), fun e => h (.inl e)⟩
    · rintro ⟨h1, h2⟩ (h | h)
      · exact h2 h
      · exact h1 h
  rw [e, List.length_filter_lt_length_iff_exists]
  exact ⟨i, by rw [List.mem_filter, List.mem_range]; exact ⟨hi, by simpa using h⟩, by simp⟩
theorem ents_mem : ∀ {E : Met} {b : Nat} {e : AV × AV × Nat}, e ∈ entsF b E → ∃ (i : Nat) (x : List Int × Int), E[i]? = some x ∧ e = (.ag (x.1.map I64), I64 x.2, b + i)
  | [], _, _, h => absurd h (List.not_mem_nil)
  | (k, c) :: E, b, e, h => by
    unfold entsF at h
    rcases List.mem_cons.1 h with rfl | h
    · exact ⟨0, (k, c), rfl, rfl⟩
    · obtain ⟨i, x, h1, h2⟩ := ents_mem h
      exact ⟨i + 1, x, h1, by rw [h2, show b + 1 + i = b + (i + 1) by omega]⟩
theorem ents_find : ∀ {E : Met} {b i : Nat} {x : List Int × Int}, E[i]? = some x → ((entsF b E).find? fun p => p.2.2 == b + i) = some (.ag (x.1.map I64), I64 x.2, b + i)
  | [], _, _, _, h => by cases h
  | (k, c) :: E, b, 0, x, h => by
    cases h
    unfold entsF
    rw [List.find?_cons]
    simp
  | (k, c) :: E, b, i + 1, x, h => by
    unfold entsF
    have hne : (b == b + (i + 1)) = false := by rw [beq_eq_false_iff_ne]; omega
    rw [List.find?_cons]
    simp only [hne]
    have := ents_find (b := b + 1) (by simpa using h : E[i]? = some x)
    rw [show b + 1 + i = b + (i + 1) by omega] at this
    exact this
section
variable {own : Bool} {fr : Nat → AV} {hp : List AB} {K : AV → List AB → Prop}
theorem entMet {it : Operand} {q j since i : Nat} {seen : List Nat} {E : Met} {x : List Int × Int} (hi : evA fr it = .ptr q 0 0) (hq : hp[q]? = some (.iter j since (seen ++ [i]) E.length)) (hj : hp[j]? = some (.map (entsF 0 E) E.length)) (hx : E[i]? = some x)
    (hK : K (.tp [.ag (x.1.map I64), I64 x.2]) hp) : RM.wpOp TT own (.entry it) fr hp K := by
  show wpEntry (evA fr it) hp K
  rw [hi]
  have hf := ents_find (b := 0) hx
  rw [Nat.zero_add] at hf
  exact ⟨_, _, _, _, _, _, _, _, hq, hj, rfl, List.getLast?_concat, hf, hK⟩
theorem idxMet {a x : Operand} {p : Nat → Bool} {c : Nat} (ha : evA fr a = .ag ((keyOf p).map I64)) (hx : evA fr x = I64 (c : Nat)) (hc : c < 8) (hK : K (I64 (b2 (p c))) hp) : RM.wpOp TT own (.index 165 a x) fr hp K := by
  show wpIndex TT 165 (evA fr a) (evA fr x) hp K
  rw [ha, hx]
  refine ⟨_, _, flatv_key, rfl, ?_⟩
  match c, hc with
  | 0, _ | 1, _ | 2, _ | 3, _ | 4, _ | 5, _ | 6, _ | 7, _ =>
    exact ⟨vI (b2 (p _)), rfl, rfl, hK⟩
theorem idx0 {a x : Operand} {p : Nat → Bool} {c : Nat} (ha : evA fr a = .ag ((keyOf p).map I64)) (hx : evA fr x = I64 (c : Nat)) (hc : c < 8) (hq : p c = false) (hK : K (I64 0) hp) : RM.wpOp TT own (.index 165 a x) fr hp K := idxMet ha hx hc (by rw [hq]; exact hK)
theorem idx1 {a x : Operand} {p : Nat → Bool} {c : Nat} (ha : evA fr a = .ag ((keyOf p).map I64)) (hx : evA fr x = I64 (c : Nat)) (hc : c < 8) (hq : p c = true) (hK : K (I64 1) hp) : RM.wpOp TT own (.index 165 a x) fr hp K := idxMet ha hx hc (by rw [hq]; exact hK)
end
end Go.Proofs.Ytmkaeohmdcoanaa
open Go Go.RM
namespace Go.Proofs.Ytmkaeohmdcoanaa
set_option maxRecDepth 100000
set_option maxHeartbeats 4000000
theorem key_deep {key : List Int} : (AV.ag (key.map I64)).deep = true := by
  show deepL (key.map I64) = true
  induction key with
  | nil => rfl
  | cons a l ih => exact ih
theorem ents_inb (n : Nat) : ∀ (E : Met) (b : Nat), ((entsF b E).all fun p => p.1.inb n && p.2.1.inb n) = true
  | [], _ => rfl
  | (k, c) :: E, b => by
    unfold entsF
    rw [List.all_cons, ents_inb n E (b + 1), deep_inb n _ key_deep]
    rfl
theorem ents_noj (n : Nat) : ∀ (E : Met) (b : Nat), ((entsF b E).all fun p => p.1.noj n && p.2.1.noj n) = true
  | [], _ => rfl
  | (k, c) :: E, b => by
    unfold entsF
    rw [List.all_cons, ents_noj n E (b + 1), deep_noj n _ key_deep]
    rfl
abbrev mB (E : Met) : AB := .map (entsF 0 E) E.length
abbrev mC : AB := .cells [.om 1] 0 0
abbrev rowV5 (L : List Int) : AV := .osl 5 L.length 0 L.length (L.length + 1)
theorem rowV5_snoc (L : List Int) (a : Int) : rowV5 (L ++ [a]) = .osl 5 (L.length + 1) 0 (L.length + 1) (L.length + 1 + 1) := by
  show AV.osl _ _ _ _ _ = _
  rw [List.length_append]
  rfl
theorem rowB_snoc (L : List Int) (a : Int) : rowB (L ++ [a]) (L ++ [a]).length = .cells (L.map I64 ++ [[I64 a]].flatten) 1 (L.length + 1) := by
  show AB.cells _ _ _ = _
  rw [List.map_append, List.length_append]
  rfl
theorem outer_inb {H : AB} (hH : ∀ n, H.inb n = true) (E : Met) (seen : List Nat) : ([H, mB E, mC, .iter 1 E.length (seen) E.length] : List AB).all (AB.inb 4) = true :=
  allInb (hH 4) (allInb (ents_inb 4 E 0) rfl)
theorem inner_inb {H : AB} (hH : ∀ n, H.inb n = true) (E : Met) (seen : List Nat) (p : Nat → Bool) (L : List Int) : ([H, mB E, mC, .iter 1 E.length (seen) E.length, .cells ((keyOf p).map I64) 0 0, rowB (L) (L).length] : List AB).all (AB.inb 6) = true :=
  allInb (hH 6) (allInb (ents_inb 6 E 0) (allInb rfl (allInb rfl (allInb (deep_inb 6 _ key_deep) (by
    rw [List.all_cons, List.all_nil, Bool.and_true]
    exact inbL_map (fun _ => rfl) _)))))
theorem nojCons {j i : Nat} {b : AB} {l : List AB} (h : b.noj j = true) (k : nojAll j (i + 1) l = true) : nojAll j i (b :: l) = true := by
  unfold nojAll
  rw [h, k, Bool.or_true]
  rfl
theorem inner_noj {H : AB} (hN : ∀ n, H.noj n = true) (E : Met) (seen : List Nat) (p : Nat → Bool) (L : List Int) : nojAll 5 0 ([H, mB E, mC, .iter 1 E.length (seen) E.length, .cells ((keyOf p).map I64) 0 0, rowB (L) (L).length] : List AB) = true :=
  nojCons (hN 5) (nojCons (ents_noj 5 E 0) (nojCons rfl (nojCons rfl (nojCons (deep_noj 5 (.ag _) key_deep) rfl))))
theorem bef_lens {x y : List Int} (h : y.length < x.length) : ¬ bef x y := by
  unfold bef
  omega
/-- What is known of what was seen. -/
def SeenOk (E : Met) (x : List Nat × Bool × List Int) : Prop := (x.2.1 = false → x.1 = [] ∧ x.2.2 = []) ∧ (x.2.1 = true → (∃ y ∈ E, nzs y.1 = x.2.2) ∧ ∀ i ∈ x.1, ∀ y, E[i]? = some y → ¬ bef (nzs y.1) x.2.2)
theorem SeenOk.taken {E : Met} {seen : List Nat} {f : Bool} {bb : List Int} (h : SeenOk E (seen, f, bb)) {i : Nat} {y : List Int × Int} (hy : E[i]? = some y) (hb : f = true → bef (nzs y.1) bb) : SeenOk E (seen ++ [i], true, nzs y.1) := by
  refine ⟨fun h => (by cases h), fun _ => ⟨⟨y, List.mem_of_getElem? hy, rfl⟩, fun j hj z hz => ?_⟩⟩
  rcases List.mem_append.1 hj with hj | hj
  · cases f with
    | false =>
      have := (h.1 rfl).1
      dsimp only at this
      rw [this] at hj
      cases hj
    | true => exact fun hc => (h.2 rfl).2 j hj z hz (bef_trans hc (hb rfl))
  · rw [List.mem_singleton.1 hj, hy] at hz
    cases hz
    exact bef_irr
theorem SeenOk.kept {E : Met} {seen : List Nat} {bb : List Int} (h : SeenOk E (seen, true, bb)) {i : Nat} {y : List Int × Int} (hy : E[i]? = some y) (hb : ¬ bef (nzs y.1) bb) : SeenOk E (seen ++ [i], true, bb) := by
  refine ⟨fun h => (by cases h), fun _ => ⟨(h.2 rfl).1, fun j hj z hz => ?_⟩⟩
  rcases List.mem_append.1 hj with hj | hj
  · exact (h.2 rfl).2 j hj z hz
  · rw [List.mem_singleton.1 hj, hy] at hz
    cases hz
    exact hb
theorem fewest_tail {H : AB} {E : Met} {best : List Int} (hH : ∀ n, H.inb n = true) (hN : ∀ n, H.noj n = true) (hkey : ∀ x ∈ E, ∃ p, x.1 = keyOf p) (hex : ∃ x ∈ E, nzs x.1 = best) (hmin : ∀ x ∈ E, ¬ bef (nzs x.1) best) :
    SemC TT TB false tail78 ⟨mkFr [(6, .sl [] false), (8, .ptr 2 0 0)], [H, mB E, mC], Amb.none, false, 0⟩ (scopeQ (RetQ TT Try.f78.results.toList (.sl (best.map eI) false))) := by
  have hb8 : best.length ≤ 8 := by
    obtain ⟨x, _, rfl⟩ := hex
    exact lst_len_le _ _ _
  refine RM.c2s (mu := fun _ => false) ?_
  repeat' (first |with_reducible (first|refine RM.c4 ?_|refine RM.c9 ?_|refine RM.o1 ?_|refine RM.o2 ?_|refine RM.o4 ?_|refine RM.o5 ?_|refine RM.p3 ?_) |((with_reducible show force _ _);refine RM.f1 rfl ?_) |((with_reducible show wpOne _ _ _ _ _ _ _ _ _ _ _ _);refine RM.o8 rfl ?_) |fail)
  refine RM.c2s (mu := fun _ => false) ?_
  skip
  refine SemC.seq ?_
  refine RM.c2s (mu := fun _ => false) ?_
  repeat' (first |with_reducible (first|refine RM.c4 ?_|refine RM.c9 ?_|refine RM.o1 ?_|refine RM.o2 ?_|refine RM.o4 ?_|refine RM.o5 ?_) |((with_reducible show force _ _);first|refine RM.f7 rfl ?_|refine RM.f9 rfl ?_) |((with_reducible show wpOne _ _ _ _ _ _ _ _ _ _ _ _);refine RM.o8 rfl ?_) |(refine ⟨_, _, rfl, _, rfl, ?_⟩) |(refine ⟨_, _, rfl, ?_⟩) |fail)
  refine SemC.block ?_
  refine SemC.weaker (Weaker.to (l := [(6, .sl ((([] : List Int)).map eI) false), (8, .ptr 2 0 0), (17, BB false), (87, .ptr 3 0 0)]) (hp := [H, mB E, mC, .iter 1 E.length (([] : List Nat)) E.length]) 4 rfl ⟨rfl, rfl, rfl, rfl, trivial⟩ (Nat.zero_le _) rfl (outer_inb hH E [])) ?_
  refine SemC.loop (fun x : List Nat × Bool × List Int => SeenOk E x) (fun x => ⟨mkFr [(6, .sl ((x.2.2).map eI) false), (8, .ptr 2 0 0), (17, BB x.2.1), (87, .ptr 3 0 0)], [H, mB E, mC, .iter 1 E.length (x.1) E.length], Amb.none, false, 0⟩) (fun x => unseen E.length x.1) ?_ ([], false, []) ⟨fun _ => ⟨rfl, rfl⟩, fun h => (by cases h)⟩
  rintro ⟨seen, f, bb⟩ hso
  have hbb : bb.length ≤ 8 := by
    cases f with
    | false =>
      have := (hso.1 rfl).2
      dsimp only at this
      rw [this]
      exact Nat.zero_le _
    | true =>
      obtain ⟨y, _, hy⟩ := (hso.2 rfl).1
      dsimp only at hy
      rw [← hy]
      exact lst_len_le _ _ _
  have eb : ((bb.map eI).length : Int) = bb.length := by simp
  refine RM.c2s (mu := fun _ => false) ?_
  repeat' (first |with_reducible (first|refine RM.c4 ?_|refine RM.o2 ?_|refine RM.o4 ?_) |((with_reducible show force _ _);refine RM.f7 rfl ?_) |(refine And.intro (by kernel_rfl) ?_) |fail)
  refine ⟨1, E.length, seen, E.length, entsF 0 E, E.length, rfl, rfl, fun e he => ?_, fun e he hns => ?_, fun hall => ?_⟩
  · obtain ⟨i, x, hx, rfl⟩ := ents_mem he
    have := (List.getElem?_eq_some_iff.1 hx).1
    dsimp only
    omega
  · obtain ⟨i, x, hx, rfl⟩ := ents_mem he
    rw [Nat.zero_add] at hns ⊢
    have hi := (List.getElem?_eq_some_iff.1 hx).1
    have hless := unseen_less hi hns
    obtain ⟨p, hp⟩ := hkey x (List.mem_of_getElem? hx)
    obtain ⟨key, cnt⟩ := x
    dsimp only at hp
    subst hp
    have hnz := key_lst p
    repeat' (first |with_reducible (first|refine RM.c9 ?_|refine RM.o1 ?_|refine RM.o2 ?_|refine RM.o4 ?_|refine RM.o5 ?_) |((with_reducible show force _ _);refine RM.f1 rfl ?_) |((with_reducible show wpOne _ _ _ _ _ _ _ _ _ _ _ _);refine RM.o8 rfl ?_) |(refine ⟨_, rfl, ?_⟩) |fail)
    refine RM.c2s (mu := fun _ => false) ?_
    repeat' (first |with_reducible (first|refine RM.c1 ?_|refine RM.c9 ?_) |((with_reducible show wpC _ _ _ _ (.cond _ _ _) _ _);refine RM.e2 rfl rfl ?_) |fail)
    refine SemC.block ?_
    refine RM.c2s (mu := fun _ => false) ?_
    repeat' (first |(refine entMet rfl rfl rfl hx ?_) |with_reducible (first|refine RM.c4 ?_|refine RM.c9 ?_|refine RM.o1 ?_|refine RM.o2 ?_|refine RM.o4 ?_|refine RM.o5 ?_|refine RM.o6 ?_) |((with_reducible show force _ _);first|refine RM.f5 rfl ?_|refine RM.f6 rfl ?_|refine RM.f7 rfl ?_|refine RM.g2 rfl ?_) |((with_reducible show wpOne _ _ _ _ _ _ _ _ _ _ _ _);refine RM.o8 rfl ?_) |(refine ⟨_, rfl, ?_⟩) |(refine And.intro (by kernel_rfl) ?_) |(refine ⟨_, _, rfl, rfl, rfl, rfl, Nat.le_of_ble_eq_true rfl, ?_⟩) |fail)
    refine RM.c2s (mu := fun _ => false) ?_
    repeat' (first |with_reducible (first|refine RM.c4 ?_|refine RM.c9 ?_|refine RM.o1 ?_|refine RM.o2 ?_|refine RM.o4 ?_|refine RM.o5 ?_|refine RM.p3 ?_) |((with_reducible show force _ _);refine RM.f1 rfl ?_) |((with_reducible show wpOne _ _ _ _ _ _ _ _ _ _ _ _);refine RM.o8 rfl ?_) |fail)
    refine SemC.seq ?_
    refine RM.c2s (mu := fun _ => false) ?_
    repeat' (first |with_reducible (first|refine RM.c4 ?_|refine RM.c9 ?_|refine RM.o1 ?_|refine RM.o2 ?_|refine RM.o4 ?_|refine RM.o5 ?_|refine RM.p2 ?_) |((with_reducible show force _ _);first|refine RM.f1 rfl ?_|refine RM.f5 rfl ?_) |((with_reducible show wpOne _ _ _ _ _ _ _ _ _ _ _ _);refine RM.o8 rfl ?_) |(refine ⟨_, _, rfl, Nat.le_of_ble_eq_true rfl, ?_⟩) |fail)
    refine SemC.block ?_
    refine SemC.weaker (Weaker.trans (Weaker.addNil 1) (Weaker.toS (l := [(6, .sl ((bb).map eI) false), (8, .ptr 2 0 0), (17, BB f), (19, rowV5 (lst p 0 0)), (87, .ptr 3 0 0), (92, .ag ((keyOf p).map I64)), (93, I64 (0 : Nat))]) (hp := [H, mB E, mC, .iter 1 E.length ((seen ++ [i])) E.length, .cells ((keyOf p).map I64) 0 0, rowB (lst p 0 0) (lst p 0 0).length]) 6 rfl ⟨Soft.refl _, Soft.refl _, Soft.refl _, Soft.nilRow, Soft.refl _, Soft.refl _, Soft.refl _, trivial⟩ (Nat.zero_le _) rfl (inner_inb hH _ _ _ _))) ?_
    refine SemC.loop (fun c : Nat => c ≤ 8 ∧ (f = true → (lst p 0 c).length ≤ bb.length)) (fun c => ⟨mkFr [(6, .sl ((bb).map eI) false), (8, .ptr 2 0 0), (17, BB f), (19, rowV5 (lst p 0 c)), (87, .ptr 3 0 0), (92, .ag ((keyOf p).map I64)), (93, I64 (c : Nat))], [H, mB E, mC, .iter 1 E.length ((seen ++ [i])) E.length, .cells ((keyOf p).map I64) 0 0, rowB (lst p 0 c) (lst p 0 c).length], Amb.none, false, 0⟩) (fun c => 8 - c) ?_ 0 ⟨Nat.zero_le _, fun _ => Nat.zero_le _⟩
    rintro c ⟨hc8, hcl⟩
    by_cases hlt : c < 8
    · have d1 : decide ((c : Int) < 8) = true := decide_eq_true (by omega)
      refine wpC_sound (mu := fun t => Nat.beq t 102) ?_
      cases hpc : p c with
      | false =>
        have hsn := lst_snoc_f hpc
        repeat' (first |(refine idx0 rfl rfl hlt hpc ?_) |with_reducible (first|refine RM.c1 ?_|refine RM.c2 ?_|refine RM.c3 ?_|refine RM.c4 ?_|refine RM.c6 ?_|refine RM.c9 ?_|refine RM.d2 ?_|refine RM.o1 ?_|refine RM.o2 ?_|refine RM.o4 ?_|refine RM.o5 ?_|refine RM.p2 ?_|refine RM.p3 ?_|refine RM.p5 ?_) |((with_reducible show force _ _);refine RM.f1 rfl ?_) |((with_reducible show wpOne _ _ _ _ _ _ _ _ _ _ _ _);refine RM.o8 rfl ?_) |((with_reducible show wpC _ _ _ _ (.cond _ _ _) _ _);first|refine RM.e2 rfl rfl ?_|refine RM.e2 rfl (by assumption) ?_) |((with_reducible show wpBin _ _ _ _ _ _ _ _ _);first|refine RM.b4 rfl rfl ?_|refine RM.b6 rfl rfl ?_|refine RM.b1 rfl rfl (by omega) ?_) |((with_reducible show blockK _ _ _ _);refine RM.d5 rfl ?_) |fail)
        refine ⟨c + 1, ⟨hlt, fun h => (by rw [hsn]; exact hcl h)⟩, (by dsimp only; omega), ?_⟩
        show Weaker _ ⟨mkFr [(6, .sl ((bb).map eI) false), (8, .ptr 2 0 0), (17, BB f), (19, rowV5 (lst p 0 (c + 1))), (87, .ptr 3 0 0), (92, .ag ((keyOf p).map I64)), (93, I64 ((c + 1) : Nat))], [H, mB E, mC, .iter 1 E.length ((seen ++ [i])) E.length, .cells ((keyOf p).map I64) 0 0, rowB (lst p 0 (c + 1)) (lst p 0 (c + 1)).length], Amb.none, false, 0⟩
        rw [hsn]
        exact Weaker.to 6 rfl ⟨rfl, rfl, rfl, rfl, rfl, rfl, i64c (by simp), trivial⟩ (Nat.zero_le _) rfl (inner_inb hH _ _ _ _)
      | true =>
        have hsn := lst_snoc_t hpc
        have hll := lst_len_le p 0 c
        have hmo := lst_mono p (c := c + 1) (d := 8) (by omega)
        rw [hsn, List.length_append, List.length_singleton] at hmo
        have hq : ((lst p 0 c).length + 1) * 8 ≤ 140737488355328 ∧ (lst p 0 c).length + 1 ≤ 9223372036854775807 := by omega
        repeat' (first |(refine idx1 rfl rfl hlt hpc ?_) |with_reducible (first|refine RM.c1 ?_|refine RM.c2 ?_|refine RM.c3 ?_|refine RM.c4 ?_|refine RM.c9 ?_|refine RM.o1 ?_|refine RM.o2 ?_|refine RM.o4 ?_|refine RM.o5 ?_|refine RM.p2 ?_|refine RM.p3 ?_|refine RM.p5 ?_) |((with_reducible show force _ _);first|refine RM.f1 rfl ?_|refine RM.f8 rfl ?_) |((with_reducible show wpOne _ _ _ _ _ _ _ _ _ _ _ _);refine RM.o8 rfl ?_) |((with_reducible show wpC _ _ _ _ (.cond _ _ _) _ _);first|refine RM.e3 rfl rfl ?_|refine RM.e2 rfl (by assumption) ?_) |((with_reducible show wpBin _ _ _ _ _ _ _ _ _);first|refine RM.b4 rfl rfl ?_|refine RM.b6 rfl rfl ?_) |(refine ⟨rfl, rfl, rfl, ?_⟩) |fail)
        refine ⟨[eI (c : Int)], ⟨(fun el hel => by rw [List.mem_singleton.1 hel]; rfl), rfl⟩, rfl, _, rfl, (by rw [List.length_map, Nat.mul_one]), Or.inr rfl, hq, fun hn => absurd hn (by simp), fun _ => ?_⟩
        cases f with
        | false =>
          repeat' (first |with_reducible (first|refine RM.c1 ?_|refine RM.c2 ?_|refine RM.c4 ?_|refine RM.c9 ?_|refine RM.d3 ?_|refine RM.o1 ?_|refine RM.o2 ?_|refine RM.o4 ?_|refine RM.o5 ?_|refine RM.p2 ?_|refine RM.p3 ?_|refine RM.p4 ?_|refine RM.p5 ?_) |((with_reducible show force _ _);first|refine RM.f1 rfl ?_|refine RM.f8 rfl ?_) |((with_reducible show wpOne _ _ _ _ _ _ _ _ _ _ _ _);refine RM.o8 rfl ?_) |((with_reducible show wpGuard _ _ _ _ _);refine wpGuard_no rfl rfl rfl ?_) |((with_reducible show wpC _ _ _ _ (.cond _ _ _) _ _);refine RM.e3 rfl rfl ?_) |((with_reducible show wpPick _ _ _ _ _);refine RM.k1 rfl ?_) |((with_reducible show wpPickB _ _ _ _ _);refine RM.k3 rfl ?_) |((with_reducible show wpBin _ _ _ _ _ _ _ _ _);refine RM.b1 rfl rfl (by omega) ?_) |fail)
          refine ⟨c + 1, ⟨hlt, fun h => (by cases h)⟩, (by dsimp only; omega), ?_⟩
          show Weaker _ ⟨mkFr [(6, .sl ((bb).map eI) false), (8, .ptr 2 0 0), (17, BB false), (19, rowV5 (lst p 0 (c + 1))), (87, .ptr 3 0 0), (92, .ag ((keyOf p).map I64)), (93, I64 ((c + 1) : Nat))], [H, mB E, mC, .iter 1 E.length ((seen ++ [i])) E.length, .cells ((keyOf p).map I64) 0 0, rowB (lst p 0 (c + 1)) (lst p 0 (c + 1)).length], Amb.none, false, 0⟩
          rw [hsn]
          exact Weaker.to 6 (by rw [rowB_snoc]; rfl) ⟨rfl, rfl, rfl, (by rw [rowV5_snoc]; rfl), rfl, rfl, i64c (by simp), trivial⟩ (Nat.zero_le _) rfl (inner_inb hH _ _ _ _)
        | true =>
          by_cases hgt : bb.length < (lst p 0 c).length + 1
          · have d2 : decide (((bb.map eI).length : Int) < (((lst p 0 c).length + [eI (c : Int)].length : Nat) : Int)) = true := decide_eq_true (by rw [eb]; simp; omega)
            repeat' (first |with_reducible (first|refine RM.c2 ?_|refine RM.c4 ?_|refine RM.c6 ?_|refine RM.c9 ?_|refine RM.d2 ?_|refine RM.o1 ?_|refine RM.o2 ?_|refine RM.o4 ?_|refine RM.o5 ?_|refine RM.p2 ?_|refine RM.p3 ?_|refine RM.p4 ?_|refine RM.p5 ?_|refine RM.p6 ?_|refine RM.q2 ?_) |((with_reducible show force _ _);first|refine RM.f1 rfl ?_|refine RM.f2 rfl ?_|refine RM.f8 rfl ?_) |((with_reducible show wpOne _ _ _ _ _ _ _ _ _ _ _ _);refine RM.o8 rfl ?_) |((with_reducible show wpGuard _ _ _ _ _);refine wpGuard_yes rfl rfl rfl ?_) |((with_reducible show wpC _ _ _ _ (.cond _ _ _) _ _);refine RM.e2 rfl (by assumption) ?_) |((with_reducible show wpPick _ _ _ _ _);refine RM.k1 rfl ?_) |((with_reducible show wpPickB _ _ _ _ _);refine RM.k2 rfl ?_) |((with_reducible show wpBin _ _ _ _ _ _ _ _ _);refine RM.b8 rfl rfl ?_) |((with_reducible show wpLen _ _ _ _ _);first|refine RM.l1 rfl ?_|refine RM.l2 rfl ?_) |((with_reducible show blockK _ _ _ _);first|refine RM.d5 rfl ?_|refine RM.d6 rfl ?_) |fail)
            refine ⟨(seen ++ [i], true, bb), hso.kept hx (by dsimp only; rw [hnz]; exact bef_lens (by omega)), hless, ?_⟩
            exact Weaker.to 4 rfl ⟨rfl, rfl, rfl, rfl, trivial⟩ (Nat.zero_le _) rfl (outer_inb hH _ _)
          · have d2 : decide (((bb.map eI).length : Int) < (((lst p 0 c).length + [eI (c : Int)].length : Nat) : Int)) = false := decide_eq_false (by rw [eb]; simp; omega)
            repeat' (first |with_reducible (first|refine RM.c1 ?_|refine RM.c2 ?_|refine RM.c4 ?_|refine RM.c9 ?_|refine RM.d3 ?_|refine RM.o1 ?_|refine RM.o2 ?_|refine RM.o4 ?_|refine RM.o5 ?_|refine RM.p2 ?_|refine RM.p3 ?_|refine RM.p4 ?_|refine RM.p5 ?_|refine RM.p6 ?_) |((with_reducible show force _ _);first|refine RM.f1 rfl ?_|refine RM.f2 rfl ?_|refine RM.f8 rfl ?_) |((with_reducible show wpOne _ _ _ _ _ _ _ _ _ _ _ _);refine RM.o8 rfl ?_) |((with_reducible show wpGuard _ _ _ _ _);refine wpGuard_yes rfl rfl rfl ?_) |((with_reducible show wpC _ _ _ _ (.cond _ _ _) _ _);refine RM.e3 rfl (by assumption) ?_) |((with_reducible show wpPick _ _ _ _ _);refine RM.k1 rfl ?_) |((with_reducible show wpPickB _ _ _ _ _);refine RM.k2 rfl ?_) |((with_reducible show wpBin _ _ _ _ _ _ _ _ _);first|refine RM.b8 rfl rfl ?_|refine RM.b1 rfl rfl (by omega) ?_) |((with_reducible show wpLen _ _ _ _ _);first|refine RM.l1 rfl ?_|refine RM.l2 rfl ?_) |fail)
            refine ⟨c + 1, ⟨hlt, fun _ => (by rw [hsn, List.length_append, List.length_singleton]; omega)⟩, (by dsimp only; omega), ?_⟩
            show Weaker _ ⟨mkFr [(6, .sl ((bb).map eI) false), (8, .ptr 2 0 0), (17, BB true), (19, rowV5 (lst p 0 (c + 1))), (87, .ptr 3 0 0), (92, .ag ((keyOf p).map I64)), (93, I64 ((c + 1) : Nat))], [H, mB E, mC, .iter 1 E.length ((seen ++ [i])) E.length, .cells ((keyOf p).map I64) 0 0, rowB (lst p 0 (c + 1)) (lst p 0 (c + 1)).length], Amb.none, false, 0⟩
            rw [hsn]
            exact Weaker.to 6 (by rw [rowB_snoc]; rfl) ⟨rfl, rfl, rfl, (by rw [rowV5_snoc]; rfl), rfl, rfl, i64c (by simp), trivial⟩ (Nat.zero_le _) rfl (inner_inb hH _ _ _ _)
    · have hc : c = 8 := by omega
      subst hc
      have d1 : decide (((8 : Nat) : Int) < 8) = false := rfl
      refine wpC_sound (mu := fun _ => false) ?_
      repeat' (first |with_reducible (first|refine RM.c2 ?_|refine RM.c4 ?_|refine RM.c6 ?_|refine RM.c9 ?_|refine RM.d2 ?_|refine RM.o1 ?_|refine RM.o2 ?_|refine RM.o4 ?_|refine RM.o5 ?_|refine RM.p5 ?_|refine RM.q2 ?_) |((with_reducible show force _ _);refine RM.f1 rfl ?_) |((with_reducible show wpOne _ _ _ _ _ _ _ _ _ _ _ _);refine RM.o8 rfl ?_) |((with_reducible show wpC _ _ _ _ (.cond _ _ _) _ _);refine RM.e3 rfl rfl ?_) |((with_reducible show wpBin _ _ _ _ _ _ _ _ _);refine RM.b6 rfl rfl ?_) |((with_reducible show blockK _ _ _ _);refine RM.d5 rfl ?_) |fail)
      refine SemC.weaker (Weaker.giveUp 5 (l := [(6, .sl ((bb).map eI) false), (8, .ptr 2 0 0), (17, BB f), (87, .ptr 3 0 0), (19, .sl ((lst p 0 8).map eI) false)]) (hp := [H, mB E, mC, .iter 1 E.length ((seen ++ [i])) E.length, .cells ((keyOf p).map I64) 0 0, .gone]) rfl (Nat.zero_le _) (deepL_map (fun _ => rfl) _) ⟨.same rfl, .same rfl, .same rfl, .same rfl, .row 1 (by simp) (by simp) (fun el hel => by obtain ⟨x, _, rfl⟩ := List.mem_map.1 hel; rfl) (by rw [flat_map1 (f := I64), List.drop_zero, List.take_of_length_le (by simp)]) (fun h => Bool.noConfusion h), trivial⟩ (inner_noj hN _ _ _ _) rfl) ?_
      have hBl := lst_len_le p 0 8
      generalize lst p 0 8 = B at *
      have hcmp := compare_c false B bb false false (by omega) (by omega)
      have eB : ((B.map eI).length : Int) = B.length := by simp
      have hend : ∀ (f' : Bool) (b' : List Int) (st : ASt), SeenOk E (seen ++ [i], f', b') → Weaker st ⟨mkFr [(6, .sl ((b').map eI) false), (8, .ptr 2 0 0), (17, BB f'), (87, .ptr 3 0 0)], [H, mB E, mC, .iter 1 E.length ((seen ++ [i])) E.length], Amb.none, false, 0⟩ → ∃ y : List Nat × Bool × List Int, SeenOk E y ∧ unseen E.length y.1 < unseen E.length seen ∧ Weaker st ⟨mkFr [(6, .sl ((y.2.2).map eI) false), (8, .ptr 2 0 0), (17, BB y.2.1), (87, .ptr 3 0 0)], [H, mB E, mC, .iter 1 E.length (y.1) E.length], Amb.none, false, 0⟩ := fun f' b' st h1 h2 => ⟨(seen ++ [i], f', b'), h1, hless, h2⟩
      refine wpC_sound (mu := fun _ => false) ?_
      cases f with
      | false =>
        repeat' (first |with_reducible (first|refine RM.c2 ?_|refine RM.c4 ?_|refine RM.c9 ?_|refine RM.d3 ?_|refine RM.o1 ?_|refine RM.o2 ?_|refine RM.o4 ?_|refine RM.o5 ?_|refine RM.p2 ?_|refine RM.p3 ?_|refine RM.p4 ?_) |((with_reducible show force _ _);first|refine RM.f1 rfl ?_|refine RM.f2 rfl ?_) |((with_reducible show wpOne _ _ _ _ _ _ _ _ _ _ _ _);refine RM.o8 rfl ?_) |((with_reducible show wpGuard _ _ _ _ _);refine wpGuard_no rfl rfl rfl ?_) |((with_reducible show wpC _ _ _ _ (.cond _ _ _) _ _);refine RM.e2 rfl rfl ?_) |((with_reducible show wpPick _ _ _ _ _);refine RM.k1 rfl ?_) |((with_reducible show wpPickB _ _ _ _ _);refine RM.k2 rfl ?_) |((with_reducible show RM.wpOp _ _ _ _ _ _);refine RM.n3 rfl ?_) |fail)
        exact hend true B _ (by rw [← hnz]; exact hso.taken hx (fun h => (by cases h))) (Weaker.to 4 rfl ⟨rfl, rfl, rfl, rfl, trivial⟩ (Nat.zero_le _) rfl (outer_inb hH _ _))
      | true =>
        have hBb := hcl rfl
        by_cases h1 : B.length < bb.length
        · have d2 : decide (((B.map eI).length : Int) < ((bb.map eI).length : Int)) = true := decide_eq_true (by omega)
          repeat' (first |with_reducible (first|refine RM.c2 ?_|refine RM.c4 ?_|refine RM.c9 ?_|refine RM.d3 ?_|refine RM.o1 ?_|refine RM.o2 ?_|refine RM.o4 ?_|refine RM.o5 ?_|refine RM.p2 ?_|refine RM.p3 ?_|refine RM.p4 ?_|refine RM.p5 ?_|refine RM.p6 ?_) |((with_reducible show force _ _);first|refine RM.f1 rfl ?_|refine RM.f2 rfl ?_) |((with_reducible show wpOne _ _ _ _ _ _ _ _ _ _ _ _);refine RM.o8 rfl ?_) |((with_reducible show wpGuard _ _ _ _ _);first|refine wpGuard_yes rfl rfl rfl ?_|refine wpGuard_no rfl rfl (by assumption) ?_) |((with_reducible show wpC _ _ _ _ (.cond _ _ _) _ _);refine RM.e2 rfl rfl ?_) |((with_reducible show wpPick _ _ _ _ _);refine RM.k1 rfl ?_) |((with_reducible show wpPickB _ _ _ _ _);first|refine RM.k3 rfl ?_|refine RM.k2 (by assumption) ?_) |((with_reducible show wpBin _ _ _ _ _ _ _ _ _);refine RM.b6 rfl rfl ?_) |((with_reducible show wpLen _ _ _ _ _);refine RM.l1 rfl ?_) |((with_reducible show RM.wpOp _ _ _ _ _ _);refine RM.n3 rfl ?_) |fail)
          exact hend true B _ (by rw [← hnz]; exact hso.taken hx (fun _ => (by dsimp only; rw [hnz]; exact .inl h1))) (Weaker.to 4 rfl ⟨rfl, rfl, rfl, rfl, trivial⟩ (Nat.zero_le _) rfl (outer_inb hH _ _))
        · have d2 : decide (((B.map eI).length : Int) < ((bb.map eI).length : Int)) = false := decide_eq_false (by omega)
          by_cases h2 : cmpL B bb < 0
          · have d3 := decide_eq_true h2
            repeat' (first |with_reducible (first|refine RM.c2 ?_|refine RM.c4 ?_|refine RM.c9 ?_|refine RM.d3 ?_|refine RM.o1 ?_|refine RM.o2 ?_|refine RM.o4 ?_|refine RM.o5 ?_|refine RM.o7 ?_|refine RM.o9 ?_|refine RM.p1 ?_|refine RM.p2 ?_|refine RM.p3 ?_|refine RM.p4 ?_|refine RM.p5 ?_|refine RM.p6 ?_) |((with_reducible show force _ _);first|refine RM.f1 rfl ?_|refine RM.f2 rfl ?_|refine RM.f4 rfl ?_) |((with_reducible show wpOne _ _ _ _ _ _ _ _ _ _ _ _);refine RM.o8 rfl ?_) |((with_reducible show wpGuard _ _ _ _ _);first|refine wpGuard_yes rfl rfl rfl ?_|refine wpGuard_yes rfl rfl (by assumption) ?_) |((with_reducible show wpC _ _ _ _ (.cond _ _ _) _ _);refine RM.e2 rfl (by assumption) ?_) |((with_reducible show wpPick _ _ _ _ _);refine RM.k1 rfl ?_) |((with_reducible show wpPickB _ _ _ _ _);first|refine RM.k3 rfl ?_|refine RM.k3 (by assumption) ?_) |((with_reducible show wpBin _ _ _ _ _ _ _ _ _);refine RM.b6 rfl rfl ?_) |((with_reducible show wpLen _ _ _ _ _);refine RM.l1 rfl ?_) |((with_reducible show RM.wpOp _ _ _ _ _ _);refine RM.n3 rfl ?_) |(refine PureV.call hcmp rfl rfl ?_) |fail)
            exact hend true B _ (by rw [← hnz]; exact hso.taken hx (fun _ => (by dsimp only; rw [hnz]; exact .inr ⟨by omega, h2⟩))) (Weaker.to 4 rfl ⟨rfl, rfl, rfl, rfl, trivial⟩ (Nat.zero_le _) rfl (outer_inb hH _ _))
          · have d3 := decide_eq_false h2
            repeat' (first |with_reducible (first|refine RM.c1 ?_|refine RM.c2 ?_|refine RM.c4 ?_|refine RM.c9 ?_|refine RM.d3 ?_|refine RM.o1 ?_|refine RM.o2 ?_|refine RM.o4 ?_|refine RM.o5 ?_|refine RM.o7 ?_|refine RM.o9 ?_|refine RM.p1 ?_|refine RM.p2 ?_|refine RM.p4 ?_|refine RM.p5 ?_|refine RM.p6 ?_) |((with_reducible show force _ _);first|refine RM.f1 rfl ?_|refine RM.f2 rfl ?_|refine RM.f4 rfl ?_) |((with_reducible show wpOne _ _ _ _ _ _ _ _ _ _ _ _);refine RM.o8 rfl ?_) |((with_reducible show wpGuard _ _ _ _ _);first|refine wpGuard_yes rfl rfl rfl ?_|refine wpGuard_yes rfl rfl (by assumption) ?_) |((with_reducible show wpC _ _ _ _ (.cond _ _ _) _ _);refine RM.e3 rfl (by assumption) ?_) |((with_reducible show wpPick _ _ _ _ _);refine RM.k1 rfl ?_) |((with_reducible show wpPickB _ _ _ _ _);first|refine RM.k3 rfl ?_|refine RM.k3 (by assumption) ?_) |((with_reducible show wpBin _ _ _ _ _ _ _ _ _);refine RM.b6 rfl rfl ?_) |((with_reducible show wpLen _ _ _ _ _);refine RM.l1 rfl ?_) |((with_reducible show RM.wpOp _ _ _ _ _ _);refine RM.n3 rfl ?_) |(refine PureV.call hcmp rfl rfl ?_) |fail)
            exact hend true bb _ (hso.kept hx (by dsimp only; rw [hnz]; unfold bef; omega)) (Weaker.to 4 rfl ⟨rfl, rfl, rfl, rfl, trivial⟩ (Nat.zero_le _) rfl (outer_inb hH _ _))
  · repeat' (first |with_reducible (first|refine RM.c9 ?_|refine RM.o1 ?_|refine RM.o2 ?_|refine RM.o4 ?_|refine RM.o5 ?_) |((with_reducible show force _ _);refine RM.f1 rfl ?_) |((with_reducible show wpOne _ _ _ _ _ _ _ _ _ _ _ _);refine RM.o8 rfl ?_) |(refine ⟨_, rfl, ?_⟩) |fail)
    refine wpC_sound (mu := fun _ => false) ?_
    repeat' (first |with_reducible (first|refine RM.c2 ?_|refine RM.c6 ?_|refine RM.c9 ?_|refine RM.d2 ?_|refine RM.q2 ?_) |((with_reducible show wpC _ _ _ _ (.cond _ _ _) _ _);refine RM.e3 rfl rfl ?_) |((with_reducible show blockK _ _ _ _);refine RM.d5 rfl ?_) |fail)
    refine wpC_sound (mu := fun _ => false) ?_
    repeat' (first |with_reducible (first|refine RM.c2 ?_|refine RM.c4 ?_|refine RM.c7 ?_|refine RM.c9 ?_|refine RM.d8 ?_|refine RM.o1 ?_|refine RM.o2 ?_|refine RM.o4 ?_|refine RM.o5 ?_|refine RM.p2 ?_|refine RM.p3 ?_) |((with_reducible show force _ _);refine RM.f2 rfl ?_) |((with_reducible show wpOne _ _ _ _ _ _ _ _ _ _ _ _);refine RM.o8 rfl ?_) |fail)
    have hin : ∀ i x, E[i]? = some x → i ∈ seen := fun i x hx => by
      have := hall _ (List.mem_of_getElem? (ents_get 0 E i x hx))
      rwa [Nat.zero_add] at this
    obtain ⟨z, hz, hzb⟩ := hex
    obtain ⟨iz, hiz⟩ := List.getElem?_of_mem hz
    cases f with
    | false =>
      have h1 := hin iz z hiz
      have h2 := (hso.1 rfl).1
      dsimp only at h2
      rw [h2] at h1
      cases h1
    | true =>
      obtain ⟨y, hy, hyb⟩ := (hso.2 rfl).1
      have h3 := (hso.2 rfl).2 iz (hin iz z hiz) z hiz
      have h4 := hmin y hy
      dsimp only at hyb h3
      rw [hyb] at h4
      rw [hzb] at h3
      rw [← bef_tri h4 h3]
      exact ⟨[_], ⟨Fz.deep rfl, trivial⟩, rfl⟩
end Go.Proofs.Ytmkaeohmdcoanaa
open Go Go.RM
namespace Go.Proofs.Ytmkaeohmdcoanaa
set_option maxRecDepth 100000
set_option maxHeartbeats 4000000
theorem hold_in (s : Stores) (k : Kind) (row : List Int) (n : Nat) : AB.inb n (.cells (eHoldV s k row (.sl [] false)) 0 0) = true := by
  exact deep_inb n (.ag _) (eHold_deep rfl)
theorem hold_noj (s : Stores) (k : Kind) (row : List Int) (n : Nat) : AB.noj n (.cells (eHoldV s k row (.sl [] false)) 0 0) = true := by
  exact deep_noj n (.ag _) (eHold_deep rfl)
theorem hb_inb (s : Stores) (k : Kind) (row : List Int) (y : Truth × Truth) (E : Met) (m : Nat) (p : Nat → Bool) (j : Nat) : ([.cells (eHoldV s k row (.sl [] false)) 0 0, mB (E), mC, .cells (eTruth y.1) 0 0, .cells (eTruth y.2) 0 0, .cells (eTruth ⟨y.1.first + (m : Nat), y.1.man, y.1.ship⟩) 0 0, .cells ((keyOf (upto p j)).map I64) 0 0] : List AB).all (AB.inb 7) = true :=
  allInb (hold_in s k row 7) (allInb (ents_inb 7 _ 0) (allInb rfl (allInb rfl (allInb rfl (allInb rfl (allInb (deep_inb 7 _ key_deep) rfl))))))
theorem touch_len {k : List Int} {E : Met} (hk : k.length = 8) (h : ∀ x ∈ E, x.1.length = 8) : ∀ x ∈ metTouch k E, x.1.length = 8 := by
  intro x hx
  unfold metTouch at hx
  split at hx
  · exact h x hx
  · rcases List.mem_append.1 hx with hx | hx
    · exact h x hx
    · rw [List.mem_singleton.1 hx]
      exact hk
theorem metVal_touch (k : List Int) (E : Met) : metVal k (metTouch k E) = metVal k E := by
  cases h : metAt k E with
  | some i =>
    have : metTouch k E = E := by unfold metTouch; rw [h]
    rw [this]
  | none =>
    have h1 : metTouch k E = E ++ [(k, 0)] := by unfold metTouch; rw [h]
    have h2 : metAt k (E ++ [(k, 0)]) = some E.length := by
      unfold metAt at h ⊢
      rw [List.findIdx?_append, h]
      simp
    rw [h1]
    unfold metVal
    rw [h2, h]
    simp
theorem out_inb (s : Stores) (k : Kind) (row : List Int) (E : Met) : ([.cells (eHoldV s k row (.sl [] false)) 0 0, mB E, mC] : List AB).all (AB.inb 3) = true :=
  allInb (hold_in s k row 3) (allInb (ents_inb 3 _ 0) rfl)
theorem noj2Cons {a b i : Nat} {z : AB} {l : List AB} (h : z.noj a = true) (h' : z.noj b = true) (k : nojAll2 a b (i + 1) l = true) : nojAll2 a b i (z :: l) = true := by
  unfold nojAll2
  rw [h, h', k]
  cases Nat.beq i a <;> rfl
theorem round_noj (s : Stores) (k : Kind) (row : List Int) (y : Truth × Truth) (E : Met) (n n' : Int) (p : Nat → Bool) : nojAll2 5 7 0 ([.cells (eHoldV s k row (.sl [] false)) 0 0, mB (E), mC, .cells (eTruth y.1) 0 0, .cells (eTruth y.2) 0 0, .cells (eTruth ⟨n, y.1.man, y.1.ship⟩) 0 0, .cells ((keyOf p).map I64) 0 0, .cells (eTruth ⟨n', y.1.man, y.1.ship⟩) 0 0] : List AB) = true :=
  noj2Cons (hold_noj s k row 5) (hold_noj s k row 7) (noj2Cons (ents_noj 5 E 0) (ents_noj 7 E 0) (noj2Cons rfl rfl (noj2Cons rfl rfl (noj2Cons rfl rfl (noj2Cons rfl rfl (noj2Cons (deep_noj 5 (.ag _) key_deep) (deep_noj 7 (.ag _) key_deep) rfl))))))
theorem fewest_c (s : Stores) (_h : s.Ok) (l : List Count) (h0 : cntsErr s l = 0) (i : Nat) (hi : i < s.kinds.length) (ts : Truth) (hts : truthOk s.kinds[i] ts = true)
    (hmin : ∀ u, truthOk s.kinds[i] u = true → ¬ bef (lst (missAt s.men s.kinds[i] (cargoRow i s.cargos) l i u) 0 8) (lst (missAt s.men s.kinds[i] (cargoRow i s.cargos) l i ts) 0 8)) :
    Pu false 78 [.ag (eStores s), .sl (l.map eCount) false, I64 i] (.sl ((lst (missAt s.men s.kinds[i] (cargoRow i s.cargos) l i ts) 0 8).map eI) false) := by
  obtain ⟨hg, hl8, hlc⟩ := cnts_good h0
  have h8 := sizes_9 hg.sizes
  have em : ((s.men.map eI).length : Int) = s.men.length := by simp
  have el : ((l.map eCount).length : Int) = l.length := by simp
  have hop := open_c false s [] false i hi (fun c hc => by have := hg.cargos c hc; omega) h8.2.2 (by simp)
  have hkg := hg.kinds _ (List.getElem_mem hi)
  have hrow := hg.row i
  have hh : HoldOk s s.kinds[i] (cargoRow i s.cargos) [] := ⟨hg, hkg, hrow, fun c hc => (by cases hc), Nat.zero_le _⟩
  generalize s.kinds[i] = k at *
  generalize cargoRow i s.cargos = row at *
  have hop : Pu false 60 [.ag (eStores s), .fl (.slice none 0 0), I64 i] (.ag (eHoldV s k row (.sl [] false))) := hop.soft (args' := [.ag (eStores s), .fl (.slice none 0 0), I64 i]) ⟨DSoft.refl _, DSoft.nil _, DSoft.refl _, trivial⟩
  have h30 := hh.row.len
  have htr := truths_c false (s := s) (k := k) (row := row) (f := [])
  have hgn := truths_g false hh
  have hmm := fun t => mem_met (men := s.men) (k := k) (row := row) (t := t) (by have := hkg.first; omega)
  have hru := fun (y : Truth × Truth) (hy : y ∈ truthsL s.men k row []) => (truthsL_run hh hy)
  have hLl : (truthsL s.men k row []).length ≤ 91 := by
    have h1 := hkg.man
    have h2 := hkg.ship
    have hn : spanN k.man * spanN k.ship ≤ 7 * 13 := Nat.mul_le_mul (by unfold spanN; omega) (by unfold spanN; omega)
    unfold truthsL pairs
    have := List.length_filterMap_le (useAt s.men k row []) (List.range (spanN k.man * spanN k.ship))
    rw [List.length_range] at this
    omega
  generalize truthsL s.men k row [] = L at *
  refine PureV.body (fn := Try.f78) rfl rfl rfl rfl ?_
  refine RM.c2s (mu := fun _ => false) ?_
  repeat' (first |with_reducible (first|refine RM.c4 ?_|refine RM.c9 ?_|refine RM.o1 ?_|refine RM.o2 ?_|refine RM.o4 ?_|refine RM.o5 ?_|refine RM.p3 ?_) |((with_reducible show force _ _);first|refine RM.f1 rfl ?_|refine RM.f3 rfl ?_) |((with_reducible show wpOne _ _ _ _ _ _ _ _ _ _ _ _);refine RM.o8 rfl ?_) |(refine ⟨rfl, rfl, rfl, ?_⟩) |fail)
  refine SemC.scope ?_
  refine RM.c2s (mu := fun _ => false) ?_
  repeat' (first |(refine stH (s := s) (k := k) (row := row) h30 rfl rfl rfl rfl ?_) |with_reducible (first|refine RM.c4 ?_|refine RM.c9 ?_|refine RM.o1 ?_|refine RM.o2 ?_|refine RM.o4 ?_|refine RM.o5 ?_|refine RM.o6 ?_|refine RM.o7 ?_|refine RM.o9 ?_|refine RM.p1 ?_) |((with_reducible show force _ _);first|refine RM.f1 rfl ?_|refine RM.f4 rfl ?_|refine RM.f5 rfl ?_|refine RM.f7 rfl ?_|refine RM.g2 rfl ?_) |((with_reducible show wpOne _ _ _ _ _ _ _ _ _ _ _ _);refine RM.o8 rfl ?_) |(refine ⟨_, rfl, ?_⟩) |(refine And.intro (Nat.le_of_ble_eq_true rfl) ?_) |(refine And.intro (by kernel_rfl) ?_) |(refine PureV.call hop rfl rfl ?_) |fail)
  refine RM.c2s (mu := fun _ => false) ?_
  repeat' (first |with_reducible (first|refine RM.c4 ?_|refine RM.c9 ?_|refine RM.o1 ?_|refine RM.o2 ?_|refine RM.o4 ?_|refine RM.o5 ?_|refine RM.o6 ?_) |((with_reducible show force _ _);first|refine RM.f7 rfl ?_|refine RM.g2 rfl ?_) |((with_reducible show wpOne _ _ _ _ _ _ _ _ _ _ _ _);refine RM.o8 rfl ?_) |(refine And.intro (by kernel_rfl) ?_) |(refine ⟨_, _, rfl, rfl, rfl, rfl, Nat.le_of_ble_eq_true rfl, ?_⟩) |fail)
  refine SemC.seq ?_
  refine RM.c2s (mu := fun _ => false) ?_
  repeat' (first |(refine ldHO (s := s) (k := k) (row := row) h30 rfl rfl ?_) |with_reducible (first|refine RM.c4 ?_|refine RM.c9 ?_|refine RM.o1 ?_|refine RM.o2 ?_|refine RM.o4 ?_|refine RM.o5 ?_|refine RM.o7 ?_|refine RM.o9 ?_|refine RM.p1 ?_) |((with_reducible show force _ _);first|refine RM.f4 rfl ?_|refine RM.f5 rfl ?_) |((with_reducible show wpOne _ _ _ _ _ _ _ _ _ _ _ _);refine RM.o8 rfl ?_) |(refine PureV.call htr rfl (hdeep rfl) ?_) |fail)
  refine SemC.block ?_
  generalize hkf : (fun t => keyOf (missAt s.men k row l i t)) = kf
  have hkf' : ∀ t, kf t = keyOf (missAt s.men k row l i t) := fun t => by rw [← hkf]
  refine SemC.range (fun n => [.cells (eHoldV s k row (.sl [] false)) 0 0, mB (tally kf (metT (L.take n))), mC]) (fun _ => Amb.none) (fun _ => True) rfl hgn rfl rfl trivial (fun n x hx _ => ?_) (fun _ => ?_)
  · obtain ⟨y, hy, rfl⟩ := pair_of hx
    have hyr := hru y (List.mem_of_getElem? hy)
    have htk := metT_take hy
    refine ⟨rfl, ?_⟩
    refine wpC_sound (mu := fun _ => false) ?_
    repeat' (first |with_reducible (first|refine RM.c2 ?_|refine RM.c4 ?_|refine RM.c9 ?_|refine RM.o1 ?_|refine RM.o2 ?_|refine RM.o4 ?_|refine RM.o5 ?_|refine RM.o6 ?_) |((with_reducible show force _ _);first|refine RM.f7 rfl ?_|refine RM.g2 rfl ?_) |((with_reducible show wpOne _ _ _ _ _ _ _ _ _ _ _ _);refine RM.o8 rfl ?_) |(refine And.intro (by kernel_rfl) ?_) |(refine ⟨_, _, rfl, rfl, rfl, rfl, Nat.le_of_ble_eq_true rfl, ?_⟩) |fail)
    refine SemC.block ?_
    refine RM.c2s (mu := fun _ => false) ?_
    repeat' (first |with_reducible (first|refine RM.c4 ?_|refine RM.c9 ?_|refine RM.o1 ?_|refine RM.o2 ?_|refine RM.o4 ?_|refine RM.o5 ?_|refine RM.o6 ?_) |((with_reducible show force _ _);first|refine RM.f5 rfl ?_|refine RM.f7 rfl ?_|refine RM.g2 rfl ?_) |((with_reducible show wpOne _ _ _ _ _ _ _ _ _ _ _ _);refine RM.o8 rfl ?_) |(refine And.intro (by kernel_rfl) ?_) |(refine ⟨_, _, rfl, rfl, rfl, rfl, Nat.le_of_ble_eq_true rfl, ?_⟩) |(refine ⟨_, _, rfl, Nat.le_of_ble_eq_true rfl, ?_⟩) |fail)
    refine SemC.block ?_
    have hfl : (metT (L.take n)).length ≤ 91 * 301 := by
      refine Nat.le_trans (metT_len _ fun z hz => ?_) (Nat.mul_le_mul_right _ (by rw [List.length_take]; omega))
      have := hru z (List.mem_of_mem_take hz)
      have h1 := hkg.first
      omega
    have hsl : (spanT y).length = (y.2.first - y.1.first + 1).toNat := by unfold spanT; simp
    have hf := hkg.first
    have h00 : y.1.first + ((0 : Nat) : Int) = y.1.first := by simp
    have h01 : tally kf (metT (L.take n) ++ (spanT y).take 0) = tally kf (metT (L.take n)) := by rw [List.take_zero, List.append_nil]
    refine SemC.weaker (Weaker.to (l := [(4, .pt [.sl (l.map eCount) false] 0), (5, .pt [I64 i] 0), (7, .ptr 0 0 0), (8, .ptr 2 0 0), (10, .ptr 4 0 0), (11, .ptr 5 0 0)]) (hp := [.cells (eHoldV s k row (.sl [] false)) 0 0, mB ((tally kf (metT (L.take n) ++ (spanT y).take 0))), mC, .cells (eTruth y.1) 0 0, .cells (eTruth y.2) 0 0, .cells (eTruth ⟨y.1.first + (0 : Nat), y.1.man, y.1.ship⟩) 0 0]) 6 (by rw [h01, h00]; rfl) ⟨rfl, rfl, rfl, rfl, rfl, rfl, trivial⟩ (Nat.le_of_ble_eq_true rfl) rfl (allInb (hold_in s k row 6) (allInb (ents_inb 6 _ 0) rfl))) ?_
    refine SemC.loop (fun m : Nat => m ≤ (spanT y).length) (fun m => ⟨mkFr [(4, .pt [.sl (l.map eCount) false] 0), (5, .pt [I64 i] 0), (7, .ptr 0 0 0), (8, .ptr 2 0 0), (10, .ptr 4 0 0), (11, .ptr 5 0 0)], [.cells (eHoldV s k row (.sl [] false)) 0 0, mB ((tally kf (metT (L.take n) ++ (spanT y).take m))), mC, .cells (eTruth y.1) 0 0, .cells (eTruth y.2) 0 0, .cells (eTruth ⟨y.1.first + (m : Nat), y.1.man, y.1.ship⟩) 0 0], Amb.none, true, 3⟩) (fun m => (spanT y).length - m) ?_ 0 (Nat.zero_le _)
    intro m hm
    refine RM.c2s (mu := fun _ => false) ?_
    by_cases hlt : m < (spanT y).length
    · have d1 : decide (y.1.first + (m : Int) ≤ y.2.first) = true := decide_eq_true (by omega)
      repeat' (first |with_reducible (first|refine RM.c1 ?_|refine RM.c2 ?_|refine RM.c4 ?_|refine RM.c9 ?_|refine RM.o1 ?_|refine RM.o2 ?_|refine RM.o4 ?_|refine RM.o5 ?_|refine RM.p5 ?_) |((with_reducible show force _ _);first|refine RM.f1 rfl ?_|refine RM.f7 rfl ?_) |((with_reducible show wpOne _ _ _ _ _ _ _ _ _ _ _ _);refine RM.o8 rfl ?_) |((with_reducible show wpC _ _ _ _ (.cond _ _ _) _ _);refine RM.e2 rfl (by assumption) ?_) |((with_reducible show wpBin _ _ _ _ _ _ _ _ _);refine RM.b7 rfl rfl ?_) |(refine ⟨_, _, rfl, by decide, ?_⟩) |(refine ⟨_, _, rfl, _, rfl, ?_⟩) |fail)
      refine SemC.seq ?_
      refine SemC.block ?_
      have hrm : RunOk s.men k row ⟨y.1.first + (m : Int), y.1.man, y.1.ship⟩ := hh.run (by omega) (by omega) (by omega)
      have hrl := run_l (one := false) (cnts := []) hrm
      rw [← em] at hrl
      have hsm : (spanT y).take (m + 1) = (spanT y).take m ++ [⟨y.1.first + (m : Int), y.1.man, y.1.ship⟩] := by
        have hgm : (spanT y)[m]? = some ⟨y.1.first + (m : Int), y.1.man, y.1.ship⟩ := by
          unfold spanT
          rw [List.getElem?_map, List.getElem?_range (by omega)]
          rfl
        rw [List.take_add_one, hgm]
        rfl
      have hmE := metVal_le (tally_inv (key := kf) (metT (L.take n) ++ (spanT y).take m)) (kf ⟨y.1.first + (m : Int), y.1.man, y.1.ship⟩)
      have hE8 : ∀ x ∈ tally kf (metT (L.take n) ++ (spanT y).take m), x.1.length = 8 := fun x hx => by
        obtain ⟨t, _, ht⟩ := (tally_inv (key := kf) (metT (L.take n) ++ (spanT y).take m)).some x hx
        rw [ht, hkf']
        rfl
      have hnext : tally kf (metT (L.take n) ++ (spanT y).take (m + 1)) = bump (kf ⟨y.1.first + (m : Int), y.1.man, y.1.ship⟩) (tally kf (metT (L.take n) ++ (spanT y).take m)) := by
        rw [hsm, ← List.append_assoc, tally_one]
      rw [List.length_append, List.length_take] at hmE
      have hkt : kf ⟨y.1.first + (m : Int), y.1.man, y.1.ship⟩ = keyOf (missAt s.men k row l i ⟨y.1.first + (m : Int), y.1.man, y.1.ship⟩) := hkf' _
      generalize tally kf (metT (L.take n) ++ (spanT y).take m) = E at *
      have hml := lvl_len s.men k row ⟨y.1.first + (m : Int), y.1.man, y.1.ship⟩
      have hmiss := fun j (hj : j < l.length) => miss_at (men := s.men) (k := k) (row := row) (ki := i) (t := ⟨y.1.first + (m : Int), y.1.man, y.1.ship⟩) hj
      have hmall := upto_all (p := missAt s.men k row l i ⟨y.1.first + (m : Int), y.1.man, y.1.ship⟩) (n := l.length) fun j hj => miss_none hj
      generalize missAt s.men k row l i ⟨y.1.first + (m : Int), y.1.man, y.1.ship⟩ = p at *
      generalize lvl s.men k row ⟨y.1.first + (m : Int), y.1.man, y.1.ship⟩ = lv at *
      refine RM.c2s (mu := fun _ => false) ?_
      repeat' (first |(refine ldHO (s := s) (k := k) (row := row) h30 rfl rfl ?_) |with_reducible (first|refine RM.c4 ?_|refine RM.c9 ?_|refine RM.o1 ?_|refine RM.o2 ?_|refine RM.o4 ?_|refine RM.o5 ?_|refine RM.o7 ?_|refine RM.o9 ?_|refine RM.p1 ?_|refine RM.p2 ?_|refine RM.p3 ?_|refine RM.p6 ?_) |((with_reducible show force _ _);first|refine RM.f1 rfl ?_|refine RM.f2 rfl ?_|refine RM.f4 rfl ?_|refine RM.f5 rfl ?_|refine RM.f6 rfl ?_|refine RM.f7 rfl ?_) |((with_reducible show wpOne _ _ _ _ _ _ _ _ _ _ _ _);refine RM.o8 rfl ?_) |((with_reducible show wpLen _ _ _ _ _);refine RM.l1 rfl ?_) |(refine ⟨_, rfl, ?_⟩) |(refine ⟨_, _, rfl, by decide, ?_⟩) |(refine ⟨_, _, rfl, _, rfl, ?_⟩) |(refine ⟨_, _, rfl, Nat.le_of_ble_eq_true rfl, ?_⟩) |(refine PureV.call hrl rfl (hdeep rfl) ?_) |fail)
      refine RM.c2s (mu := fun _ => false) ?_
      repeat' (first |with_reducible (first|refine RM.c4 ?_|refine RM.c9 ?_|refine RM.o1 ?_|refine RM.o2 ?_|refine RM.o4 ?_|refine RM.o5 ?_) |((with_reducible show force _ _);refine RM.f7 rfl ?_) |((with_reducible show wpOne _ _ _ _ _ _ _ _ _ _ _ _);refine RM.o8 rfl ?_) |(refine And.intro (by kernel_rfl) ?_) |fail)
      refine SemC.seq ?_
      refine RM.c2s (mu := fun _ => false) ?_
      repeat' (first |with_reducible (first|refine RM.c4 ?_|refine RM.c9 ?_|refine RM.o1 ?_|refine RM.o2 ?_|refine RM.o4 ?_|refine RM.o5 ?_|refine RM.p2 ?_|refine RM.p6 ?_) |((with_reducible show force _ _);first|refine RM.f1 rfl ?_|refine RM.f2 rfl ?_) |((with_reducible show wpOne _ _ _ _ _ _ _ _ _ _ _ _);refine RM.o8 rfl ?_) |((with_reducible show wpLen _ _ _ _ _);refine RM.l1 rfl ?_) |(refine ⟨_, rfl, ?_⟩) |fail)
      refine SemC.block ?_
      refine SemC.weaker (Weaker.to (l := [(4, .pt [.sl (l.map eCount) false] 0), (5, .pt [I64 i] 0), (7, .ptr 0 0 0), (8, .ptr 2 0 0), (10, .ptr 4 0 0), (11, .ptr 5 0 0), (12, .sl (lv.map eI) false), (14, .ptr 6 0 0), (50, .sl (l.map eCount) false), (51, I64 l.length), (52, I64 (0 : Nat))]) (hp := [.cells (eHoldV s k row (.sl [] false)) 0 0, mB (E), mC, .cells (eTruth y.1) 0 0, .cells (eTruth y.2) 0 0, .cells (eTruth ⟨y.1.first + (m : Nat), y.1.man, y.1.ship⟩) 0 0, .cells ((keyOf (upto p 0)).map I64) 0 0]) 7 (by rw [upto_zero]; rfl) ⟨rfl, rfl, rfl, rfl, rfl, rfl, rfl, rfl, rfl, i64c el, rfl, trivial⟩ (Nat.le_of_ble_eq_true rfl) rfl (hb_inb _ _ _ _ _ _ _ _)) ?_
      refine SemC.loop (fun j : Nat => j ≤ l.length) (fun j => ⟨mkFr [(4, .pt [.sl (l.map eCount) false] 0), (5, .pt [I64 i] 0), (7, .ptr 0 0 0), (8, .ptr 2 0 0), (10, .ptr 4 0 0), (11, .ptr 5 0 0), (12, .sl (lv.map eI) false), (14, .ptr 6 0 0), (50, .sl (l.map eCount) false), (51, I64 l.length), (52, I64 (j : Nat))], [.cells (eHoldV s k row (.sl [] false)) 0 0, mB (E), mC, .cells (eTruth y.1) 0 0, .cells (eTruth y.2) 0 0, .cells (eTruth ⟨y.1.first + (m : Nat), y.1.man, y.1.ship⟩) 0 0, .cells ((keyOf (upto p j)).map I64) 0 0], Amb.none, true, 3⟩) (fun j => l.length - j) ?_ 0 (Nat.zero_le _)
      intro j hj
      refine wpC_sound (mu := fun _ => false) ?_
      by_cases hjl : j < l.length
      · have d2 : decide ((j : Int) < (l.length : Int)) = true := decide_eq_true (by omega)
        have hms := hmiss j hjl
        have hcj := hlc _ (List.getElem_mem hjl)
        have hgd := getD_at (L := lv) (d := l[j].day) (by omega)
        have hat : (l.map eCount)[((j : Nat) : Int).toNat]? = some (eCount l[j]) := map_at hjl
        have hst : 0 + ((j : Nat) : Int).toNat * 1 + 1 ≤ ((keyOf (upto p j)).map I64).length := by
          show _ ≤ 8
          omega
        generalize l[j] = cj at *
        by_cases hk : cj.kind = (i : Int)
        · have d3 := decide_eq_true hk
          have hou := outside_c true cj.amount.lo cj.amount.hi [eI (lv.getD cj.day.toNat 0)] true rfl (Nat.le_of_ble_eq_true rfl)
          rw [show outB cj.amount.lo cj.amount.hi ([eI (lv.getD cj.day.toNat 0)].map unI) = !cntIn lv cj from outB1 _ _ _] at hou
          rw [d3, Bool.true_and] at hms
          cases hb : cntIn lv cj with
          | true =>
            rw [hb] at hms hou
            have hsk := upto_skip (p := p) (j := j) hms
            repeat' (first |(refine ⟨_, hou, ?_⟩) |with_reducible (first|refine RM.c1 ?_|refine RM.c2 ?_|refine RM.c3 ?_|refine RM.c4 ?_|refine RM.c5 ?_|refine RM.c9 ?_|refine RM.d3 ?_|refine RM.o1 ?_|refine RM.o2 ?_|refine RM.o3 ?_|refine RM.o4 ?_|refine RM.o5 ?_|refine RM.o6 ?_|refine RM.o9 ?_|refine RM.p1 ?_|refine RM.p2 ?_|refine RM.p3 ?_|refine RM.p4 ?_|refine RM.p5 ?_|refine RM.n1 ?_) |((with_reducible show force _ _);first|refine RM.f1 rfl ?_|refine RM.f2 rfl ?_|refine RM.f3 rfl ?_|refine RM.f4 rfl ?_|refine RM.f5 rfl ?_|refine RM.f7 rfl ?_|refine RM.g2 rfl ?_) |((with_reducible show wpOne _ _ _ _ _ _ _ _ _ _ _ _);refine RM.o8 rfl ?_) |((with_reducible show wpDOne _ _ _ _ _ _ _ _ _ _);refine RM.p9 rfl ?_) |((with_reducible show wpGuard _ _ _ _ _);refine wpGuard_yes rfl rfl (by assumption) ?_) |((with_reducible show wpC _ _ _ _ (.cond _ _ _) _ _);first|refine RM.e3 rfl rfl ?_|refine RM.e2 rfl (by assumption) ?_) |((with_reducible show wpPick _ _ _ _ _);refine RM.k1 rfl ?_) |((with_reducible show wpPickB _ _ _ _ _);refine RM.k2 (by assumption) ?_) |((with_reducible show wpBin _ _ _ _ _ _ _ _ _);first|refine RM.b4 rfl rfl ?_|refine RM.b6 rfl rfl ?_|refine RM.b1 rfl rfl (by omega) ?_) |(refine ⟨_, rfl, ?_⟩) |(refine ⟨_, _, rfl, by decide, ?_⟩) |(refine ⟨rfl, rfl, rfl, ?_⟩) |(refine ⟨rfl, rfl, ?_⟩) |(refine ⟨_, _, rfl, _, rfl, ?_⟩) |(refine And.intro (Nat.le_of_ble_eq_true rfl) ?_) |(refine And.intro (by kernel_rfl) ?_) |(refine ⟨_, _, rfl, rfl, rfl, rfl, Nat.le_of_ble_eq_true rfl, ?_⟩) |(refine ⟨eCount cj, ⟨by omega, hat⟩, rfl, ?_⟩) |(refine ⟨eI _, ⟨by omega, hgd⟩, rfl, ?_⟩) |fail)
            refine ⟨j + 1, hjl, (by dsimp only; omega), ?_⟩
            show Weaker _ ⟨mkFr [(4, .pt [.sl (l.map eCount) false] 0), (5, .pt [I64 i] 0), (7, .ptr 0 0 0), (8, .ptr 2 0 0), (10, .ptr 4 0 0), (11, .ptr 5 0 0), (12, .sl (lv.map eI) false), (14, .ptr 6 0 0), (50, .sl (l.map eCount) false), (51, I64 l.length), (52, I64 ((j + 1) : Nat))], [.cells (eHoldV s k row (.sl [] false)) 0 0, mB (E), mC, .cells (eTruth y.1) 0 0, .cells (eTruth y.2) 0 0, .cells (eTruth ⟨y.1.first + (m : Nat), y.1.man, y.1.ship⟩) 0 0, .cells ((keyOf (upto p (j + 1))).map I64) 0 0], Amb.none, true, 3⟩
            rw [hsk]
            exact Weaker.to 7 rfl ⟨rfl, rfl, rfl, rfl, rfl, rfl, rfl, rfl, rfl, rfl, i64c (by simp), trivial⟩ (Nat.le_of_ble_eq_true rfl) rfl (hb_inb _ _ _ _ _ _ _ _)
          | false =>
            rw [hb] at hms hou
            have hsp := upto_splice (p := p) (j := j) hms (by omega)
            repeat' (first |(refine ⟨_, hou, ?_⟩) |with_reducible (first|refine RM.c1 ?_|refine RM.c2 ?_|refine RM.c3 ?_|refine RM.c4 ?_|refine RM.c5 ?_|refine RM.c9 ?_|refine RM.d3 ?_|refine RM.o1 ?_|refine RM.o2 ?_|refine RM.o3 ?_|refine RM.o4 ?_|refine RM.o5 ?_|refine RM.o6 ?_|refine RM.o9 ?_|refine RM.p1 ?_|refine RM.p2 ?_|refine RM.p3 ?_|refine RM.p4 ?_|refine RM.p5 ?_|refine RM.n1 ?_) |((with_reducible show force _ _);first|refine RM.f1 rfl ?_|refine RM.f2 rfl ?_|refine RM.f3 rfl ?_|refine RM.f4 rfl ?_|refine RM.f5 rfl ?_|refine RM.f7 rfl ?_|refine RM.g2 rfl ?_) |((with_reducible show wpOne _ _ _ _ _ _ _ _ _ _ _ _);refine RM.o8 rfl ?_) |((with_reducible show wpDOne _ _ _ _ _ _ _ _ _ _);refine RM.p9 rfl ?_) |((with_reducible show wpGuard _ _ _ _ _);refine wpGuard_yes rfl rfl (by assumption) ?_) |((with_reducible show wpC _ _ _ _ (.cond _ _ _) _ _);first|refine RM.e2 rfl rfl ?_|refine RM.e2 rfl (by assumption) ?_) |((with_reducible show wpPick _ _ _ _ _);refine RM.k1 rfl ?_) |((with_reducible show wpPickB _ _ _ _ _);refine RM.k2 (by assumption) ?_) |((with_reducible show wpBin _ _ _ _ _ _ _ _ _);first|refine RM.b4 rfl rfl ?_|refine RM.b6 rfl rfl ?_|refine RM.b1 rfl rfl (by omega) ?_) |(refine ⟨_, rfl, ?_⟩) |(refine ⟨_, _, rfl, by decide, ?_⟩) |(refine ⟨rfl, rfl, rfl, ?_⟩) |(refine ⟨rfl, rfl, ?_⟩) |(refine ⟨_, _, rfl, _, rfl, ?_⟩) |(refine And.intro (Nat.le_of_ble_eq_true rfl) ?_) |(refine And.intro (by omega) ?_) |(refine And.intro (by kernel_rfl) ?_) |(refine ⟨_, _, rfl, rfl, rfl, rfl, Nat.le_of_ble_eq_true rfl, ?_⟩) |(refine ⟨eCount cj, ⟨by omega, hat⟩, rfl, ?_⟩) |(refine ⟨eI _, ⟨by omega, hgd⟩, rfl, ?_⟩) |fail)
            refine ⟨j + 1, hjl, (by dsimp only; omega), ?_⟩
            show Weaker _ ⟨mkFr [(4, .pt [.sl (l.map eCount) false] 0), (5, .pt [I64 i] 0), (7, .ptr 0 0 0), (8, .ptr 2 0 0), (10, .ptr 4 0 0), (11, .ptr 5 0 0), (12, .sl (lv.map eI) false), (14, .ptr 6 0 0), (50, .sl (l.map eCount) false), (51, I64 l.length), (52, I64 ((j + 1) : Nat))], [.cells (eHoldV s k row (.sl [] false)) 0 0, mB (E), mC, .cells (eTruth y.1) 0 0, .cells (eTruth y.2) 0 0, .cells (eTruth ⟨y.1.first + (m : Nat), y.1.man, y.1.ship⟩) 0 0, .cells ((keyOf (upto p (j + 1))).map I64) 0 0], Amb.none, true, 3⟩
            exact Weaker.to 7 (by rw [← hsp]; rfl) ⟨rfl, rfl, rfl, rfl, rfl, rfl, rfl, rfl, rfl, rfl, i64c (by simp), trivial⟩ (Nat.le_of_ble_eq_true rfl) rfl (hb_inb _ _ _ _ _ _ _ _)
        · have d3 := decide_eq_false hk
          rw [d3, Bool.false_and] at hms
          have hsk := upto_skip (p := p) (j := j) hms
          repeat' (first |(refine ⟨eCount cj, ⟨by omega, hat⟩, rfl, ?_⟩) |with_reducible (first|refine RM.c1 ?_|refine RM.c2 ?_|refine RM.c4 ?_|refine RM.c5 ?_|refine RM.c9 ?_|refine RM.d3 ?_|refine RM.o1 ?_|refine RM.o2 ?_|refine RM.o3 ?_|refine RM.o4 ?_|refine RM.o5 ?_|refine RM.o6 ?_|refine RM.p2 ?_|refine RM.p3 ?_|refine RM.p4 ?_|refine RM.p5 ?_) |((with_reducible show force _ _);first|refine RM.f1 rfl ?_|refine RM.f3 rfl ?_|refine RM.f5 rfl ?_|refine RM.f7 rfl ?_|refine RM.g2 rfl ?_) |((with_reducible show wpOne _ _ _ _ _ _ _ _ _ _ _ _);refine RM.o8 rfl ?_) |((with_reducible show wpDOne _ _ _ _ _ _ _ _ _ _);refine RM.p9 rfl ?_) |((with_reducible show wpGuard _ _ _ _ _);refine wpGuard_no rfl rfl (by assumption) ?_) |((with_reducible show wpC _ _ _ _ (.cond _ _ _) _ _);first|refine RM.e3 rfl rfl ?_|refine RM.e2 rfl (by assumption) ?_) |((with_reducible show wpPick _ _ _ _ _);refine RM.k1 rfl ?_) |((with_reducible show wpPickB _ _ _ _ _);refine RM.k3 (by assumption) ?_) |((with_reducible show wpBin _ _ _ _ _ _ _ _ _);first|refine RM.b4 rfl rfl ?_|refine RM.b6 rfl rfl ?_|refine RM.b1 rfl rfl (by omega) ?_) |(refine ⟨_, rfl, ?_⟩) |(refine ⟨_, _, rfl, by decide, ?_⟩) |(refine ⟨_, _, rfl, _, rfl, ?_⟩) |(refine And.intro (Nat.le_of_ble_eq_true rfl) ?_) |(refine And.intro (by kernel_rfl) ?_) |(refine ⟨_, _, rfl, rfl, rfl, rfl, Nat.le_of_ble_eq_true rfl, ?_⟩) |fail)
          refine ⟨j + 1, hjl, (by dsimp only; omega), ?_⟩
          show Weaker _ ⟨mkFr [(4, .pt [.sl (l.map eCount) false] 0), (5, .pt [I64 i] 0), (7, .ptr 0 0 0), (8, .ptr 2 0 0), (10, .ptr 4 0 0), (11, .ptr 5 0 0), (12, .sl (lv.map eI) false), (14, .ptr 6 0 0), (50, .sl (l.map eCount) false), (51, I64 l.length), (52, I64 ((j + 1) : Nat))], [.cells (eHoldV s k row (.sl [] false)) 0 0, mB (E), mC, .cells (eTruth y.1) 0 0, .cells (eTruth y.2) 0 0, .cells (eTruth ⟨y.1.first + (m : Nat), y.1.man, y.1.ship⟩) 0 0, .cells ((keyOf (upto p (j + 1))).map I64) 0 0], Amb.none, true, 3⟩
          rw [hsk]
          exact Weaker.to 7 rfl ⟨rfl, rfl, rfl, rfl, rfl, rfl, rfl, rfl, rfl, rfl, i64c (by simp), trivial⟩ (Nat.le_of_ble_eq_true rfl) rfl (hb_inb _ _ _ _ _ _ _ _)
      · have d2 : decide ((j : Int) < (l.length : Int)) = false := decide_eq_false (by omega)
        have hjj : j = l.length := by omega
        subst hjj
        rw [hmall]
        repeat' (first |with_reducible (first|refine RM.c2 ?_|refine RM.c4 ?_|refine RM.c6 ?_|refine RM.c9 ?_|refine RM.d2 ?_|refine RM.o1 ?_|refine RM.o2 ?_|refine RM.o4 ?_|refine RM.o5 ?_|refine RM.p5 ?_|refine RM.q2 ?_) |((with_reducible show force _ _);refine RM.f1 rfl ?_) |((with_reducible show wpOne _ _ _ _ _ _ _ _ _ _ _ _);refine RM.o8 rfl ?_) |((with_reducible show wpC _ _ _ _ (.cond _ _ _) _ _);refine RM.e3 rfl (by assumption) ?_) |((with_reducible show wpBin _ _ _ _ _ _ _ _ _);refine RM.b6 rfl rfl ?_) |((with_reducible show blockK _ _ _ _);refine RM.d5 rfl ?_) |fail)
        rw [hkt] at hmE hnext
        have h8p : (keyOf p).length = 8 := rfl
        have ht8 := touch_len h8p hE8
        refine SemC.opAssign rfl (by kernel_rfl) ?_
        unfold opAsg
        repeat' (first |(refine lookMet (E := E) rfl rfl rfl h8p hE8 ?_) |(refine entryMet (E := E) rfl rfl rfl h8p hE8 ?_) |with_reducible (first|refine RM.o5 ?_|refine RM.p5 ?_) |((with_reducible show force _ _);first|refine RM.f1 rfl ?_|refine RM.f5 rfl ?_|refine RM.f9 rfl ?_) |((with_reducible show wpBin _ _ _ _ _ _ _ _ _);refine RM.b1 rfl rfl (by omega) ?_) |(refine ⟨_, rfl, ?_⟩) |(refine ⟨_, _, rfl, _, rfl, ?_⟩) |(refine ⟨_, _, rfl, Nat.le_of_ble_eq_true rfl, ?_⟩) |fail)
        refine And.intro (lookMet (E := metTouch (keyOf p) E) rfl rfl rfl h8p ht8 (by rw [metVal_touch])) ?_
        repeat' (first |(refine storeMet (E := E) (key := keyOf p) rfl rfl rfl rfl rfl ?_) |with_reducible (first|refine RM.c9 ?_|refine RM.d3 ?_|refine RM.o5 ?_) |((with_reducible show force _ _);first|refine RM.f1 rfl ?_|refine RM.f6 rfl ?_) |(refine ⟨_, rfl, ?_⟩) |fail)
        have hbnd : -9223372036854775808 ≤ y.1.first + (m : Int) + 1 ∧ y.1.first + (m : Int) + 1 ≤ 9223372036854775807 := by omega
        refine wpC_sound (mu := fun _ => false) ?_
        repeat' (first |(refine RM.b1 rfl rfl hbnd ?_) |with_reducible (first|refine RM.c2 ?_|refine RM.c4 ?_|refine RM.c9 ?_|refine RM.o1 ?_|refine RM.o2 ?_|refine RM.o4 ?_|refine RM.o5 ?_|refine RM.o6 ?_|refine RM.p5 ?_) |((with_reducible show force _ _);first|refine RM.f1 rfl ?_|refine RM.f5 rfl ?_|refine RM.f7 rfl ?_|refine RM.g2 rfl ?_) |((with_reducible show wpOne _ _ _ _ _ _ _ _ _ _ _ _);refine RM.o8 rfl ?_) |(refine ⟨_, _, rfl, by decide, ?_⟩) |(refine ⟨_, _, rfl, _, rfl, ?_⟩) |(refine And.intro (by kernel_rfl) ?_) |(refine ⟨_, _, rfl, rfl, rfl, rfl, Nat.le_of_ble_eq_true rfl, ?_⟩) |(refine ⟨_, _, rfl, Nat.le_of_ble_eq_true rfl, ?_⟩) |fail)
        refine ⟨m + 1, hlt, (by dsimp only; omega), ?_⟩
        show Weaker _ ⟨mkFr [(4, .pt [.sl (l.map eCount) false] 0), (5, .pt [I64 i] 0), (7, .ptr 0 0 0), (8, .ptr 2 0 0), (10, .ptr 4 0 0), (11, .ptr 5 0 0)], [.cells (eHoldV s k row (.sl [] false)) 0 0, mB ((tally kf (metT (L.take n) ++ (spanT y).take (m + 1)))), mC, .cells (eTruth y.1) 0 0, .cells (eTruth y.2) 0 0, .cells (eTruth ⟨y.1.first + ((m + 1) : Nat), y.1.man, y.1.ship⟩) 0 0], Amb.none, true, 3⟩
        rw [hnext, show y.1.first + ((m + 1 : Nat) : Int) = y.1.first + (m : Int) + 1 by omega]
        refine Weaker.trans (Weaker.moveTo 5 7 (l := [(4, .pt [.sl (l.map eCount) false] 0), (5, .pt [I64 i] 0), (7, .ptr 0 0 0), (8, .ptr 2 0 0), (10, .ptr 4 0 0), (11, .ptr 5 0 0)]) (hp := [.cells (eHoldV s k row (.sl [] false)) 0 0, mB ((bump (keyOf p) E)), mC, .cells (eTruth y.1) 0 0, .cells (eTruth y.2) 0 0, .cells (eTruth ⟨y.1.first + (m : Int) + 1, y.1.man, y.1.ship⟩) 0 0, .cells ((keyOf p).map I64) 0 0, .gone]) (by decide) rfl rfl (Nat.le_of_ble_eq_true rfl) (Nat.le_of_ble_eq_true rfl) ⟨.same rfl rfl, .same rfl rfl, .same rfl rfl, .same rfl rfl, .same rfl rfl, .ptr, trivial⟩ (round_noj s k row y (bump (keyOf p) E) (y.1.first + (m : Int)) (y.1.first + (m : Int) + 1) p) rfl) ?_
        exact Weaker.to 6 rfl ⟨rfl, rfl, rfl, rfl, rfl, rfl, trivial⟩ (Nat.le_of_ble_eq_true rfl) rfl (allInb (hold_in s k row 6) (allInb (ents_inb 6 _ 0) rfl))
    · have d1 : decide (y.1.first + (m : Int) ≤ y.2.first) = false := decide_eq_false (by omega)
      have hmm2 : (spanT y).take m = spanT y := List.take_of_length_le (by omega)
      rw [hmm2, ← htk]
      repeat' (first |with_reducible (first|refine RM.c2 ?_|refine RM.c4 ?_|refine RM.c6 ?_|refine RM.c9 ?_|refine RM.d2 ?_|refine RM.d3 ?_|refine RM.o1 ?_|refine RM.o2 ?_|refine RM.o4 ?_|refine RM.o5 ?_|refine RM.p5 ?_|refine RM.q2 ?_) |((with_reducible show force _ _);first|refine RM.f1 rfl ?_|refine RM.f7 rfl ?_) |((with_reducible show wpOne _ _ _ _ _ _ _ _ _ _ _ _);refine RM.o8 rfl ?_) |((with_reducible show wpC _ _ _ _ (.cond _ _ _) _ _);refine RM.e3 rfl (by assumption) ?_) |((with_reducible show wpBin _ _ _ _ _ _ _ _ _);refine RM.b7 rfl rfl ?_) |((with_reducible show blockK _ _ _ _);refine RM.d5 rfl ?_) |(refine ⟨_, _, rfl, by decide, ?_⟩) |(refine ⟨_, _, rfl, _, rfl, ?_⟩) |(refine And.intro (by omega) ?_) |fail)
      exact ⟨_, Weaker.to (l := []) 3 rfl trivial (Nat.le_refl _) rfl (out_inb s k row _)⟩
  · rw [show L.take (L.map ePair).length = L from List.take_of_length_le (by simp)]
    repeat' (first |with_reducible (first|refine RM.c9 ?_|refine RM.d3 ?_) |fail)
    refine SemC.weaker (Weaker.toS (l := [(6, .sl [] false), (8, .ptr 2 0 0)]) (hp := [.cells (eHoldV s k row (.sl [] false)) 0 0, mB (tally kf (metT L)), mC]) 3 rfl ⟨Soft.nil _, Soft.refl _, trivial⟩ (Nat.zero_le _) rfl (allInb (hold_in s k row 3) (allInb (ents_inb 3 _ 0) rfl))) ?_
    have hti := tally_inv (key := kf) (metT L)
    refine fewest_tail (hold_in s k row) (hold_noj s k row) (fun x hx => ?_) ?_ (fun x hx => ?_)
    · obtain ⟨t, _, ht⟩ := hti.some x hx
      exact ⟨_, ht.trans (hkf' t)⟩
    · obtain ⟨x, hx, he⟩ := hti.all ts ((hmm ts).2 hts)
      exact ⟨x, hx, by rw [he, hkf', key_lst]⟩
    · obtain ⟨t, h1, ht⟩ := hti.some x hx
      rw [ht, hkf', key_lst]
      exact hmin t ((hmm t).1 h1)
end Go.Proofs.Ytmkaeohmdcoanaa
open Go Go.RM
namespace Go.Proofs.Ytmkaeohmdcoanaa
set_option maxRecDepth 100000
def missK (s : Stores) (l : List Count) (k : Nat) (t : Truth) (i : Nat) : Bool := match s.kinds[k]? with
  | some x => missAt s.men x (cargoRow k s.cargos) l k t i
  | none => false
def waysK (s : Stores) (k : Nat) : List Truth := match s.kinds[k]? with
  | some x => metT (truthsL s.men x (cargoRow k s.cargos) [])
  | none => []
/-- Of each kind a truth that misses least. -/
def BestT (s : Stores) (l : List Count) (T : Nat → Truth) : Prop := Best s.kinds.length 8 (waysK s) (missK s l) T
def wrongT (s : Stores) (l : List Count) (T : Nat → Truth) : List Int := lst (unTo (missK s l) T s.kinds.length) 0 8
theorem missK_at {s : Stores} {l : List Count} {k : Nat} (hk : k < s.kinds.length) : missK s l k = missAt s.men s.kinds[k] (cargoRow k s.cargos) l k := by
  funext t i
  unfold missK
  rw [List.getElem?_eq_getElem hk]
theorem waysK_at {s : Stores} {k : Nat} (hk : k < s.kinds.length) : waysK s k = metT (truthsL s.men s.kinds[k] (cargoRow k s.cargos) []) := by
  unfold waysK
  rw [List.getElem?_eq_getElem hk]
theorem missK_kind {s : Stores} {l : List Count} {k : Nat} {t : Truth} {i : Nat} (h : missK s l k t i = true) : ∃ c, l[i]? = some c ∧ c.kind = (k : Int) := by
  unfold missK missAt at h
  split at h
  · split at h
    · rename_i c hc
      rw [Bool.and_eq_true] at h
      exact ⟨c, hc, of_decide_eq_true h.1⟩
    · cases h
  · cases h
theorem miss_disj (s : Stores) (l : List Count) : Disj (missK s l) := fun k k' t t' i h h' => by
  obtain ⟨c, h1, h2⟩ := missK_kind h
  obtain ⟨c', h3, h4⟩ := missK_kind h'
  rw [h1] at h3
  cases h3
  omega
theorem ways_iff {s : Stores} (hg : Good s) {k : Nat} (hk : k < s.kinds.length) {t : Truth} : t ∈ waysK s k ↔ truthOk s.kinds[k] t = true := by
  have h1 := (hg.kinds _ (List.getElem_mem hk)).first
  rw [waysK_at hk]
  exact mem_met (by omega)
theorem ways_some {s : Stores} (hg : Good s) {k : Nat} (hk : k < s.kinds.length) : waysK s k ≠ [] := by
  have hkg := hg.kinds _ (List.getElem_mem hk)
  have h1 := hkg.first
  have h2 := hkg.man
  have h3 := hkg.ship
  have : (⟨s.kinds[k].first.lo, s.kinds[k].man.lo, s.kinds[k].ship.lo⟩ : Truth) ∈ waysK s k := by
    rw [ways_iff hg hk, truthOk_iff]
    dsimp only
    omega
  intro h
  rw [h] at this
  cases this
theorem bestT_ex {s : Stores} (hg : Good s) (l : List Count) : ∃ T, BestT s l T := best_ex (fun _ hk => ways_some hg hk) ⟨0, 0, 0⟩
def rowsK (s : Stores) (l : List Count) (T : Nat → Truth) (n : Nat) : List Int := ((List.range n).map fun k => lst (missK s l k (T k)) 0 8).flatten
theorem rowsK_succ (s : Stores) (l : List Count) (T : Nat → Truth) (n : Nat) : rowsK s l T (n + 1) = rowsK s l T n ++ lst (missK s l n (T n)) 0 8 := by
  unfold rowsK
  rw [List.range_succ, List.map_append, List.flatten_append]
  simp
theorem rowsK_perm (s : Stores) (l : List Count) (T : Nat → Truth) : ∀ n, (rowsK s l T n).Perm (lst (unTo (missK s l) T n) 0 8)
  | 0 => by
    have : lst (unTo (missK s l) T 0) 0 8 = [] := rfl
    rw [this]
    exact .refl _
  | n + 1 => by
    rw [rowsK_succ]
    exact ((rowsK_perm s l T n).append_right _).trans (un_perm (miss_disj s l) T n).symm
theorem rowsK_len (s : Stores) (l : List Count) (T : Nat → Truth) (n : Nat) : (rowsK s l T n).length ≤ 8 := by
  rw [(rowsK_perm s l T n).length_eq]
  exact lst_len_le _ _ _
theorem miss_len {s : Stores} {l : List Count} {k : Nat} {t : Truth} {i : Nat} (h : missK s l k t i = true) : i < l.length := by
  obtain ⟨c, h1, _⟩ := missK_kind h
  exact (List.getElem?_eq_some_iff.1 h1).1
end Go.Proofs.Ytmkaeohmdcoanaa
open Go Go.RM
namespace Go.Proofs.Ytmkaeohmdcoanaa
set_option maxRecDepth 100000
set_option maxHeartbeats 4000000
theorem rows_one (L : List Int) : (L.map eI).flatten.all AV.one = true := by
  rw [flat_map1 (f := I64)]
  rw [List.all_eq_true]
  intro x hx
  obtain ⟨n, _, rfl⟩ := List.mem_map.1 hx
  rfl
abbrev wS (L : List Int) (v c : Nat) : AV := .osl 0 v 0 L.length c
theorem rowsB_fz (L : List Int) {N : Nat} (hN : L.length = N) (v c : Nat) : Fz [rowB L v] (.osl 0 v 0 N c) (.sl (L.map eI) false) := by
  subst hN
  exact Fz.row (es := 1) rfl (by simp) (by simp) (fun el hel => by obtain ⟨x, _, rfl⟩ := List.mem_map.1 hel; rfl) (by rw [flat_map1 (f := I64), List.drop_zero, List.take_of_length_le (by simp)]) (by rw [flat_map1 (f := I64)]; exact deepL_map (fun _ => rfl) _) (fun h => Bool.noConfusion h)
theorem fewestK (s : Stores) (h : s.Ok) (l : List Count) (h0 : cntsErr s l = 0) (T : Nat → Truth) (hT : BestT s l T) (k : Nat) (hk : k < s.kinds.length) :
    Pu false 78 [.ag (eStores s), .sl (l.map eCount) false, I64 k] (.sl ((lst (missK s l k (T k)) 0 8).map eI) false) := by
  obtain ⟨hg, _, _⟩ := cnts_good h0
  obtain ⟨h1, h2⟩ := hT k hk
  rw [missK_at hk] at h2 ⊢
  exact fewest_c s h l h0 k hk (T k) ((ways_iff hg hk).1 h1) fun u hu => h2 u ((ways_iff hg hk).2 hu)
theorem wrong_c (s : Stores) (h : s.Ok) (l : List Count) (h0 : cntsErr s l = 0) (T : Nat → Truth) (hT : BestT s l T) : Pu false 33 [.ag (eStores s), .sl (l.map eCount) false] (.tp [.sl ((wrongT s l T).map eI) false, I64 0]) := by
  obtain ⟨hg, hl, hc⟩ := cnts_good h0
  have hcn := counted_c false s h l (by unfold maxLen; omega)
  have hK := sizes_9 hg.sizes
  have ek : ((s.kinds.map eKind).length : Int) = s.kinds.length := by simp
  rw [h0] at hcn
  have hfew := fun k (hk : k < s.kinds.length) => fewestK s h l h0 T hT k hk
  have hlen := fun k => rowsK_len s l T k
  have hsucc := rowsK_succ s l T
  have hperm := rowsK_perm s l T s.kinds.length
  have hz : rowsK s l T 0 = [] := rfl
  unfold wrongT
  generalize rowsK s l T = R at *
  refine PureV.body (fn := Try.f33) rfl rfl rfl rfl ?_
  refine wpC_sound (mu := fun t => Nat.beq t 24) ?_
  repeat' (first |with_reducible (first|refine RM.c1 ?_|refine RM.c2 ?_|refine RM.c3 ?_|refine RM.c4 ?_|refine RM.c9 ?_|refine RM.o1 ?_|refine RM.o2 ?_|refine RM.o4 ?_|refine RM.o5 ?_|refine RM.o7 ?_|refine RM.o9 ?_|refine RM.p1 ?_|refine RM.p2 ?_|refine RM.p3 ?_|refine RM.p5 ?_|refine RM.p6 ?_) |((with_reducible show force _ _);first|refine RM.f1 rfl ?_|refine RM.f2 rfl ?_|refine RM.f3 rfl ?_|refine RM.f4 rfl ?_|refine RM.f5 rfl ?_) |((with_reducible show wpOne _ _ _ _ _ _ _ _ _ _ _ _);refine RM.o8 rfl ?_) |((with_reducible show wpC _ _ _ _ (.cond _ _ _) _ _);refine RM.e3 rfl rfl ?_) |((with_reducible show wpBin _ _ _ _ _ _ _ _ _);refine RM.b5 rfl rfl ?_) |((with_reducible show wpLen _ _ _ _ _);refine RM.l1 rfl ?_) |(refine ⟨_, rfl, ?_⟩) |(refine ⟨_, _, rfl, by decide, ?_⟩) |(refine ⟨rfl, rfl, rfl, ?_⟩) |(refine And.intro (Nat.le_of_ble_eq_true rfl) ?_) |(refine PureV.call hcn rfl rfl ?_) |fail)
  refine SemC.weaker (Weaker.trans (Weaker.addNil 1) (Weaker.toS (l := [(1, .sl (l.map eCount) false), (2, .pt (eStores s) 0), (4, wS (R 0) (0, 0, 0).2.1 (0, 0, 0).2.2), (5, I64 0), (15, I64 s.kinds.length), (16, I64 ((0, 0, 0).1 : Nat))]) (hp := [rowB (R 0) 0]) 1 (by rw [hz]; rfl) ⟨Soft.refl _, Soft.refl _, (by rw [hz]; exact Soft.nilRow), Soft.refl _, Soft.of (i64c ek), Soft.refl _, trivial⟩ (Nat.zero_le _) rfl (rowB_inb _ _))) ?_
  refine SemC.loop (fun x : Nat × Nat × Nat => x.1 ≤ s.kinds.length ∧ (x.2.2 = (R x.1).length ∨ x.2.2 = (R x.1).length + 1)) (fun x => ⟨mkFr [(1, .sl (l.map eCount) false), (2, .pt (eStores s) 0), (4, wS (R x.1) x.2.1 x.2.2), (5, I64 0), (15, I64 s.kinds.length), (16, I64 (x.1 : Nat))], [rowB (R x.1) x.2.1], Amb.none, false, 0⟩) (fun x => s.kinds.length - x.1) ?_ (0, 0, 0) ⟨Nat.zero_le _, .inl (by rw [hz]; rfl)⟩
  rintro ⟨k, ver, c⟩ ⟨hk, hcap⟩
  refine wpC_sound (mu := fun t => Nat.beq t 24) ?_
  repeat' (first |with_reducible (first|refine RM.c2 ?_|refine RM.c4 ?_|refine RM.c9 ?_|refine RM.o1 ?_|refine RM.o2 ?_|refine RM.o4 ?_|refine RM.o5 ?_|refine RM.p5 ?_) |((with_reducible show force _ _);refine RM.f1 rfl ?_) |((with_reducible show wpOne _ _ _ _ _ _ _ _ _ _ _ _);refine RM.o8 rfl ?_) |((with_reducible show wpBin _ _ _ _ _ _ _ _ _);refine RM.b6 rfl rfl ?_) |fail)
  refine RM.e1 rfl ⟨fun hq => ?_, fun hq => ?_⟩
  · have hlt : k < s.kinds.length := by simpa only [decide_eq_true_eq, Int.ofNat_lt] using hq
    have hf := hfew k hlt
    have hs := hsucc k
    have h8 := hlen (k + 1)
    rw [hs, List.length_append] at h8
    generalize lst (missK s l k (T k)) 0 8 = B at *
    have hb : ((R k).length + (B.map eI).length) * 8 ≤ 140737488355328 ∧ (R k).length + (B.map eI).length ≤ 9223372036854775807 := by rw [List.length_map]; omega
    repeat' (first |(refine PureV.call hf rfl rfl ?_) |(refine RM.appG (cs := (R k).map I64) (n := (R k).length) (els := B.map eI) rfl rfl rfl rfl rfl (fun el hel => (by obtain ⟨t, _, rfl⟩ := List.mem_map.1 hel; rfl)) (rows_one B) rfl (by simp) hcap hb (fun v c' hc' => ?_)) |with_reducible (first|refine RM.c1 ?_|refine RM.c2 ?_|refine RM.c3 ?_|refine RM.c4 ?_|refine RM.c9 ?_|refine RM.d3 ?_|refine RM.o1 ?_|refine RM.o2 ?_|refine RM.o4 ?_|refine RM.o5 ?_|refine RM.p2 ?_|refine RM.p3 ?_|refine RM.p5 ?_) |((with_reducible show force _ _);first|refine RM.f1 rfl ?_|refine RM.f8 rfl ?_) |((with_reducible show wpOne _ _ _ _ _ _ _ _ _ _ _ _);refine RM.o8 rfl ?_) |((with_reducible show wpBin _ _ _ _ _ _ _ _ _);refine RM.b1 rfl rfl (by omega) ?_) |(refine And.intro (Nat.le_of_ble_eq_true rfl) ?_) |fail)
    rw [List.length_map] at hc'
    refine ⟨(k + 1, v, c'), ⟨hlt, by dsimp only; rw [hs, List.length_append]; exact hc'⟩, (by dsimp only; omega), ?_⟩
    show Weaker _ ⟨mkFr [(1, .sl (l.map eCount) false), (2, .pt (eStores s) 0), (4, wS (R (k + 1)) (k + 1, v, c').2.1 (k + 1, v, c').2.2), (5, I64 0), (15, I64 s.kinds.length), (16, I64 ((k + 1, v, c').1 : Nat))], [rowB (R (k + 1)) v], Amb.none, false, 0⟩
    rw [hs]
    exact Weaker.to 1 (by show [AB.cells ((R k).map I64 ++ (B.map eI).flatten) 1 v] = _; rw [flat_map1 (f := I64), ← List.map_append]) ⟨rfl, rfl, (by show AV.osl 0 v 0 ((R k).length + (B.map eI).length) c' = AV.osl 0 v 0 (R k ++ B).length c'; rw [List.length_map, List.length_append]), rfl, rfl, i64c (by simp), trivial⟩ (Nat.zero_le _) rfl (rowB_inb _ _)
  · have hkK : k = s.kinds.length := by
      simp only [decide_eq_false_iff_not] at hq
      omega
    subst hkK
    have h8 := hlen s.kinds.length
    repeat' (first |(refine sort_c _ (R s.kinds.length) (R s.kinds.length).length rfl (by omega) (fun S hso hpe => ?_)) |with_reducible (first|refine RM.c2 ?_|refine RM.c4 ?_|refine RM.c7 ?_|refine RM.c9 ?_|refine RM.o1 ?_|refine RM.o2 ?_|refine RM.o4 ?_|refine RM.o5 ?_|refine RM.p2 ?_|refine RM.p3 ?_) |((with_reducible show force _ _);first|refine RM.f1 rfl ?_|refine RM.f8 rfl ?_) |((with_reducible show wpOne _ _ _ _ _ _ _ _ _ _ _ _);refine RM.o8 rfl ?_) |fail)
    rw [← sorted_eq hpe.length_eq hso (hpe.trans hperm)]
    exact ⟨[_, _], ⟨rowsB_fz S hpe.length_eq _ _, Fz.deep rfl, trivial⟩, rfl⟩
end Go.Proofs.Ytmkaeohmdcoanaa
open Go Go.RM
namespace Go.Proofs.Ytmkaeohmdcoanaa
set_option maxRecDepth 100000
theorem cnts_zero {s : Stores} {l : List Count} : cntsErr s l = 0 ↔ ((chk s).2.2 = 0 ∧ l.length ≤ 8 ∧ ∀ c ∈ l, cntErr s c = 0) := by
  unfold cntsErr
  by_cases h1 : (chk s).2.2 = 0
  · rw [if_neg (by simpa using h1)]
    by_cases h2 : 8 < (l.length : Int)
    · rw [if_pos h2]
      exact ⟨fun h => absurd h (by decide), fun h => by omega⟩
    · rw [if_neg h2]
      constructor
      · intro h
        refine ⟨h1, by omega, fun c hc => ?_⟩
        obtain ⟨i, hi, rfl⟩ := List.getElem_of_mem hc
        have := firstN_zero h i hi
        unfold cntE at this
        simpa only [List.getElem?_eq_getElem hi] using this
      · rintro ⟨_, _, h⟩
        rw [firstN_none]
        intro i hi
        unfold cntE
        simp only [List.getElem?_eq_getElem hi]
        exact h _ (List.getElem_mem hi)
  · rw [if_pos h1]
    exact ⟨fun h => absurd h h1, fun h => absurd h.1 h1⟩
end Go.Proofs.Ytmkaeohmdcoanaa
open Go Go.RM
namespace Go.Proofs.Ytmkaeohmdcoanaa
set_option maxRecDepth 100000
theorem counts_deep : ∀ L : List Count, deepL ((L.map eCount).flatten) = true
  | [] => rfl
  | t :: L => by
    rw [List.map_cons, List.flatten_cons]
    exact deepL_append rfl (counts_deep L)
theorem counts_flen (L : List Count) : ((L.map eCount).flatten).length = L.length * 4 := by
  rw [flatten_len (es := 4) fun el he => by obtain ⟨t, _, rfl⟩ := List.mem_map.1 he; rfl, List.length_map]
end Go.Proofs.Ytmkaeohmdcoanaa
open Go Go.RM
namespace Go.Proofs.Ytmkaeohmdcoanaa
set_option maxRecDepth 100000
set_option maxHeartbeats 4000000
theorem span38_c (one : Bool) (a b : Int) : Pu one 38 [I64 a, I64 b] (.ag (eSpan ⟨a, b⟩)) := by
  refine PureV.body (fn := Try.f38) rfl rfl rfl rfl ?_
  refine wpC_sound (mu := fun _ => false) ?_
  repeat' (first |with_reducible (first|refine RM.c2 ?_|refine RM.c4 ?_|refine RM.c7 ?_|refine RM.c9 ?_|refine RM.o1 ?_|refine RM.o2 ?_|refine RM.o4 ?_|refine RM.o5 ?_|refine RM.o6 ?_) |((with_reducible show force _ _);first|refine RM.f5 rfl ?_|refine RM.g2 rfl ?_) |((with_reducible show wpOne _ _ _ _ _ _ _ _ _ _ _ _);refine RM.o8 rfl ?_) |(refine ⟨_, rfl, ?_⟩) |(refine ⟨rfl, rfl, ?_⟩) |(refine ⟨_, _, rfl, rfl, rfl, rfl, Nat.le_of_ble_eq_true rfl, ?_⟩) |(refine ⟨_, _, rfl, Nat.le_of_ble_eq_true rfl, ?_⟩) |fail)
  exact ⟨[_], ⟨Fz.deep rfl, trivial⟩, rfl⟩
end Go.Proofs.Ytmkaeohmdcoanaa
open Go Go.RM
namespace Go.Proofs.Ytmkaeohmdcoanaa
set_option maxRecDepth 100000
set_option maxHeartbeats 4000000
abbrev e8 (n : Int) : List AV := [.fl (.int .u8 n)]
def toldAt (m : Nat) (i : Nat) (M x : List Int) (j : Nat) : Count :=
  ⟨x.getD (3 * j) 0 % ((m : Int) + 1), i, ⟨max 0 (M.getD (x.getD (3 * j) 0 % ((m : Int) + 1)).toNat 0 - x.getD (3 * j + 1) 0 % 20), M.getD (x.getD (3 * j) 0 % ((m : Int) + 1)).toNat 0 + x.getD (3 * j + 2) 0 % 20⟩⟩
def toldN (m : Nat) (i : Nat) (M x : List Int) (n : Nat) : List Count := (List.range n).map (toldAt m i M x)
def told (m : Nat) (i : Nat) (M x : List Int) : List Count := toldN m i M x (min 8 (x.length / 3))
theorem told_succ (m i : Nat) (M x : List Int) (n : Nat) : toldN m i M x (n + 1) = toldN m i M x n ++ [toldAt m i M x n] := by
  unfold toldN
  rw [List.range_succ, List.map_append]
  rfl
theorem toldN_len (m i : Nat) (M x : List Int) (n : Nat) : (toldN m i M x n).length = n := by
  unfold toldN
  simp
theorem get8 {x : List Int} {p : Nat} (h : p < x.length) : (x.map e8)[p]? = some (e8 (x.getD p 0)) := by
  rw [List.getElem?_map, List.getD_eq_getElem?_getD, List.getElem?_eq_getElem h]
  rfl
theorem in8 {x : List Int} (hx : ∀ n ∈ x, 0 ≤ n ∧ n ≤ 255) (p : Nat) : 0 ≤ x.getD p 0 ∧ x.getD p 0 ≤ 255 := by
  rw [List.getD_eq_getElem?_getD]
  by_cases h : p < x.length
  · rw [List.getElem?_eq_getElem h]
    exact hx _ (List.getElem_mem h)
  · rw [List.getElem?_eq_none (by omega)]
    exact ⟨by decide, by decide⟩
theorem lvl_bnd {men : List Int} {k : Kind} {row : List Int} {t : Truth} (h : RunOk men k row t) (d : Nat) : 0 ≤ (lvl men k row t).getD d 0 ∧ (lvl men k row t).getD d 0 ≤ 300 := by
  rw [List.getD_eq_getElem?_getD]
  unfold lvl
  rw [List.getElem?_map]
  by_cases hd : d < men.length + 1
  · rw [List.getElem?_range hd]
    exact h.haveB _ _ (by omega)
  · rw [List.getElem?_eq_none (by simp; omega)]
    exact ⟨Int.le_refl 0, Int.le_of_lt (show (0 : Int) < 300 by decide)⟩
abbrev tB (L : List Count) : AB := .cells ((L.map eCount).flatten) 4 L.length
abbrev tV (L : List Count) : AV := .osl 0 L.length 0 L.length (L.length + 1)
theorem tB_inb (L : List Count) : ([tB L] : List AB).all (AB.inb 1) = true := by
  rw [List.all_cons, List.all_nil, Bool.and_true]
  exact deep_inb 1 (.ag _) (counts_deep L)
theorem tB_snoc (L : List Count) (c : Count) : tB (L ++ [c]) = .cells ((L.map eCount).flatten ++ [eCount c].flatten) 4 (L.length + 1) := by
  show AB.cells _ _ _ = _
  rw [List.map_append, List.flatten_append, List.length_append]
  rfl
theorem tV_snoc (L : List Count) (c : Count) : tV (L ++ [c]) = .osl 0 (L.length + 1) 0 (L.length + 1) (L.length + 1 + 1) := by
  show AV.osl _ _ _ _ _ = _
  rw [List.length_append]
  rfl
end Go.Proofs.Ytmkaeohmdcoanaa
open Go Go.RM
namespace Go.Proofs.Ytmkaeohmdcoanaa
set_option maxRecDepth 100000
set_option maxHeartbeats 4000000
theorem told_len (m i : Nat) (M x : List Int) : (told m i M x).length ≤ 8 := by
  unfold told
  rw [toldN_len]
  exact Nat.min_le_left _ _
theorem told_mem {m i : Nat} {M x : List Int} {c : Count} (h : c ∈ told m i M x) : ∃ j, c = toldAt m i M x j := by
  unfold told toldN at h
  obtain ⟨j, _, rfl⟩ := List.mem_map.1 h
  exact ⟨j, rfl⟩
theorem told_zero {s : Stores} {i : Nat} {M x : List Int} (hc : (chk s).2.2 = 0) (hi : i < s.kinds.length) (hM : ∀ d, 0 ≤ M.getD d 0 ∧ M.getD d 0 ≤ 300) (hx : ∀ n ∈ x, 0 ≤ n ∧ n ≤ 255) : cntsErr s (told s.men.length i M x) = 0 := by
  rw [cnts_zero]
  refine ⟨hc, told_len _ _ _ _, fun c h => ?_⟩
  obtain ⟨j, rfl⟩ := told_mem h
  have b0 := in8 hx (3 * j)
  have b1 := in8 hx (3 * j + 1)
  have b2 := in8 hx (3 * j + 2)
  unfold toldAt
  generalize x.getD (3 * j) 0 = x0 at *
  generalize x.getD (3 * j + 1) 0 = x1 at *
  generalize x.getD (3 * j + 2) 0 = x2 at *
  have m0 := Int.emod_nonneg x0 (b := (s.men.length : Int) + 1) (by omega)
  have m1 := Int.emod_lt_of_pos x0 (b := (s.men.length : Int) + 1) (by omega)
  generalize x0 % ((s.men.length : Int) + 1) = d at *
  have hm := hM d.toNat
  generalize M.getD d.toNat 0 = md at *
  unfold cntErr
  have e1 : outB 0 ((s.kinds.length : Int) - 1) [(i : Int)] = false := by rw [outB1, inB_iff.2 (by omega)]; rfl
  have e2 : outB 0 (s.men.length : Int) [d] = false := by rw [outB1, inB_iff.2 (by omega)]; rfl
  have e3 : outB 0 600 [max 0 (md - x1 % 20), md + x2 % 20] = false := by
    rw [outB_false]
    intro n hn
    simp only [List.mem_cons, List.not_mem_nil, or_false] at hn
    omega
  have e4 : decide (md + x2 % 20 < max 0 (md - x1 % 20)) = false := decide_eq_false (by omega)
  dsimp only
  rw [e1, e2, e3, e4]
  rfl
theorem told_in {m i : Nat} {M x : List Int} (hM : ∀ d, 0 ≤ M.getD d 0 ∧ M.getD d 0 ≤ 300) (hx : ∀ n ∈ x, 0 ≤ n ∧ n ≤ 255) {c : Count} (h : c ∈ told m i M x) : cntIn M c = true := by
  obtain ⟨j, rfl⟩ := told_mem h
  have b1 := in8 hx (3 * j + 1)
  have b2 := in8 hx (3 * j + 2)
  unfold toldAt cntIn
  dsimp only
  have hm := hM (x.getD (3 * j) 0 % ((m : Int) + 1)).toNat
  rw [inB_iff]
  omega
theorem told_kind {m i : Nat} {M x : List Int} {c : Count} (h : c ∈ told m i M x) : c.kind = (i : Int) := by
  obtain ⟨j, rfl⟩ := told_mem h
  rfl
end Go.Proofs.Ytmkaeohmdcoanaa
open Go Go.RM
namespace Go.Proofs.Ytmkaeohmdcoanaa
set_option maxRecDepth 100000
set_option maxHeartbeats 4000000
abbrev U8 (n : Nat) : AV := .fl (.int .u8 (n : Int))
end Go.Proofs.Ytmkaeohmdcoanaa
open Go Go.RM
namespace Go.Proofs.Ytmkaeohmdcoanaa
set_option maxRecDepth 100000
set_option maxHeartbeats 4000000
theorem lst_cut {p : Nat → Bool} {n : Nat} : ∀ {m : Nat}, n ≤ m → lst (fun i => decide (i < n) && p i) 0 m = lst p 0 n
  | 0, h => by
    have : n = 0 := by omega
    subst this
    rfl
  | m + 1, h => by
    by_cases hn : n = m + 1
    · subst hn
      apply lst_congr
      intro i hi
      rw [decide_eq_true hi, Bool.true_and]
    · rw [lst_snoc_f (by rw [decide_eq_false (by omega), Bool.false_and]), lst_cut (by omega)]
end Go.Proofs.Ytmkaeohmdcoanaa
open Go Go.RM
namespace Go.Proofs.Ytmkaeohmdcoanaa
set_option maxRecDepth 100000
set_option maxHeartbeats 4000000
theorem told_o (one : Bool) {s : Stores} (hg : Good s) {i : Nat} (hi : i < s.kinds.length) {t : Truth} (h : RunOk s.men s.kinds[i] (cargoRow i s.cargos) t) (x : List Int) (hx : ∀ n ∈ x, 0 ≤ n ∧ n ≤ 255) (hxl : x.length ≤ maxLen) {Q : AV → List AB → Amb → Prop}
    (hQ : Q (tV (told s.men.length i (lvl s.men s.kinds[i] (cargoRow i s.cargos) t) x)) [tB (told s.men.length i (lvl s.men s.kinds[i] (cargoRow i s.cargos) t) x)] Amb.none) : CallV TT TB one (.fn 41 [] []) [.ag (eStores s), I64 i, .ag (eTruth t), .sl (x.map e8) false] [] Amb.none Q := by
  unfold maxLen at hxl
  have em : ((s.men.map eI).length : Int) = s.men.length := by simp
  have ex : ((x.map e8).length : Int) = x.length := by simp
  have h8 := sizes_9 hg.sizes
  obtain ⟨u, b, hfo⟩ := follow_l one hg hi h
  rw [← em] at hfo
  have hML := lvl_len s.men s.kinds[i] (cargoRow i s.cargos) t
  have hMB := fun d => lvl_bnd h d
  unfold told at hQ
  generalize lvl s.men s.kinds[i] (cargoRow i s.cargos) t = M at *
  generalize shortF s.men s.kinds[i] (cargoRow i s.cargos) t = sh at *
  refine CallV.body (fn := Try.f41) rfl rfl rfl ?_
  refine wpC_sound (mu := fun t => Nat.beq t 81) ?_
  repeat' (first |with_reducible (first|refine RM.c2 ?_|refine RM.c3 ?_|refine RM.c4 ?_|refine RM.c9 ?_|refine RM.o1 ?_|refine RM.o2 ?_|refine RM.o4 ?_|refine RM.o5 ?_|refine RM.o7 ?_|refine RM.o9 ?_|refine RM.p1 ?_|refine RM.p2 ?_|refine RM.p3 ?_|refine RM.p6 ?_) |((with_reducible show force _ _);first|refine RM.f1 rfl ?_|refine RM.f2 rfl ?_|refine RM.f3 rfl ?_|refine RM.f4 rfl ?_|refine RM.f5 rfl ?_|refine RM.f6 rfl ?_) |((with_reducible show wpOne _ _ _ _ _ _ _ _ _ _ _ _);refine RM.o8 rfl ?_) |((with_reducible show wpLen _ _ _ _ _);refine RM.l1 rfl ?_) |(refine ⟨_, rfl, ?_⟩) |(refine ⟨_, _, rfl, by decide, ?_⟩) |(refine ⟨rfl, rfl, rfl, ?_⟩) |(refine And.intro (Nat.le_of_ble_eq_true rfl) ?_) |(refine PureV.call hfo rfl rfl ?_) |fail)
  refine SemC.weaker (Weaker.trans (Weaker.addNil 4) (Weaker.toS (l := [(1, I64 i), (3, .sl (x.map e8) false), (4, .pt (eStores s) 0), (9, .sl (M.map eI) false), (13, tV (([] : List Count))), (14, I64 (3 * 0 : Nat))]) (hp := [tB []]) 1 rfl ⟨Soft.refl _, Soft.refl _, Soft.refl _, Soft.refl _, Soft.nilRow, Soft.refl _, trivial⟩ (Nat.zero_le _) rfl (tB_inb _))) ?_
  refine SemC.loop (fun j : Nat => j ≤ min 8 (x.length / 3)) (fun j => ⟨mkFr [(1, I64 i), (3, .sl (x.map e8) false), (4, .pt (eStores s) 0), (9, .sl (M.map eI) false), (13, tV (toldN s.men.length i M x j)), (14, I64 (3 * j : Nat))], [tB (toldN s.men.length i M x j)], Amb.none, false, 0⟩) (fun j => x.length - j) ?_ 0 (Nat.zero_le _)
  intro j hj
  have hjl := toldN_len s.men.length i M x j
  have hj8 : j ≤ 8 := Nat.le_trans hj (Nat.min_le_left _ _)
  refine wpC_sound (mu := fun t => Nat.beq t 81) ?_
  by_cases hlt : j < min 8 (x.length / 3)
  · have hsu := told_succ s.men.length i M x j
    unfold toldAt at hsu
    generalize hL : toldN s.men.length i M x j = L at *
    have hq : 3 * j + 2 < x.length := by omega
    have d1 : decide (((3 * j : Nat) : Int) + 2 < ((x.map e8).length : Int)) = true := decide_eq_true (by omega)
    have d2 : decide ((L.length : Int) < 8) = true := decide_eq_true (by omega)
    have g0 := get8 (x := x) (p := ((3 * j : Nat) : Int).toNat) (by omega)
    have g1 := get8 (x := x) (p := (((3 * j : Nat) : Int) + 1).toNat) (by omega)
    have g2 := get8 (x := x) (p := (((3 * j : Nat) : Int) + 2).toNat) (by omega)
    rw [show x.getD ((3 * j : Nat) : Int).toNat 0 = x.getD (3 * j) 0 by congr 1] at g0
    rw [show x.getD (((3 * j : Nat) : Int) + 1).toNat 0 = x.getD (3 * j + 1) 0 by congr 1] at g1
    rw [show x.getD (((3 * j : Nat) : Int) + 2).toNat 0 = x.getD (3 * j + 2) 0 by congr 1] at g2
    have b0 := in8 hx (3 * j)
    have b1 := in8 hx (3 * j + 1)
    have b2 := in8 hx (3 * j + 2)
    generalize x.getD (3 * j) 0 = x0 at *
    generalize x.getD (3 * j + 1) 0 = x1 at *
    generalize x.getD (3 * j + 2) 0 = x2 at *
    have m0 := Int.emod_nonneg x0 (b := (s.men.length : Int) + 1) (by omega)
    have m1 := Int.emod_lt_of_pos x0 (b := (s.men.length : Int) + 1) (by omega)
    have hmd := hMB (x0 % ((s.men.length : Int) + 1)).toNat
    have hgd := getD_at (L := M) (d := x0 % ((s.men.length : Int) + 1)) (by omega)
    rw [← em] at hsu m0 m1 hmd hgd
    generalize M.getD (x0 % (((s.men.map eI).length : Int) + 1)).toNat 0 = md at *
    have hsp := span38_c true (max 0 (md - x1 % 20)) (md + x2 % 20)
    repeat' (first |(refine ⟨_, cv8 b0, rfl, ?_⟩) |(refine ⟨_, cv8 b1, rfl, ?_⟩) |(refine ⟨_, cv8 b2, rfl, ?_⟩) |(refine ⟨_, hsp, ?_⟩) |with_reducible (first|refine RM.c1 ?_|refine RM.c2 ?_|refine RM.c3 ?_|refine RM.c4 ?_|refine RM.c5 ?_|refine RM.c9 ?_|refine RM.o1 ?_|refine RM.o2 ?_|refine RM.o3 ?_|refine RM.o4 ?_|refine RM.o5 ?_|refine RM.o9 ?_|refine RM.p1 ?_|refine RM.p2 ?_|refine RM.p3 ?_|refine RM.p4 ?_|refine RM.p5 ?_|refine RM.p6 ?_|refine RM.n1 ?_) |((with_reducible show force _ _);first|refine RM.f1 rfl ?_|refine RM.f2 rfl ?_|refine RM.f3 rfl ?_|refine RM.f4 rfl ?_|refine RM.f5 rfl ?_|refine RM.f8 rfl ?_) |((with_reducible show wpOne _ _ _ _ _ _ _ _ _ _ _ _);refine RM.o8 rfl ?_) |((with_reducible show wpDOne _ _ _ _ _ _ _ _ _ _);refine RM.p9 rfl ?_) |((with_reducible show wpGuard _ _ _ _ _);refine wpGuard_yes rfl rfl (by assumption) ?_) |((with_reducible show wpC _ _ _ _ (.cond _ _ _) _ _);refine RM.e2 rfl (by assumption) ?_) |((with_reducible show wpPick _ _ _ _ _);refine RM.k1 rfl ?_) |((with_reducible show wpPickB _ _ _ _ _);refine RM.k2 (by assumption) ?_) |((with_reducible show wpBin _ _ _ _ _ _ _ _ _);first|refine RM.b6 rfl rfl ?_|refine RM.b1 rfl rfl (by omega) ?_|refine RM.b2 rfl rfl (by omega) ?_|refine RM.r1 rfl rfl (by omega) ?_) |((with_reducible show wpLen _ _ _ _ _);first|refine RM.l1 rfl ?_|refine RM.l2 rfl ?_) |((with_reducible show RM.wpOp _ _ _ _ _ _);refine RM.n5 rfl rfl ?_) |(refine ⟨_, rfl, ?_⟩) |(refine ⟨_, _, rfl, by decide, ?_⟩) |(refine ⟨rfl, rfl, rfl, ?_⟩) |(refine ⟨rfl, rfl, ?_⟩) |(refine And.intro (by kernel_rfl) ?_) |(refine ⟨e8 x0, ⟨by omega, g0⟩, rfl, ?_⟩) |(refine ⟨e8 x1, ⟨by omega, g1⟩, rfl, ?_⟩) |(refine ⟨e8 x2, ⟨by omega, g2⟩, rfl, ?_⟩) |(refine ⟨eI md, ⟨by omega, hgd⟩, rfl, ?_⟩) |fail)
    refine ⟨[eCount ⟨x0 % (((s.men.map eI).length : Int) + 1), i, ⟨max 0 (md - x1 % 20), md + x2 % 20⟩⟩], ⟨(fun el hel => by rw [List.mem_singleton.1 hel]; rfl), rfl⟩, rfl, _, rfl, (by rw [counts_flen]), Or.inr rfl, And.intro (by dsimp only [List.length]; omega) (by dsimp only [List.length]; omega), fun hn => absurd hn (by simp), fun _ => ?_⟩
    repeat' (first |with_reducible (first|refine RM.c4 ?_|refine RM.c9 ?_|refine RM.d3 ?_|refine RM.o1 ?_|refine RM.o2 ?_|refine RM.o3 ?_|refine RM.o4 ?_|refine RM.o5 ?_|refine RM.p2 ?_|refine RM.p3 ?_|refine RM.p5 ?_) |((with_reducible show force _ _);first|refine RM.f1 rfl ?_|refine RM.f8 rfl ?_) |((with_reducible show wpOne _ _ _ _ _ _ _ _ _ _ _ _);refine RM.o8 rfl ?_) |((with_reducible show wpDOne _ _ _ _ _ _ _ _ _ _);refine RM.p9 rfl ?_) |((with_reducible show wpBin _ _ _ _ _ _ _ _ _);refine RM.b1 rfl rfl (by omega) ?_) |(refine ⟨_, rfl, ?_⟩) |(refine And.intro (by kernel_rfl) ?_) |fail)
    refine ⟨j + 1, by omega, (by dsimp only; omega), ?_⟩
    show Weaker _ ⟨mkFr [(1, I64 i), (3, .sl (x.map e8) false), (4, .pt (eStores s) 0), (9, .sl (M.map eI) false), (13, tV (toldN s.men.length i M x (j + 1))), (14, I64 (3 * (j + 1) : Nat))], [tB (toldN s.men.length i M x (j + 1))], Amb.none, false, 0⟩
    rw [hsu]
    exact Weaker.to 1 (by rw [tB_snoc]; rfl) ⟨rfl, rfl, rfl, rfl, (by rw [tV_snoc]; rfl), i64c (by omega), trivial⟩ (Nat.zero_le _) rfl (tB_inb _)
  · have hjn : j = min 8 (x.length / 3) := by omega
    subst hjn
    have hd : decide (((3 * min 8 (x.length / 3) : Nat) : Int) + 2 < ((x.map e8).length : Int)) = false ∨ decide (((toldN s.men.length i M x (min 8 (x.length / 3))).length : Int) < 8) = false := by
      by_cases h1 : 3 * min 8 (x.length / 3) + 2 < x.length
      · exact .inr (decide_eq_false (by omega))
      · exact .inl (decide_eq_false (by omega))
    generalize hL : toldN s.men.length i M x (min 8 (x.length / 3)) = L at *
    cases hd1 : decide (((3 * min 8 (x.length / 3) : Nat) : Int) + 2 < ((x.map e8).length : Int)) with
    | false =>
      repeat' (first |with_reducible (first|refine RM.c2 ?_|refine RM.c4 ?_|refine RM.c6 ?_|refine RM.c7 ?_|refine RM.c9 ?_|refine RM.d2 ?_|refine RM.o1 ?_|refine RM.o2 ?_|refine RM.o4 ?_|refine RM.o5 ?_|refine RM.p2 ?_|refine RM.p3 ?_|refine RM.p4 ?_|refine RM.p5 ?_|refine RM.p6 ?_|refine RM.q2 ?_) |((with_reducible show force _ _);first|refine RM.f1 rfl ?_|refine RM.f2 rfl ?_|refine RM.f8 rfl ?_) |((with_reducible show wpOne _ _ _ _ _ _ _ _ _ _ _ _);refine RM.o8 rfl ?_) |((with_reducible show wpGuard _ _ _ _ _);refine wpGuard_no rfl rfl (by assumption) ?_) |((with_reducible show wpC _ _ _ _ (.cond _ _ _) _ _);refine RM.e3 rfl rfl ?_) |((with_reducible show wpPick _ _ _ _ _);refine RM.k1 rfl ?_) |((with_reducible show wpPickB _ _ _ _ _);refine RM.k3 (by assumption) ?_) |((with_reducible show wpBin _ _ _ _ _ _ _ _ _);first|refine RM.b6 rfl rfl ?_|refine RM.b1 rfl rfl (by omega) ?_) |((with_reducible show wpLen _ _ _ _ _);refine RM.l1 rfl ?_) |((with_reducible show blockK _ _ _ _);refine RM.d5 rfl ?_) |fail)
      exact hQ
    | true =>
      have d2 : decide ((L.length : Int) < 8) = false := by
        rcases hd with hd | hd
        · rw [hd1] at hd; cases hd
        · exact hd
      repeat' (first |with_reducible (first|refine RM.c2 ?_|refine RM.c4 ?_|refine RM.c6 ?_|refine RM.c7 ?_|refine RM.c9 ?_|refine RM.d2 ?_|refine RM.o1 ?_|refine RM.o2 ?_|refine RM.o4 ?_|refine RM.o5 ?_|refine RM.p2 ?_|refine RM.p3 ?_|refine RM.p4 ?_|refine RM.p5 ?_|refine RM.p6 ?_|refine RM.q2 ?_) |((with_reducible show force _ _);first|refine RM.f1 rfl ?_|refine RM.f2 rfl ?_|refine RM.f8 rfl ?_) |((with_reducible show wpOne _ _ _ _ _ _ _ _ _ _ _ _);refine RM.o8 rfl ?_) |((with_reducible show wpGuard _ _ _ _ _);refine wpGuard_yes rfl rfl (by assumption) ?_) |((with_reducible show wpC _ _ _ _ (.cond _ _ _) _ _);refine RM.e3 rfl (by assumption) ?_) |((with_reducible show wpPick _ _ _ _ _);refine RM.k1 rfl ?_) |((with_reducible show wpPickB _ _ _ _ _);refine RM.k2 (by assumption) ?_) |((with_reducible show wpBin _ _ _ _ _ _ _ _ _);first|refine RM.b6 rfl rfl ?_|refine RM.b1 rfl rfl (by omega) ?_) |((with_reducible show wpLen _ _ _ _ _);first|refine RM.l1 rfl ?_|refine RM.l2 rfl ?_) |((with_reducible show blockK _ _ _ _);refine RM.d5 rfl ?_) |fail)
      exact hQ
/-- A count changed: it shows so much more than its lower end. -/
def chgC (v : Int) (c : Count) : Count := ⟨c.day, c.kind, ⟨min 600 (c.amount.lo + v), min 600 (c.amount.lo + v)⟩⟩
def chgTo (l : List Count) (p : Nat → Bool) (v : Int) : Nat → List Count
  | 0 => l
  | j + 1 => match l[j]? with
    | some c => if p j = true then (chgTo l p v j).set j (chgC v c) else chgTo l p v j
    | none => chgTo l p v j
theorem chg_t {l : List Count} {p : Nat → Bool} {v : Int} {j : Nat} (hj : j < l.length) (h : p j = true) : chgTo l p v (j + 1) = (chgTo l p v j).set j (chgC v l[j]) := by
  rw [chgTo, List.getElem?_eq_getElem hj]
  simp only [h, if_true]
theorem chg_f {l : List Count} {p : Nat → Bool} {v : Int} {j : Nat} (hj : j < l.length) (h : p j = false) : chgTo l p v (j + 1) = chgTo l p v j := by
  rw [chgTo, List.getElem?_eq_getElem hj]
  simp only [h]
  rfl
theorem chg_len {l : List Count} {p : Nat → Bool} {v : Int} : ∀ {j : Nat}, (chgTo l p v j).length = l.length
  | 0 => rfl
  | j + 1 => by
    have ih := chg_len (l := l) (p := p) (v := v) (j := j)
    rw [chgTo]
    split
    · split
      · rw [List.length_set, ih]
      · exact ih
    · exact ih
theorem chg_get {l : List Count} {p : Nat → Bool} {v : Int} : ∀ {j i : Nat}, j ≤ l.length → (chgTo l p v j)[i]? = (l[i]?).map fun c => if i < j ∧ p i = true then chgC v c else c
  | 0, i, _ => by
    simp [chgTo]
  | j + 1, i, hj => by
    have ih := chg_get (l := l) (p := p) (v := v) (j := j) (i := i) (by omega)
    cases hp : p j with
    | true =>
      rw [chg_t (by omega) hp, List.getElem?_set, chg_len]
      by_cases hij : j = i
      · subst hij
        rw [if_pos rfl, if_pos (by omega), List.getElem?_eq_getElem (by omega)]
        simp [hp]
      · rw [if_neg hij, ih]
        have : (i < j + 1 ∧ p i = true) ↔ (i < j ∧ p i = true) := by
          constructor
          · rintro ⟨h1, h2⟩; exact ⟨by omega, h2⟩
          · rintro ⟨h1, h2⟩; exact ⟨by omega, h2⟩
        simp only [this]
    | false =>
      rw [chg_f (by omega) hp, ih]
      have : (i < j + 1 ∧ p i = true) ↔ (i < j ∧ p i = true) := by
        constructor
        · rintro ⟨h1, h2⟩
          have : i ≠ j := by rintro rfl; rw [hp] at h2; cases h2
          exact ⟨by omega, h2⟩
        · rintro ⟨h1, h2⟩; exact ⟨by omega, h2⟩
      simp only [this]
theorem chg_zero {s : Stores} {l : List Count} (h0 : cntsErr s l = 0) (p : Nat → Bool) {v : Int} (hv : 0 ≤ v) : cntsErr s (chgTo l p v l.length) = 0 := by
  rw [cnts_zero] at h0 ⊢
  refine ⟨h0.1, by rw [chg_len]; exact h0.2.1, fun c hc => ?_⟩
  obtain ⟨i, hi⟩ := List.getElem?_of_mem hc
  rw [chg_get (Nat.le_refl _)] at hi
  cases hli : l[i]? with
  | none => rw [hli] at hi; cases hi
  | some d =>
    rw [hli] at hi
    have hd := h0.2.2 d (List.mem_of_getElem? hli)
    simp only [Option.map_some, Option.some.injEq] at hi
    subst hi
    split
    · unfold cntErr at hd ⊢
      unfold chgC
      dsimp only
      cases e1 : outB 0 ((s.kinds.length : Int) - 1) [d.kind] with
      | true => rw [e1] at hd; cases hd
      | false =>
        cases e2 : outB 0 (s.men.length : Int) [d.day] with
        | true => rw [e1, e2] at hd; cases hd
        | false =>
          rw [e1, e2] at hd
          cases e3 : outB 0 600 [d.amount.lo, d.amount.hi] with
          | true => rw [e3] at hd; cases hd
          | false =>
            rw [outB_false] at e3
            have e4 := e3 d.amount.lo (by simp)
            have e5 : outB 0 600 [min 600 (d.amount.lo + v), min 600 (d.amount.lo + v)] = false := by
              rw [outB_false]
              intro n hn
              simp only [List.mem_cons, List.not_mem_nil, or_false, or_self] at hn
              omega
            have e6 : decide (min 600 (d.amount.lo + v) < min 600 (d.amount.lo + v)) = false := decide_eq_false (by omega)
            rw [e5, e6]
            rfl
    · exact hd
/-- No more are wrong than were changed. -/
theorem chg_wrong {s : Stores} (hg : Good s) {i : Nat} (hi : i < s.kinds.length) {t : Truth} (ht : truthOk s.kinds[i] t = true) {x : List Int} (hM : ∀ d, 0 ≤ (lvl s.men s.kinds[i] (cargoRow i s.cargos) t).getD d 0 ∧ (lvl s.men s.kinds[i] (cargoRow i s.cargos) t).getD d 0 ≤ 300) (hx : ∀ n ∈ x, 0 ≤ n ∧ n ≤ 255) {l : List Count}
    (hl : told s.men.length i (lvl s.men s.kinds[i] (cargoRow i s.cargos) t) x = l) {p : Nat → Bool} {v : Int} {T : Nat → Truth} (hT : BestT s (chgTo l p v l.length) T) : (wrongT s (chgTo l p v l.length) T).length ≤ (lst p 0 l.length).length := by
  have hl8 : l.length ≤ 8 := by rw [← hl]; exact told_len _ _ _ _
  rw [← lst_cut (p := p) hl8]
  have hf : Feas s.kinds.length 8 (waysK s) (missK s (chgTo l p v l.length)) (fun j => decide (j < l.length) && p j) := by
    intro k hk
    by_cases hki : k = i
    · subst hki
      refine ⟨t, (ways_iff hg hk).2 ht, fun j _ hm => ?_⟩
      have hjl := miss_len hm
      rw [chg_len] at hjl
      show (decide (j < l.length) && p j) = true
      rw [decide_eq_true hjl, Bool.true_and]
      cases hp : p j with
      | true => rfl
      | false =>
        exfalso
        rw [missK_at hk] at hm
        unfold missAt at hm
        rw [chg_get (Nat.le_refl _), List.getElem?_eq_getElem hjl] at hm
        have hc : ¬ (j < l.length ∧ p j = true) := fun h => by rw [hp] at h; cases h.2
        simp only [Option.map_some, hc, if_false] at hm
        have := told_in hM hx (c := l[j]) (by rw [hl]; exact List.getElem_mem hjl)
        rw [this] at hm
        simp at hm
    · cases hw : waysK s k with
      | nil => exact absurd hw (ways_some hg hk)
      | cons u U =>
        refine ⟨u, List.mem_cons_self .., fun j _ hm => ?_⟩
        exfalso
        obtain ⟨c, h1, h2⟩ := missK_kind hm
        rw [chg_get (Nat.le_refl _)] at h1
        cases hlj : l[j]? with
        | none => rw [hlj] at h1; cases h1
        | some d =>
          rw [hlj] at h1
          have hd := told_kind (c := d) (m := s.men.length) (i := i) (M := lvl s.men s.kinds[i] (cargoRow i s.cargos) t) (x := x) (by rw [hl]; exact List.mem_of_getElem? hlj)
          simp only [Option.map_some, Option.some.injEq] at h1
          subst h1
          split at h2
          · change d.kind = _ at h2; omega
          · omega
  unfold wrongT
  rcases un_least (miss_disj s _) hT hf with h | h
  · rw [h]; exact Nat.le_refl _
  · unfold bef at h; omega
theorem bit1 {S j : Nat} : decide (((S / 2 ^ j % 2 : Nat) : Int) = 1) = S.testBit j := by
  rw [Nat.testBit_eq_decide_div_mod_eq]
  apply decide_eq_decide.2
  omega
theorem splice_add {a b x : List AV} {o : Nat} : spliceV (a ++ b) x (a.length + o) = a ++ spliceV b x o := by
  unfold spliceV
  rw [List.take_append, List.take_of_length_le (by omega), show a.length + o - a.length = o by omega, List.drop_append, List.drop_of_length_le (by omega), show a.length + o + x.length - a.length = o + x.length by omega]
  simp
theorem cnt_splice : ∀ {L : List Count} {j : Nat} (_ : j < L.length) (a b : Int), spliceV ((L.map eCount).flatten) [I64 a, I64 b] (j * 4 + 2) = ((L.set j ⟨L[j].day, L[j].kind, ⟨a, b⟩⟩).map eCount).flatten
  | [], j, h, _, _ => absurd h (Nat.not_lt_zero _)
  | c :: L, 0, _, a, b => by
    rw [List.set_cons_zero, List.map_cons, List.map_cons, List.flatten_cons, List.flatten_cons]
    rfl
  | c :: L, j + 1, h, a, b => by
    have ih := cnt_splice (L := L) (j := j) (by simpa using h) a b
    rw [List.set_cons_succ, List.map_cons, List.map_cons, List.flatten_cons, List.flatten_cons]
    rw [show (j + 1) * 4 + 2 = (eCount c).length + (j * 4 + 2) by show _ = 4 + _; omega, splice_add, ih]
    rfl
theorem cnt_lo {L : List Count} {j : Nat} (h : j < L.length) : ((L.map eCount).flatten)[j * 4 + 2]? = some (I64 L[j].amount.lo) := by
  rw [flatten_at (es := 4) (fun el hel => by obtain ⟨x, _, rfl⟩ := List.mem_map.1 hel; rfl) j (eCount L[j]) 2 (by rw [List.getElem?_map, List.getElem?_eq_getElem h]; rfl) (by decide)]
  rfl
end Go.Proofs.Ytmkaeohmdcoanaa
open Go Go.RM
namespace Go.Proofs.Ytmkaeohmdcoanaa
set_option maxRecDepth 100000
set_option maxHeartbeats 4000000
theorem false_err (s : Stores) (h : s.Ok) (kd a b c : Int) (x : List Int) (Y : Nat) (v : Int) (he : (chk s).2.2 ≠ 0) : Pu false 14 [.ag (eStores s), .ag [.fl (.int .u8 kd), U16 a, U16 b, U16 c, .sl (x.map e8) false], .ag [U8 Y, .fl (.int .u8 v)]] (BB true) := by
  have hv := valid_c false s h
  rw [decide_eq_false he] at hv
  have haw := aw_c false
  refine PureV.body (fn := Try.f14) rfl rfl rfl rfl ?_
  refine wpC_sound (mu := fun _ => false) ?_
  repeat' (first |with_reducible (first|refine RM.c2 ?_|refine RM.c4 ?_|refine RM.c7 ?_|refine RM.c9 ?_|refine RM.d1 ?_|refine RM.o1 ?_|refine RM.o2 ?_|refine RM.o4 ?_|refine RM.o5 ?_|refine RM.o7 ?_|refine RM.o9 ?_|refine RM.p1 ?_|refine RM.p3 ?_) |((with_reducible show force _ _);first|refine RM.f1 rfl ?_|refine RM.f3 rfl ?_|refine RM.f4 rfl ?_|refine RM.f5 rfl ?_) |((with_reducible show wpOne _ _ _ _ _ _ _ _ _ _ _ _);refine RM.o8 rfl ?_) |((with_reducible show wpC _ _ _ _ (.cond _ _ _) _ _);refine RM.e2 rfl rfl ?_) |((with_reducible show RM.wpOp _ _ _ _ _ _);refine RM.n3 rfl ?_) |(refine ⟨rfl, rfl, rfl, ?_⟩) |(refine And.intro (Nat.le_of_ble_eq_true rfl) ?_) |(refine PureV.call hv rfl rfl ?_) |(refine PureV.call haw rfl rfl ?_) |fail)
  exact ⟨[_], ⟨Fz.deep rfl, trivial⟩, rfl⟩
theorem tB_inb' (L : List Count) (n : Nat) : ([.cells ((L.map eCount).flatten) 4 n] : List AB).all (AB.inb 1) = true := by
  rw [List.all_cons, List.all_nil, Bool.and_true]
  exact deep_inb 1 (.ag _) (counts_deep L)
theorem false_c (s : Stores) (h : s.Ok) (kd a b c : Int) (x : List Int) (Y : Nat) (v : Int) (hkd : 0 ≤ kd ∧ kd ≤ 255) (ha : U16ok a) (hb : U16ok b) (hc : U16ok c) (hx : ∀ n ∈ x, 0 ≤ n ∧ n ≤ 255) (hxl : x.length ≤ maxLen) (hvv : 0 ≤ v ∧ v ≤ 255) : Pu false 14 [.ag (eStores s), .ag [.fl (.int .u8 kd), U16 a, U16 b, U16 c, .sl (x.map e8) false], .ag [U8 Y, .fl (.int .u8 v)]] (BB true) := by
  by_cases he : (chk s).2.2 = 0
  · have hv := valid_c false s h
    rw [decide_eq_true he] at hv
    have hg := chk_good he
    have haw := aw_c false
    have h8 := sizes_9 hg.sizes
    have ek : ((s.kinds.map eKind).length : Int) = s.kinds.length := by simp
    obtain ⟨i, hi, hki⟩ := modN (a := kd) (n := (s.kinds.map eKind).length) (by simp; omega)
    rw [List.length_map] at hi
    have hkg := hg.kinds _ (List.getElem_mem hi)
    have hay := any_c true s.kinds[i] hkg a b c ha hb hc
    have ht := truthAny hkg a b c
    generalize anyT s.kinds[i] a b c = t at *
    have ht2 := truthOk_iff.1 ht
    have hh0 : HoldOk s s.kinds[i] (cargoRow i s.cargos) [] := ⟨hg, hkg, hg.row i, fun c hc => (by cases hc), Nat.zero_le _⟩
    have hr := hh0.run ht2.1 ht2.2.1 ht2.2.2
    have hM := fun d => lvl_bnd hr d
    have hto := fun Q => told_o (Q := Q) true hg hi hr x hx hxl
    have hz := told_zero (x := x) he hi hM hx
    have hl8 : (told s.men.length i (lvl s.men s.kinds[i] (cargoRow i s.cargos) t) x).length ≤ 8 := told_len _ _ _ _
    obtain ⟨T, hT⟩ := bestT_ex hg (chgTo (told s.men.length i (lvl s.men s.kinds[i] (cargoRow i s.cargos) t) x) Y.testBit v (told s.men.length i (lvl s.men s.kinds[i] (cargoRow i s.cargos) t) x).length)
    have hcw := chg_wrong hg hi ht hM hx rfl hT
    have hcz := chg_zero hz Y.testBit hvv.1
    have hwr := wrong_c s h _ hcz T hT
    have hidx : (s.kinds.map eKind)[((i : Nat) : Int).toNat]? = some (eKind s.kinds[i]) := map_at hi
    have hcb := (cnts_zero.1 hz).2.2
    generalize told s.men.length i (lvl s.men s.kinds[i] (cargoRow i s.cargos) t) x = l at *
    generalize wrongT s (chgTo l Y.testBit v l.length) T = w at *
    have hlo : ∀ c ∈ l, 0 ≤ c.amount.lo ∧ c.amount.lo ≤ 600 := by
      intro c hc
      have hd := hcb c hc
      unfold cntErr at hd
      cases e1 : outB 0 ((s.kinds.length : Int) - 1) [c.kind] with
      | true => rw [e1] at hd; cases hd
      | false =>
        cases e2 : outB 0 (s.men.length : Int) [c.day] with
        | true => rw [e1, e2] at hd; cases hd
        | false =>
          rw [e1, e2] at hd
          cases e3 : outB 0 600 [c.amount.lo, c.amount.hi] with
          | true => rw [e3] at hd; cases hd
          | false =>
            rw [outB_false] at e3
            exact e3 c.amount.lo (by simp)
    have hCt := fun j (hj : j < l.length) => chg_t (v := v) (p := Y.testBit) hj
    have hCf := fun j (hj : j < l.length) => chg_f (v := v) (p := Y.testBit) hj
    have hCl := fun j => chg_len (l := l) (p := Y.testBit) (v := v) (j := j)
    have hCg := fun j i (hj : j ≤ l.length) => chg_get (l := l) (p := Y.testBit) (v := v) (j := j) (i := i) hj
    have hC0 : chgTo l Y.testBit v 0 = l := rfl
    generalize chgTo l Y.testBit v = C at *
    obtain ⟨N, hN⟩ : ∃ N, N = l.length := ⟨_, rfl⟩
    rw [← hN] at hl8 hcw hT hcz hwr
    simp only [← hN] at hCf hCl hCg
    have hnl : ∀ j, (lst Y.testBit 0 j).length ≤ j := fun j => lst_len_le _ _ _
    have hnt : ∀ j, Y.testBit j = true → (lst Y.testBit 0 (j + 1)).length = (lst Y.testBit 0 j).length + 1 := fun j h => by rw [lst_snoc_t h, List.length_append]; rfl
    have hnf : ∀ j, Y.testBit j = false → (lst Y.testBit 0 (j + 1)).length = (lst Y.testBit 0 j).length := fun j h => by rw [lst_snoc_f h]
    generalize hF : (fun j => (lst Y.testBit 0 j).length) = F at *
    have hFa : ∀ j, (lst Y.testBit 0 j).length = F j := fun j => by rw [← hF]
    simp only [hFa] at hnl hnt hnf hcw
    have hF0 : F 0 = 0 := by rw [← hF]; rfl
    refine PureV.body (fn := Try.f14) rfl rfl rfl rfl ?_
    refine RM.c2s (mu := fun _ => false) ?_
    repeat' (first |with_reducible (first|refine RM.c4 ?_|refine RM.c9 ?_|refine RM.o1 ?_|refine RM.o2 ?_|refine RM.o4 ?_|refine RM.o5 ?_|refine RM.p3 ?_) |((with_reducible show force _ _);first|refine RM.f1 rfl ?_|refine RM.f3 rfl ?_) |((with_reducible show wpOne _ _ _ _ _ _ _ _ _ _ _ _);refine RM.o8 rfl ?_) |(refine ⟨rfl, rfl, rfl, ?_⟩) |fail)
    refine RM.c2s (mu := fun _ => false) ?_
    repeat' (first |with_reducible (first|refine RM.c1 ?_|refine RM.c2 ?_|refine RM.c4 ?_|refine RM.c9 ?_|refine RM.o1 ?_|refine RM.o2 ?_|refine RM.o4 ?_|refine RM.o5 ?_|refine RM.o7 ?_|refine RM.o9 ?_|refine RM.p1 ?_) |((with_reducible show force _ _);first|refine RM.f1 rfl ?_|refine RM.f4 rfl ?_|refine RM.f5 rfl ?_) |((with_reducible show wpOne _ _ _ _ _ _ _ _ _ _ _ _);refine RM.o8 rfl ?_) |((with_reducible show wpC _ _ _ _ (.cond _ _ _) _ _);refine RM.e3 rfl rfl ?_) |((with_reducible show RM.wpOp _ _ _ _ _ _);refine RM.n3 rfl ?_) |(refine And.intro (Nat.le_of_ble_eq_true rfl) ?_) |(refine PureV.call hv rfl rfl ?_) |fail)
    refine RM.c2s (mu := fun _ => false) ?_
    repeat' (first |(refine ⟨_, cv8 hkd, rfl, ?_⟩) |with_reducible (first|refine RM.c4 ?_|refine RM.c9 ?_|refine RM.o1 ?_|refine RM.o2 ?_|refine RM.o4 ?_|refine RM.o5 ?_|refine RM.p3 ?_|refine RM.p5 ?_|refine RM.p6 ?_) |((with_reducible show force _ _);first|refine RM.f1 rfl ?_|refine RM.f2 rfl ?_|refine RM.f3 rfl ?_) |((with_reducible show wpOne _ _ _ _ _ _ _ _ _ _ _ _);refine RM.o8 rfl ?_) |((with_reducible show wpBin _ _ _ _ _ _ _ _ _);refine RM.r1 rfl rfl (by omega) ?_) |((with_reducible show wpLen _ _ _ _ _);refine RM.l1 rfl ?_) |(refine ⟨_, rfl, ?_⟩) |(refine ⟨_, _, rfl, by decide, ?_⟩) |fail)
    rw [hki]
    refine SemC.seq ?_
    refine SemC.drawN 12 (mu := fun _ => false) ?_
    repeat' (first |(refine RM.dnS ?_) |(refine ⟨_, hay, ?_⟩) |with_reducible (first|refine RM.o4 ?_|refine RM.o5 ?_|refine RM.o9 ?_|refine RM.p1 ?_|refine RM.p2 ?_|refine RM.n1 ?_) |((with_reducible show force _ _);first|refine RM.f1 rfl ?_|refine RM.f2 rfl ?_|refine RM.f3 rfl ?_|refine RM.f4 rfl ?_|refine RM.f5 rfl ?_) |((with_reducible show wpDOne _ _ _ _ _ _ _ _ _ _);refine RM.p9 rfl ?_) |(refine ⟨_, rfl, ?_⟩) |(refine ⟨_, _, rfl, by decide, ?_⟩) |(refine ⟨rfl, rfl, rfl, ?_⟩) |(refine ⟨rfl, rfl, ?_⟩) |(refine And.intro (Nat.le_of_ble_eq_true rfl) ?_) |(refine And.intro (by kernel_rfl) ?_) |(refine ⟨eKind s.kinds[i], ⟨by omega, hidx⟩, rfl, ?_⟩) |fail)
    refine hto _ ?_
    repeat' (first |with_reducible (first|refine RM.c9 ?_|refine RM.o3 ?_|refine RM.o4 ?_|refine RM.o5 ?_|refine RM.p3 ?_) |((with_reducible show force _ _);refine RM.f8 rfl ?_) |((with_reducible show wpDOne _ _ _ _ _ _ _ _ _ _);refine RM.p9 rfl ?_) |(refine ⟨_, rfl, ?_⟩) |(refine And.intro (by kernel_rfl) ?_) |fail)
    refine RM.c2s (mu := fun _ => false) ?_
    repeat' (first |with_reducible (first|refine RM.c4 ?_|refine RM.c9 ?_|refine RM.o1 ?_|refine RM.o2 ?_|refine RM.o4 ?_|refine RM.o5 ?_|refine RM.p3 ?_) |((with_reducible show force _ _);refine RM.f1 rfl ?_) |((with_reducible show wpOne _ _ _ _ _ _ _ _ _ _ _ _);refine RM.o8 rfl ?_) |fail)
    refine SemC.seq ?_
    refine wpC_sound (mu := fun _ => false) ?_
    repeat' (first |with_reducible (first|refine RM.c2 ?_|refine RM.c3 ?_|refine RM.c4 ?_|refine RM.c9 ?_|refine RM.o1 ?_|refine RM.o2 ?_|refine RM.o4 ?_|refine RM.o5 ?_|refine RM.p3 ?_) |((with_reducible show force _ _);refine RM.f1 rfl ?_) |((with_reducible show wpOne _ _ _ _ _ _ _ _ _ _ _ _);refine RM.o8 rfl ?_) |fail)
    refine SemC.weaker (Weaker.to (l := [(3, .pt (eStores s) 0), (5, .pt [U8 Y, .fl (.int .u8 v)] 0), (8, .osl 0 N 0 N (N + 1)), (9, I64 (F 0 : Nat)), (10, I64 (0 : Nat))]) (hp := [.cells (((C 0).map eCount).flatten) 4 N]) 1 (by rw [hC0, hN]; rfl) ⟨rfl, rfl, (by rw [hN]; rfl), (by rw [hF0]; rfl), rfl, trivial⟩ (Nat.zero_le _) rfl (tB_inb' _ _)) ?_
    refine SemC.loop (fun j : Nat => j ≤ N) (fun j => ⟨mkFr [(3, .pt (eStores s) 0), (5, .pt [U8 Y, .fl (.int .u8 v)] 0), (8, .osl 0 N 0 N (N + 1)), (9, I64 (F j : Nat)), (10, I64 (j : Nat))], [.cells (((C j).map eCount).flatten) 4 N], Amb.none, false, 0⟩) (fun j => N - j) ?_ 0 (Nat.zero_le _)
    intro j hj
    refine wpC_sound (mu := fun _ => false) ?_
    by_cases hlt : j < N
    · have d1 : decide ((j : Int) < (N : Int)) = true := decide_eq_true (by omega)
      have h8j : j < 8 := by omega
      have hb1 := bit1 (S := Y) (j := j)
      have hlj := hCl j
      have hFj := hnl j
      cases hb : Y.testBit j with
      | true =>
        rw [hb] at hb1
        have hn := hCt j (by omega) hb
        have hf := hnt j hb
        have hcj : (C j)[j]? = some l[j] := by
          rw [hCg j j (by omega), List.getElem?_eq_getElem (by omega)]
          simp
        obtain ⟨hjC, hcj⟩ := List.getElem?_eq_some_iff.1 hcj
        have hlc := cnt_lo hjC
        have hsp := cnt_splice hjC
        have hlb := hlo (l[j]) (List.getElem_mem (by omega))
        rw [hcj] at hlc hsp
        unfold chgC at hn
        generalize l[j] = cc at *
        have hget : (((C j).map eCount).flatten)[0 + ((j : Nat) : Int).toNat * 4 + 2 + 0]? = some (I64 cc.amount.lo) := by
          rw [Nat.zero_add]
          exact hlc
        have hbl : 0 + ((j : Nat) : Int).toNat * 4 + 2 + 2 ≤ (((C j).map eCount).flatten).length := by
          rw [counts_flen, hlj]
          omega
        have hs38 := span38_c false (min 600 (cc.amount.lo + v)) (min 600 (cc.amount.lo + v))
        repeat' (first |(refine ⟨_, cv8 hvv, rfl, ?_⟩) |(refine RM.bshr8 rfl rfl h8j ?_) |(refine RM.brem8 rfl rfl ?_) |(refine RM.beql8 rfl rfl ?_) |with_reducible (first|refine RM.c1 ?_|refine RM.c2 ?_|refine RM.c3 ?_|refine RM.c4 ?_|refine RM.c5 ?_|refine RM.c9 ?_|refine RM.d3 ?_|refine RM.o1 ?_|refine RM.o2 ?_|refine RM.o3 ?_|refine RM.o4 ?_|refine RM.o5 ?_|refine RM.o6 ?_|refine RM.o7 ?_|refine RM.o9 ?_|refine RM.p1 ?_|refine RM.p2 ?_|refine RM.p3 ?_|refine RM.p5 ?_|refine RM.p6 ?_) |((with_reducible show force _ _);first|refine RM.f1 rfl ?_|refine RM.f4 rfl ?_|refine RM.f7 rfl ?_|refine RM.f8 rfl ?_|refine RM.g2 rfl ?_) |((with_reducible show wpOne _ _ _ _ _ _ _ _ _ _ _ _);refine RM.o8 rfl ?_) |((with_reducible show wpDOne _ _ _ _ _ _ _ _ _ _);refine RM.p9 rfl ?_) |((with_reducible show wpC _ _ _ _ (.cond _ _ _) _ _);refine RM.e2 rfl (by assumption) ?_) |((with_reducible show wpBin _ _ _ _ _ _ _ _ _);first|refine RM.b6 rfl rfl ?_|refine RM.b1 rfl rfl (by omega) ?_) |((with_reducible show wpLen _ _ _ _ _);refine RM.l2 rfl ?_) |((with_reducible show RM.wpOp _ _ _ _ _ _);refine RM.n4 rfl rfl ?_) |(refine ⟨_, rfl, ?_⟩) |(refine ⟨_, _, rfl, by decide, ?_⟩) |(refine And.intro (by omega) ?_) |(refine And.intro (by kernel_rfl) ?_) |(refine ⟨_, _, rfl, _, hget, ?_⟩) |(refine ⟨_, _, rfl, rfl, rfl, rfl, hbl, ?_⟩) |(refine PureV.call hs38 rfl rfl ?_) |fail)
        refine ⟨j + 1, hlt, (by dsimp only; omega), ?_⟩
        show Weaker _ ⟨mkFr [(3, .pt (eStores s) 0), (5, .pt [U8 Y, .fl (.int .u8 v)] 0), (8, .osl 0 N 0 N (N + 1)), (9, I64 (F (j + 1) : Nat)), (10, I64 ((j + 1) : Nat))], [.cells (((C (j + 1)).map eCount).flatten) 4 N], Amb.none, false, 0⟩
        rw [hn, hf]
        refine Weaker.to 1 ?_ ⟨rfl, rfl, rfl, i64c (by simp), i64c (by simp), trivial⟩ (Nat.zero_le _) rfl (tB_inb' _ _)
        show [AB.cells (spliceV (((C j).map eCount).flatten) [I64 (min 600 (cc.amount.lo + v)), I64 (min 600 (cc.amount.lo + v))] (0 + ((j : Nat) : Int).toNat * 4 + 2)) 4 N] = _
        rw [Nat.zero_add, Int.toNat_natCast, hsp]
      | false =>
        rw [hb] at hb1
        have hn := hCf j hlt hb
        have hf := hnf j hb
        repeat' (first |(refine RM.bshr8 rfl rfl h8j ?_) |(refine RM.brem8 rfl rfl ?_) |(refine RM.beql8 rfl rfl ?_) |with_reducible (first|refine RM.c1 ?_|refine RM.c2 ?_|refine RM.c3 ?_|refine RM.c4 ?_|refine RM.c9 ?_|refine RM.d3 ?_|refine RM.o1 ?_|refine RM.o2 ?_|refine RM.o4 ?_|refine RM.o5 ?_|refine RM.p2 ?_|refine RM.p3 ?_|refine RM.p5 ?_|refine RM.p6 ?_) |((with_reducible show force _ _);first|refine RM.f1 rfl ?_|refine RM.f8 rfl ?_) |((with_reducible show wpOne _ _ _ _ _ _ _ _ _ _ _ _);refine RM.o8 rfl ?_) |((with_reducible show wpC _ _ _ _ (.cond _ _ _) _ _);first|refine RM.e2 rfl (by assumption) ?_|refine RM.e3 rfl (by assumption) ?_) |((with_reducible show wpBin _ _ _ _ _ _ _ _ _);first|refine RM.b6 rfl rfl ?_|refine RM.b1 rfl rfl (by omega) ?_) |((with_reducible show wpLen _ _ _ _ _);refine RM.l2 rfl ?_) |(refine ⟨_, rfl, ?_⟩) |(refine And.intro (by omega) ?_) |fail)
        refine ⟨j + 1, hlt, (by dsimp only; omega), ?_⟩
        show Weaker _ ⟨mkFr [(3, .pt (eStores s) 0), (5, .pt [U8 Y, .fl (.int .u8 v)] 0), (8, .osl 0 N 0 N (N + 1)), (9, I64 (F (j + 1) : Nat)), (10, I64 ((j + 1) : Nat))], [.cells (((C (j + 1)).map eCount).flatten) 4 N], Amb.none, false, 0⟩
        rw [hn, hf]
        exact Weaker.to 1 rfl ⟨rfl, rfl, rfl, rfl, i64c (by simp), trivial⟩ (Nat.zero_le _) rfl (tB_inb' _ _)
    · have d1 : decide ((j : Int) < (N : Int)) = false := decide_eq_false (by omega)
      have hjN : j = N := by omega
      subst hjN
      have hlj := hCl j
      have d2 : decide (((w.map eI).length : Int) ≤ (F j : Nat)) = true := decide_eq_true (by rw [List.length_map]; omega)
      generalize C j = L at *
      repeat' (first |with_reducible (first|refine RM.c2 ?_|refine RM.c4 ?_|refine RM.c6 ?_|refine RM.c9 ?_|refine RM.d2 ?_|refine RM.o1 ?_|refine RM.o2 ?_|refine RM.o4 ?_|refine RM.o5 ?_|refine RM.p2 ?_|refine RM.p5 ?_|refine RM.p6 ?_|refine RM.q2 ?_) |((with_reducible show force _ _);first|refine RM.f1 rfl ?_|refine RM.f8 rfl ?_) |((with_reducible show wpOne _ _ _ _ _ _ _ _ _ _ _ _);refine RM.o8 rfl ?_) |((with_reducible show wpC _ _ _ _ (.cond _ _ _) _ _);refine RM.e3 rfl (by assumption) ?_) |((with_reducible show wpBin _ _ _ _ _ _ _ _ _);refine RM.b6 rfl rfl ?_) |((with_reducible show wpLen _ _ _ _ _);refine RM.l2 rfl ?_) |((with_reducible show blockK _ _ _ _);refine RM.d5 rfl ?_) |fail)
      refine SemC.weaker (Weaker.giveUp 0 (l := [(3, .pt (eStores s) 0), (8, .sl (L.map eCount) false), (9, I64 (F j : Nat))]) (hp := [.gone]) rfl (Nat.zero_le _) (counts_deep _) ⟨.same rfl, .row 4 (by rw [counts_flen, hlj]; omega) (by rw [List.length_map]; exact hlj) (fun el hel => by obtain ⟨x, _, rfl⟩ := List.mem_map.1 hel; rfl) (by rw [List.drop_zero, List.take_of_length_le (by rw [counts_flen, hlj]; omega)]) (fun h => Bool.noConfusion h), .same rfl, trivial⟩ rfl rfl) ?_
      refine wpC_sound (mu := fun _ => false) ?_
      repeat' (first |with_reducible (first|refine RM.c2 ?_|refine RM.c4 ?_|refine RM.c7 ?_|refine RM.c9 ?_|refine RM.o1 ?_|refine RM.o2 ?_|refine RM.o4 ?_|refine RM.o5 ?_|refine RM.o7 ?_|refine RM.o9 ?_|refine RM.p1 ?_|refine RM.p2 ?_|refine RM.p3 ?_|refine RM.p4 ?_|refine RM.p5 ?_|refine RM.p6 ?_) |((with_reducible show force _ _);first|refine RM.f1 rfl ?_|refine RM.f2 rfl ?_|refine RM.f4 rfl ?_|refine RM.f5 rfl ?_|refine RM.f6 rfl ?_) |((with_reducible show wpOne _ _ _ _ _ _ _ _ _ _ _ _);refine RM.o8 rfl ?_) |((with_reducible show wpGuard _ _ _ _ _);first|refine wpGuard_yes rfl rfl rfl ?_|refine wpGuard_yes rfl rfl (by assumption) ?_) |((with_reducible show wpPick _ _ _ _ _);refine RM.k1 rfl ?_) |((with_reducible show wpPickB _ _ _ _ _);first|refine RM.k2 rfl ?_|refine RM.k2 (by assumption) ?_) |((with_reducible show wpBin _ _ _ _ _ _ _ _ _);first|refine RM.b4 rfl rfl ?_|refine RM.b7 rfl rfl ?_) |((with_reducible show wpLen _ _ _ _ _);refine RM.l1 rfl ?_) |(refine ⟨_, rfl, ?_⟩) |(refine And.intro (Nat.le_of_ble_eq_true rfl) ?_) |(refine PureV.call hwr rfl rfl ?_) |(refine PureV.call haw rfl rfl ?_) |fail)
      exact ⟨[_], ⟨Fz.deep rfl, trivial⟩, rfl⟩
  · exact false_err s h kd a b c x Y v he
end Go.Proofs.Ytmkaeohmdcoanaa
namespace Go.Proofs.Ytmkaeohmdcoanaa
open Go.RM
set_option maxRecDepth 1000000
noncomputable def tabA : List XE := [x_a1, x_a2, x_a3, x_a4, x_a5, x_a6, x_a7, x_a8]
theorem xs_tabA : ∀ e ∈ tabA, XSound TT e := by
  unfold tabA
  simp only [List.mem_cons, List.not_mem_nil, or_false]
  rintro e (rfl | rfl | rfl | rfl | rfl | rfl | rfl | rfl)
  · exact xs_a1
  · exact xs_a2
  · exact xs_a3
  · exact xs_a4
  · exact xs_a5
  · exact xs_a6
  · exact xs_a7
  · exact xs_a8
theorem xs_aw : XSound TT x_aw := xe_add tt_ok tt_mixed xs_tabA 1000 (by kernel_rfl)
theorem xs_TB : ∀ e ∈ TB, XSound TT e := fun e he => by
  obtain rfl := List.mem_singleton.1 he
  exact xs_aw
end Go.Proofs.Ytmkaeohmdcoanaa
open Go Go.RM
namespace Go.Proofs.Ytmkaeohmdcoanaa
open Go.ChangeShapes Go.WideShapes Go.ChangeAt Go.RowKit
theorem try_own : ownKnob Try.prog.godebug = none := by kernel_rfl
theorem try_laid : laidOutB Try.prog = true := by kernel_rfl
theorem wf8 {n : Int} (h : (Lit.int .u8 n).wf = true) : 0 ≤ n ∧ n ≤ 255 := by
  simp only [Lit.wf, Bool.and_eq_true, decide_eq_true_eq] at h
  exact h
theorem wf16 {n : Int} (h : (Lit.int .u16 n).wf = true) : 0 ≤ n ∧ n ≤ 65535 := by
  simp only [Lit.wf, Bool.and_eq_true, decide_eq_true_eq] at h
  exact h
abbrev sh8 : Sh := .int .u8
abbrev sh16 : Sh := .int .u16
abbrev shPast : Sh := .cons sh8 (.cons (.arr 3 sh16) (.cons (.slice sh8) .nil))
theorem tv8 {l : List AV} (h : TV sh8 l) : ∃ n, (0 ≤ n ∧ n ≤ 255) ∧ l = [.fl (.int .u8 n)] := by
  obtain ⟨n, hn, rfl⟩ := tvK h
  exact ⟨n, wf8 hn, rfl⟩
theorem tv16 {l : List AV} (h : TV sh16 l) : ∃ n, (0 ≤ n ∧ n ≤ 65535) ∧ l = [.fl (.int .u16 n)] := by
  obtain ⟨n, hn, rfl⟩ := tvK h
  exact ⟨n, wf16 hn, rfl⟩
theorem tvA3 {l : List AV} (h : TV (.arr 3 sh16) l) : ∃ a b c, ((0 ≤ a ∧ a ≤ 65535) ∧ (0 ≤ b ∧ b ≤ 65535) ∧ (0 ≤ c ∧ c ≤ 65535)) ∧ l = [.fl (.int .u16 a), .fl (.int .u16 b), .fl (.int .u16 c)] := by
  obtain ⟨els, hl, he, rfl⟩ := tvA h
  match els, hl with
  | [x, y, z], _ =>
    obtain ⟨a, ha, rfl⟩ := tv16 (he x (by simp))
    obtain ⟨b, hb, rfl⟩ := tv16 (he y (by simp))
    obtain ⟨c, hc, rfl⟩ := tv16 (he z (by simp))
    exact ⟨a, b, c, ⟨ha, hb, hc⟩, rfl⟩
theorem tvPast {l : List AV} (h : TV shPast l) : ∃ (kd a b c : Int) (taken : List (List AV)), ((0 ≤ kd ∧ kd ≤ 255) ∧ (0 ≤ a ∧ a ≤ 65535) ∧ (0 ≤ b ∧ b ≤ 65535) ∧ (0 ≤ c ∧ c ≤ 65535)) ∧ (taken.length ≤ maxLen ∧ ∀ el ∈ taken, TV sh8 el) ∧ l = [.fl (.int .u8 kd), .fl (.int .u16 a), .fl (.int .u16 b), .fl (.int .u16 c), .sl taken false] := by
  obtain ⟨_, _, h1, k1, rfl⟩ := tvC h
  obtain ⟨_, _, h2, k2, rfl⟩ := tvC k1
  obtain ⟨_, _, h3, k3, rfl⟩ := tvC k2
  obtain rfl := tvN k3
  obtain ⟨kd, hk, rfl⟩ := tv8 h1
  obtain ⟨a, b, c, hh, rfl⟩ := tvA3 h2
  obtain ⟨els, hl, he, rfl⟩ := tvL h3
  exact ⟨kd, a, b, c, els, ⟨hk, hh⟩, ⟨hl, he⟩, rfl⟩
end Go.Proofs.Ytmkaeohmdcoanaa
open Go Go.RM
namespace Go.Proofs.Ytmkaeohmdcoanaa
theorem tvB2 {l : List AV} (h : TV (.arr 2 sh8) l) : ∃ a b, ((0 ≤ a ∧ a ≤ 255) ∧ (0 ≤ b ∧ b ≤ 255)) ∧ l = [.fl (.int .u8 a), .fl (.int .u8 b)] := by
  obtain ⟨els, hl, he, rfl⟩ := tvA h
  match els, hl with
  | [x, y], _ =>
    obtain ⟨a, ha, rfl⟩ := tv8 (he x (by simp))
    obtain ⟨b, hb, rfl⟩ := tv8 (he y (by simp))
    exact ⟨a, b, ⟨ha, hb⟩, rfl⟩
end Go.Proofs.Ytmkaeohmdcoanaa
