/-
  Contracts of the program's functions and of the document's. Lemmas alone; their conditions stand in them.
-/
import Derived.Test.YtmkaeohmdcoanaaA1
import Derived.Test.YtmkaeohmdcoanaaA2
import Derived.Test.YtmkaeohmdcoanaaX1
import Derived.Test.YtmkaeohmdcoanaaK1
import Derived.Laws.StructEq
import Derived.Test.YtmkaeohmdcoanaaRows
open Go Go.RM
namespace Go.Proofs.Ytmkaeohmdcoanaa
theorem fold_span {α : Type} (f g : α → Int) : ∀ (L : List α) (x : Span), ((L.foldl (fun x y => (⟨min x.lo (f y), max x.hi (g y)⟩ : Span)) x).lo ≤ x.lo ∧ ∀ y ∈ L, (L.foldl (fun x y => (⟨min x.lo (f y), max x.hi (g y)⟩ : Span)) x).lo ≤ f y) ∧
    ((L.foldl (fun x y => (⟨min x.lo (f y), max x.hi (g y)⟩ : Span)) x).lo = x.lo ∨ ∃ y ∈ L, (L.foldl (fun x y => (⟨min x.lo (f y), max x.hi (g y)⟩ : Span)) x).lo = f y) ∧
    (x.hi ≤ (L.foldl (fun x y => (⟨min x.lo (f y), max x.hi (g y)⟩ : Span)) x).hi ∧ ∀ y ∈ L, g y ≤ (L.foldl (fun x y => (⟨min x.lo (f y), max x.hi (g y)⟩ : Span)) x).hi) ∧
    ((L.foldl (fun x y => (⟨min x.lo (f y), max x.hi (g y)⟩ : Span)) x).hi = x.hi ∨ ∃ y ∈ L, (L.foldl (fun x y => (⟨min x.lo (f y), max x.hi (g y)⟩ : Span)) x).hi = g y)
  | [], x => ⟨⟨Int.le_refl _, fun y h => by cases h⟩, .inl rfl, ⟨Int.le_refl _, fun y h => by cases h⟩, .inl rfl⟩
  | a :: L, x => by
    have ih := fold_span f g L ⟨min x.lo (f a), max x.hi (g a)⟩
    rw [List.foldl_cons]
    generalize L.foldl (fun x y => (⟨min x.lo (f y), max x.hi (g y)⟩ : Span)) ⟨min x.lo (f a), max x.hi (g a)⟩ = r at *
    obtain ⟨⟨h1, h2⟩, h3, ⟨h4, h5⟩, h6⟩ := ih
    dsimp only at h1 h3 h4 h6
    have m1 : r.lo ≤ x.lo ∧ r.lo ≤ f a := by clear h2 h3 h5 h6; omega
    have m2 : x.hi ≤ r.hi ∧ g a ≤ r.hi := by clear h2 h3 h5 h6; omega
    refine ⟨⟨m1.1, fun y hy => ?_⟩, ?_, ⟨m2.1, fun y hy => ?_⟩, ?_⟩
    · rcases List.mem_cons.1 hy with rfl | hy
      · exact m1.2
      · exact h2 y hy
    · rcases h3 with h3 | ⟨y, hy, h3⟩
      · clear h6
        by_cases hm : x.lo ≤ f a
        · exact .inl (by omega)
        · exact .inr ⟨a, by simp, by omega⟩
      · exact .inr ⟨y, List.mem_cons_of_mem _ hy, h3⟩
    · rcases List.mem_cons.1 hy with rfl | hy
      · exact m2.2
      · exact h5 y hy
    · rcases h6 with h6 | ⟨y, hy, h6⟩
      · clear h3
        by_cases hm : g a ≤ x.hi
        · exact .inl (by omega)
        · exact .inr ⟨a, by simp, by omega⟩
      · exact .inr ⟨y, List.mem_cons_of_mem _ hy, h6⟩
theorem level_up {men : List Int} {k : Kind} {row : List Int} {d : Nat} {t u : Truth} (h : t.first ≤ u.first) (h1 : t.man = u.man) (h2 : t.ship = u.ship) : levelAt men k row d t ≤ levelAt men k row d u := by
  obtain ⟨a, b, c⟩ := t
  obtain ⟨a', b', c'⟩ := u
  dsimp only at h h1 h2
  subst h1 h2
  exact lvl_up h d
theorem shortF_up {men : List Int} {k : Kind} {row : List Int} {t u : Truth} (h : t.first ≤ u.first) (h1 : t.man = u.man) (h2 : t.ship = u.ship) : shortF men k row t ≤ shortF men k row u := by
  obtain ⟨a, b, c⟩ := t
  obtain ⟨a', b', c'⟩ := u
  dsimp only at h h1 h2
  subst h1 h2
  exact short_up h _ _
theorem nil_iff {men : List Int} {k : Kind} {row : List Int} {l : List Count} {i : Nat} : truthsL men k row (cntsOf l i) = [] ↔ allOf men k row l i = [] := by
  constructor
  · intro h
    apply List.eq_nil_iff_forall_not_mem.2
    intro t ht
    obtain ⟨y, hy, _⟩ := all_pair ht
    rw [h] at hy; cases hy
  · intro h
    apply List.eq_nil_iff_forall_not_mem.2
    intro y hy
    have := (pair_all hy).1
    rw [h] at this; cases this
theorem level_eq {s : Stores} {k : Kind} {row : List Int} {l : List Count} {i : Nat} (h : HoldOk s k row (cntsOf l i)) {d : Nat} (hd : d ≤ s.men.length) :
    levelV (lvRange (levelAt s.men k row d) (truthsL s.men k row (cntsOf l i))) = .tp [.ag (eSpan (lvRef (levelAt s.men k row d) (allOf s.men k row l i))), I64 (if allOf s.men k row l i = [] then 9 else 0)] := by
  have hb : ∀ y ∈ truthsL s.men k row (cntsOf l i), (0 ≤ levelAt s.men k row d y.1 ∧ levelAt s.men k row d y.1 ≤ 300) ∧ (0 ≤ levelAt s.men k row d y.2 ∧ levelAt s.men k row d y.2 ≤ 300) := by
    intro y hy
    have := (truthsL_run h hy).1
    unfold levelAt
    rw [lvl_at hd, lvl_at hd]
    exact ⟨this.1.haveB _ d hd, this.2.haveB _ d hd⟩
  by_cases he : allOf s.men k row l i = []
  · rw [nil_iff.2 he, if_pos he, he]
    rfl
  · rw [if_neg he]
    have he' : truthsL s.men k row (cntsOf l i) ≠ [] := fun e => he (nil_iff.1 e)
    obtain ⟨y0, hy0⟩ := List.exists_mem_of_ne_nil _ he'
    obtain ⟨⟨_, a2⟩, a3, ⟨_, a5⟩, a6⟩ := fold_span (fun y : Truth × Truth => levelAt s.men k row d y.1) (fun y => levelAt s.men k row d y.2) (truthsL s.men k row (cntsOf l i)) ⟨601, -1⟩
    have b0 := hb y0 hy0
    have c1 := a2 y0 hy0
    have c2 := a5 y0 hy0
    have hr : lvRange (levelAt s.men k row d) (truthsL s.men k row (cntsOf l i)) = lvRef (levelAt s.men k row d) (allOf s.men k row l i) := by
      have hL : ∃ t0 L1, allOf s.men k row l i = t0 :: L1 := by
        cases hh : allOf s.men k row l i with
        | nil => exact absurd hh he
        | cons a b => exact ⟨a, b, rfl⟩
      obtain ⟨t0, L1, hL⟩ := hL
      have ht0 : t0 ∈ allOf s.men k row l i := by rw [hL]; simp
      have hR : lvRef (levelAt s.men k row d) (allOf s.men k row l i) = (allOf s.men k row l i).foldl (fun x t => (⟨min x.lo (levelAt s.men k row d t), max x.hi (levelAt s.men k row d t)⟩ : Span)) ⟨levelAt s.men k row d t0, levelAt s.men k row d t0⟩ := by rw [hL]; rfl
      obtain ⟨⟨_, r2⟩, r3, ⟨_, r5⟩, r6⟩ := fold_span (fun t : Truth => levelAt s.men k row d t) (fun t => levelAt s.men k row d t) (allOf s.men k row l i) ⟨levelAt s.men k row d t0, levelAt s.men k row d t0⟩
      rw [← hR] at r2 r3 r5 r6
      have hx : lvRange (levelAt s.men k row d) (truthsL s.men k row (cntsOf l i)) = (truthsL s.men k row (cntsOf l i)).foldl (fun x y => (⟨min x.lo (levelAt s.men k row d y.1), max x.hi (levelAt s.men k row d y.2)⟩ : Span)) ⟨601, -1⟩ := rfl
      rw [← hx] at a2 a3 a5 a6
      dsimp only at a2 a3 a5 a6
      generalize lvRange (levelAt s.men k row d) (truthsL s.men k row (cntsOf l i)) = x at *
      generalize lvRef (levelAt s.men k row d) (allOf s.men k row l i) = z at *
      have e1 : x.lo = z.lo := by
        apply Int.le_antisymm
        · rcases r3 with r3 | ⟨t, ht, r3⟩
          · obtain ⟨y, hy, q1, q2, q3⟩ := all_pair ht0
            have := level_up (men := s.men) (k := k) (row := row) (d := d) q1.1 q2.1 q2.2
            have := a2 y hy
            (try dsimp only at r3)
            omega
          · obtain ⟨y, hy, q1, q2, q3⟩ := all_pair ht
            have := level_up (men := s.men) (k := k) (row := row) (d := d) q1.1 q2.1 q2.2
            have := a2 y hy
            (try dsimp only at r3)
            omega
        · rcases a3 with a3 | ⟨y, hy, a3⟩
          · have := a2 y0 hy0
            omega
          · have := r2 _ (pair_all hy).1
            omega
      have e2 : x.hi = z.hi := by
        apply Int.le_antisymm
        · rcases a6 with a6 | ⟨y, hy, a6⟩
          · have := a5 y0 hy0
            omega
          · have := r5 _ (pair_all hy).2
            omega
        · rcases r6 with r6 | ⟨t, ht, r6⟩
          · obtain ⟨y, hy, q1, q2, q3⟩ := all_pair ht0
            have := level_up (men := s.men) (k := k) (row := row) (d := d) q1.2 q3.1.symm q3.2.symm
            have := a5 y hy
            (try dsimp only at r6)
            omega
          · obtain ⟨y, hy, q1, q2, q3⟩ := all_pair ht
            have := level_up (men := s.men) (k := k) (row := row) (d := d) q1.2 q3.1.symm q3.2.symm
            have := a5 y hy
            (try dsimp only at r6)
            omega
      obtain ⟨x1, x2⟩ := x
      obtain ⟨z1, z2⟩ := z
      dsimp only at e1 e2
      rw [e1, e2]
    rw [← hr]
    unfold levelV
    rw [if_neg]
    intro hlt
    change levelAt s.men k row d y0.2 ≤ (lvRange (levelAt s.men k row d) (truthsL s.men k row (cntsOf l i))).hi at c2
    omega
def Le (sh : Truth → Int) (t u : Truth) : Prop := sh t < sh u ∨ sh t = sh u ∧ (t.first < u.first ∨ t.first = u.first ∧ (t.man < u.man ∨ t.man = u.man ∧ t.ship ≤ u.ship))
theorem div_order {q n P : Nat} (h : q < n) : q / P < n / P ∨ (q / P = n / P ∧ q % P < n % P) := by
  have h1 := Nat.div_le_div_right (c := P) (Nat.le_of_lt h)
  have h2 := Nat.div_add_mod q P
  have h3 := Nat.div_add_mod n P
  by_cases he : q / P = n / P
  · rw [he] at h2
    exact .inr ⟨he, by omega⟩
  · exact .inl (by omega)
theorem use_man {men : List Int} {k : Kind} {row : List Int} {f : List Count} {q : Nat} {y : Truth × Truth} (h : useAt men k row f q = some y) : y.1.man = k.man.lo + (q / spanN k.ship : Nat) ∧ y.1.ship = k.ship.lo + (q % spanN k.ship : Nat) := by
  unfold useAt pairAt at h
  split at h
  · cases h; exact ⟨rfl, rfl⟩
  · cases h
theorem earl_spec (men : List Int) (k : Kind) (row : List Int) (f : List Count) (sh : Truth → Int) (N : Nat) (hN : ∀ t, sh t ≤ N) : ∀ n,
    (pairs men k row f n = [] ∧ earl N sh (pairs men k row f n) = ⟨⟨0, 0, 0⟩, (N : Int) + 1, 9⟩) ∨
    ((earl N sh (pairs men k row f n)).e = 0 ∧ (∃ z ∈ pairs men k row f n, (earl N sh (pairs men k row f n)).t = z.1) ∧ (earl N sh (pairs men k row f n)).day = sh (earl N sh (pairs men k row f n)).t ∧ ∀ z ∈ pairs men k row f n, Le sh (earl N sh (pairs men k row f n)).t z.1)
  | 0 => .inl ⟨rfl, rfl⟩
  | n + 1 => by
    have ih := earl_spec men k row f sh N hN n
    rw [pairs_succ]
    cases hu : useAt men k row f n with
    | none => rw [show (none : Option (Truth × Truth)).toList = [] from rfl, List.append_nil]; exact ih
    | some y =>
      rw [show (some y).toList = [y] from rfl]
      have hst : earl N sh (pairs men k row f n ++ [y]) = earlStep sh (earl N sh (pairs men k row f n)) y := by unfold earl; rw [List.foldl_append]; rfl
      rw [hst]
      have hy := hN y.1
      have hym := use_man hu
      have hord : ∀ z ∈ pairs men k row f n, z.1.man < y.1.man ∨ z.1.man = y.1.man ∧ z.1.ship ≤ y.1.ship := by
        intro z hz
        unfold pairs at hz
        rw [List.mem_filterMap] at hz
        obtain ⟨q, hq, hz⟩ := hz
        rw [List.mem_range] at hq
        have hzm := use_man hz
        have := div_order (P := spanN k.ship) hq
        omega
      generalize pairs men k row f n = L at *
      generalize earl N sh L = x at *
      refine .inr ?_
      rcases ih with ⟨rfl, rfl⟩ | ⟨h1, ⟨z0, hz0, h2⟩, h3, h4⟩
      · unfold earlStep
        rw [if_pos (.inl (by dsimp only; omega))]
        refine ⟨rfl, ⟨y, by simp, rfl⟩, rfl, fun z hz => ?_⟩
        simp only [List.nil_append, List.mem_singleton] at hz
        subst hz
        exact .inr ⟨rfl, .inr ⟨rfl, .inr ⟨rfl, Int.le_refl _⟩⟩⟩
      · unfold earlStep
        by_cases hc : sh y.1 < x.day ∨ sh y.1 = x.day ∧ y.1.first < x.t.first
        · rw [if_pos hc]
          refine ⟨rfl, ⟨y, by simp, rfl⟩, rfl, fun z hz => ?_⟩
          rcases List.mem_append.1 hz with hz | hz
          · have := h4 z hz
            unfold Le at this ⊢
            dsimp only
            omega
          · simp only [List.mem_singleton] at hz
            subst hz
            exact .inr ⟨rfl, .inr ⟨rfl, .inr ⟨rfl, Int.le_refl _⟩⟩⟩
        · rw [if_neg hc]
          refine ⟨h1, ⟨z0, List.mem_append_left _ hz0, h2⟩, h3, fun z hz => ?_⟩
          rcases List.mem_append.1 hz with hz | hz
          · exact h4 z hz
          · simp only [List.mem_singleton] at hz
            subst hz
            have := hord z0 hz0
            rw [← h2] at this
            unfold Le
            omega
end Go.Proofs.Ytmkaeohmdcoanaa
open Go Go.RM
namespace Go.Proofs.Ytmkaeohmdcoanaa
set_option maxRecDepth 100000
set_option maxHeartbeats 4000000
theorem pr_bind {P : Program} {α β : Type} (m : Sem α) (f : α → Sem β) : pureRun P (m >>= f) = (pureRun P m).bind fun a => pureRun P (f a) := by
  show pureRun P (Sem.bind m f) = _
  induction m with
  | pure a => rfl
  | program k ih => exact ih P
  | mark _ k ih => exact ih
  | _ => rfl
theorem pr_pure {P : Program} {α : Type} (a : α) : pureRun P (pure a : Sem α) = some a := rfl
def vI (n : Int) : Value := .int .i64 n
end Go.Proofs.Ytmkaeohmdcoanaa
open Go Go.RM
namespace Go.Proofs.Ytmkaeohmdcoanaa
set_option maxRecDepth 100000
set_option maxHeartbeats 4000000
end Go.Proofs.Ytmkaeohmdcoanaa
open Go Go.RM
namespace Go.Proofs.Ytmkaeohmdcoanaa
set_option maxRecDepth 100000
set_option maxHeartbeats 4000000
end Go.Proofs.Ytmkaeohmdcoanaa
open Go Go.RM
namespace Go.Proofs.Ytmkaeohmdcoanaa
set_option maxRecDepth 100000
set_option maxHeartbeats 4000000
end Go.Proofs.Ytmkaeohmdcoanaa
open Go Go.RM
namespace Go.Proofs.Ytmkaeohmdcoanaa
set_option maxRecDepth 100000
set_option maxHeartbeats 4000000
theorem RowOk.more {row : List Int} (h : RowOk 8 row) {d : Nat} (hd : d < 30) {n : Int} (hn : 0 ≤ n ∧ n ≤ 300) : RowOk 9 (row.set d (row.getD d 0 + n)) := by
  have hg := h.get hd
  refine ⟨by rw [List.length_set]; exact h.len, fun x hx => ?_⟩
  rcases List.mem_or_eq_of_mem_set hx with hx | rfl
  · have := h.bnd x hx; omega
  · omega
theorem RunOk.more {men : List Int} {k : Kind} {row : List Int} {t : Truth} (h : RunOk men k row t) (hr : RowOk 8 row) {d : Nat} (hd : d < 30) {n : Int} (hn : 0 ≤ n ∧ n ≤ 300) : RunOk men k (row.set d (row.getD d 0 + n)) t :=
  ⟨h.men30, h.men, hr.more hd hn, h.room, h.ration, h.first, h.man, h.ship⟩
end Go.Proofs.Ytmkaeohmdcoanaa
open Go Go.RM
namespace Go.Proofs.Ytmkaeohmdcoanaa
set_option maxRecDepth 100000
set_option maxHeartbeats 4000000
end Go.Proofs.Ytmkaeohmdcoanaa
open Go Go.RM
namespace Go.Proofs.Ytmkaeohmdcoanaa
set_option maxRecDepth 100000
/-- The least amount, and none below. -/
structure IsLeast (p : Nat → Bool) (n r : Nat) : Prop where
  le : r ≤ n
  below : ∀ a, a < r → p a = false
  here : r < n → p r = true
end Go.Proofs.Ytmkaeohmdcoanaa
open Go Go.RM
namespace Go.Proofs.Ytmkaeohmdcoanaa
set_option maxRecDepth 100000
set_option maxHeartbeats 4000000
def other (t o : Truth) : Bool := !decide (o.man = t.man) || !decide (o.ship = t.ship)
end Go.Proofs.Ytmkaeohmdcoanaa
open Go Go.RM
namespace Go.Proofs.Ytmkaeohmdcoanaa
set_option maxRecDepth 100000
set_option maxHeartbeats 4000000
end Go.Proofs.Ytmkaeohmdcoanaa
open Go Go.RM
namespace Go.Proofs.Ytmkaeohmdcoanaa
set_option maxRecDepth 100000
theorem truthOk_iff {k : Kind} {t : Truth} : truthOk k t = true ↔ (k.first.lo ≤ t.first ∧ t.first ≤ k.first.hi) ∧ (k.man.lo ≤ t.man ∧ t.man ≤ k.man.hi) ∧ k.ship.lo ≤ t.ship ∧ t.ship ≤ k.ship.hi := by
  unfold truthOk
  simp only [Bool.and_eq_true, inB_iff]
theorem all_iff {men : List Int} {k : Kind} {row : List Int} {l : List Count} {i : Nat} {t : Truth} : t ∈ allOf men k row l i ↔ (truthOk k t = true ∧ agr men k row l i t = true) := by
  unfold allOf pastN
  rw [List.mem_filter, List.mem_map]
  constructor
  · rintro ⟨⟨q, hq, rfl⟩, ha⟩
    rw [List.mem_range] at hq
    refine ⟨?_, ha⟩
    have hP : 0 < spanN k.ship := by
      apply Nat.pos_of_ne_zero
      intro h0
      rw [h0, Nat.mul_zero] at hq
      exact absurd hq (Nat.not_lt_zero _)
    have hM : 0 < spanN k.man := by
      apply Nat.pos_of_ne_zero
      intro h0
      rw [h0, Nat.mul_zero, Nat.zero_mul] at hq
      exact absurd hq (Nat.not_lt_zero _)
    have h1 : q / spanN k.ship % spanN k.man < spanN k.man := Nat.mod_lt _ hM
    have h2 : q % spanN k.ship < spanN k.ship := Nat.mod_lt _ hP
    have h3 : q / spanN k.ship / spanN k.man < spanN k.first := by
      rw [Nat.div_lt_iff_lt_mul hM, Nat.div_lt_iff_lt_mul hP]
      exact hq
    rw [truthOk_iff]
    unfold truthQ
    dsimp only
    generalize q / spanN k.ship % spanN k.man = x at *
    generalize q % spanN k.ship = y at *
    generalize q / spanN k.ship / spanN k.man = z at *
    clear hq hP hM ha
    unfold spanN at *
    omega
  · rintro ⟨ht, ha⟩
    refine ⟨?_, ha⟩
    rw [truthOk_iff] at ht
    obtain ⟨a, b, c⟩ := t
    dsimp only at ht
    obtain ⟨x, rfl⟩ : ∃ x : Nat, a = k.first.lo + x := ⟨(a - k.first.lo).toNat, by omega⟩
    obtain ⟨y, rfl⟩ : ∃ x : Nat, b = k.man.lo + x := ⟨(b - k.man.lo).toNat, by omega⟩
    obtain ⟨z, rfl⟩ : ∃ x : Nat, c = k.ship.lo + x := ⟨(c - k.ship.lo).toNat, by omega⟩
    have hx : x < spanN k.first := by unfold spanN; omega
    have hy : y < spanN k.man := by unfold spanN; omega
    have hz : z < spanN k.ship := by unfold spanN; omega
    refine ⟨(x * spanN k.man + y) * spanN k.ship + z, ?_, truthQ_at k hy hz⟩
    rw [List.mem_range]
    have q1 : (x + 1) * spanN k.man ≤ spanN k.first * spanN k.man := Nat.mul_le_mul_right _ hx
    rw [Nat.add_mul, Nat.one_mul] at q1
    have q2 : (x * spanN k.man + y + 1) * spanN k.ship ≤ spanN k.first * spanN k.man * spanN k.ship := Nat.mul_le_mul_right _ (by omega)
    rw [Nat.add_mul, Nat.one_mul] at q2
    omega
theorem short_bnd (men : List Int) (k : Kind) (row : List Int) (t : Truth) : 0 ≤ shortF men k row t ∧ shortF men k row t ≤ men.length := by
  rcases shortAt_or men k row t men.length men.length with h | h
  · unfold shortF
    rw [h]
    omega
  · unfold shortF
    omega
/-- The earliest way, of all. -/
theorem earl_facts {s : Stores} {k : Kind} {row : List Int} {l : List Count} {i : Nat} :
    (allOf s.men k row l i = [] ∧ (earl s.men.length (shortF s.men k row) (truthsL s.men k row (cntsOf l i))).e = 9) ∨
    (∃ t n, (earl s.men.length (shortF s.men k row) (truthsL s.men k row (cntsOf l i))) = ⟨t, n, 0⟩ ∧ t ∈ allOf s.men k row l i ∧ n = shortF s.men k row t ∧ ∀ u ∈ allOf s.men k row l i, n ≤ shortF s.men k row u) := by
  have hs := earl_spec s.men k row (cntsOf l i) (shortF s.men k row) s.men.length (fun t => (short_bnd _ _ _ t).2) (spanN k.man * spanN k.ship)
  change (truthsL s.men k row (cntsOf l i) = [] ∧ earl s.men.length (shortF s.men k row) (truthsL s.men k row (cntsOf l i)) = _) ∨ _ at hs
  rcases hs with ⟨h1, h2⟩ | ⟨h1, ⟨z, hz, h2⟩, h3, h4⟩
  · exact .inl ⟨nil_iff.1 h1, by rw [h2]⟩
  · refine .inr ⟨z.1, shortF s.men k row z.1, ?_, (pair_all hz).1, rfl, fun u hu => ?_⟩
    · change (earl s.men.length (shortF s.men k row) (truthsL s.men k row (cntsOf l i))).e = 0 at h1
      change (earl s.men.length (shortF s.men k row) (truthsL s.men k row (cntsOf l i))).t = z.1 at h2
      change (earl s.men.length (shortF s.men k row) (truthsL s.men k row (cntsOf l i))).day = shortF s.men k row (earl s.men.length (shortF s.men k row) (truthsL s.men k row (cntsOf l i))).t at h3
      rw [h2] at h3
      generalize earl s.men.length (shortF s.men k row) (truthsL s.men k row (cntsOf l i)) = e at *
      obtain ⟨a, b, c⟩ := e
      dsimp only at h1 h2 h3
      rw [h1, h2, h3]
    · obtain ⟨y, hy, ⟨y1, _⟩, ⟨y2, y3⟩, _⟩ := all_pair hu
      have h5 := h4 y hy
      change Le (shortF s.men k row) (earl s.men.length (shortF s.men k row) (truthsL s.men k row (cntsOf l i))).t y.1 at h5
      change (earl s.men.length (shortF s.men k row) (truthsL s.men k row (cntsOf l i))).t = z.1 at h2
      rw [h2] at h5
      have h6 : shortF s.men k row y.1 ≤ shortF s.men k row u := shortF_up y1 y2 y3
      unfold Le at h5
      omega
end Go.Proofs.Ytmkaeohmdcoanaa
open Go Go.RM
namespace Go.Proofs.Ytmkaeohmdcoanaa
set_option maxRecDepth 100000
set_option maxHeartbeats 4000000
end Go.Proofs.Ytmkaeohmdcoanaa
open Go Go.RM
namespace Go.Proofs.Ytmkaeohmdcoanaa
set_option maxRecDepth 100000
set_option maxHeartbeats 4000000
end Go.Proofs.Ytmkaeohmdcoanaa
open Go Go.RM
namespace Go.Proofs.Ytmkaeohmdcoanaa
set_option maxRecDepth 100000
set_option maxHeartbeats 4000000
theorem truthAny {k : Kind} (h : KindGood k) (a b c : Int) : truthOk k (anyT k a b c) = true := by
  have hs := h.spans
  have h1 := amongI_in hs.1 a
  have h2 := amongI_in hs.2.1 b
  have h3 := amongI_in hs.2.2 c
  unfold truthOk anyT
  simp only [Bool.and_eq_true, inB_iff]
  exact ⟨h1, h2, h3⟩
theorem modN {a : Int} {n : Nat} (hn : 0 < n) : ∃ i : Nat, i < n ∧ a % (n : Int) = i := by
  have h1 := Int.emod_nonneg a (show (n : Int) ≠ 0 by omega)
  have h2 := Int.emod_lt_of_pos a (show 0 < (n : Int) by omega)
  exact ⟨(a % (n : Int)).toNat, by omega, by omega⟩
theorem follow_l (one : Bool) {s : Stores} (hg : Good s) {i : Nat} (hi : i < s.kinds.length) {t : Truth} (h : RunOk s.men s.kinds[i] (cargoRow i s.cargos) t) :
    ∃ u b : Int, Pu one 42 [.ag (eStores s), I64 i, .ag (eTruth t), I64 s.men.length] (.tp [.sl ((lvl s.men s.kinds[i] (cargoRow i s.cargos) t).map eI) false, I64 (shortF s.men s.kinds[i] (cargoRow i s.cargos) t), I64 u, I64 b]) := by
  have := follow_c one s hg i hi t s.men.length h
  rw [show ((List.range (s.men.length + 1)).map fun j => eI (haveAt s.men s.kinds[i] (cargoRow i s.cargos) t s.men.length j)) = (lvl s.men s.kinds[i] (cargoRow i s.cargos) t).map eI by unfold lvl; rw [List.map_map]; rfl] at this
  exact ⟨_, _, this⟩
end Go.Proofs.Ytmkaeohmdcoanaa
open Go Go.RM
namespace Go.Proofs.Ytmkaeohmdcoanaa
set_option maxRecDepth 100000
set_option maxHeartbeats 4000000
end Go.Proofs.Ytmkaeohmdcoanaa
open Go Go.RM
namespace Go.Proofs.Ytmkaeohmdcoanaa
set_option maxRecDepth 100000
set_option maxHeartbeats 4000000
end Go.Proofs.Ytmkaeohmdcoanaa
open Go Go.RM
namespace Go.Proofs.Ytmkaeohmdcoanaa
set_option maxRecDepth 100000
set_option maxHeartbeats 4000000
end Go.Proofs.Ytmkaeohmdcoanaa
open Go Go.RM
namespace Go.Proofs.Ytmkaeohmdcoanaa
set_option maxRecDepth 100000
set_option maxHeartbeats 4000000
end Go.Proofs.Ytmkaeohmdcoanaa
open Go Go.RM
namespace Go.Proofs.Ytmkaeohmdcoanaa
set_option maxRecDepth 100000
set_option maxHeartbeats 4000000
def cmpI (a b : Int) : Int := if a < b then -1 else if b < a then 1 else 0
theorem isNaN_c (one : Bool) (a : Int) : Pu one 131 [I64 a] (BB false) := by
  have d1 : (!decide (a = a)) = false := by simp
  refine PureV.body (fn := Try.f131) rfl rfl rfl rfl ?_
  refine wpC_sound (mu := fun _ => false) ?_
  repeat' (first |with_reducible (first|refine RM.c2 ?_|refine RM.c4 ?_|refine RM.c7 ?_|refine RM.c9 ?_|refine RM.o1 ?_|refine RM.o2 ?_|refine RM.o4 ?_|refine RM.o5 ?_|refine RM.p2 ?_|refine RM.p3 ?_|refine RM.p5 ?_) |((with_reducible show force _ _);refine RM.f1 rfl ?_) |((with_reducible show wpOne _ _ _ _ _ _ _ _ _ _ _ _);refine RM.o8 rfl ?_) |((with_reducible show wpBin _ _ _ _ _ _ _ _ _);refine RM.b5 rfl rfl ?_) |fail)
  exact ⟨[_], ⟨Fz.deep rfl, trivial⟩, bbc d1⟩
theorem cmp_c (one : Bool) (a b : Int) : Pu one 118 [I64 a, I64 b] (I64 (cmpI a b)) := by
  have ha := isNaN_c one a
  have hb := isNaN_c one b
  unfold cmpI
  by_cases h1 : a < b
  · have d1 := decide_eq_true h1
    rw [if_pos h1]
    refine PureV.body (fn := Try.f118) rfl rfl rfl rfl ?_
    refine wpC_sound (mu := fun _ => false) ?_
    repeat' (first |with_reducible (first|refine RM.c1 ?_|refine RM.c2 ?_|refine RM.c4 ?_|refine RM.c7 ?_|refine RM.c9 ?_|refine RM.d1 ?_|refine RM.o1 ?_|refine RM.o2 ?_|refine RM.o4 ?_|refine RM.o5 ?_|refine RM.o7 ?_|refine RM.o9 ?_|refine RM.p1 ?_|refine RM.p2 ?_|refine RM.p3 ?_|refine RM.p5 ?_) |((with_reducible show force _ _);first|refine RM.f1 rfl ?_|refine RM.f4 rfl ?_) |((with_reducible show wpOne _ _ _ _ _ _ _ _ _ _ _ _);refine RM.o8 rfl ?_) |((with_reducible show wpC _ _ _ _ (.cond _ _ _) _ _);first|refine RM.e3 rfl rfl ?_|refine RM.e2 rfl (by assumption) ?_) |((with_reducible show wpBin _ _ _ _ _ _ _ _ _);refine RM.b6 rfl rfl ?_) |(refine PureV.call ha rfl rfl ?_) |(refine PureV.call hb rfl rfl ?_) |fail)
    exact ⟨[_], ⟨Fz.deep rfl, trivial⟩, rfl⟩
  · have d1 := decide_eq_false h1
    rw [if_neg h1]
    by_cases h2 : b < a
    · have d2 := decide_eq_true h2
      rw [if_pos h2]
      refine PureV.body (fn := Try.f118) rfl rfl rfl rfl ?_
      refine wpC_sound (mu := fun _ => false) ?_
      repeat' (first |with_reducible (first|refine RM.c1 ?_|refine RM.c2 ?_|refine RM.c4 ?_|refine RM.c7 ?_|refine RM.c9 ?_|refine RM.d1 ?_|refine RM.o1 ?_|refine RM.o2 ?_|refine RM.o4 ?_|refine RM.o5 ?_|refine RM.o7 ?_|refine RM.o9 ?_|refine RM.p1 ?_|refine RM.p2 ?_|refine RM.p3 ?_|refine RM.p5 ?_) |((with_reducible show force _ _);first|refine RM.f1 rfl ?_|refine RM.f4 rfl ?_) |((with_reducible show wpOne _ _ _ _ _ _ _ _ _ _ _ _);refine RM.o8 rfl ?_) |((with_reducible show wpC _ _ _ _ (.cond _ _ _) _ _);first|refine RM.e3 rfl rfl ?_|refine RM.e2 rfl (by assumption) ?_|refine RM.e3 rfl (by assumption) ?_) |((with_reducible show wpBin _ _ _ _ _ _ _ _ _);first|refine RM.b6 rfl rfl ?_|refine RM.b8 rfl rfl ?_) |(refine PureV.call ha rfl rfl ?_) |(refine PureV.call hb rfl rfl ?_) |fail)
      exact ⟨[_], ⟨Fz.deep rfl, trivial⟩, rfl⟩
    · have d2 := decide_eq_false h2
      rw [if_neg h2]
      refine PureV.body (fn := Try.f118) rfl rfl rfl rfl ?_
      refine wpC_sound (mu := fun _ => false) ?_
      repeat' (first |with_reducible (first|refine RM.c1 ?_|refine RM.c2 ?_|refine RM.c4 ?_|refine RM.c7 ?_|refine RM.c9 ?_|refine RM.o1 ?_|refine RM.o2 ?_|refine RM.o4 ?_|refine RM.o5 ?_|refine RM.o7 ?_|refine RM.o9 ?_|refine RM.p1 ?_|refine RM.p2 ?_|refine RM.p3 ?_|refine RM.p5 ?_) |((with_reducible show force _ _);first|refine RM.f1 rfl ?_|refine RM.f4 rfl ?_) |((with_reducible show wpOne _ _ _ _ _ _ _ _ _ _ _ _);refine RM.o8 rfl ?_) |((with_reducible show wpC _ _ _ _ (.cond _ _ _) _ _);first|refine RM.e3 rfl rfl ?_|refine RM.e3 rfl (by assumption) ?_) |((with_reducible show wpBin _ _ _ _ _ _ _ _ _);first|refine RM.b6 rfl rfl ?_|refine RM.b8 rfl rfl ?_) |(refine PureV.call ha rfl rfl ?_) |(refine PureV.call hb rfl rfl ?_) |fail)
      exact ⟨[_], ⟨Fz.deep rfl, trivial⟩, rfl⟩
theorem less_c (one : Bool) (a b : Int) : Pu one 125 [I64 a, I64 b] (BB (decide (a < b))) := by
  have ha := isNaN_c one a
  have hb := isNaN_c one b
  refine PureV.body (fn := Try.f125) rfl rfl rfl rfl ?_
  refine wpC_sound (mu := fun _ => false) ?_
  repeat' (first |with_reducible (first|refine RM.c2 ?_|refine RM.c4 ?_|refine RM.c7 ?_|refine RM.c9 ?_|refine RM.o1 ?_|refine RM.o2 ?_|refine RM.o4 ?_|refine RM.o5 ?_|refine RM.o7 ?_|refine RM.o9 ?_|refine RM.p1 ?_|refine RM.p2 ?_|refine RM.p3 ?_|refine RM.p4 ?_|refine RM.p5 ?_) |((with_reducible show force _ _);first|refine RM.f1 rfl ?_|refine RM.f4 rfl ?_) |((with_reducible show wpOne _ _ _ _ _ _ _ _ _ _ _ _);refine RM.o8 rfl ?_) |((with_reducible show wpGuard _ _ _ _ _);first|refine wpGuard_yes rfl rfl rfl ?_|refine wpGuard_no rfl rfl rfl ?_) |((with_reducible show wpPick _ _ _ _ _);refine RM.k1 rfl ?_) |((with_reducible show wpPickB _ _ _ _ _);refine RM.k3 rfl ?_) |((with_reducible show wpBin _ _ _ _ _ _ _ _ _);refine RM.b6 rfl rfl ?_) |(refine PureV.call ha rfl rfl ?_) |fail)
  exact ⟨[_], ⟨Fz.deep rfl, trivial⟩, rfl⟩
def cmpL : List Int → List Int → Int
  | [], [] => 0
  | [], _ :: _ => -1
  | _ :: _, [] => 1
  | a :: l, b :: m => if cmpI a b = 0 then cmpL l m else cmpI a b
theorem cmpL_cc (a b : Int) (l m : List Int) : cmpL (a :: l) (b :: m) = if cmpI a b = 0 then cmpL l m else cmpI a b := by rw [cmpL]
theorem cmpL_cn (a : Int) (l : List Int) : cmpL (a :: l) [] = 1 := by rw [cmpL]
theorem cmpL_nc (b : Int) (m : List Int) : cmpL [] (b :: m) = -1 := by rw [cmpL]
theorem cmpL_nn : cmpL [] [] = 0 := by rw [cmpL]
theorem compare_c (one : Bool) (a b : List Int) (f g : Bool) (ha : a.length ≤ 1000) (hb : b.length ≤ 1000) : Pu one 109 [.sl (a.map eI) f, .sl (b.map eI) g] (I64 (cmpL a b)) := by
  have ea : ((a.map eI).length : Int) = a.length := by simp
  have eb : ((b.map eI).length : Int) = b.length := by simp
  refine PureV.body (fn := Try.f109) rfl rfl rfl rfl ?_
  refine wpC_sound (mu := fun _ => false) ?_
  repeat' (first |with_reducible (first|refine RM.c2 ?_|refine RM.c3 ?_|refine RM.c4 ?_|refine RM.c9 ?_|refine RM.o1 ?_|refine RM.o2 ?_|refine RM.o4 ?_|refine RM.o5 ?_|refine RM.p2 ?_|refine RM.p3 ?_|refine RM.p6 ?_) |((with_reducible show force _ _);first|refine RM.f1 rfl ?_|refine RM.f2 rfl ?_) |((with_reducible show wpOne _ _ _ _ _ _ _ _ _ _ _ _);refine RM.o8 rfl ?_) |((with_reducible show wpLen _ _ _ _ _);refine RM.l1 rfl ?_) |fail)
  refine SemC.weaker (Weaker.to (l := [(0, .sl (a.map eI) f), (1, .sl (b.map eI) g), (9, .sl (a.map eI) f), (10, I64 ((a.map eI).length : Int)), (11, I64 (0 : Nat))]) (hp := []) 0 rfl ⟨rfl, rfl, rfl, rfl, rfl, trivial⟩ (Nat.zero_le _) rfl rfl) ?_
  refine SemC.loop (fun j : Nat => (j ≤ a.length ∧ j ≤ b.length) ∧ cmpL a b = cmpL (a.drop j) (b.drop j)) (fun j => ⟨mkFr [(0, .sl (a.map eI) f), (1, .sl (b.map eI) g), (9, .sl (a.map eI) f), (10, I64 ((a.map eI).length : Int)), (11, I64 (j : Nat))], [], Amb.none, false, 0⟩) (fun j => a.length - j) ?_ 0 ⟨⟨Nat.zero_le _, Nat.zero_le _⟩, rfl⟩
  rintro j ⟨⟨hj, hjb⟩, hcm⟩
  refine wpC_sound (mu := fun _ => false) ?_
  repeat' (first |with_reducible (first|refine RM.c2 ?_|refine RM.c4 ?_|refine RM.c9 ?_|refine RM.o1 ?_|refine RM.o2 ?_|refine RM.o4 ?_|refine RM.o5 ?_|refine RM.p5 ?_) |((with_reducible show force _ _);refine RM.f1 rfl ?_) |((with_reducible show wpOne _ _ _ _ _ _ _ _ _ _ _ _);refine RM.o8 rfl ?_) |((with_reducible show wpBin _ _ _ _ _ _ _ _ _);refine RM.b6 rfl rfl ?_) |fail)
  refine RM.e1 rfl ⟨fun hc => ?_, fun hc => ?_⟩
  · have hlt : j < a.length := by simpa only [ea, decide_eq_true_eq, Int.ofNat_lt] using hc
    have hda := List.drop_eq_getElem_cons hlt
    by_cases hl2 : j < b.length
    · have d1 : decide (((b.map eI).length : Int) ≤ (j : Int)) = false := decide_eq_false (by omega)
      have hdb := List.drop_eq_getElem_cons hl2
      have hcc := cmp_c one a[j] b[j]
      rw [hda, hdb, cmpL_cc] at hcm
      by_cases h0 : cmpI a[j] b[j] = 0
      · have d2 : (!decide (cmpI a[j] b[j] = 0)) = false := by simpa using h0
        rw [if_pos h0] at hcm
        repeat' (first |with_reducible (first|refine RM.c1 ?_|refine RM.c2 ?_|refine RM.c3 ?_|refine RM.c4 ?_|refine RM.c9 ?_|refine RM.d3 ?_|refine RM.o1 ?_|refine RM.o2 ?_|refine RM.o4 ?_|refine RM.o5 ?_|refine RM.o7 ?_|refine RM.o9 ?_|refine RM.p1 ?_|refine RM.p2 ?_|refine RM.p3 ?_|refine RM.p5 ?_|refine RM.p6 ?_) |((with_reducible show force _ _);first|refine RM.f1 rfl ?_|refine RM.f2 rfl ?_|refine RM.f3 rfl ?_|refine RM.f4 rfl ?_) |((with_reducible show wpOne _ _ _ _ _ _ _ _ _ _ _ _);refine RM.o8 rfl ?_) |((with_reducible show wpC _ _ _ _ (.cond _ _ _) _ _);refine RM.e3 rfl (by assumption) ?_) |((with_reducible show wpBin _ _ _ _ _ _ _ _ _);first|refine RM.b5 rfl rfl ?_|refine RM.b9 rfl rfl ?_|refine RM.b1 rfl rfl (by omega) ?_) |((with_reducible show wpLen _ _ _ _ _);refine RM.l1 rfl ?_) |(refine ⟨_, rfl, ?_⟩) |(refine ⟨eI a[j], ⟨by omega, map_at hlt⟩, rfl, ?_⟩) |(refine ⟨eI b[j], ⟨by omega, map_at hl2⟩, rfl, ?_⟩) |(refine PureV.call hcc rfl rfl ?_) |fail)
        exact ⟨j + 1, ⟨⟨hlt, hl2⟩, hcm⟩, (by dsimp only; omega), Weaker.to 0 rfl ⟨rfl, rfl, rfl, rfl, i64c (by simp), trivial⟩ (Nat.zero_le _) rfl rfl⟩
      · have d2 : (!decide (cmpI a[j] b[j] = 0)) = true := by simpa using h0
        rw [if_neg h0] at hcm
        rw [hcm]
        repeat' (first |with_reducible (first|refine RM.c1 ?_|refine RM.c2 ?_|refine RM.c3 ?_|refine RM.c4 ?_|refine RM.c7 ?_|refine RM.c9 ?_|refine RM.d1 ?_|refine RM.d4 ?_|refine RM.o1 ?_|refine RM.o2 ?_|refine RM.o4 ?_|refine RM.o5 ?_|refine RM.o7 ?_|refine RM.o9 ?_|refine RM.p1 ?_|refine RM.p2 ?_|refine RM.p3 ?_|refine RM.p5 ?_|refine RM.p6 ?_|refine RM.q1 ?_) |((with_reducible show force _ _);first|refine RM.f1 rfl ?_|refine RM.f2 rfl ?_|refine RM.f3 rfl ?_|refine RM.f4 rfl ?_) |((with_reducible show wpOne _ _ _ _ _ _ _ _ _ _ _ _);refine RM.o8 rfl ?_) |((with_reducible show wpC _ _ _ _ (.cond _ _ _) _ _);first|refine RM.e2 rfl (by assumption) ?_|refine RM.e3 rfl (by assumption) ?_) |((with_reducible show wpBin _ _ _ _ _ _ _ _ _);first|refine RM.b5 rfl rfl ?_|refine RM.b9 rfl rfl ?_) |((with_reducible show wpLen _ _ _ _ _);refine RM.l1 rfl ?_) |(refine ⟨_, rfl, ?_⟩) |(refine ⟨eI a[j], ⟨by omega, map_at hlt⟩, rfl, ?_⟩) |(refine ⟨eI b[j], ⟨by omega, map_at hl2⟩, rfl, ?_⟩) |(refine PureV.call hcc rfl rfl ?_) |fail)
        exact ⟨[_], ⟨Fz.deep rfl, trivial⟩, rfl⟩
    · have d1 : decide (((b.map eI).length : Int) ≤ (j : Int)) = true := decide_eq_true (by omega)
      rw [hda, List.drop_eq_nil_of_le (by omega : b.length ≤ j), cmpL_cn] at hcm
      rw [hcm]
      repeat' (first |with_reducible (first|refine RM.c1 ?_|refine RM.c2 ?_|refine RM.c3 ?_|refine RM.c4 ?_|refine RM.c7 ?_|refine RM.c9 ?_|refine RM.d1 ?_|refine RM.d4 ?_|refine RM.o1 ?_|refine RM.o2 ?_|refine RM.o4 ?_|refine RM.o5 ?_|refine RM.p2 ?_|refine RM.p3 ?_|refine RM.p5 ?_|refine RM.p6 ?_|refine RM.q1 ?_) |((with_reducible show force _ _);first|refine RM.f1 rfl ?_|refine RM.f2 rfl ?_|refine RM.f3 rfl ?_) |((with_reducible show wpOne _ _ _ _ _ _ _ _ _ _ _ _);refine RM.o8 rfl ?_) |((with_reducible show wpC _ _ _ _ (.cond _ _ _) _ _);refine RM.e2 rfl (by assumption) ?_) |((with_reducible show wpBin _ _ _ _ _ _ _ _ _);refine RM.b9 rfl rfl ?_) |((with_reducible show wpLen _ _ _ _ _);refine RM.l1 rfl ?_) |(refine ⟨_, rfl, ?_⟩) |(refine ⟨eI a[j], ⟨by omega, map_at hlt⟩, rfl, ?_⟩) |fail)
      exact ⟨[_], ⟨Fz.deep rfl, trivial⟩, rfl⟩
  · have hjl : j = a.length := by rw [ea, decide_eq_false_iff_not] at hc; omega
    subst hjl
    rw [List.drop_length] at hcm
    by_cases hl2 : a.length < b.length
    · have d1 : decide (((a.map eI).length : Int) < ((b.map eI).length : Int)) = true := decide_eq_true (by omega)
      rw [List.drop_eq_getElem_cons hl2, cmpL_nc] at hcm
      rw [hcm]
      repeat' (first |with_reducible (first|refine RM.c2 ?_|refine RM.c4 ?_|refine RM.c6 ?_|refine RM.c7 ?_|refine RM.c9 ?_|refine RM.d1 ?_|refine RM.d2 ?_|refine RM.o1 ?_|refine RM.o2 ?_|refine RM.o4 ?_|refine RM.o5 ?_|refine RM.p2 ?_|refine RM.p3 ?_|refine RM.p5 ?_|refine RM.p6 ?_|refine RM.q2 ?_) |((with_reducible show force _ _);first|refine RM.f1 rfl ?_|refine RM.f2 rfl ?_) |((with_reducible show wpOne _ _ _ _ _ _ _ _ _ _ _ _);refine RM.o8 rfl ?_) |((with_reducible show wpC _ _ _ _ (.cond _ _ _) _ _);refine RM.e2 rfl (by assumption) ?_) |((with_reducible show wpBin _ _ _ _ _ _ _ _ _);refine RM.b6 rfl rfl ?_) |((with_reducible show wpLen _ _ _ _ _);refine RM.l1 rfl ?_) |((with_reducible show blockK _ _ _ _);refine RM.d5 rfl ?_) |fail)
      exact ⟨[_], ⟨Fz.deep rfl, trivial⟩, rfl⟩
    · have d1 : decide (((a.map eI).length : Int) < ((b.map eI).length : Int)) = false := decide_eq_false (by omega)
      rw [List.drop_eq_nil_of_le (by omega : b.length ≤ a.length), cmpL_nn] at hcm
      rw [hcm]
      repeat' (first |with_reducible (first|refine RM.c1 ?_|refine RM.c2 ?_|refine RM.c4 ?_|refine RM.c6 ?_|refine RM.c7 ?_|refine RM.c9 ?_|refine RM.d2 ?_|refine RM.o1 ?_|refine RM.o2 ?_|refine RM.o4 ?_|refine RM.o5 ?_|refine RM.p2 ?_|refine RM.p3 ?_|refine RM.p5 ?_|refine RM.p6 ?_|refine RM.q2 ?_) |((with_reducible show force _ _);first|refine RM.f1 rfl ?_|refine RM.f2 rfl ?_) |((with_reducible show wpOne _ _ _ _ _ _ _ _ _ _ _ _);refine RM.o8 rfl ?_) |((with_reducible show wpC _ _ _ _ (.cond _ _ _) _ _);refine RM.e3 rfl (by assumption) ?_) |((with_reducible show wpBin _ _ _ _ _ _ _ _ _);refine RM.b6 rfl rfl ?_) |((with_reducible show wpLen _ _ _ _ _);refine RM.l1 rfl ?_) |((with_reducible show blockK _ _ _ _);refine RM.d5 rfl ?_) |fail)
      exact ⟨[_], ⟨Fz.deep rfl, trivial⟩, rfl⟩
end Go.Proofs.Ytmkaeohmdcoanaa
open Go Go.RM
namespace Go.Proofs.Ytmkaeohmdcoanaa
set_option maxRecDepth 100000
set_option maxHeartbeats 4000000
def lenT (n : Nat) : Int := ([0, 1, 2, 2, 3, 3, 3, 3, 4, 4, 4, 4, 4] : List Int).getD n 0
theorem len64_c (one : Bool) (n : Nat) (hn : n ≤ 12) : Pu one 129 [.fl (.int .u64 n)] (I64 (lenT n)) := by
  match n, hn with
  | 0, _ | 1, _ | 2, _ | 3, _ | 4, _ | 5, _ | 6, _ | 7, _ | 8, _ | 9, _ | 10, _ | 11, _ | 12, _ =>
    refine PureV.body (fn := Try.f129) rfl rfl rfl rfl ?_
    refine wpC_sound (mu := fun _ => false) ?_
    repeat' (first |(refine RM.b1 rfl rfl (of_decide_eq_true (by kernel_rfl)) ?_) |with_reducible (first|refine RM.c1 ?_|refine RM.c2 ?_|refine RM.c4 ?_|refine RM.c7 ?_|refine RM.c9 ?_|refine RM.o1 ?_|refine RM.o2 ?_|refine RM.o4 ?_|refine RM.o5 ?_|refine RM.p2 ?_|refine RM.p3 ?_|refine RM.p5 ?_) |((with_reducible show force _ _);refine RM.f1 rfl ?_) |((with_reducible show wpOne _ _ _ _ _ _ _ _ _ _ _ _);refine RM.o8 rfl ?_) |((with_reducible show wpC _ _ _ _ (.cond _ _ _) _ _);refine RM.e3 rfl rfl ?_) |(refine ⟨_, rfl, ?_⟩) |(refine ⟨_, _, rfl, rfl, _, rfl, rfl, ?_⟩) |(refine And.intro (by kernel_rfl) ?_) |fail)
    exact ⟨[_], ⟨Fz.deep rfl, trivial⟩, by kernel_rfl⟩
theorem len_c (one : Bool) (n : Nat) (hn : n ≤ 12) : Pu one 111 [.fl (.int .u64 n)] (I64 (lenT n)) := by
  have hv := len64_c one n hn
  refine PureV.body (fn := Try.f111) rfl rfl rfl rfl ?_
  refine wpC_sound (mu := fun _ => false) ?_
  repeat' (first |with_reducible (first|refine RM.c1 ?_|refine RM.c2 ?_|refine RM.c4 ?_|refine RM.c7 ?_|refine RM.c9 ?_|refine RM.o1 ?_|refine RM.o2 ?_|refine RM.o4 ?_|refine RM.o5 ?_|refine RM.o7 ?_|refine RM.o9 ?_|refine RM.p1 ?_|refine RM.p2 ?_|refine RM.p3 ?_) |((with_reducible show force _ _);first|refine RM.f1 rfl ?_|refine RM.f4 rfl ?_) |((with_reducible show wpOne _ _ _ _ _ _ _ _ _ _ _ _);refine RM.o8 rfl ?_) |((with_reducible show wpC _ _ _ _ (.cond _ _ _) _ _);refine RM.e3 rfl rfl ?_) |(refine PureV.call hv rfl rfl ?_) |fail)
  exact ⟨[_], ⟨Fz.deep rfl, trivial⟩, rfl⟩
def SortedTo (S : List Int) (m : Nat) : Prop := ∀ p q : Nat, p < q → q < m → S.getD p 0 ≤ S.getD q 0
def swapAt (S : List Int) (j : Nat) : List Int := (S.set j (S.getD (j - 1) 0)).set (j - 1) (S.getD j 0)
theorem swap_perm (S : List Int) {j : Nat} (hj : j < S.length) : (swapAt S j).Perm S := by
  unfold swapAt
  have h1 : j - 1 < S.length := by omega
  rw [List.getD_eq_getElem?_getD, List.getD_eq_getElem?_getD (i := j), List.getElem?_eq_getElem h1, List.getElem?_eq_getElem hj]
  exact List.set_set_perm hj h1
theorem swap_get (S : List Int) {j : Nat} (hj : j < S.length) (h0 : 0 < j) (q : Nat) : (swapAt S j).getD q 0 = if q = j - 1 then S.getD j 0 else if q = j then S.getD (j - 1) 0 else S.getD q 0 := by
  unfold swapAt
  rw [List.getD_eq_getElem?_getD, List.getElem?_set, List.getElem?_set]
  by_cases h1 : j - 1 = q
  · subst h1
    rw [if_pos rfl, if_pos (by rw [List.length_set]; omega), if_pos rfl]
    rfl
  · rw [if_neg h1, if_neg (show ¬ q = j - 1 from fun h => h1 h.symm)]
    by_cases h2 : j = q
    · subst h2
      rw [if_pos rfl, if_pos hj, if_pos rfl]
      rfl
    · rw [if_neg h2, if_neg (show ¬ q = j from fun h => h2 h.symm), List.getD_eq_getElem?_getD]
/-- While an element sinks to its place. -/
structure Sinks (S : List Int) (i j : Nat) : Prop where
  others : ∀ p q : Nat, p < q → q ≤ i → p ≠ j → q ≠ j → S.getD p 0 ≤ S.getD q 0
  above : ∀ q : Nat, j < q → q ≤ i → S.getD j 0 ≤ S.getD q 0
theorem Sinks.start {S : List Int} {i : Nat} (h : SortedTo S i) : Sinks S i i := ⟨fun p q h1 h2 h3 h4 => h p q h1 (by omega), fun q h1 h2 => by omega⟩
theorem Sinks.swap {S : List Int} {i j : Nat} (h : Sinks S i j) (hi : i < S.length) (hj : j ≤ i) (h0 : 0 < j) (hl : S.getD j 0 < S.getD (j - 1) 0) : Sinks (swapAt S j) i (j - 1) := by
  have hg := fun q => swap_get S (j := j) (by omega) h0 q
  constructor
  · intro p q h1 h2 h3 h4
    rw [hg p, hg q, if_neg h3, if_neg h4]
    by_cases hp : p = j
    · rw [if_pos hp, if_neg (by omega)]
      exact h.others (j - 1) q (by omega) h2 (by omega) (by omega)
    · rw [if_neg hp]
      by_cases hq : q = j
      · rw [if_pos hq]
        by_cases hpj : p = j - 1
        · exact absurd hpj h3
        · exact h.others p (j - 1) (by omega) (by omega) hp (by omega)
      · rw [if_neg hq]
        exact h.others p q h1 h2 hp hq
  · intro q h1 h2
    rw [hg (j - 1), hg q, if_pos rfl, if_neg (by omega)]
    by_cases hq : q = j
    · rw [if_pos hq]; omega
    · rw [if_neg hq]
      exact h.above q (by omega) h2
theorem Sinks.done {S : List Int} {i j : Nat} (h : Sinks S i j) (hd : j = 0 ∨ S.getD (j - 1) 0 ≤ S.getD j 0) : SortedTo S (i + 1) := by
  intro p q h1 h2
  by_cases hp : p = j
  · rw [hp]; exact h.above q (by omega) (by omega)
  · by_cases hq : q = j
    · rcases hd with hd | hd
      · omega
      · rw [hq]
        by_cases hpj : p = j - 1
        · rw [hpj]; exact hd
        · exact Int.le_trans (h.others p (j - 1) (by omega) (by omega) hp (by omega)) hd
    · exact h.others p q h1 (by omega) hp hq
abbrev rowB (S : List Int) (ver : Nat) : AB := .cells (S.map I64) 1 ver
theorem rowB_inb (S : List Int) (ver : Nat) : ([rowB S ver] : List AB).all (AB.inb 1) = true := by
  simp only [List.all_cons, List.all_nil, Bool.and_true, AB.inb]
  exact inbL_map (fun _ => rfl) _
theorem row_get {S : List Int} {q : Nat} (h : q < S.length) : (S.map I64)[0 + ((q : Nat) : Int).toNat * 1]? = some (I64 (S.getD q 0)) := by
  rw [Int.toNat_natCast, Nat.zero_add, Nat.mul_one, List.getElem?_map, List.getD_eq_getElem?_getD, List.getElem?_eq_getElem h]
  rfl
theorem row_set {S : List Int} {k : Nat} (h : k < S.length) (x : Int) : spliceV (S.map I64) [I64 x] (0 + ((k : Nat) : Int).toNat * 1) = (S.set k x).map I64 := by
  rw [Int.toNat_natCast, Nat.zero_add, Nat.mul_one, List.map_set, List.set_eq_take_append_cons_drop, if_pos (by rw [List.length_map]; exact h)]
  unfold spliceV
  simp
theorem insertion_c (one : Bool) (L : List Int) (N : Nat) (hN : L.length = N) (h12 : N ≤ 12) {ver c : Nat} {amb : Amb} {Q : AV → List AB → Amb → Prop} (hQ : ∀ S : List Int, SortedTo S N → S.Perm L → Q (.tp []) [rowB S ver] amb) :
    CallV TT TB one (.fn 119 [] []) [.osl 0 ver 0 N c, I64 0, I64 (N : Nat)] [rowB L ver] amb Q := by
  refine CallV.body (fn := Try.f119) rfl rfl rfl ?_
  refine wpC_sound (mu := fun _ => false) ?_
  repeat' (first |with_reducible (first|refine RM.c2 ?_|refine RM.c3 ?_|refine RM.c4 ?_|refine RM.c9 ?_|refine RM.o1 ?_|refine RM.o2 ?_|refine RM.o4 ?_|refine RM.o5 ?_|refine RM.p2 ?_|refine RM.p3 ?_|refine RM.p5 ?_) |((with_reducible show force _ _);refine RM.f1 rfl ?_) |((with_reducible show wpOne _ _ _ _ _ _ _ _ _ _ _ _);refine RM.o8 rfl ?_) |((with_reducible show wpBin _ _ _ _ _ _ _ _ _);refine RM.b1 rfl rfl (by omega) ?_) |fail)
  refine SemC.weaker (Weaker.to (l := [(0, .osl 0 ver 0 N c), (1, I64 0), (2, I64 (N : Nat)), (6, I64 (1 : Nat))]) (hp := [rowB L ver]) 1 rfl ⟨rfl, rfl, rfl, rfl, trivial⟩ (Nat.le_refl _) rfl (rowB_inb _ _)) ?_
  refine SemC.loop (fun x : Nat × List Int => (1 ≤ x.1 ∧ (x.1 ≤ N ∨ x.1 = 1)) ∧ SortedTo x.2 x.1 ∧ x.2.Perm L) (fun x => ⟨mkFr [(0, .osl 0 ver 0 N c), (1, I64 0), (2, I64 (N : Nat)), (6, I64 (x.1 : Nat))], [rowB x.2 ver], amb, false, 1⟩) (fun x => N - x.1) ?_ (1, L) ⟨⟨Nat.le_refl _, .inr rfl⟩, (fun p q h1 h2 => by dsimp only at h2; omega), List.Perm.refl _⟩
  rintro ⟨i, S⟩ ⟨⟨hi1, hi⟩, hso, hpe⟩
  dsimp only at hi1 hi hso hpe
  have hSl : S.length = N := by rw [hpe.length_eq, hN]
  refine wpC_sound (mu := fun _ => false) ?_
  repeat' (first |with_reducible (first|refine RM.c2 ?_|refine RM.c4 ?_|refine RM.c9 ?_|refine RM.o1 ?_|refine RM.o2 ?_|refine RM.o4 ?_|refine RM.o5 ?_|refine RM.p2 ?_|refine RM.p5 ?_) |((with_reducible show force _ _);refine RM.f1 rfl ?_) |((with_reducible show wpOne _ _ _ _ _ _ _ _ _ _ _ _);refine RM.o8 rfl ?_) |((with_reducible show wpBin _ _ _ _ _ _ _ _ _);refine RM.b6 rfl rfl ?_) |fail)
  refine RM.e1 rfl ⟨fun hc => ?_, fun hc => ?_⟩
  · rw [decide_eq_true_eq] at hc
    repeat' (first |with_reducible (first|refine RM.c1 ?_|refine RM.c2 ?_|refine RM.c3 ?_|refine RM.c4 ?_|refine RM.c9 ?_|refine RM.o1 ?_|refine RM.o2 ?_|refine RM.o4 ?_|refine RM.o5 ?_|refine RM.p2 ?_|refine RM.p3 ?_) |((with_reducible show force _ _);refine RM.f1 rfl ?_) |((with_reducible show wpOne _ _ _ _ _ _ _ _ _ _ _ _);refine RM.o8 rfl ?_) |fail)
    refine SemC.weaker (Weaker.to (l := [(0, .osl 0 ver 0 N c), (1, I64 0), (2, I64 (N : Nat)), (6, I64 (i : Nat)), (7, I64 (i : Nat))]) (hp := [rowB S ver]) 1 rfl ⟨rfl, rfl, rfl, rfl, rfl, trivial⟩ (Nat.le_refl _) rfl (rowB_inb _ _)) ?_
    refine SemC.loop (fun x : Nat × List Int => (x.1 ≤ i) ∧ Sinks x.2 i x.1 ∧ x.2.Perm L) (fun x => ⟨mkFr [(0, .osl 0 ver 0 N c), (1, I64 0), (2, I64 (N : Nat)), (6, I64 (i : Nat)), (7, I64 (x.1 : Nat))], [rowB x.2 ver], amb, false, 1⟩) (fun x => x.1) ?_ (i, S) ⟨Nat.le_refl _, Sinks.start hso, hpe⟩
    rintro ⟨j, R⟩ ⟨hj, hsi, hpr⟩
    dsimp only at hj hsi hpr
    have hRl : R.length = N := by rw [hpr.length_eq, hN]
    refine wpC_sound (mu := fun _ => false) ?_
    by_cases h0 : j = 0
    · subst h0
      repeat' (first |with_reducible (first|refine RM.c2 ?_|refine RM.c4 ?_|refine RM.c5 ?_|refine RM.c6 ?_|refine RM.c9 ?_|refine RM.d2 ?_|refine RM.d3 ?_|refine RM.o1 ?_|refine RM.o2 ?_|refine RM.o3 ?_|refine RM.o4 ?_|refine RM.o5 ?_|refine RM.p2 ?_|refine RM.p3 ?_|refine RM.p4 ?_|refine RM.p5 ?_|refine RM.q2 ?_) |((with_reducible show force _ _);refine RM.f1 rfl ?_) |((with_reducible show wpOne _ _ _ _ _ _ _ _ _ _ _ _);refine RM.o8 rfl ?_) |((with_reducible show wpDOne _ _ _ _ _ _ _ _ _ _);refine RM.p9 rfl ?_) |((with_reducible show wpGuard _ _ _ _ _);refine wpGuard_no rfl rfl rfl ?_) |((with_reducible show wpC _ _ _ _ (.cond _ _ _) _ _);refine RM.e3 rfl rfl ?_) |((with_reducible show wpPick _ _ _ _ _);refine RM.k1 rfl ?_) |((with_reducible show wpPickB _ _ _ _ _);refine RM.k3 rfl ?_) |((with_reducible show wpBin _ _ _ _ _ _ _ _ _);first|refine RM.b8 rfl rfl ?_|refine RM.b1 rfl rfl (by omega) ?_) |((with_reducible show blockK _ _ _ _);refine RM.d5 rfl ?_) |(refine ⟨_, rfl, ?_⟩) |(refine And.intro (by kernel_rfl) ?_) |fail)
      refine ⟨(i + 1, R), ⟨⟨by omega, .inl (by dsimp only; omega)⟩, hsi.done (.inl rfl), hpr⟩, (by dsimp only; omega), ?_⟩
      exact Weaker.to 1 rfl ⟨rfl, rfl, rfl, i64c (by simp), trivial⟩ (Nat.le_refl _) rfl (rowB_inb _ _)
    · have d1 : decide ((0 : Int) < (j : Int)) = true := decide_eq_true (by omega)
      have hgj := row_get (S := R) (q := j) (by omega)
      have hgk := row_get (S := R) (q := j - 1) (by omega)
      rw [show (((j - 1 : Nat) : Int)) = (j : Int) - 1 by omega] at hgk
      have hle := less_c true (R.getD j 0) (R.getD (j - 1) 0)
      by_cases hl : R.getD j 0 < R.getD (j - 1) 0
      · rw [decide_eq_true hl] at hle
        have hb1 : 0 + ((j : Nat) : Int).toNat * 1 + 1 ≤ (R.map I64).length := by rw [List.length_map]; omega
        have he1 := row_set (S := R) (k := j) (by omega) (R.getD (j - 1) 0)
        have hb2 : 0 + (((j : Nat) : Int) - 1).toNat * 1 + 1 ≤ (spliceV (R.map I64) [I64 (R.getD (j - 1) 0)] (0 + ((j : Nat) : Int).toNat * 1)).length := by rw [he1, List.length_map, List.length_set]; omega
        have he2 := row_set (S := R.set j (R.getD (j - 1) 0)) (k := j - 1) (by rw [List.length_set]; omega) (R.getD j 0)
        rw [show (((j - 1 : Nat) : Int)) = (j : Int) - 1 by omega, ← he1] at he2
        repeat' (first |(refine ⟨_, hle, ?_⟩) |with_reducible (first|refine RM.c1 ?_|refine RM.c2 ?_|refine RM.c3 ?_|refine RM.c4 ?_|refine RM.c5 ?_|refine RM.c9 ?_|refine RM.d3 ?_|refine RM.o1 ?_|refine RM.o2 ?_|refine RM.o3 ?_|refine RM.o4 ?_|refine RM.o5 ?_|refine RM.o6 ?_|refine RM.o9 ?_|refine RM.p1 ?_|refine RM.p2 ?_|refine RM.p3 ?_|refine RM.p4 ?_|refine RM.p5 ?_|refine RM.n1 ?_) |((with_reducible show force _ _);first|refine RM.f1 rfl ?_|refine RM.f4 rfl ?_|refine RM.f7 rfl ?_|refine RM.f8 rfl ?_|refine RM.g2 rfl ?_) |((with_reducible show wpOne _ _ _ _ _ _ _ _ _ _ _ _);refine RM.o8 rfl ?_) |((with_reducible show wpDOne _ _ _ _ _ _ _ _ _ _);refine RM.p9 rfl ?_) |((with_reducible show wpGuard _ _ _ _ _);refine wpGuard_yes rfl rfl (by assumption) ?_) |((with_reducible show wpC _ _ _ _ (.cond _ _ _) _ _);refine RM.e2 rfl rfl ?_) |((with_reducible show wpPick _ _ _ _ _);refine RM.k1 rfl ?_) |((with_reducible show wpPickB _ _ _ _ _);refine RM.k2 (by assumption) ?_) |((with_reducible show wpBin _ _ _ _ _ _ _ _ _);first|refine RM.b8 rfl rfl ?_|refine RM.b2 rfl rfl (by omega) ?_) |(refine ⟨_, rfl, ?_⟩) |(refine ⟨rfl, rfl, ?_⟩) |(refine And.intro (by omega) ?_) |(refine And.intro (by kernel_rfl) ?_) |(refine ⟨_, _, rfl, _, hgj, ?_⟩) |(refine ⟨_, _, rfl, _, hgk, ?_⟩) |(refine ⟨_, _, rfl, rfl, rfl, rfl, hb1, ?_⟩) |(refine ⟨_, _, rfl, rfl, rfl, rfl, hb2, ?_⟩) |fail)
        refine ⟨(j - 1, swapAt R j), ⟨by dsimp only; omega, hsi.swap (by omega) hj (by omega) hl, (swap_perm R (by omega)).trans hpr⟩, (by dsimp only; omega), ?_⟩
        refine Weaker.to 1 ?_ ⟨rfl, rfl, rfl, rfl, i64c (by dsimp only; omega), trivial⟩ (Nat.le_refl _) rfl (rowB_inb _ _)
        show [AB.cells (spliceV (spliceV (R.map I64) [I64 (R.getD (j - 1) 0)] (0 + ((j : Nat) : Int).toNat * 1)) [I64 (R.getD j 0)] (0 + (((j : Nat) : Int) - 1).toNat * 1)) 1 ver] = [rowB (swapAt R j) ver]
        rw [he2]
        rfl
      · rw [decide_eq_false hl] at hle
        repeat' (first |(refine ⟨_, hle, ?_⟩) |with_reducible (first|refine RM.c2 ?_|refine RM.c4 ?_|refine RM.c5 ?_|refine RM.c6 ?_|refine RM.c9 ?_|refine RM.d2 ?_|refine RM.d3 ?_|refine RM.o1 ?_|refine RM.o2 ?_|refine RM.o3 ?_|refine RM.o4 ?_|refine RM.o5 ?_|refine RM.o9 ?_|refine RM.p1 ?_|refine RM.p2 ?_|refine RM.p3 ?_|refine RM.p4 ?_|refine RM.p5 ?_|refine RM.n1 ?_|refine RM.q2 ?_) |((with_reducible show force _ _);first|refine RM.f1 rfl ?_|refine RM.f4 rfl ?_|refine RM.f7 rfl ?_|refine RM.f8 rfl ?_) |((with_reducible show wpOne _ _ _ _ _ _ _ _ _ _ _ _);refine RM.o8 rfl ?_) |((with_reducible show wpDOne _ _ _ _ _ _ _ _ _ _);refine RM.p9 rfl ?_) |((with_reducible show wpGuard _ _ _ _ _);refine wpGuard_yes rfl rfl (by assumption) ?_) |((with_reducible show wpC _ _ _ _ (.cond _ _ _) _ _);refine RM.e3 rfl rfl ?_) |((with_reducible show wpPick _ _ _ _ _);refine RM.k1 rfl ?_) |((with_reducible show wpPickB _ _ _ _ _);refine RM.k2 (by assumption) ?_) |((with_reducible show wpBin _ _ _ _ _ _ _ _ _);first|refine RM.b8 rfl rfl ?_|refine RM.b1 rfl rfl (by omega) ?_|refine RM.b2 rfl rfl (by omega) ?_) |((with_reducible show blockK _ _ _ _);refine RM.d5 rfl ?_) |(refine ⟨_, rfl, ?_⟩) |(refine ⟨rfl, rfl, ?_⟩) |(refine And.intro (by omega) ?_) |(refine And.intro (by kernel_rfl) ?_) |(refine ⟨_, _, rfl, _, hgj, ?_⟩) |(refine ⟨_, _, rfl, _, hgk, ?_⟩) |fail)
        refine ⟨(i + 1, R), ⟨⟨by omega, .inl (by dsimp only; omega)⟩, hsi.done (.inr (by omega)), hpr⟩, (by dsimp only; omega), ?_⟩
        exact Weaker.to 1 rfl ⟨rfl, rfl, rfl, i64c (by simp), trivial⟩ (Nat.le_refl _) rfl (rowB_inb _ _)
  · rw [decide_eq_false_iff_not] at hc
    repeat' (first |with_reducible (first|refine RM.c6 ?_|refine RM.d2 ?_|refine RM.q2 ?_) |((with_reducible show blockK _ _ _ _);refine RM.d5 rfl ?_) |fail)
    refine hQ S (fun p q h1 h2 => hso p q h1 (by omega)) hpe
end Go.Proofs.Ytmkaeohmdcoanaa
open Go Go.RM
namespace Go.Proofs.Ytmkaeohmdcoanaa
set_option maxRecDepth 100000
set_option maxHeartbeats 4000000
theorem pdq_c (one : Bool) (L : List Int) (N : Nat) (hN : L.length = N) (h12 : N ≤ 12) (lim : Int) {ver c : Nat} {amb : Amb} {Q : AV → List AB → Amb → Prop} (hQ : ∀ S : List Int, SortedTo S N → S.Perm L → Q (.tp []) [rowB S ver] amb) :
    CallV TT TB one (.fn 110 [] []) [.osl 0 ver 0 N c, I64 0, I64 (N : Nat), I64 lim] [rowB L ver] amb Q := by
  refine CallV.body (fn := Try.f110) rfl rfl rfl ?_
  refine wpC_sound (mu := fun _ => false) ?_
  repeat' (first |with_reducible (first|refine RM.c2 ?_|refine RM.c3 ?_|refine RM.c4 ?_|refine RM.c9 ?_|refine RM.o1 ?_|refine RM.o2 ?_|refine RM.o4 ?_|refine RM.o5 ?_|refine RM.p3 ?_) |((with_reducible show force _ _);refine RM.f1 rfl ?_) |((with_reducible show wpOne _ _ _ _ _ _ _ _ _ _ _ _);refine RM.o8 rfl ?_) |fail)
  refine SemC.weaker (Weaker.to (l := [(0, .osl 0 ver 0 N c), (1, I64 0), (2, I64 (N : Nat)), (3, I64 lim), (8, .fl (.bool true)), (9, .fl (.bool true))]) (hp := [rowB L ver]) 1 rfl ⟨rfl, rfl, rfl, rfl, rfl, rfl, trivial⟩ (Nat.le_refl _) rfl (rowB_inb _ _)) ?_
  refine SemC.loop (fun _ : Unit => True) (fun _ => ⟨mkFr [(0, .osl 0 ver 0 N c), (1, I64 0), (2, I64 (N : Nat)), (3, I64 lim), (8, .fl (.bool true)), (9, .fl (.bool true))], [rowB L ver], amb, false, 1⟩) (fun _ => 0) ?_ () trivial
  intro _ _
  refine wpC_sound (mu := fun _ => false) ?_
  have d1 : decide ((N : Int) - 0 ≤ 12) = true := decide_eq_true (by omega)
  repeat' (first |(refine insertion_c _ L N hN h12 (fun S hso hpe => ?_)) |with_reducible (first|refine RM.c2 ?_|refine RM.c3 ?_|refine RM.c4 ?_|refine RM.c7 ?_|refine RM.c9 ?_|refine RM.d1 ?_|refine RM.d4 ?_|refine RM.o1 ?_|refine RM.o2 ?_|refine RM.o4 ?_|refine RM.o5 ?_|refine RM.p2 ?_|refine RM.p3 ?_|refine RM.p5 ?_|refine RM.q1 ?_) |((with_reducible show force _ _);refine RM.f1 rfl ?_) |((with_reducible show wpOne _ _ _ _ _ _ _ _ _ _ _ _);refine RM.o8 rfl ?_) |((with_reducible show wpC _ _ _ _ (.cond _ _ _) _ _);refine RM.e2 rfl (by assumption) ?_) |((with_reducible show wpBin _ _ _ _ _ _ _ _ _);first|refine RM.b7 rfl rfl ?_|refine RM.b2 rfl rfl (by omega) ?_) |fail)
  exact hQ S hso hpe
theorem wrap_short : ∀ {N : Nat}, N ≤ 12 → IntKind.u64.wrap (N : Int) = (N : Int)
  | 0, _ | 1, _ | 2, _ | 3, _ | 4, _ | 5, _ | 6, _ | 7, _ | 8, _ | 9, _ | 10, _ | 11, _ | 12, _ => rfl
theorem sort_c (one : Bool) (L : List Int) (N : Nat) (hN : L.length = N) (h12 : N ≤ 12) {ver c : Nat} {amb : Amb} {Q : AV → List AB → Amb → Prop} (hQ : ∀ S : List Int, SortedTo S N → S.Perm L → Q (.tp []) [rowB S ver] amb) :
    CallV TT TB one (.fn 79 [] []) [.osl 0 ver 0 N c] [rowB L ver] amb Q := by
  refine CallV.body (fn := Try.f79) rfl rfl rfl ?_
  refine wpC_sound (mu := fun _ => false) ?_
  have hw : IntKind.u64.wrap (N : Int) = (N : Int) := wrap_short h12
  have hv : Pu one 111 [.fl (.int .u64 (IntKind.u64.wrap (N : Int)))] (I64 (lenT N)) := by rw [hw]; exact len_c one N h12
  repeat' (first |(refine PureV.call hv rfl rfl ?_) |(refine pdq_c _ L N hN h12 _ (fun S hso hpe => ?_)) |with_reducible (first|refine RM.c2 ?_|refine RM.c4 ?_|refine RM.c9 ?_|refine RM.o1 ?_|refine RM.o2 ?_|refine RM.o4 ?_|refine RM.o5 ?_|refine RM.p2 ?_|refine RM.p3 ?_|refine RM.p6 ?_) |((with_reducible show force _ _);first|refine RM.f1 rfl ?_|refine RM.f8 rfl ?_) |((with_reducible show wpOne _ _ _ _ _ _ _ _ _ _ _ _);refine RM.o8 rfl ?_) |((with_reducible show wpLen _ _ _ _ _);refine RM.l2 rfl ?_) |(refine ⟨_, rfl, ?_⟩) |(refine And.intro (by kernel_rfl) ?_) |fail)
  exact hQ S hso hpe
end Go.Proofs.Ytmkaeohmdcoanaa
open Go Go.RM
namespace Go.Proofs.Ytmkaeohmdcoanaa
set_option maxRecDepth 100000
theorem cmpL_zero : ∀ {x y : List Int}, cmpL x y = 0 → x = y
  | [], [], _ => rfl
  | [], _ :: _, h => by rw [cmpL_nc] at h; omega
  | _ :: _, [], h => by rw [cmpL_cn] at h; omega
  | a :: l, b :: m, h => by
    rw [cmpL_cc] at h
    unfold cmpI at h
    by_cases h1 : a < b
    · simp only [h1, if_true] at h
      omega
    · by_cases h2 : b < a
      · simp only [h1, h2, if_true, if_false] at h
        omega
      · simp only [h1, h2, if_false, if_true] at h
        rw [cmpL_zero h, show a = b by omega]
theorem cmpL_flip : ∀ (x y : List Int), cmpL y x = - cmpL x y
  | [], [] => by rw [cmpL_nn]; rfl
  | [], _ :: _ => by rw [cmpL_nc, cmpL_cn]; rfl
  | _ :: _, [] => by rw [cmpL_nc, cmpL_cn]
  | a :: l, b :: m => by
    rw [cmpL_cc, cmpL_cc]
    have ih := cmpL_flip l m
    unfold cmpI
    by_cases h1 : a < b
    · have h2 : ¬ b < a := by omega
      simp [h1, h2]
    · by_cases h2 : b < a
      · simp [h1, h2]
      · simp [h1, h2, ih]
theorem cmpL_trans : ∀ {x y z : List Int}, cmpL x y < 0 → cmpL y z < 0 → cmpL x z < 0
  | [], [], z, h, _ => by rw [cmpL_nn] at h; omega
  | [], _ :: _, [], _, h => by rw [cmpL_cn] at h; omega
  | [], _ :: _, _ :: _, _, _ => by rw [cmpL_nc]; omega
  | _ :: _, [], z, h, _ => by rw [cmpL_cn] at h; omega
  | _ :: _, _ :: _, [], _, h => by rw [cmpL_cn] at h; omega
  | a :: l, b :: m, c :: n, h, k => by
    rw [cmpL_cc] at h k ⊢
    have ih := @cmpL_trans l m n
    unfold cmpI at *
    by_cases h1 : a < b
    · by_cases h2 : b < c
      · have : a < c := by omega
        simp [this]
      · by_cases h3 : c < b
        · simp [h2, h3] at k
        · have : a < c := by omega
          simp [this]
    · by_cases h2 : b < a
      · simp [h1, h2] at h
      · obtain rfl : a = b := by omega
        simp only [h1, if_false, if_true] at h
        by_cases h2 : a < c
        · simp [h2]
        · by_cases h3 : c < a
          · simp [h2, h3] at k
          · simp only [h2, h3, if_false, if_true] at k ⊢
            exact ih h k
/-- A list is shorter than another one, or as long and before it. -/
def bef (x y : List Int) : Prop := x.length < y.length ∨ x.length = y.length ∧ cmpL x y < 0
instance (x y : List Int) : Decidable (bef x y) := by unfold bef; infer_instance
theorem bef_tri {x y : List Int} (h : ¬ bef x y) (k : ¬ bef y x) : x = y := by
  unfold bef at h k
  have hf := cmpL_flip x y
  apply cmpL_zero
  omega
theorem bef_trans {x y z : List Int} (h : bef x y) (k : bef y z) : bef x z := by
  unfold bef at *
  rcases h with h | ⟨h1, h2⟩
  · left; omega
  · rcases k with k | ⟨k1, k2⟩
    · left; omega
    · exact .inr ⟨by omega, cmpL_trans h2 k2⟩
theorem bef_irr {x : List Int} : ¬ bef x x := by
  intro h
  unfold bef at h
  have := cmpL_flip x x
  omega
theorem bef_least {α : Type} (f : α → List Int) : ∀ (L : List α), L ≠ [] → ∃ t ∈ L, ∀ u ∈ L, ¬ bef (f u) (f t)
  | [], h => absurd rfl h
  | [a], _ => ⟨a, List.mem_cons_self .., fun u hu => by rw [List.mem_singleton.1 hu]; exact bef_irr⟩
  | a :: b :: L, _ => by
    obtain ⟨t, ht, hm⟩ := bef_least f (b :: L) (by simp)
    by_cases hb : bef (f a) (f t)
    · refine ⟨a, List.mem_cons_self .., fun u hu => ?_⟩
      rcases List.mem_cons.1 hu with rfl | hu
      · exact bef_irr
      · exact fun h => hm u hu (bef_trans h hb)
    · refine ⟨t, List.mem_cons_of_mem _ ht, fun u hu => ?_⟩
      rcases List.mem_cons.1 hu with rfl | hu
      · exact hb
      · exact hm u hu
/-- The numbers of a set, from a on, of m. -/
def lst (p : Nat → Bool) (a m : Nat) : List Int := ((List.range' a m).filter p).map fun (i : Nat) => (i : Int)
theorem lst_t {p : Nat → Bool} {a m : Nat} (h : p a = true) : lst p a (m + 1) = (a : Int) :: lst p (a + 1) m := by
  unfold lst
  rw [List.range'_succ, List.filter_cons, if_pos h, List.map_cons]
theorem lst_f {p : Nat → Bool} {a m : Nat} (h : p a = false) : lst p a (m + 1) = lst p (a + 1) m := by
  unfold lst
  rw [List.range'_succ, List.filter_cons, if_neg (by rw [h]; exact Bool.false_ne_true)]
theorem mem_lst {p : Nat → Bool} {a m : Nat} {x : Int} : x ∈ lst p a m ↔ ∃ i : Nat, x = (i : Int) ∧ a ≤ i ∧ i < a + m ∧ p i = true := by
  unfold lst
  rw [List.mem_map]
  constructor
  · rintro ⟨i, hi, rfl⟩
    rw [List.mem_filter, List.mem_range'_1] at hi
    exact ⟨i, rfl, hi.1.1, hi.1.2, hi.2⟩
  · rintro ⟨i, rfl, h1, h2, h3⟩
    exact ⟨i, by rw [List.mem_filter, List.mem_range'_1]; exact ⟨⟨h1, h2⟩, h3⟩, rfl⟩
theorem lst_len_le (p : Nat → Bool) (a m : Nat) : (lst p a m).length ≤ m := by
  unfold lst
  rw [List.length_map]
  exact Nat.le_trans (List.length_filter_le ..) (by rw [List.length_range']; exact Nat.le_refl _)
theorem lst_congr {p q : Nat → Bool} {n : Nat} (h : ∀ i, i < n → p i = q i) : lst p 0 n = lst q 0 n := by
  unfold lst
  congr 1
  apply List.filter_congr
  intro i hi
  rw [List.mem_range'_1] at hi
  exact h i (by omega)
theorem filter_or {α : Type} {p q : α → Bool} (hd : ∀ i, p i = true → q i = true → False) : ∀ (L : List α), (L.filter fun i => p i || q i).Perm (L.filter p ++ L.filter q)
  | [] => .refl _
  | a :: L => by
    have ih := filter_or hd L
    cases hp : p a with
    | true =>
      have hq : q a = false := by cases hq : q a with | false => rfl | true => exact (hd a hp hq).elim
      simp only [List.filter_cons, hp, hq, Bool.or_false, if_true, Bool.false_eq_true, if_false, List.cons_append]
      exact ih.cons a
    | false =>
      cases hq : q a with
      | true =>
        simp only [List.filter_cons, hp, hq, Bool.or_true, if_true, Bool.false_eq_true, if_false]
        exact (ih.cons a).trans List.perm_middle.symm
      | false =>
        simp only [List.filter_cons, hp, hq, Bool.or_false, Bool.false_eq_true, if_false]
        exact ih
theorem lst_or {p q : Nat → Bool} (hd : ∀ i, p i = true → q i = true → False) (a m : Nat) : (lst (fun i => p i || q i) a m).Perm (lst p a m ++ lst q a m) := by
  unfold lst
  rw [← List.map_append]
  exact (filter_or hd _).map _
theorem lst_sorted (p : Nat → Bool) : ∀ (m a : Nat), (lst p a m).Pairwise (· < ·)
  | 0, a => .nil
  | m + 1, a => by
    cases hp : p a with
    | false => rw [lst_f hp]; exact lst_sorted p m (a + 1)
    | true =>
      rw [lst_t hp]
      refine .cons (fun x hx => ?_) (lst_sorted p m (a + 1))
      obtain ⟨i, rfl, h1, _⟩ := mem_lst.1 hx
      omega
theorem sorted_eq {S : List Int} {N : Nat} (hN : S.length = N) (hs : SortedTo S N) {p : Nat → Bool} {a m : Nat} (hp : S.Perm (lst p a m)) : S = lst p a m := by
  refine List.Perm.eq_of_pairwise (le := (· ≤ ·)) (fun x y _ _ h1 h2 => by omega) ?_ ((lst_sorted p m a).imp (fun h => by omega)) hp
  rw [List.pairwise_iff_getElem]
  intro i j hi hj hij
  have := hs i j hij (by omega)
  rw [List.getD_eq_getElem?_getD, List.getD_eq_getElem?_getD, List.getElem?_eq_getElem hi, List.getElem?_eq_getElem hj] at this
  exact this
section
variable {τ : Type} (K n : Nat) (A : Nat → List τ) (M : Nat → τ → Nat → Bool)
def Disj : Prop := ∀ k k' t t' i, M k t i = true → M k' t' i = true → k = k'
def Best (T : Nat → τ) : Prop := ∀ k, k < K → T k ∈ A k ∧ ∀ t ∈ A k, ¬ bef (lst (M k t) 0 n) (lst (M k (T k)) 0 n)
/-- What the first m kinds miss. -/
def unTo (T : Nat → τ) (m : Nat) (i : Nat) : Bool := (List.range m).any fun k => M k (T k) i
variable {K n A M}
theorem unTo_iff {T : Nat → τ} {m i : Nat} : unTo M T m i = true ↔ ∃ k, k < m ∧ M k (T k) i = true := by
  unfold unTo
  simp [List.any_eq_true, List.mem_range]
theorem unTo_succ (T : Nat → τ) (m : Nat) : unTo M T (m + 1) = fun i => unTo M T m i || M m (T m) i := by
  funext i
  unfold unTo
  rw [List.range_succ, List.any_append]
  simp
theorem un_perm (hd : Disj M) (T : Nat → τ) (m : Nat) : (lst (unTo M T (m + 1)) 0 n).Perm (lst (unTo M T m) 0 n ++ lst (M m (T m)) 0 n) := by
  rw [unTo_succ]
  refine lst_or (fun i h1 h2 => ?_) _ _
  obtain ⟨k, hk, h3⟩ := unTo_iff.1 h1
  have := hd _ _ _ _ _ h3 h2
  omega
theorem best_ex (hA : ∀ k, k < K → A k ≠ []) (t0 : τ) : ∃ T, Best K n A M T := by
  refine ⟨fun k => if h : k < K then (bef_least (fun t => lst (M k t) 0 n) (A k) (hA k h)).choose else t0, fun k hk => ?_⟩
  simp only [hk, dif_pos]
  exact (bef_least (fun t => lst (M k t) 0 n) (A k) (hA k hk)).choose_spec
end
theorem lst_snoc_t {p : Nat → Bool} {c : Nat} (h : p c = true) : lst p 0 (c + 1) = lst p 0 c ++ [(c : Int)] := by
  unfold lst
  rw [List.range'_concat, List.filter_append, List.map_append]
  simp [h]
theorem lst_snoc_f {p : Nat → Bool} {c : Nat} (h : p c = false) : lst p 0 (c + 1) = lst p 0 c := by
  unfold lst
  rw [List.range'_concat, List.filter_append, List.map_append]
  simp [h]
theorem lst_mono (p : Nat → Bool) {c d : Nat} (h : c ≤ d) : (lst p 0 c).length ≤ (lst p 0 d).length := by
  induction d with
  | zero => rw [Nat.le_zero.1 h]; exact Nat.le_refl _
  | succ d ih =>
    by_cases hcd : c = d + 1
    · rw [hcd]; exact Nat.le_refl _
    · refine Nat.le_trans (ih (by omega)) ?_
      cases hp : p d with
      | true => rw [lst_snoc_t hp, List.length_append]; omega
      | false => rw [lst_snoc_f hp]; exact Nat.le_refl _
end Go.Proofs.Ytmkaeohmdcoanaa
open Go Go.RM
namespace Go.Proofs.Ytmkaeohmdcoanaa
set_option maxRecDepth 100000
set_option maxHeartbeats 4000000
theorem und165 : pureRun TT.P (underlying 165) = some (.array 8 3) := by kernel_rfl
theorem arr_step {d : Nat} {P : Program} {xs ys : Array Value} {e : TypeId} {n : Nat} : ∀ (L : List Nat) (bs : List Bool), L.length = bs.length →
    (∀ (j : Nat) (i : Nat) (b : Bool), L[j]? = some i → bs[j]? = some b → ∃ x y, pureRun P (part e xs (i * n)) = some x ∧ pureRun P (part e ys (i * n)) = some y ∧ pureRun P (Op.equalIn d e x y) = some b) →
    ((pureRun P (forIn L ((none, ()) : Option Bool × PUnit) fun i _ => do
        let a ← part e xs (i * n)
        let b ← part e ys (i * n)
        let r ← Op.equalIn d e a b
        if (!r) = true then pure (.done (some false, ())) else pure (.yield (none, ())))).bind fun a => pureRun P (match a.fst with
        | some r => pure r
        | none => pure true)) = some (bs.all id)
  | [], [], _, _ => rfl
  | [], b :: bs, h, _ => by cases h
  | i :: L, [], h, _ => by cases h
  | i :: L, b :: bs, h, hh => by
    obtain ⟨x, y, h1, h2, h3⟩ := hh 0 i b rfl rfl
    have ih := arr_step L bs (by simpa using h) (fun j i b a c => hh (j + 1) i b (by simpa using a) (by simpa using c))
    simp only [List.forIn_cons, pr_bind, h1, h2, h3, Option.bind_some]
    cases b with
    | false => rfl
    | true =>
      simp only [Bool.not_true, Bool.false_eq_true, if_false, List.all_cons, id, Bool.true_and]
      rw [← ih]
      rfl
theorem pr_arr {P : Program} (d : Nat) (t e : TypeId) (len n : Nat) (xs ys : Array Value) (bs : List Bool) (ht : pureRun P (underlying t) = some (.array len e)) (hs : pureRun P (sizeOf e) = some n) (hl : bs.length = len)
    (h : ∀ (i : Nat) (b : Bool), bs[i]? = some b → ∃ x y, pureRun P (part e xs (i * n)) = some x ∧ pureRun P (part e ys (i * n)) = some y ∧ pureRun P (Op.equalIn d e x y) = some b) :
    pureRun P (Op.equalIn (d + 1) t (.agg xs) (.agg ys)) = some (bs.all id) := by
  have key := arr_step (P := P) (d := d) (xs := xs) (ys := ys) (e := e) (n := n) (List.range' 0 len 1) bs (by simp [hl]) (fun j i b hj hb => by
    have : i = j := by
      rw [List.getElem?_range' (by
        have := (List.getElem?_eq_some_iff.1 hj).1
        simpa using this)] at hj
      simp only [Option.some.injEq] at hj
      omega
    subst this
    exact h i b hb)
  simp only [Op.equalIn, pr_bind, ht, hs, Option.bind_some, Std.Legacy.Range.forIn_eq_forIn_range']
  have hsz : ([:len] : Std.Legacy.Range).size = len := by simp [Std.Legacy.Range.size]
  rw [hsz]
  refine Eq.trans ?_ key
  congr 1
  funext a
  cases a.fst <;> rfl
theorem eq_arr (xs ys : List Int) (hx : xs.length = 8) (hy : ys.length = 8) : pureRun TT.P (Op.equalIn 10000 165 (.agg (xs.map vI).toArray) (.agg (ys.map vI).toArray)) = some (decide (xs = ys)) := by
  have hz : ∀ i : Nat, i < 8 → ∀ (l : List Int), l.length = 8 → pureRun TT.P (part 3 (l.map vI).toArray (i * 1)) = some (vI (l.getD i 0)) := by
    intro i hi l hl
    obtain ⟨l0, l1, l2, l3, l4, l5, l6, l7, rfl⟩ : ∃ a b c d e f g h, l = [a, b, c, d, e, f, g, h] := by
      match l, hl with
      | [a, b, c, d, e, f, g, h], _ => exact ⟨a, b, c, d, e, f, g, h, rfl⟩
    match i, hi with
    | 0, _ | 1, _ | 2, _ | 3, _ | 4, _ | 5, _ | 6, _ | 7, _ => rfl
  rw [pr_arr 9999 165 3 8 1 _ _ ((List.range 8).map fun i => xs.getD i 0 == ys.getD i 0) (by kernel_rfl) (by kernel_rfl) rfl]
  · congr 1
    obtain ⟨x0, x1, x2, x3, x4, x5, x6, x7, rfl⟩ : ∃ a b c d e f g h, xs = [a, b, c, d, e, f, g, h] := by
      match xs, hx with
      | [a, b, c, d, e, f, g, h], _ => exact ⟨a, b, c, d, e, f, g, h, rfl⟩
    obtain ⟨y0, y1, y2, y3, y4, y5, y6, y7, rfl⟩ : ∃ a b c d e f g h, ys = [a, b, c, d, e, f, g, h] := by
      match ys, hy with
      | [a, b, c, d, e, f, g, h], _ => exact ⟨a, b, c, d, e, f, g, h, rfl⟩
    show ((x0 == y0) && ((x1 == y1) && ((x2 == y2) && ((x3 == y3) && ((x4 == y4) && ((x5 == y5) && ((x6 == y6) && ((x7 == y7) && true)))))))) = _
    rw [Bool.eq_iff_iff]
    simp
  · intro i b hb
    have hi : i < 8 := by simpa using (List.getElem?_eq_some_iff.1 hb).1
    rw [List.getElem?_map, List.getElem?_range hi] at hb
    cases hb
    exact ⟨_, _, hz i hi xs hx, hz i hi ys hy, rfl⟩
def eKey (x : List Int) : Value := .agg (x.map vI).toArray
theorem findAsk (k : List Int) (hk : k.length = 8) : ∀ (ks : List (List Int)) (es : List MapEntry) (j : Nat), es.map (·.key) = ks.map eKey → (∀ x ∈ ks, x.length = 8) →
    (pureRun TT.P (Instr.findAsking 165 (eKey k) es j)).map (fun r => r.map (·.1)) = some ((ks.findIdx? (fun x => decide (k = x))).map (· + j))
  | [], [], j, _, _ => rfl
  | [], e :: es, j, h, _ => by cases h
  | x :: ks, [], j, h, _ => by cases h
  | x :: ks, e :: es, j, h, h8 => by
    rw [List.map_cons, List.map_cons, List.cons.injEq] at h
    have ih := findAsk k hk ks es (j + 1) h.2 fun y hy => h8 y (List.mem_cons_of_mem _ hy)
    have he : pureRun TT.P (Op.equal 165 (eKey k) e.key) = some (decide (k = x)) := by
      rw [h.1]
      exact eq_arr k x hk (h8 x (List.mem_cons_self ..))
    unfold Instr.findAsking
    rw [pr_bind, he, Option.bind_some, List.findIdx?_cons]
    by_cases hx : k = x
    · rw [decide_eq_true hx]
      simp [pr_pure]
    · rw [decide_eq_false hx]
      simp only [Bool.false_eq_true, if_false]
      rw [ih]
      cases ks.findIdx? fun x => decide (k = x) with
      | none => rfl
      | some a => simp; omega
theorem check165 (b : Bool) (k : List Int) (hk : k.length = 8) : pureRun TT.P (Instr.checkKey b 10000 165 (eKey k)) = some () := by
  obtain ⟨x0, x1, x2, x3, x4, x5, x6, x7, rfl⟩ : ∃ a b c d e f g h, k = [a, b, c, d, e, f, g, h] := by
    match k, hk with
    | [a, b, c, d, e, f, g, h], _ => exact ⟨a, b, c, d, e, f, g, h, rfl⟩
  cases b <;> kernel_rfl
theorem flat_key {k : List Int} : flat (eKey k) = true := by
  show (k.map vI).toArray.toList.all flat1 = true
  rw [List.all_eq_true]
  intro x hx
  obtain ⟨n, _, rfl⟩ := List.mem_map.1 (by simpa using hx)
  rfl
theorem find_key (b : Bool) (k : List Int) (hk : k.length = 8) (ks : List (List Int)) (h8 : ∀ x ∈ ks, x.length = 8) : Finds TT b 165 (eKey k) (ks.map eKey) (ks.findIdx? fun x => decide (k = x)) := by
  intro es he
  have hall : (es.all fun e => flat e.key) = true := by
    rw [List.all_eq_true]
    intro e hm
    have : e.key ∈ ks.map eKey := by rw [← he]; exact List.mem_map.2 ⟨e, hm, rfl⟩
    obtain ⟨x, _, hx⟩ := List.mem_map.1 this
    rw [← hx]
    exact flat_key
  unfold findA
  rw [flat_key, hall, check165 b k hk]
  simp only [Bool.and_self, cond_true]
  have hf := findAsk k hk ks (es.map fun e => { e with val := .nilIface }) 0 (by rw [List.map_map]; exact he) h8
  rw [show pureRun TT.P (Instr.findKey 165 (eKey k) (es.map fun e => { e with val := .nilIface })) = pureRun TT.P (Instr.findAsking 165 (eKey k) (es.map fun e => { e with val := .nilIface }) 0) by
    unfold Instr.findKey
    rw [pr_bind, und165, Option.bind_some]
    have hn : ∀ (es : List MapEntry) (n : Nat), es ≠ [] → Instr.findNow (.array 8 3) (eKey k) es n = none := by
      intro es n hne
      cases es with
      | nil => exact absurd rfl hne
      | cons e es => rfl
    cases hes : es.map fun e => { e with val := Value.nilIface } with
    | nil => rfl
    | cons e l => rw [hn (e :: l) 0 (by simp)]]
  rw [hf]
  cases ks.findIdx? fun x => decide (k = x) <;> rfl
theorem same_key (k : List Int) : Instr.sameBits 10000 (eKey k) (eKey k) = true := by
  show ((k.map vI).toArray.size == (k.map vI).toArray.size && (((k.map vI).toArray.toList.zip (k.map vI).toArray.toList).all fun (x, y) => Instr.sameBits 9999 x y)) = true
  rw [beq_self_eq_true, Bool.true_and, List.all_eq_true]
  rintro ⟨x, y⟩ hxy
  have : ∀ (l : List Value), (x, y) ∈ l.zip l → x = y ∧ x ∈ l := by
    intro l
    induction l with
    | nil => intro h; cases h
    | cons a l ih =>
      intro h
      rw [List.zip_cons_cons] at h
      rcases List.mem_cons.1 h with h | h
      · cases h; exact ⟨rfl, List.mem_cons_self ..⟩
      · exact ⟨(ih h).1, List.mem_cons_of_mem _ (ih h).2⟩
  obtain ⟨rfl, hx⟩ := this _ hxy
  obtain ⟨n, _, rfl⟩ := List.mem_map.1 (by simpa using hx)
  show (IntKind.i64 == IntKind.i64 && n == n) = true
  simp
end Go.Proofs.Ytmkaeohmdcoanaa
open Go Go.RM
namespace Go.Proofs.Ytmkaeohmdcoanaa
set_option maxRecDepth 100000
set_option maxHeartbeats 4000000
abbrev Met := List (List Int × Int)
def metAt (k : List Int) (E : Met) : Option Nat := E.findIdx? fun x => decide (k = x.1)
def metVal (k : List Int) (E : Met) : Int := match metAt k E with
  | some i => match E[i]? with | some x => x.2 | none => 0
  | none => 0
def metTouch (k : List Int) (E : Met) : Met := match metAt k E with
  | some _ => E
  | none => E ++ [(k, 0)]
def metIdx (k : List Int) (E : Met) : Nat := match metAt k E with
  | some i => i
  | none => E.length
def bump (k : List Int) (E : Met) : Met := (metTouch k E).set (metIdx k E) (k, metVal k E + 1)
def entsF : Nat → Met → List (AV × AV × Nat)
  | _, [] => []
  | b, (k, c) :: E => (.ag (k.map I64), I64 c, b) :: entsF (b + 1) E
theorem ents_get : ∀ (b : Nat) (E : Met) (i : Nat) (x : List Int × Int), E[i]? = some x → (entsF b E)[i]? = some (.ag (x.1.map I64), I64 x.2, b + i)
  | _, [], i, x, h => by cases h
  | b, (k, c) :: E, 0, x, h => by cases h; rfl
  | b, (k, c) :: E, i + 1, x, h => by
    unfold entsF
    rw [List.getElem?_cons_succ] at h ⊢
    rw [ents_get (b + 1) E i x h, show b + 1 + i = b + (i + 1) by omega]
theorem ents_set : ∀ (b : Nat) (E : Met) (i : Nat) (k : List Int) (c : Int), (entsF b E).set i (.ag (k.map I64), I64 c, b + i) = entsF b (E.set i (k, c))
  | _, [], i, k, c => rfl
  | b, (k', c') :: E, 0, k, c => rfl
  | b, (k', c') :: E, i + 1, k, c => by
    show (AV.ag (k'.map I64), I64 c', b) :: (entsF (b + 1) E).set i _ = (AV.ag (k'.map I64), I64 c', b) :: entsF (b + 1) (E.set i (k, c))
    rw [← ents_set (b + 1) E i k c, show b + 1 + i = b + (i + 1) by omega]
theorem ents_app : ∀ (b : Nat) (E : Met) (k : List Int) (c : Int), entsF b E ++ [(AV.ag (k.map I64), I64 c, b + E.length)] = entsF b (E ++ [(k, c)])
  | _, [], k, c => rfl
  | b, (k', c') :: E, k, c => by
    show (AV.ag (k'.map I64), I64 c', b) :: (entsF (b + 1) E ++ _) = (AV.ag (k'.map I64), I64 c', b) :: entsF (b + 1) (E ++ [(k, c)])
    rw [← ents_app (b + 1) E k c, List.length_cons, show b + 1 + E.length = b + (E.length + 1) by omega]
theorem ents_borns : ∀ (b : Nat) (E : Met), (entsF b E).map (fun p => ((p.2.2 : Nat) : Int)) = (List.range' b E.length).map fun (i : Nat) => (i : Int)
  | _, [] => rfl
  | b, (k, c) :: E => by
    unfold entsF
    rw [List.map_cons, ents_borns (b + 1) E, List.length_cons, List.range'_succ, List.map_cons]
theorem range_find : ∀ (n b i : Nat), i < n → ((List.range' b n).map fun (i : Nat) => (i : Int)).findIdx? (· == ((b + i : Nat) : Int)) = some i
  | 0, _, i, h => absurd h (Nat.not_lt_zero _)
  | n + 1, b, 0, _ => by
    rw [List.range'_succ, List.map_cons, List.findIdx?_cons]
    simp
  | n + 1, b, i + 1, h => by
    rw [List.range'_succ, List.map_cons, List.findIdx?_cons]
    have hne : ((b : Int) == ((b + (i + 1) : Nat) : Int)) = false := by
      rw [beq_eq_false_iff_ne]; omega
    rw [hne]
    have := range_find n (b + 1) i (by omega)
    rw [show b + 1 + i = b + (i + 1) by omega] at this
    simp only [Bool.false_eq_true, if_false, this, Option.map_some]
theorem flat_ints : ∀ l : List Int, flVs (l.map I64) = some (l.map vI)
  | [] => rfl
  | a :: l => by
    show (flVs (l.map I64)).map (vI a :: ·) = _
    rw [flat_ints l]; rfl
theorem flatv_key {k : List Int} : (AV.ag (k.map I64)).flatV = some (eKey k) := by
  show (flVs (k.map I64)).map _ = _
  rw [flat_ints]; rfl
theorem keys_ents : ∀ (b : Nat) (E : Met), keysOf (entsF b E) = some ((E.map (·.1)).map eKey)
  | _, [] => rfl
  | b, (k, c) :: E => by
    unfold entsF keysOf
    rw [flatv_key, keys_ents (b + 1) E]; rfl
theorem met_find (b : Bool) {k : List Int} (hk : k.length = 8) {E : Met} (h8 : ∀ x ∈ E, x.1.length = 8) : Finds TT b 165 (eKey k) ((E.map (·.1)).map eKey) (metAt k E) := by
  have := find_key b k hk (E.map (·.1)) (fun x hx => by obtain ⟨y, hy, rfl⟩ := List.mem_map.1 hx; exact h8 y hy)
  rw [List.findIdx?_map] at this
  exact this
section
variable {own : Bool} {fr : Nat → AV} {hp : List AB} {K : AV → List AB → Prop} {m k : Operand} {j : Nat} {key : List Int} {E : Met}
theorem met_some {i : Nat} (h : metAt key E = some i) : ∃ x, E[i]? = some x ∧ x.1 = key := by
  unfold metAt at h
  rw [List.findIdx?_eq_some_iff_getElem] at h
  obtain ⟨hi, h1, _⟩ := h
  exact ⟨E[i], List.getElem?_eq_getElem hi, (of_decide_eq_true h1).symm⟩
theorem lookMet (hm : evA fr m = .om j) (hk : evA fr k = .ag (key.map I64)) (hj : hp[j]? = some (.map (entsF 0 E) E.length)) (h8 : key.length = 8) (hE : ∀ x ∈ E, x.1.length = 8) (hK : K (I64 (metVal key E)) hp) :
    RM.wpOp TT own (.lookup 164 m k false) fr hp K := by
  show wpLookup TT 164 (evA fr m) (evA fr k) false hp K
  rw [hm, hk]
  refine ⟨_, _, _, eKey key, 165, vI 0, metAt key E, hj, keys_ents 0 E, flatv_key, by kernel_rfl, met_find _ h8 hE, ?_⟩
  cases h : metAt key E with
  | none =>
    refine ⟨rfl, ?_⟩
    unfold metVal at hK
    rw [h] at hK
    exact hK
  | some i =>
    obtain ⟨x, hx, _⟩ := met_some h
    refine ⟨_, ents_get 0 E i x hx, ?_⟩
    unfold metVal at hK
    simp only [h, hx] at hK
    exact hK
theorem entryMet (hm : evA fr m = .om j) (hk : evA fr k = .ag (key.map I64)) (hj : hp[j]? = some (.map (entsF 0 E) E.length)) (h8 : key.length = 8) (hE : ∀ x ∈ E, x.1.length = 8)
    (hK : K (.tp [I64 (metVal key E), I64 (metIdx key E : Nat)]) (hp.set j (.map (entsF 0 (metTouch key E)) (metTouch key E).length))) :
    RM.wpOp TT own (.mapEntry 164 m k) fr hp K := by
  show wpMapEntry TT 164 (evA fr m) (evA fr k) hp K
  rw [hm, hk]
  refine ⟨_, _, _, eKey key, 165, vI 0, metAt key E, hj, keys_ents 0 E, flatv_key, by kernel_rfl, met_find _ h8 hE, ?_⟩
  cases h : metAt key E with
  | none =>
    refine ⟨rfl, ?_⟩
    unfold metVal metIdx metTouch at hK
    simp only [h] at hK
    rw [← ents_app 0 E key 0, Nat.zero_add, List.length_append] at hK
    exact hK
  | some i =>
    obtain ⟨x, hx, hxk⟩ := met_some h
    have hg := ents_get 0 E i x hx
    refine ⟨_, hg, ⟨eKey x.1, flatv_key, by rw [hxk]; exact same_key key⟩, ?_⟩
    unfold metVal metIdx metTouch at hK
    simp only [h, hx] at hK
    rw [← hxk, set_same hg, Nat.zero_add]
    exact hK
theorem storeMet {s v : Operand} {n : Int} {t : TypeId} (hm : evA fr m = .om j) (hs : evA fr s = I64 (metIdx key E : Nat)) (hv : evA fr v = I64 n) (hj : hp[j]? = some (.map (entsF 0 (metTouch key E)) (metTouch key E).length)) (hn : n = metVal key E + 1)
    (hK : K .junk (hp.set j (.map (entsF 0 (bump key E)) (bump key E).length))) : RM.wpOp TT own (.entryStore t m s v) fr hp K := by
  show wpEntryStore (evA fr m) (evA fr s) (evA fr v) hp K
  rw [hm, hs, hv]
  obtain ⟨c, hx⟩ : ∃ c, (metTouch key E)[metIdx key E]? = some (key, c) := by
    unfold metTouch metIdx
    cases h : metAt key E with
    | none => exact ⟨0, by simp⟩
    | some i =>
      obtain ⟨x, hx, hxk⟩ := met_some h
      exact ⟨x.2, by dsimp only; rw [hx, ← hxk]⟩
  have hlt := (List.getElem?_eq_some_iff.1 hx).1
  have hf := range_find (metTouch key E).length 0 (metIdx key E) hlt
  rw [← ents_borns, Nat.zero_add] at hf
  have hst := ents_set 0 (metTouch key E) (metIdx key E) key (metVal key E + 1)
  refine ⟨_, _, _, _, _, hj, rfl, hf, ents_get 0 _ _ _ hx, ?_⟩
  rw [hn, hst]
  unfold bump at hK
  rw [List.length_set] at hK
  exact hK
end
theorem bump_mem {k : List Int} {E : Met} {x : List Int × Int} (hx : x ∈ bump k E) : x ∈ E ∨ x.1 = k ∧ x.2 = metVal k E + 1 := by
  unfold bump at hx
  rcases List.mem_or_eq_of_mem_set hx with h | rfl
  · unfold metTouch metIdx at *
    cases ha : metAt k E with
    | some i => rw [ha] at h; exact .inl h
    | none =>
      rw [ha] at h hx
      simp only at h hx
      rw [List.set_append_right _ _ (Nat.le_refl _)] at hx
      rcases List.mem_append.1 hx with h1 | h1
      · exact .inl h1
      · simp only [Nat.sub_self, List.set_cons_zero, List.mem_singleton] at h1
        subst h1
        exact .inr ⟨rfl, rfl⟩
  · exact .inr ⟨rfl, rfl⟩
theorem bump_has (k : List Int) (E : Met) : ∃ x ∈ bump k E, x.1 = k := by
  have hlt : metIdx k E < (metTouch k E).length := by
    unfold metTouch metIdx
    cases h : metAt k E with
    | none => simp
    | some i =>
      obtain ⟨x, hx, _⟩ := met_some h
      exact (List.getElem?_eq_some_iff.1 hx).1
  exact ⟨_, List.mem_set hlt _, rfl⟩
theorem bump_keeps {k : List Int} {E : Met} {x : List Int × Int} (hx : x ∈ E) : ∃ y ∈ bump k E, y.1 = x.1 := by
  obtain ⟨i, hi⟩ := List.getElem?_of_mem hx
  have hil := (List.getElem?_eq_some_iff.1 hi).1
  have hg : (metTouch k E)[i]? = some x := by
    unfold metTouch
    cases h : metAt k E with
    | none => dsimp only; rw [List.getElem?_append_left hil]; exact hi
    | some _ => exact hi
  have hlt := (List.getElem?_eq_some_iff.1 hg).1
  by_cases hik : metIdx k E = i
  · have hlt' : metIdx k E < (metTouch k E).length := by rw [hik]; exact hlt
    refine ⟨_, List.mem_set hlt' _, ?_⟩
    unfold metIdx at hik
    cases h : metAt k E with
    | none => simp only [h] at hik; omega
    | some j =>
      obtain ⟨z, hz, hzk⟩ := met_some h
      simp only [h] at hik
      subst hik
      rw [hi] at hz
      rw [Option.some.inj hz, hzk]
  · refine ⟨x, ?_, rfl⟩
    have : (bump k E)[i]? = some x := by
      unfold bump
      rw [List.getElem?_set_ne hik]; exact hg
    exact List.mem_of_getElem? this
section
variable {τ : Type} (key : τ → List Int)
def tally (T : List τ) : Met := T.foldl (fun E t => bump (key t) E) []
variable {key}
structure MetInv (T : List τ) (E : Met) : Prop where
  all : ∀ t ∈ T, ∃ x ∈ E, x.1 = key t
  some : ∀ x ∈ E, ∃ t ∈ T, x.1 = key t
  cnt : ∀ x ∈ E, 0 ≤ x.2 ∧ x.2 ≤ T.length
theorem metVal_le {T : List τ} {E : Met} (h : MetInv (key := key) T E) (k : List Int) : 0 ≤ metVal k E ∧ metVal k E ≤ T.length := by
  unfold metVal
  cases ha : metAt k E with
  | none => dsimp only; omega
  | some i =>
    obtain ⟨x, hx, _⟩ := met_some ha
    simp only [hx]
    exact h.cnt x (List.mem_of_getElem? hx)
theorem tally_inv : ∀ (T : List τ), MetInv (key := key) T (tally key T) := by
  have step : ∀ (T : List τ) (E : Met) (t : τ), MetInv (key := key) T E → MetInv (key := key) (T ++ [t]) (bump (key t) E) := by
    intro T E t h
    have hv := metVal_le h (key t)
    refine ⟨fun u hu => ?_, fun x hx => ?_, fun x hx => ?_⟩
    · rcases List.mem_append.1 hu with hu | hu
      · obtain ⟨x, hx, e⟩ := h.all u hu
        obtain ⟨y, hy, e'⟩ := bump_keeps (k := key t) hx
        exact ⟨y, hy, e'.trans e⟩
      · rw [List.mem_singleton.1 hu]; exact bump_has _ _
    · rcases bump_mem hx with hx | ⟨e, _⟩
      · obtain ⟨u, hu, e⟩ := h.some x hx
        exact ⟨u, List.mem_append_left _ hu, e⟩
      · exact ⟨t, by simp, e⟩
    · rw [List.length_append, List.length_singleton]
      rcases bump_mem hx with hx | ⟨_, e⟩
      · have := h.cnt x hx
        omega
      · omega
  have go : ∀ (L T : List τ) (E : Met), MetInv (key := key) T E → MetInv (key := key) (T ++ L) (L.foldl (fun E t => bump (key t) E) E) := by
    intro L
    induction L with
    | nil => intro T E h; rw [List.append_nil]; exact h
    | cons t L ih =>
      intro T E h
      have := ih (T ++ [t]) (bump (key t) E) (step T E t h)
      rw [List.append_assoc] at this
      exact this
  intro T
  exact go T [] [] ⟨fun t ht => absurd ht (by simp), fun x hx => absurd hx (by simp), fun x hx => absurd hx (by simp)⟩
theorem tally_app (T U : List τ) : tally key (T ++ U) = U.foldl (fun E t => bump (key t) E) (tally key T) := by
  unfold tally
  rw [List.foldl_append]
theorem tally_one (T : List τ) (t : τ) : tally key (T ++ [t]) = bump (key t) (tally key T) := by
  rw [tally_app]; rfl
end
end Go.Proofs.Ytmkaeohmdcoanaa
open Go Go.RM
namespace Go.Proofs.Ytmkaeohmdcoanaa
set_option maxRecDepth 100000
set_option maxHeartbeats 4000000
/-- A truth misses a count of the kind. -/
def missAt (men : List Int) (k : Kind) (row : List Int) (l : List Count) (ki : Nat) (t : Truth) (i : Nat) : Bool := match l[i]? with
  | some c => decide (c.kind = (ki : Int)) && !cntIn (lvl men k row t) c
  | none => false
def b2 (b : Bool) : Int := if b = true then 1 else 0
def keyOf (p : Nat → Bool) : List Int := [b2 (p 0), b2 (p 1), b2 (p 2), b2 (p 3), b2 (p 4), b2 (p 5), b2 (p 6), b2 (p 7)]
def upto (p : Nat → Bool) (j : Nat) (i : Nat) : Bool := decide (i < j) && p i
theorem upto_zero (p : Nat → Bool) : keyOf (upto p 0) = [0, 0, 0, 0, 0, 0, 0, 0] := by
  unfold keyOf upto
  simp [b2]
theorem upto_skip {p : Nat → Bool} {j : Nat} (h : p j = false) : upto p (j + 1) = upto p j := by
  funext i
  unfold upto
  by_cases hij : i = j
  · subst hij; rw [h]; simp
  · rw [show decide (i < j + 1) = decide (i < j) from decide_eq_decide.2 (by omega)]
theorem upto_all {p : Nat → Bool} {n : Nat} (h : ∀ i, n ≤ i → p i = false) : upto p n = p := by
  funext i
  unfold upto
  by_cases hij : i < n
  · simp [hij]
  · rw [h i (by omega)]; simp
theorem upto_set {p : Nat → Bool} {j : Nat} (h : p j = true) (hj : j < 8) : (keyOf (upto p j)).set j 1 = keyOf (upto p (j + 1)) := by
  have hne : ∀ i, i ≠ j → upto p (j + 1) i = upto p j i := by
    intro i hi
    unfold upto
    rw [show decide (i < j + 1) = decide (i < j) from decide_eq_decide.2 (by omega)]
  have hyes : upto p (j + 1) j = true := by unfold upto; simp [h]
  match j, hj with
  | 0, _ | 1, _ | 2, _ | 3, _ | 4, _ | 5, _ | 6, _ | 7, _ =>
    unfold keyOf
    simp only [hyes]
    repeat rw [hne _ (by omega)]
    rfl
theorem upto_splice {p : Nat → Bool} {j : Nat} (h : p j = true) (hj : j < 8) : spliceV ((keyOf (upto p j)).map I64) [I64 1] (0 + j * 1) = (keyOf (upto p (j + 1))).map I64 := by
  rw [← upto_set h hj]
  match j, hj with
  | 0, _ | 1, _ | 2, _ | 3, _ | 4, _ | 5, _ | 6, _ | 7, _ => rfl
theorem key_at {p : Nat → Bool} {i : Nat} (h : i < 8) : (keyOf p)[i]? = some (b2 (p i)) := by
  match i, h with
  | 0, _ | 1, _ | 2, _ | 3, _ | 4, _ | 5, _ | 6, _ | 7, _ => rfl
/-- The numbers that are not 0. -/
def nzs (key : List Int) : List Int := lst (fun i => !decide (key.getD i 0 = 0)) 0 8
theorem key_lst (p : Nat → Bool) : nzs (keyOf p) = lst p 0 8 := by
  unfold nzs
  apply lst_congr
  intro i hi
  rw [List.getD_eq_getElem?_getD, key_at hi]
  unfold b2
  cases p i <;> rfl
theorem miss_none {men : List Int} {k : Kind} {row : List Int} {l : List Count} {ki : Nat} {t : Truth} {i : Nat} (h : l.length ≤ i) : missAt men k row l ki t i = false := by
  unfold missAt
  rw [List.getElem?_eq_none h]
theorem miss_at {men : List Int} {k : Kind} {row : List Int} {l : List Count} {ki : Nat} {t : Truth} {i : Nat} (h : i < l.length) : missAt men k row l ki t i = (decide (l[i].kind = (ki : Int)) && !cntIn (lvl men k row t) l[i]) := by
  unfold missAt
  rw [List.getElem?_eq_getElem h]
theorem outB1 (lo hi n : Int) : outB lo hi [n] = !inB n lo hi := by
  rw [outB_one]
def spanT (x : Truth × Truth) : List Truth := (List.range (x.2.first - x.1.first + 1).toNat).map fun (i : Nat) => ⟨x.1.first + (i : Int), x.1.man, x.1.ship⟩
def metT (L : List (Truth × Truth)) : List Truth := (L.map spanT).flatten
theorem metT_take {L : List (Truth × Truth)} {i : Nat} {y : Truth × Truth} (h : L[i]? = some y) : metT (L.take (i + 1)) = metT (L.take i) ++ spanT y := by
  unfold metT
  rw [List.take_add_one, h, List.map_append, List.flatten_append]
  simp
theorem metT_len : ∀ (L : List (Truth × Truth)), (∀ y ∈ L, 0 ≤ y.1.first ∧ y.2.first ≤ 300) → (metT L).length ≤ L.length * 301
  | [], _ => Nat.le_refl _
  | y :: L, h => by
    have ih := metT_len L fun z hz => h z (List.mem_cons_of_mem _ hz)
    have h1 := h y (List.mem_cons_self ..)
    have : metT (y :: L) = spanT y ++ metT L := rfl
    have hs : (spanT y).length = (y.2.first - y.1.first + 1).toNat := by unfold spanT; simp
    rw [this, List.length_append, List.length_cons, hs]
    omega
theorem bs_true (n : Nat) : bs (fun _ => true) 0 n = 0 := by
  obtain ⟨h1, h2⟩ := bs_least (fun _ => true) 0 n (Nat.zero_le _) (fun _ _ _ _ _ _ => rfl)
  apply Nat.eq_zero_of_not_pos
  intro h
  exact absurd (h1 0 (Nat.le_refl _) h) (by decide)
theorem bs_false (n : Nat) : bs (fun _ => false) 0 n = n := by
  have h0 := (bs_in (fun _ => false) 0 n (Nat.zero_le _)).2
  obtain ⟨h1, h2⟩ := bs_least (fun _ => false) 0 n (Nat.zero_le _) (fun _ _ _ _ _ h => absurd h (by decide))
  by_cases h : bs (fun _ => false) 0 n < n
  · exact absurd (h2 h) (by decide)
  · omega
theorem mem_met {men : List Int} {k : Kind} {row : List Int} {t : Truth} (hk : k.first.lo ≤ k.first.hi) : t ∈ metT (truthsL men k row []) ↔ truthOk k t = true := by
  have hlo : ∀ m p, lowF men k row [] m p = k.first.lo := by
    intro m p
    unfold lowF
    rw [show (fun i : Nat => enough men k row [] false ⟨k.first.lo + (i : Int), m, p⟩) = fun _ => true from rfl, bs_true]
    simp
  have hhi : ∀ m p, highF men k row [] m p = k.first.hi := by
    intro m p
    unfold highF
    rw [show (fun i : Nat => enough men k row [] true ⟨k.first.lo + (i : Int), m, p⟩) = fun _ => false from rfl, bs_false]
    unfold spanN
    omega
  rw [truthOk_iff]
  unfold metT
  simp only [List.mem_flatten, List.mem_map]
  constructor
  · rintro ⟨_, ⟨y, hy, rfl⟩, ht⟩
    unfold truthsL pairs at hy
    rw [List.mem_filterMap] at hy
    obtain ⟨q, hq, hy⟩ := hy
    rw [List.mem_range] at hq
    unfold useAt pairAt at hy
    rw [hlo, hhi, if_pos hk] at hy
    cases hy
    unfold spanT at ht
    rw [List.mem_map] at ht
    obtain ⟨i, hi, rfl⟩ := ht
    rw [List.mem_range] at hi
    have hpos : 0 < spanN k.ship := by
      apply Nat.pos_of_ne_zero
      intro h0
      rw [h0, Nat.mul_zero] at hq
      exact absurd hq (Nat.not_lt_zero _)
    have h1 : q / spanN k.ship < spanN k.man := Nat.div_lt_of_lt_mul (by rw [Nat.mul_comm]; exact hq)
    have h2 := Nat.mod_lt q hpos
    generalize q / spanN k.ship = m at *
    generalize q % spanN k.ship = p at *
    clear hq
    unfold spanN at *
    dsimp only at *
    omega
  · rintro ⟨h1, h2, h3⟩
    obtain ⟨a, b, c⟩ := t
    dsimp only at h1 h2 h3
    obtain ⟨x, rfl⟩ : ∃ x : Nat, a = k.first.lo + x := ⟨(a - k.first.lo).toNat, by omega⟩
    obtain ⟨y, rfl⟩ : ∃ x : Nat, b = k.man.lo + x := ⟨(b - k.man.lo).toNat, by omega⟩
    obtain ⟨z, rfl⟩ : ∃ x : Nat, c = k.ship.lo + x := ⟨(c - k.ship.lo).toNat, by omega⟩
    have hy : y < spanN k.man := by unfold spanN; omega
    have hz : z < spanN k.ship := by unfold spanN; omega
    refine ⟨_, ⟨(⟨k.first.lo, k.man.lo + y, k.ship.lo + z⟩, ⟨k.first.hi, k.man.lo + y, k.ship.lo + z⟩), ?_, rfl⟩, ?_⟩
    · unfold truthsL pairs
      rw [List.mem_filterMap]
      refine ⟨y * spanN k.ship + z, ?_, ?_⟩
      · rw [List.mem_range]
        have : (y + 1) * spanN k.ship ≤ spanN k.man * spanN k.ship := Nat.mul_le_mul_right _ hy
        rw [Nat.add_mul, Nat.one_mul] at this
        omega
      · rw [use_at men k row [] hz]
        unfold pairAt
        rw [hlo, hhi, if_pos hk]
    · unfold spanT
      rw [List.mem_map]
      exact ⟨x, by rw [List.mem_range]; dsimp only; omega, rfl⟩
end Go.Proofs.Ytmkaeohmdcoanaa
open Go Go.RM
namespace Go.Proofs.Ytmkaeohmdcoanaa
set_option maxRecDepth 100000
set_option maxHeartbeats 4000000
def sndC : Code → Code
  | .seq _ b => b
  | c => c
def inC : Code → Code
  | .scope c => c
  | c => c
noncomputable def tail78 : Code := sndC (sndC (sndC (inC (sndC (Try.f78.body.getD .skip)))))
def unseen (n : Nat) (seen : List Nat) : Nat := ((List.range n).filter fun i => !decide (i ∈ seen)).length
theorem unseen_less {n i : Nat} {seen : List Nat} (hi : i < n) (h : i ∉ seen) : unseen n (seen ++ [i]) < unseen n seen := by
  unfold unseen
  have e : (List.range n).filter (fun j => !decide (j ∈ seen ++ [i])) = ((List.range n).filter fun j => !decide (j ∈ seen)).filter fun j => !decide (j = i) := by
    rw [List.filter_filter]
    congr 1
    funext j
    rw [Bool.eq_iff_iff]
    simp only [Bool.not_eq_true', decide_eq_false_iff_not, Bool.and_eq_true, List.mem_append, List.mem_singleton]
    constructor
    · intro h; exact ⟨fun e => h (.inr e), fun e => h (.inl e)⟩
    · rintro ⟨h1, h2⟩ (h | h)
      · exact h2 h
      · exact h1 h
  rw [e, List.length_filter_lt_length_iff_exists]
  exact ⟨i, by rw [List.mem_filter, List.mem_range]; exact ⟨hi, by simpa using h⟩, by simp⟩
theorem ents_mem : ∀ {E : Met} {b : Nat} {e : AV × AV × Nat}, e ∈ entsF b E → ∃ (i : Nat) (x : List Int × Int), E[i]? = some x ∧ e = (.ag (x.1.map I64), I64 x.2, b + i)
  | [], _, _, h => absurd h (List.not_mem_nil)
  | (k, c) :: E, b, e, h => by
    unfold entsF at h
    rcases List.mem_cons.1 h with rfl | h
    · exact ⟨0, (k, c), rfl, rfl⟩
    · obtain ⟨i, x, h1, h2⟩ := ents_mem h
      exact ⟨i + 1, x, h1, by rw [h2, show b + 1 + i = b + (i + 1) by omega]⟩
theorem ents_find : ∀ {E : Met} {b i : Nat} {x : List Int × Int}, E[i]? = some x → ((entsF b E).find? fun p => p.2.2 == b + i) = some (.ag (x.1.map I64), I64 x.2, b + i)
  | [], _, _, _, h => by cases h
  | (k, c) :: E, b, 0, x, h => by
    cases h
    unfold entsF
    rw [List.find?_cons]
    simp
  | (k, c) :: E, b, i + 1, x, h => by
    unfold entsF
    have hne : (b == b + (i + 1)) = false := by rw [beq_eq_false_iff_ne]; omega
    rw [List.find?_cons]
    simp only [hne]
    have := ents_find (b := b + 1) (by simpa using h : E[i]? = some x)
    rw [show b + 1 + i = b + (i + 1) by omega] at this
    exact this
section
variable {own : Bool} {fr : Nat → AV} {hp : List AB} {K : AV → List AB → Prop}
theorem entMet {it : Operand} {q j since i : Nat} {seen : List Nat} {E : Met} {x : List Int × Int} (hi : evA fr it = .ptr q 0 0) (hq : hp[q]? = some (.iter j since (seen ++ [i]) E.length)) (hj : hp[j]? = some (.map (entsF 0 E) E.length)) (hx : E[i]? = some x)
    (hK : K (.tp [.ag (x.1.map I64), I64 x.2]) hp) : RM.wpOp TT own (.entry it) fr hp K := by
  show wpEntry (evA fr it) hp K
  rw [hi]
  have hf := ents_find (b := 0) hx
  rw [Nat.zero_add] at hf
  exact ⟨_, _, _, _, _, _, _, _, hq, hj, rfl, List.getLast?_concat, hf, hK⟩
theorem idxMet {a x : Operand} {p : Nat → Bool} {c : Nat} (ha : evA fr a = .ag ((keyOf p).map I64)) (hx : evA fr x = I64 (c : Nat)) (hc : c < 8) (hK : K (I64 (b2 (p c))) hp) : RM.wpOp TT own (.index 165 a x) fr hp K := by
  show wpIndex TT 165 (evA fr a) (evA fr x) hp K
  rw [ha, hx]
  refine ⟨_, _, flatv_key, rfl, ?_⟩
  match c, hc with
  | 0, _ | 1, _ | 2, _ | 3, _ | 4, _ | 5, _ | 6, _ | 7, _ =>
    exact ⟨vI (b2 (p _)), rfl, rfl, hK⟩
theorem idx0 {a x : Operand} {p : Nat → Bool} {c : Nat} (ha : evA fr a = .ag ((keyOf p).map I64)) (hx : evA fr x = I64 (c : Nat)) (hc : c < 8) (hq : p c = false) (hK : K (I64 0) hp) : RM.wpOp TT own (.index 165 a x) fr hp K := idxMet ha hx hc (by rw [hq]; exact hK)
theorem idx1 {a x : Operand} {p : Nat → Bool} {c : Nat} (ha : evA fr a = .ag ((keyOf p).map I64)) (hx : evA fr x = I64 (c : Nat)) (hc : c < 8) (hq : p c = true) (hK : K (I64 1) hp) : RM.wpOp TT own (.index 165 a x) fr hp K := idxMet ha hx hc (by rw [hq]; exact hK)
end
end Go.Proofs.Ytmkaeohmdcoanaa
open Go Go.RM
namespace Go.Proofs.Ytmkaeohmdcoanaa
set_option maxRecDepth 100000
set_option maxHeartbeats 4000000
theorem key_deep {key : List Int} : (AV.ag (key.map I64)).deep = true := by
  show deepL (key.map I64) = true
  induction key with
  | nil => rfl
  | cons a l ih => exact ih
theorem ents_inb (n : Nat) : ∀ (E : Met) (b : Nat), ((entsF b E).all fun p => p.1.inb n && p.2.1.inb n) = true
  | [], _ => rfl
  | (k, c) :: E, b => by
    unfold entsF
    rw [List.all_cons, ents_inb n E (b + 1), deep_inb n _ key_deep]
    rfl
theorem ents_noj (n : Nat) : ∀ (E : Met) (b : Nat), ((entsF b E).all fun p => p.1.noj n && p.2.1.noj n) = true
  | [], _ => rfl
  | (k, c) :: E, b => by
    unfold entsF
    rw [List.all_cons, ents_noj n E (b + 1), deep_noj n _ key_deep]
    rfl
abbrev mB (E : Met) : AB := .map (entsF 0 E) E.length
abbrev mC : AB := .cells [.om 1] 0 0
abbrev rowV5 (L : List Int) : AV := .osl 5 L.length 0 L.length (L.length + 1)
theorem rowV5_snoc (L : List Int) (a : Int) : rowV5 (L ++ [a]) = .osl 5 (L.length + 1) 0 (L.length + 1) (L.length + 1 + 1) := by
  show AV.osl _ _ _ _ _ = _
  rw [List.length_append]
  rfl
theorem rowB_snoc (L : List Int) (a : Int) : rowB (L ++ [a]) (L ++ [a]).length = .cells (L.map I64 ++ [[I64 a]].flatten) 1 (L.length + 1) := by
  show AB.cells _ _ _ = _
  rw [List.map_append, List.length_append]
  rfl
theorem outer_inb {H : AB} (hH : ∀ n, H.inb n = true) (E : Met) (seen : List Nat) : ([H, mB E, mC, .iter 1 E.length (seen) E.length] : List AB).all (AB.inb 4) = true :=
  allInb (hH 4) (allInb (ents_inb 4 E 0) rfl)
theorem inner_inb {H : AB} (hH : ∀ n, H.inb n = true) (E : Met) (seen : List Nat) (p : Nat → Bool) (L : List Int) : ([H, mB E, mC, .iter 1 E.length (seen) E.length, .cells ((keyOf p).map I64) 0 0, rowB (L) (L).length] : List AB).all (AB.inb 6) = true :=
  allInb (hH 6) (allInb (ents_inb 6 E 0) (allInb rfl (allInb rfl (allInb (deep_inb 6 _ key_deep) (by
    rw [List.all_cons, List.all_nil, Bool.and_true]
    exact inbL_map (fun _ => rfl) _)))))
theorem nojCons {j i : Nat} {b : AB} {l : List AB} (h : b.noj j = true) (k : nojAll j (i + 1) l = true) : nojAll j i (b :: l) = true := by
  unfold nojAll
  rw [h, k, Bool.or_true]
  rfl
theorem inner_noj {H : AB} (hN : ∀ n, H.noj n = true) (E : Met) (seen : List Nat) (p : Nat → Bool) (L : List Int) : nojAll 5 0 ([H, mB E, mC, .iter 1 E.length (seen) E.length, .cells ((keyOf p).map I64) 0 0, rowB (L) (L).length] : List AB) = true :=
  nojCons (hN 5) (nojCons (ents_noj 5 E 0) (nojCons rfl (nojCons rfl (nojCons (deep_noj 5 (.ag _) key_deep) rfl))))
theorem bef_lens {x y : List Int} (h : y.length < x.length) : ¬ bef x y := by
  unfold bef
  omega
/-- What is known of what was seen. -/
def SeenOk (E : Met) (x : List Nat × Bool × List Int) : Prop := (x.2.1 = false → x.1 = [] ∧ x.2.2 = []) ∧ (x.2.1 = true → (∃ y ∈ E, nzs y.1 = x.2.2) ∧ ∀ i ∈ x.1, ∀ y, E[i]? = some y → ¬ bef (nzs y.1) x.2.2)
theorem SeenOk.taken {E : Met} {seen : List Nat} {f : Bool} {bb : List Int} (h : SeenOk E (seen, f, bb)) {i : Nat} {y : List Int × Int} (hy : E[i]? = some y) (hb : f = true → bef (nzs y.1) bb) : SeenOk E (seen ++ [i], true, nzs y.1) := by
  refine ⟨fun h => (by cases h), fun _ => ⟨⟨y, List.mem_of_getElem? hy, rfl⟩, fun j hj z hz => ?_⟩⟩
  rcases List.mem_append.1 hj with hj | hj
  · cases f with
    | false =>
      have := (h.1 rfl).1
      dsimp only at this
      rw [this] at hj
      cases hj
    | true => exact fun hc => (h.2 rfl).2 j hj z hz (bef_trans hc (hb rfl))
  · rw [List.mem_singleton.1 hj, hy] at hz
    cases hz
    exact bef_irr
theorem SeenOk.kept {E : Met} {seen : List Nat} {bb : List Int} (h : SeenOk E (seen, true, bb)) {i : Nat} {y : List Int × Int} (hy : E[i]? = some y) (hb : ¬ bef (nzs y.1) bb) : SeenOk E (seen ++ [i], true, bb) := by
  refine ⟨fun h => (by cases h), fun _ => ⟨(h.2 rfl).1, fun j hj z hz => ?_⟩⟩
  rcases List.mem_append.1 hj with hj | hj
  · exact (h.2 rfl).2 j hj z hz
  · rw [List.mem_singleton.1 hj, hy] at hz
    cases hz
    exact hb
theorem fewest_tail {H : AB} {E : Met} {best : List Int} (hH : ∀ n, H.inb n = true) (hN : ∀ n, H.noj n = true) (hkey : ∀ x ∈ E, ∃ p, x.1 = keyOf p) (hex : ∃ x ∈ E, nzs x.1 = best) (hmin : ∀ x ∈ E, ¬ bef (nzs x.1) best) :
    SemC TT TB false tail78 ⟨mkFr [(6, .sl [] false), (8, .ptr 2 0 0)], [H, mB E, mC], Amb.none, false, 0⟩ (scopeQ (RetQ TT Try.f78.results.toList (.sl (best.map eI) false))) := by
  have hb8 : best.length ≤ 8 := by
    obtain ⟨x, _, rfl⟩ := hex
    exact lst_len_le _ _ _
  refine RM.c2s (mu := fun _ => false) ?_
  repeat' (first |with_reducible (first|refine RM.c4 ?_|refine RM.c9 ?_|refine RM.o1 ?_|refine RM.o2 ?_|refine RM.o4 ?_|refine RM.o5 ?_|refine RM.p3 ?_) |((with_reducible show force _ _);refine RM.f1 rfl ?_) |((with_reducible show wpOne _ _ _ _ _ _ _ _ _ _ _ _);refine RM.o8 rfl ?_) |fail)
  refine RM.c2s (mu := fun _ => false) ?_
  skip
  refine SemC.seq ?_
  refine RM.c2s (mu := fun _ => false) ?_
  repeat' (first |with_reducible (first|refine RM.c4 ?_|refine RM.c9 ?_|refine RM.o1 ?_|refine RM.o2 ?_|refine RM.o4 ?_|refine RM.o5 ?_) |((with_reducible show force _ _);first|refine RM.f7 rfl ?_|refine RM.f9 rfl ?_) |((with_reducible show wpOne _ _ _ _ _ _ _ _ _ _ _ _);refine RM.o8 rfl ?_) |(refine ⟨_, _, rfl, _, rfl, ?_⟩) |(refine ⟨_, _, rfl, ?_⟩) |fail)
  refine SemC.block ?_
  refine SemC.weaker (Weaker.to (l := [(6, .sl ((([] : List Int)).map eI) false), (8, .ptr 2 0 0), (17, BB false), (87, .ptr 3 0 0)]) (hp := [H, mB E, mC, .iter 1 E.length (([] : List Nat)) E.length]) 4 rfl ⟨rfl, rfl, rfl, rfl, trivial⟩ (Nat.zero_le _) rfl (outer_inb hH E [])) ?_
  refine SemC.loop (fun x : List Nat × Bool × List Int => SeenOk E x) (fun x => ⟨mkFr [(6, .sl ((x.2.2).map eI) false), (8, .ptr 2 0 0), (17, BB x.2.1), (87, .ptr 3 0 0)], [H, mB E, mC, .iter 1 E.length (x.1) E.length], Amb.none, false, 0⟩) (fun x => unseen E.length x.1) ?_ ([], false, []) ⟨fun _ => ⟨rfl, rfl⟩, fun h => (by cases h)⟩
  rintro ⟨seen, f, bb⟩ hso
  have hbb : bb.length ≤ 8 := by
    cases f with
    | false =>
      have := (hso.1 rfl).2
      dsimp only at this
      rw [this]
      exact Nat.zero_le _
    | true =>
      obtain ⟨y, _, hy⟩ := (hso.2 rfl).1
      dsimp only at hy
      rw [← hy]
      exact lst_len_le _ _ _
  have eb : ((bb.map eI).length : Int) = bb.length := by simp
  refine RM.c2s (mu := fun _ => false) ?_
  repeat' (first |with_reducible (first|refine RM.c4 ?_|refine RM.o2 ?_|refine RM.o4 ?_) |((with_reducible show force _ _);refine RM.f7 rfl ?_) |(refine And.intro (by kernel_rfl) ?_) |fail)
  refine ⟨1, E.length, seen, E.length, entsF 0 E, E.length, rfl, rfl, fun e he => ?_, fun e he hns => ?_, fun hall => ?_⟩
  · obtain ⟨i, x, hx, rfl⟩ := ents_mem he
    have := (List.getElem?_eq_some_iff.1 hx).1
    dsimp only
    omega
  · obtain ⟨i, x, hx, rfl⟩ := ents_mem he
    rw [Nat.zero_add] at hns ⊢
    have hi := (List.getElem?_eq_some_iff.1 hx).1
    have hless := unseen_less hi hns
    obtain ⟨p, hp⟩ := hkey x (List.mem_of_getElem? hx)
    obtain ⟨key, cnt⟩ := x
    dsimp only at hp
    subst hp
    have hnz := key_lst p
    repeat' (first |with_reducible (first|refine RM.c9 ?_|refine RM.o1 ?_|refine RM.o2 ?_|refine RM.o4 ?_|refine RM.o5 ?_) |((with_reducible show force _ _);refine RM.f1 rfl ?_) |((with_reducible show wpOne _ _ _ _ _ _ _ _ _ _ _ _);refine RM.o8 rfl ?_) |(refine ⟨_, rfl, ?_⟩) |fail)
    refine RM.c2s (mu := fun _ => false) ?_
    repeat' (first |with_reducible (first|refine RM.c1 ?_|refine RM.c9 ?_) |((with_reducible show wpC _ _ _ _ (.cond _ _ _) _ _);refine RM.e2 rfl rfl ?_) |fail)
    refine SemC.block ?_
    refine RM.c2s (mu := fun _ => false) ?_
    repeat' (first |(refine entMet rfl rfl rfl hx ?_) |with_reducible (first|refine RM.c4 ?_|refine RM.c9 ?_|refine RM.o1 ?_|refine RM.o2 ?_|refine RM.o4 ?_|refine RM.o5 ?_|refine RM.o6 ?_) |((with_reducible show force _ _);first|refine RM.f5 rfl ?_|refine RM.f6 rfl ?_|refine RM.f7 rfl ?_|refine RM.g2 rfl ?_) |((with_reducible show wpOne _ _ _ _ _ _ _ _ _ _ _ _);refine RM.o8 rfl ?_) |(refine ⟨_, rfl, ?_⟩) |(refine And.intro (by kernel_rfl) ?_) |(refine ⟨_, _, rfl, rfl, rfl, rfl, Nat.le_of_ble_eq_true rfl, ?_⟩) |fail)
    refine RM.c2s (mu := fun _ => false) ?_
    repeat' (first |with_reducible (first|refine RM.c4 ?_|refine RM.c9 ?_|refine RM.o1 ?_|refine RM.o2 ?_|refine RM.o4 ?_|refine RM.o5 ?_|refine RM.p3 ?_) |((with_reducible show force _ _);refine RM.f1 rfl ?_) |((with_reducible show wpOne _ _ _ _ _ _ _ _ _ _ _ _);refine RM.o8 rfl ?_) |fail)
    refine SemC.seq ?_
    refine RM.c2s (mu := fun _ => false) ?_
    repeat' (first |with_reducible (first|refine RM.c4 ?_|refine RM.c9 ?_|refine RM.o1 ?_|refine RM.o2 ?_|refine RM.o4 ?_|refine RM.o5 ?_|refine RM.p2 ?_) |((with_reducible show force _ _);first|refine RM.f1 rfl ?_|refine RM.f5 rfl ?_) |((with_reducible show wpOne _ _ _ _ _ _ _ _ _ _ _ _);refine RM.o8 rfl ?_) |(refine ⟨_, _, rfl, Nat.le_of_ble_eq_true rfl, ?_⟩) |fail)
    refine SemC.block ?_
    refine SemC.weaker (Weaker.trans (Weaker.addNil 1) (Weaker.toS (l := [(6, .sl ((bb).map eI) false), (8, .ptr 2 0 0), (17, BB f), (19, rowV5 (lst p 0 0)), (87, .ptr 3 0 0), (92, .ag ((keyOf p).map I64)), (93, I64 (0 : Nat))]) (hp := [H, mB E, mC, .iter 1 E.length ((seen ++ [i])) E.length, .cells ((keyOf p).map I64) 0 0, rowB (lst p 0 0) (lst p 0 0).length]) 6 rfl ⟨Soft.refl _, Soft.refl _, Soft.refl _, Soft.nilRow, Soft.refl _, Soft.refl _, Soft.refl _, trivial⟩ (Nat.zero_le _) rfl (inner_inb hH _ _ _ _))) ?_
    refine SemC.loop (fun c : Nat => c ≤ 8 ∧ (f = true → (lst p 0 c).length ≤ bb.length)) (fun c => ⟨mkFr [(6, .sl ((bb).map eI) false), (8, .ptr 2 0 0), (17, BB f), (19, rowV5 (lst p 0 c)), (87, .ptr 3 0 0), (92, .ag ((keyOf p).map I64)), (93, I64 (c : Nat))], [H, mB E, mC, .iter 1 E.length ((seen ++ [i])) E.length, .cells ((keyOf p).map I64) 0 0, rowB (lst p 0 c) (lst p 0 c).length], Amb.none, false, 0⟩) (fun c => 8 - c) ?_ 0 ⟨Nat.zero_le _, fun _ => Nat.zero_le _⟩
    rintro c ⟨hc8, hcl⟩
    by_cases hlt : c < 8
    · have d1 : decide ((c : Int) < 8) = true := decide_eq_true (by omega)
      refine wpC_sound (mu := fun t => Nat.beq t 102) ?_
      cases hpc : p c with
      | false =>
        have hsn := lst_snoc_f hpc
        repeat' (first |(refine idx0 rfl rfl hlt hpc ?_) |with_reducible (first|refine RM.c1 ?_|refine RM.c2 ?_|refine RM.c3 ?_|refine RM.c4 ?_|refine RM.c6 ?_|refine RM.c9 ?_|refine RM.d2 ?_|refine RM.o1 ?_|refine RM.o2 ?_|refine RM.o4 ?_|refine RM.o5 ?_|refine RM.p2 ?_|refine RM.p3 ?_|refine RM.p5 ?_) |((with_reducible show force _ _);refine RM.f1 rfl ?_) |((with_reducible show wpOne _ _ _ _ _ _ _ _ _ _ _ _);refine RM.o8 rfl ?_) |((with_reducible show wpC _ _ _ _ (.cond _ _ _) _ _);first|refine RM.e2 rfl rfl ?_|refine RM.e2 rfl (by assumption) ?_) |((with_reducible show wpBin _ _ _ _ _ _ _ _ _);first|refine RM.b4 rfl rfl ?_|refine RM.b6 rfl rfl ?_|refine RM.b1 rfl rfl (by omega) ?_) |((with_reducible show blockK _ _ _ _);refine RM.d5 rfl ?_) |fail)
        refine ⟨c + 1, ⟨hlt, fun h => (by rw [hsn]; exact hcl h)⟩, (by dsimp only; omega), ?_⟩
        show Weaker _ ⟨mkFr [(6, .sl ((bb).map eI) false), (8, .ptr 2 0 0), (17, BB f), (19, rowV5 (lst p 0 (c + 1))), (87, .ptr 3 0 0), (92, .ag ((keyOf p).map I64)), (93, I64 ((c + 1) : Nat))], [H, mB E, mC, .iter 1 E.length ((seen ++ [i])) E.length, .cells ((keyOf p).map I64) 0 0, rowB (lst p 0 (c + 1)) (lst p 0 (c + 1)).length], Amb.none, false, 0⟩
        rw [hsn]
        exact Weaker.to 6 rfl ⟨rfl, rfl, rfl, rfl, rfl, rfl, i64c (by simp), trivial⟩ (Nat.zero_le _) rfl (inner_inb hH _ _ _ _)
      | true =>
        have hsn := lst_snoc_t hpc
        have hll := lst_len_le p 0 c
        have hmo := lst_mono p (c := c + 1) (d := 8) (by omega)
        rw [hsn, List.length_append, List.length_singleton] at hmo
        have hq : ((lst p 0 c).length + 1) * 8 ≤ 140737488355328 ∧ (lst p 0 c).length + 1 ≤ 9223372036854775807 := by omega
        repeat' (first |(refine idx1 rfl rfl hlt hpc ?_) |with_reducible (first|refine RM.c1 ?_|refine RM.c2 ?_|refine RM.c3 ?_|refine RM.c4 ?_|refine RM.c9 ?_|refine RM.o1 ?_|refine RM.o2 ?_|refine RM.o4 ?_|refine RM.o5 ?_|refine RM.p2 ?_|refine RM.p3 ?_|refine RM.p5 ?_) |((with_reducible show force _ _);first|refine RM.f1 rfl ?_|refine RM.f8 rfl ?_) |((with_reducible show wpOne _ _ _ _ _ _ _ _ _ _ _ _);refine RM.o8 rfl ?_) |((with_reducible show wpC _ _ _ _ (.cond _ _ _) _ _);first|refine RM.e3 rfl rfl ?_|refine RM.e2 rfl (by assumption) ?_) |((with_reducible show wpBin _ _ _ _ _ _ _ _ _);first|refine RM.b4 rfl rfl ?_|refine RM.b6 rfl rfl ?_) |(refine ⟨rfl, rfl, rfl, ?_⟩) |fail)
        refine ⟨[eI (c : Int)], ⟨(fun el hel => by rw [List.mem_singleton.1 hel]; rfl), rfl⟩, rfl, _, rfl, (by rw [List.length_map, Nat.mul_one]), Or.inr rfl, hq, fun hn => absurd hn (by simp), fun _ => ?_⟩
        cases f with
        | false =>
          repeat' (first |with_reducible (first|refine RM.c1 ?_|refine RM.c2 ?_|refine RM.c4 ?_|refine RM.c9 ?_|refine RM.d3 ?_|refine RM.o1 ?_|refine RM.o2 ?_|refine RM.o4 ?_|refine RM.o5 ?_|refine RM.p2 ?_|refine RM.p3 ?_|refine RM.p4 ?_|refine RM.p5 ?_) |((with_reducible show force _ _);first|refine RM.f1 rfl ?_|refine RM.f8 rfl ?_) |((with_reducible show wpOne _ _ _ _ _ _ _ _ _ _ _ _);refine RM.o8 rfl ?_) |((with_reducible show wpGuard _ _ _ _ _);refine wpGuard_no rfl rfl rfl ?_) |((with_reducible show wpC _ _ _ _ (.cond _ _ _) _ _);refine RM.e3 rfl rfl ?_) |((with_reducible show wpPick _ _ _ _ _);refine RM.k1 rfl ?_) |((with_reducible show wpPickB _ _ _ _ _);refine RM.k3 rfl ?_) |((with_reducible show wpBin _ _ _ _ _ _ _ _ _);refine RM.b1 rfl rfl (by omega) ?_) |fail)
          refine ⟨c + 1, ⟨hlt, fun h => (by cases h)⟩, (by dsimp only; omega), ?_⟩
          show Weaker _ ⟨mkFr [(6, .sl ((bb).map eI) false), (8, .ptr 2 0 0), (17, BB false), (19, rowV5 (lst p 0 (c + 1))), (87, .ptr 3 0 0), (92, .ag ((keyOf p).map I64)), (93, I64 ((c + 1) : Nat))], [H, mB E, mC, .iter 1 E.length ((seen ++ [i])) E.length, .cells ((keyOf p).map I64) 0 0, rowB (lst p 0 (c + 1)) (lst p 0 (c + 1)).length], Amb.none, false, 0⟩
          rw [hsn]
          exact Weaker.to 6 (by rw [rowB_snoc]; rfl) ⟨rfl, rfl, rfl, (by rw [rowV5_snoc]; rfl), rfl, rfl, i64c (by simp), trivial⟩ (Nat.zero_le _) rfl (inner_inb hH _ _ _ _)
        | true =>
          by_cases hgt : bb.length < (lst p 0 c).length + 1
          · have d2 : decide (((bb.map eI).length : Int) < (((lst p 0 c).length + [eI (c : Int)].length : Nat) : Int)) = true := decide_eq_true (by rw [eb]; simp; omega)
            repeat' (first |with_reducible (first|refine RM.c2 ?_|refine RM.c4 ?_|refine RM.c6 ?_|refine RM.c9 ?_|refine RM.d2 ?_|refine RM.o1 ?_|refine RM.o2 ?_|refine RM.o4 ?_|refine RM.o5 ?_|refine RM.p2 ?_|refine RM.p3 ?_|refine RM.p4 ?_|refine RM.p5 ?_|refine RM.p6 ?_|refine RM.q2 ?_) |((with_reducible show force _ _);first|refine RM.f1 rfl ?_|refine RM.f2 rfl ?_|refine RM.f8 rfl ?_) |((with_reducible show wpOne _ _ _ _ _ _ _ _ _ _ _ _);refine RM.o8 rfl ?_) |((with_reducible show wpGuard _ _ _ _ _);refine wpGuard_yes rfl rfl rfl ?_) |((with_reducible show wpC _ _ _ _ (.cond _ _ _) _ _);refine RM.e2 rfl (by assumption) ?_) |((with_reducible show wpPick _ _ _ _ _);refine RM.k1 rfl ?_) |((with_reducible show wpPickB _ _ _ _ _);refine RM.k2 rfl ?_) |((with_reducible show wpBin _ _ _ _ _ _ _ _ _);refine RM.b8 rfl rfl ?_) |((with_reducible show wpLen _ _ _ _ _);first|refine RM.l1 rfl ?_|refine RM.l2 rfl ?_) |((with_reducible show blockK _ _ _ _);first|refine RM.d5 rfl ?_|refine RM.d6 rfl ?_) |fail)
            refine ⟨(seen ++ [i], true, bb), hso.kept hx (by dsimp only; rw [hnz]; exact bef_lens (by omega)), hless, ?_⟩
            exact Weaker.to 4 rfl ⟨rfl, rfl, rfl, rfl, trivial⟩ (Nat.zero_le _) rfl (outer_inb hH _ _)
          · have d2 : decide (((bb.map eI).length : Int) < (((lst p 0 c).length + [eI (c : Int)].length : Nat) : Int)) = false := decide_eq_false (by rw [eb]; simp; omega)
            repeat' (first |with_reducible (first|refine RM.c1 ?_|refine RM.c2 ?_|refine RM.c4 ?_|refine RM.c9 ?_|refine RM.d3 ?_|refine RM.o1 ?_|refine RM.o2 ?_|refine RM.o4 ?_|refine RM.o5 ?_|refine RM.p2 ?_|refine RM.p3 ?_|refine RM.p4 ?_|refine RM.p5 ?_|refine RM.p6 ?_) |((with_reducible show force _ _);first|refine RM.f1 rfl ?_|refine RM.f2 rfl ?_|refine RM.f8 rfl ?_) |((with_reducible show wpOne _ _ _ _ _ _ _ _ _ _ _ _);refine RM.o8 rfl ?_) |((with_reducible show wpGuard _ _ _ _ _);refine wpGuard_yes rfl rfl rfl ?_) |((with_reducible show wpC _ _ _ _ (.cond _ _ _) _ _);refine RM.e3 rfl (by assumption) ?_) |((with_reducible show wpPick _ _ _ _ _);refine RM.k1 rfl ?_) |((with_reducible show wpPickB _ _ _ _ _);refine RM.k2 rfl ?_) |((with_reducible show wpBin _ _ _ _ _ _ _ _ _);first|refine RM.b8 rfl rfl ?_|refine RM.b1 rfl rfl (by omega) ?_) |((with_reducible show wpLen _ _ _ _ _);first|refine RM.l1 rfl ?_|refine RM.l2 rfl ?_) |fail)
            refine ⟨c + 1, ⟨hlt, fun _ => (by rw [hsn, List.length_append, List.length_singleton]; omega)⟩, (by dsimp only; omega), ?_⟩
            show Weaker _ ⟨mkFr [(6, .sl ((bb).map eI) false), (8, .ptr 2 0 0), (17, BB true), (19, rowV5 (lst p 0 (c + 1))), (87, .ptr 3 0 0), (92, .ag ((keyOf p).map I64)), (93, I64 ((c + 1) : Nat))], [H, mB E, mC, .iter 1 E.length ((seen ++ [i])) E.length, .cells ((keyOf p).map I64) 0 0, rowB (lst p 0 (c + 1)) (lst p 0 (c + 1)).length], Amb.none, false, 0⟩
            rw [hsn]
            exact Weaker.to 6 (by rw [rowB_snoc]; rfl) ⟨rfl, rfl, rfl, (by rw [rowV5_snoc]; rfl), rfl, rfl, i64c (by simp), trivial⟩ (Nat.zero_le _) rfl (inner_inb hH _ _ _ _)
    · have hc : c = 8 := by omega
      subst hc
      have d1 : decide (((8 : Nat) : Int) < 8) = false := rfl
      refine wpC_sound (mu := fun _ => false) ?_
      repeat' (first |with_reducible (first|refine RM.c2 ?_|refine RM.c4 ?_|refine RM.c6 ?_|refine RM.c9 ?_|refine RM.d2 ?_|refine RM.o1 ?_|refine RM.o2 ?_|refine RM.o4 ?_|refine RM.o5 ?_|refine RM.p5 ?_|refine RM.q2 ?_) |((with_reducible show force _ _);refine RM.f1 rfl ?_) |((with_reducible show wpOne _ _ _ _ _ _ _ _ _ _ _ _);refine RM.o8 rfl ?_) |((with_reducible show wpC _ _ _ _ (.cond _ _ _) _ _);refine RM.e3 rfl rfl ?_) |((with_reducible show wpBin _ _ _ _ _ _ _ _ _);refine RM.b6 rfl rfl ?_) |((with_reducible show blockK _ _ _ _);refine RM.d5 rfl ?_) |fail)
      refine SemC.weaker (Weaker.giveUp 5 (l := [(6, .sl ((bb).map eI) false), (8, .ptr 2 0 0), (17, BB f), (87, .ptr 3 0 0), (19, .sl ((lst p 0 8).map eI) false)]) (hp := [H, mB E, mC, .iter 1 E.length ((seen ++ [i])) E.length, .cells ((keyOf p).map I64) 0 0, .gone]) rfl (Nat.zero_le _) (deepL_map (fun _ => rfl) _) ⟨.same rfl, .same rfl, .same rfl, .same rfl, .row 1 (by simp) (by simp) (fun el hel => by obtain ⟨x, _, rfl⟩ := List.mem_map.1 hel; rfl) (by rw [flat_map1 (f := I64), List.drop_zero, List.take_of_length_le (by simp)]) (fun h => Bool.noConfusion h), trivial⟩ (inner_noj hN _ _ _ _) rfl) ?_
      have hBl := lst_len_le p 0 8
      generalize lst p 0 8 = B at *
      have hcmp := compare_c false B bb false false (by omega) (by omega)
      have eB : ((B.map eI).length : Int) = B.length := by simp
      have hend : ∀ (f' : Bool) (b' : List Int) (st : ASt), SeenOk E (seen ++ [i], f', b') → Weaker st ⟨mkFr [(6, .sl ((b').map eI) false), (8, .ptr 2 0 0), (17, BB f'), (87, .ptr 3 0 0)], [H, mB E, mC, .iter 1 E.length ((seen ++ [i])) E.length], Amb.none, false, 0⟩ → ∃ y : List Nat × Bool × List Int, SeenOk E y ∧ unseen E.length y.1 < unseen E.length seen ∧ Weaker st ⟨mkFr [(6, .sl ((y.2.2).map eI) false), (8, .ptr 2 0 0), (17, BB y.2.1), (87, .ptr 3 0 0)], [H, mB E, mC, .iter 1 E.length (y.1) E.length], Amb.none, false, 0⟩ := fun f' b' st h1 h2 => ⟨(seen ++ [i], f', b'), h1, hless, h2⟩
      refine wpC_sound (mu := fun _ => false) ?_
      cases f with
      | false =>
        repeat' (first |with_reducible (first|refine RM.c2 ?_|refine RM.c4 ?_|refine RM.c9 ?_|refine RM.d3 ?_|refine RM.o1 ?_|refine RM.o2 ?_|refine RM.o4 ?_|refine RM.o5 ?_|refine RM.p2 ?_|refine RM.p3 ?_|refine RM.p4 ?_) |((with_reducible show force _ _);first|refine RM.f1 rfl ?_|refine RM.f2 rfl ?_) |((with_reducible show wpOne _ _ _ _ _ _ _ _ _ _ _ _);refine RM.o8 rfl ?_) |((with_reducible show wpGuard _ _ _ _ _);refine wpGuard_no rfl rfl rfl ?_) |((with_reducible show wpC _ _ _ _ (.cond _ _ _) _ _);refine RM.e2 rfl rfl ?_) |((with_reducible show wpPick _ _ _ _ _);refine RM.k1 rfl ?_) |((with_reducible show wpPickB _ _ _ _ _);refine RM.k2 rfl ?_) |((with_reducible show RM.wpOp _ _ _ _ _ _);refine RM.n3 rfl ?_) |fail)
        exact hend true B _ (by rw [← hnz]; exact hso.taken hx (fun h => (by cases h))) (Weaker.to 4 rfl ⟨rfl, rfl, rfl, rfl, trivial⟩ (Nat.zero_le _) rfl (outer_inb hH _ _))
      | true =>
        have hBb := hcl rfl
        by_cases h1 : B.length < bb.length
        · have d2 : decide (((B.map eI).length : Int) < ((bb.map eI).length : Int)) = true := decide_eq_true (by omega)
          repeat' (first |with_reducible (first|refine RM.c2 ?_|refine RM.c4 ?_|refine RM.c9 ?_|refine RM.d3 ?_|refine RM.o1 ?_|refine RM.o2 ?_|refine RM.o4 ?_|refine RM.o5 ?_|refine RM.p2 ?_|refine RM.p3 ?_|refine RM.p4 ?_|refine RM.p5 ?_|refine RM.p6 ?_) |((with_reducible show force _ _);first|refine RM.f1 rfl ?_|refine RM.f2 rfl ?_) |((with_reducible show wpOne _ _ _ _ _ _ _ _ _ _ _ _);refine RM.o8 rfl ?_) |((with_reducible show wpGuard _ _ _ _ _);first|refine wpGuard_yes rfl rfl rfl ?_|refine wpGuard_no rfl rfl (by assumption) ?_) |((with_reducible show wpC _ _ _ _ (.cond _ _ _) _ _);refine RM.e2 rfl rfl ?_) |((with_reducible show wpPick _ _ _ _ _);refine RM.k1 rfl ?_) |((with_reducible show wpPickB _ _ _ _ _);first|refine RM.k3 rfl ?_|refine RM.k2 (by assumption) ?_) |((with_reducible show wpBin _ _ _ _ _ _ _ _ _);refine RM.b6 rfl rfl ?_) |((with_reducible show wpLen _ _ _ _ _);refine RM.l1 rfl ?_) |((with_reducible show RM.wpOp _ _ _ _ _ _);refine RM.n3 rfl ?_) |fail)
          exact hend true B _ (by rw [← hnz]; exact hso.taken hx (fun _ => (by dsimp only; rw [hnz]; exact .inl h1))) (Weaker.to 4 rfl ⟨rfl, rfl, rfl, rfl, trivial⟩ (Nat.zero_le _) rfl (outer_inb hH _ _))
        · have d2 : decide (((B.map eI).length : Int) < ((bb.map eI).length : Int)) = false := decide_eq_false (by omega)
          by_cases h2 : cmpL B bb < 0
          · have d3 := decide_eq_true h2
            repeat' (first |with_reducible (first|refine RM.c2 ?_|refine RM.c4 ?_|refine RM.c9 ?_|refine RM.d3 ?_|refine RM.o1 ?_|refine RM.o2 ?_|refine RM.o4 ?_|refine RM.o5 ?_|refine RM.o7 ?_|refine RM.o9 ?_|refine RM.p1 ?_|refine RM.p2 ?_|refine RM.p3 ?_|refine RM.p4 ?_|refine RM.p5 ?_|refine RM.p6 ?_) |((with_reducible show force _ _);first|refine RM.f1 rfl ?_|refine RM.f2 rfl ?_|refine RM.f4 rfl ?_) |((with_reducible show wpOne _ _ _ _ _ _ _ _ _ _ _ _);refine RM.o8 rfl ?_) |((with_reducible show wpGuard _ _ _ _ _);first|refine wpGuard_yes rfl rfl rfl ?_|refine wpGuard_yes rfl rfl (by assumption) ?_) |((with_reducible show wpC _ _ _ _ (.cond _ _ _) _ _);refine RM.e2 rfl (by assumption) ?_) |((with_reducible show wpPick _ _ _ _ _);refine RM.k1 rfl ?_) |((with_reducible show wpPickB _ _ _ _ _);first|refine RM.k3 rfl ?_|refine RM.k3 (by assumption) ?_) |((with_reducible show wpBin _ _ _ _ _ _ _ _ _);refine RM.b6 rfl rfl ?_) |((with_reducible show wpLen _ _ _ _ _);refine RM.l1 rfl ?_) |((with_reducible show RM.wpOp _ _ _ _ _ _);refine RM.n3 rfl ?_) |(refine PureV.call hcmp rfl rfl ?_) |fail)
            exact hend true B _ (by rw [← hnz]; exact hso.taken hx (fun _ => (by dsimp only; rw [hnz]; exact .inr ⟨by omega, h2⟩))) (Weaker.to 4 rfl ⟨rfl, rfl, rfl, rfl, trivial⟩ (Nat.zero_le _) rfl (outer_inb hH _ _))
          · have d3 := decide_eq_false h2
            repeat' (first |with_reducible (first|refine RM.c1 ?_|refine RM.c2 ?_|refine RM.c4 ?_|refine RM.c9 ?_|refine RM.d3 ?_|refine RM.o1 ?_|refine RM.o2 ?_|refine RM.o4 ?_|refine RM.o5 ?_|refine RM.o7 ?_|refine RM.o9 ?_|refine RM.p1 ?_|refine RM.p2 ?_|refine RM.p4 ?_|refine RM.p5 ?_|refine RM.p6 ?_) |((with_reducible show force _ _);first|refine RM.f1 rfl ?_|refine RM.f2 rfl ?_|refine RM.f4 rfl ?_) |((with_reducible show wpOne _ _ _ _ _ _ _ _ _ _ _ _);refine RM.o8 rfl ?_) |((with_reducible show wpGuard _ _ _ _ _);first|refine wpGuard_yes rfl rfl rfl ?_|refine wpGuard_yes rfl rfl (by assumption) ?_) |((with_reducible show wpC _ _ _ _ (.cond _ _ _) _ _);refine RM.e3 rfl (by assumption) ?_) |((with_reducible show wpPick _ _ _ _ _);refine RM.k1 rfl ?_) |((with_reducible show wpPickB _ _ _ _ _);first|refine RM.k3 rfl ?_|refine RM.k3 (by assumption) ?_) |((with_reducible show wpBin _ _ _ _ _ _ _ _ _);refine RM.b6 rfl rfl ?_) |((with_reducible show wpLen _ _ _ _ _);refine RM.l1 rfl ?_) |((with_reducible show RM.wpOp _ _ _ _ _ _);refine RM.n3 rfl ?_) |(refine PureV.call hcmp rfl rfl ?_) |fail)
            exact hend true bb _ (hso.kept hx (by dsimp only; rw [hnz]; unfold bef; omega)) (Weaker.to 4 rfl ⟨rfl, rfl, rfl, rfl, trivial⟩ (Nat.zero_le _) rfl (outer_inb hH _ _))
  · repeat' (first |with_reducible (first|refine RM.c9 ?_|refine RM.o1 ?_|refine RM.o2 ?_|refine RM.o4 ?_|refine RM.o5 ?_) |((with_reducible show force _ _);refine RM.f1 rfl ?_) |((with_reducible show wpOne _ _ _ _ _ _ _ _ _ _ _ _);refine RM.o8 rfl ?_) |(refine ⟨_, rfl, ?_⟩) |fail)
    refine wpC_sound (mu := fun _ => false) ?_
    repeat' (first |with_reducible (first|refine RM.c2 ?_|refine RM.c6 ?_|refine RM.c9 ?_|refine RM.d2 ?_|refine RM.q2 ?_) |((with_reducible show wpC _ _ _ _ (.cond _ _ _) _ _);refine RM.e3 rfl rfl ?_) |((with_reducible show blockK _ _ _ _);refine RM.d5 rfl ?_) |fail)
    refine wpC_sound (mu := fun _ => false) ?_
    repeat' (first |with_reducible (first|refine RM.c2 ?_|refine RM.c4 ?_|refine RM.c7 ?_|refine RM.c9 ?_|refine RM.d8 ?_|refine RM.o1 ?_|refine RM.o2 ?_|refine RM.o4 ?_|refine RM.o5 ?_|refine RM.p2 ?_|refine RM.p3 ?_) |((with_reducible show force _ _);refine RM.f2 rfl ?_) |((with_reducible show wpOne _ _ _ _ _ _ _ _ _ _ _ _);refine RM.o8 rfl ?_) |fail)
    have hin : ∀ i x, E[i]? = some x → i ∈ seen := fun i x hx => by
      have := hall _ (List.mem_of_getElem? (ents_get 0 E i x hx))
      rwa [Nat.zero_add] at this
    obtain ⟨z, hz, hzb⟩ := hex
    obtain ⟨iz, hiz⟩ := List.getElem?_of_mem hz
    cases f with
    | false =>
      have h1 := hin iz z hiz
      have h2 := (hso.1 rfl).1
      dsimp only at h2
      rw [h2] at h1
      cases h1
    | true =>
      obtain ⟨y, hy, hyb⟩ := (hso.2 rfl).1
      have h3 := (hso.2 rfl).2 iz (hin iz z hiz) z hiz
      have h4 := hmin y hy
      dsimp only at hyb h3
      rw [hyb] at h4
      rw [hzb] at h3
      rw [← bef_tri h4 h3]
      exact ⟨[_], ⟨Fz.deep rfl, trivial⟩, rfl⟩
end Go.Proofs.Ytmkaeohmdcoanaa
open Go Go.RM
namespace Go.Proofs.Ytmkaeohmdcoanaa
set_option maxRecDepth 100000
set_option maxHeartbeats 4000000
theorem hold_in (s : Stores) (k : Kind) (row : List Int) (n : Nat) : AB.inb n (.cells (eHoldV s k row (.sl [] false)) 0 0) = true := by
  exact deep_inb n (.ag _) (eHold_deep rfl)
theorem hold_noj (s : Stores) (k : Kind) (row : List Int) (n : Nat) : AB.noj n (.cells (eHoldV s k row (.sl [] false)) 0 0) = true := by
  exact deep_noj n (.ag _) (eHold_deep rfl)
theorem hb_inb (s : Stores) (k : Kind) (row : List Int) (y : Truth × Truth) (E : Met) (m : Nat) (p : Nat → Bool) (j : Nat) : ([.cells (eHoldV s k row (.sl [] false)) 0 0, mB (E), mC, .cells (eTruth y.1) 0 0, .cells (eTruth y.2) 0 0, .cells (eTruth ⟨y.1.first + (m : Nat), y.1.man, y.1.ship⟩) 0 0, .cells ((keyOf (upto p j)).map I64) 0 0] : List AB).all (AB.inb 7) = true :=
  allInb (hold_in s k row 7) (allInb (ents_inb 7 _ 0) (allInb rfl (allInb rfl (allInb rfl (allInb rfl (allInb (deep_inb 7 _ key_deep) rfl))))))
theorem touch_len {k : List Int} {E : Met} (hk : k.length = 8) (h : ∀ x ∈ E, x.1.length = 8) : ∀ x ∈ metTouch k E, x.1.length = 8 := by
  intro x hx
  unfold metTouch at hx
  split at hx
  · exact h x hx
  · rcases List.mem_append.1 hx with hx | hx
    · exact h x hx
    · rw [List.mem_singleton.1 hx]
      exact hk
theorem metVal_touch (k : List Int) (E : Met) : metVal k (metTouch k E) = metVal k E := by
  cases h : metAt k E with
  | some i =>
    have : metTouch k E = E := by unfold metTouch; rw [h]
    rw [this]
  | none =>
    have h1 : metTouch k E = E ++ [(k, 0)] := by unfold metTouch; rw [h]
    have h2 : metAt k (E ++ [(k, 0)]) = some E.length := by
      unfold metAt at h ⊢
      rw [List.findIdx?_append, h]
      simp
    rw [h1]
    unfold metVal
    rw [h2, h]
    simp
theorem out_inb (s : Stores) (k : Kind) (row : List Int) (E : Met) : ([.cells (eHoldV s k row (.sl [] false)) 0 0, mB E, mC] : List AB).all (AB.inb 3) = true :=
  allInb (hold_in s k row 3) (allInb (ents_inb 3 _ 0) rfl)
theorem noj2Cons {a b i : Nat} {z : AB} {l : List AB} (h : z.noj a = true) (h' : z.noj b = true) (k : nojAll2 a b (i + 1) l = true) : nojAll2 a b i (z :: l) = true := by
  unfold nojAll2
  rw [h, h', k]
  cases Nat.beq i a <;> rfl
theorem round_noj (s : Stores) (k : Kind) (row : List Int) (y : Truth × Truth) (E : Met) (n n' : Int) (p : Nat → Bool) : nojAll2 5 7 0 ([.cells (eHoldV s k row (.sl [] false)) 0 0, mB (E), mC, .cells (eTruth y.1) 0 0, .cells (eTruth y.2) 0 0, .cells (eTruth ⟨n, y.1.man, y.1.ship⟩) 0 0, .cells ((keyOf p).map I64) 0 0, .cells (eTruth ⟨n', y.1.man, y.1.ship⟩) 0 0] : List AB) = true :=
  noj2Cons (hold_noj s k row 5) (hold_noj s k row 7) (noj2Cons (ents_noj 5 E 0) (ents_noj 7 E 0) (noj2Cons rfl rfl (noj2Cons rfl rfl (noj2Cons rfl rfl (noj2Cons rfl rfl (noj2Cons (deep_noj 5 (.ag _) key_deep) (deep_noj 7 (.ag _) key_deep) rfl))))))
theorem fewest_c (s : Stores) (_h : s.Ok) (l : List Count) (h0 : cntsErr s l = 0) (i : Nat) (hi : i < s.kinds.length) (ts : Truth) (hts : truthOk s.kinds[i] ts = true)
    (hmin : ∀ u, truthOk s.kinds[i] u = true → ¬ bef (lst (missAt s.men s.kinds[i] (cargoRow i s.cargos) l i u) 0 8) (lst (missAt s.men s.kinds[i] (cargoRow i s.cargos) l i ts) 0 8)) :
    Pu false 78 [.ag (eStores s), .sl (l.map eCount) false, I64 i] (.sl ((lst (missAt s.men s.kinds[i] (cargoRow i s.cargos) l i ts) 0 8).map eI) false) := by
  obtain ⟨hg, hl8, hlc⟩ := cnts_good h0
  have h8 := sizes_9 hg.sizes
  have em : ((s.men.map eI).length : Int) = s.men.length := by simp
  have el : ((l.map eCount).length : Int) = l.length := by simp
  have hop := open_c false s [] false i hi (fun c hc => by have := hg.cargos c hc; omega) h8.2.2 (by simp)
  have hkg := hg.kinds _ (List.getElem_mem hi)
  have hrow := hg.row i
  have hh : HoldOk s s.kinds[i] (cargoRow i s.cargos) [] := ⟨hg, hkg, hrow, fun c hc => (by cases hc), Nat.zero_le _⟩
  generalize s.kinds[i] = k at *
  generalize cargoRow i s.cargos = row at *
  have hop : Pu false 60 [.ag (eStores s), .fl (.slice none 0 0), I64 i] (.ag (eHoldV s k row (.sl [] false))) := hop.soft (args' := [.ag (eStores s), .fl (.slice none 0 0), I64 i]) ⟨DSoft.refl _, DSoft.nil _, DSoft.refl _, trivial⟩
  have h30 := hh.row.len
  have htr := truths_c false (s := s) (k := k) (row := row) (f := [])
  have hgn := truths_g false hh
  have hmm := fun t => mem_met (men := s.men) (k := k) (row := row) (t := t) (by have := hkg.first; omega)
  have hru := fun (y : Truth × Truth) (hy : y ∈ truthsL s.men k row []) => (truthsL_run hh hy)
  have hLl : (truthsL s.men k row []).length ≤ 91 := by
    have h1 := hkg.man
    have h2 := hkg.ship
    have hn : spanN k.man * spanN k.ship ≤ 7 * 13 := Nat.mul_le_mul (by unfold spanN; omega) (by unfold spanN; omega)
    unfold truthsL pairs
    have := List.length_filterMap_le (useAt s.men k row []) (List.range (spanN k.man * spanN k.ship))
    rw [List.length_range] at this
    omega
  generalize truthsL s.men k row [] = L at *
  refine PureV.body (fn := Try.f78) rfl rfl rfl rfl ?_
  refine RM.c2s (mu := fun _ => false) ?_
  repeat' (first |with_reducible (first|refine RM.c4 ?_|refine RM.c9 ?_|refine RM.o1 ?_|refine RM.o2 ?_|refine RM.o4 ?_|refine RM.o5 ?_|refine RM.p3 ?_) |((with_reducible show force _ _);first|refine RM.f1 rfl ?_|refine RM.f3 rfl ?_) |((with_reducible show wpOne _ _ _ _ _ _ _ _ _ _ _ _);refine RM.o8 rfl ?_) |(refine ⟨rfl, rfl, rfl, ?_⟩) |fail)
  refine SemC.scope ?_
  refine RM.c2s (mu := fun _ => false) ?_
  repeat' (first |(refine stH (s := s) (k := k) (row := row) h30 rfl rfl rfl rfl ?_) |with_reducible (first|refine RM.c4 ?_|refine RM.c9 ?_|refine RM.o1 ?_|refine RM.o2 ?_|refine RM.o4 ?_|refine RM.o5 ?_|refine RM.o6 ?_|refine RM.o7 ?_|refine RM.o9 ?_|refine RM.p1 ?_) |((with_reducible show force _ _);first|refine RM.f1 rfl ?_|refine RM.f4 rfl ?_|refine RM.f5 rfl ?_|refine RM.f7 rfl ?_|refine RM.g2 rfl ?_) |((with_reducible show wpOne _ _ _ _ _ _ _ _ _ _ _ _);refine RM.o8 rfl ?_) |(refine ⟨_, rfl, ?_⟩) |(refine And.intro (Nat.le_of_ble_eq_true rfl) ?_) |(refine And.intro (by kernel_rfl) ?_) |(refine PureV.call hop rfl rfl ?_) |fail)
  refine RM.c2s (mu := fun _ => false) ?_
  repeat' (first |with_reducible (first|refine RM.c4 ?_|refine RM.c9 ?_|refine RM.o1 ?_|refine RM.o2 ?_|refine RM.o4 ?_|refine RM.o5 ?_|refine RM.o6 ?_) |((with_reducible show force _ _);first|refine RM.f7 rfl ?_|refine RM.g2 rfl ?_) |((with_reducible show wpOne _ _ _ _ _ _ _ _ _ _ _ _);refine RM.o8 rfl ?_) |(refine And.intro (by kernel_rfl) ?_) |(refine ⟨_, _, rfl, rfl, rfl, rfl, Nat.le_of_ble_eq_true rfl, ?_⟩) |fail)
  refine SemC.seq ?_
  refine RM.c2s (mu := fun _ => false) ?_
  repeat' (first |(refine ldHO (s := s) (k := k) (row := row) h30 rfl rfl ?_) |with_reducible (first|refine RM.c4 ?_|refine RM.c9 ?_|refine RM.o1 ?_|refine RM.o2 ?_|refine RM.o4 ?_|refine RM.o5 ?_|refine RM.o7 ?_|refine RM.o9 ?_|refine RM.p1 ?_) |((with_reducible show force _ _);first|refine RM.f4 rfl ?_|refine RM.f5 rfl ?_) |((with_reducible show wpOne _ _ _ _ _ _ _ _ _ _ _ _);refine RM.o8 rfl ?_) |(refine PureV.call htr rfl (hdeep rfl) ?_) |fail)
  refine SemC.block ?_
  generalize hkf : (fun t => keyOf (missAt s.men k row l i t)) = kf
  have hkf' : ∀ t, kf t = keyOf (missAt s.men k row l i t) := fun t => by rw [← hkf]
  refine SemC.range (fun n => [.cells (eHoldV s k row (.sl [] false)) 0 0, mB (tally kf (metT (L.take n))), mC]) (fun _ => Amb.none) (fun _ => True) rfl hgn rfl rfl trivial (fun n x hx _ => ?_) (fun _ => ?_)
  · obtain ⟨y, hy, rfl⟩ := pair_of hx
    have hyr := hru y (List.mem_of_getElem? hy)
    have htk := metT_take hy
    refine ⟨rfl, ?_⟩
    refine wpC_sound (mu := fun _ => false) ?_
    repeat' (first |with_reducible (first|refine RM.c2 ?_|refine RM.c4 ?_|refine RM.c9 ?_|refine RM.o1 ?_|refine RM.o2 ?_|refine RM.o4 ?_|refine RM.o5 ?_|refine RM.o6 ?_) |((with_reducible show force _ _);first|refine RM.f7 rfl ?_|refine RM.g2 rfl ?_) |((with_reducible show wpOne _ _ _ _ _ _ _ _ _ _ _ _);refine RM.o8 rfl ?_) |(refine And.intro (by kernel_rfl) ?_) |(refine ⟨_, _, rfl, rfl, rfl, rfl, Nat.le_of_ble_eq_true rfl, ?_⟩) |fail)
    refine SemC.block ?_
    refine RM.c2s (mu := fun _ => false) ?_
    repeat' (first |with_reducible (first|refine RM.c4 ?_|refine RM.c9 ?_|refine RM.o1 ?_|refine RM.o2 ?_|refine RM.o4 ?_|refine RM.o5 ?_|refine RM.o6 ?_) |((with_reducible show force _ _);first|refine RM.f5 rfl ?_|refine RM.f7 rfl ?_|refine RM.g2 rfl ?_) |((with_reducible show wpOne _ _ _ _ _ _ _ _ _ _ _ _);refine RM.o8 rfl ?_) |(refine And.intro (by kernel_rfl) ?_) |(refine ⟨_, _, rfl, rfl, rfl, rfl, Nat.le_of_ble_eq_true rfl, ?_⟩) |(refine ⟨_, _, rfl, Nat.le_of_ble_eq_true rfl, ?_⟩) |fail)
    refine SemC.block ?_
    have hfl : (metT (L.take n)).length ≤ 91 * 301 := by
      refine Nat.le_trans (metT_len _ fun z hz => ?_) (Nat.mul_le_mul_right _ (by rw [List.length_take]; omega))
      have := hru z (List.mem_of_mem_take hz)
      have h1 := hkg.first
      omega
    have hsl : (spanT y).length = (y.2.first - y.1.first + 1).toNat := by unfold spanT; simp
    have hf := hkg.first
    have h00 : y.1.first + ((0 : Nat) : Int) = y.1.first := by simp
    have h01 : tally kf (metT (L.take n) ++ (spanT y).take 0) = tally kf (metT (L.take n)) := by rw [List.take_zero, List.append_nil]
    refine SemC.weaker (Weaker.to (l := [(4, .pt [.sl (l.map eCount) false] 0), (5, .pt [I64 i] 0), (7, .ptr 0 0 0), (8, .ptr 2 0 0), (10, .ptr 4 0 0), (11, .ptr 5 0 0)]) (hp := [.cells (eHoldV s k row (.sl [] false)) 0 0, mB ((tally kf (metT (L.take n) ++ (spanT y).take 0))), mC, .cells (eTruth y.1) 0 0, .cells (eTruth y.2) 0 0, .cells (eTruth ⟨y.1.first + (0 : Nat), y.1.man, y.1.ship⟩) 0 0]) 6 (by rw [h01, h00]; rfl) ⟨rfl, rfl, rfl, rfl, rfl, rfl, trivial⟩ (Nat.le_of_ble_eq_true rfl) rfl (allInb (hold_in s k row 6) (allInb (ents_inb 6 _ 0) rfl))) ?_
    refine SemC.loop (fun m : Nat => m ≤ (spanT y).length) (fun m => ⟨mkFr [(4, .pt [.sl (l.map eCount) false] 0), (5, .pt [I64 i] 0), (7, .ptr 0 0 0), (8, .ptr 2 0 0), (10, .ptr 4 0 0), (11, .ptr 5 0 0)], [.cells (eHoldV s k row (.sl [] false)) 0 0, mB ((tally kf (metT (L.take n) ++ (spanT y).take m))), mC, .cells (eTruth y.1) 0 0, .cells (eTruth y.2) 0 0, .cells (eTruth ⟨y.1.first + (m : Nat), y.1.man, y.1.ship⟩) 0 0], Amb.none, true, 3⟩) (fun m => (spanT y).length - m) ?_ 0 (Nat.zero_le _)
    intro m hm
    refine RM.c2s (mu := fun _ => false) ?_
    by_cases hlt : m < (spanT y).length
    · have d1 : decide (y.1.first + (m : Int) ≤ y.2.first) = true := decide_eq_true (by omega)
      repeat' (first |with_reducible (first|refine RM.c1 ?_|refine RM.c2 ?_|refine RM.c4 ?_|refine RM.c9 ?_|refine RM.o1 ?_|refine RM.o2 ?_|refine RM.o4 ?_|refine RM.o5 ?_|refine RM.p5 ?_) |((with_reducible show force _ _);first|refine RM.f1 rfl ?_|refine RM.f7 rfl ?_) |((with_reducible show wpOne _ _ _ _ _ _ _ _ _ _ _ _);refine RM.o8 rfl ?_) |((with_reducible show wpC _ _ _ _ (.cond _ _ _) _ _);refine RM.e2 rfl (by assumption) ?_) |((with_reducible show wpBin _ _ _ _ _ _ _ _ _);refine RM.b7 rfl rfl ?_) |(refine ⟨_, _, rfl, by decide, ?_⟩) |(refine ⟨_, _, rfl, _, rfl, ?_⟩) |fail)
      refine SemC.seq ?_
      refine SemC.block ?_
      have hrm : RunOk s.men k row ⟨y.1.first + (m : Int), y.1.man, y.1.ship⟩ := hh.run (by omega) (by omega) (by omega)
      have hrl := run_l (one := false) (cnts := []) hrm
      rw [← em] at hrl
      have hsm : (spanT y).take (m + 1) = (spanT y).take m ++ [⟨y.1.first + (m : Int), y.1.man, y.1.ship⟩] := by
        have hgm : (spanT y)[m]? = some ⟨y.1.first + (m : Int), y.1.man, y.1.ship⟩ := by
          unfold spanT
          rw [List.getElem?_map, List.getElem?_range (by omega)]
          rfl
        rw [List.take_add_one, hgm]
        rfl
      have hmE := metVal_le (tally_inv (key := kf) (metT (L.take n) ++ (spanT y).take m)) (kf ⟨y.1.first + (m : Int), y.1.man, y.1.ship⟩)
      have hE8 : ∀ x ∈ tally kf (metT (L.take n) ++ (spanT y).take m), x.1.length = 8 := fun x hx => by
        obtain ⟨t, _, ht⟩ := (tally_inv (key := kf) (metT (L.take n) ++ (spanT y).take m)).some x hx
        rw [ht, hkf']
        rfl
      have hnext : tally kf (metT (L.take n) ++ (spanT y).take (m + 1)) = bump (kf ⟨y.1.first + (m : Int), y.1.man, y.1.ship⟩) (tally kf (metT (L.take n) ++ (spanT y).take m)) := by
        rw [hsm, ← List.append_assoc, tally_one]
      rw [List.length_append, List.length_take] at hmE
      have hkt : kf ⟨y.1.first + (m : Int), y.1.man, y.1.ship⟩ = keyOf (missAt s.men k row l i ⟨y.1.first + (m : Int), y.1.man, y.1.ship⟩) := hkf' _
      generalize tally kf (metT (L.take n) ++ (spanT y).take m) = E at *
      have hml := lvl_len s.men k row ⟨y.1.first + (m : Int), y.1.man, y.1.ship⟩
      have hmiss := fun j (hj : j < l.length) => miss_at (men := s.men) (k := k) (row := row) (ki := i) (t := ⟨y.1.first + (m : Int), y.1.man, y.1.ship⟩) hj
      have hmall := upto_all (p := missAt s.men k row l i ⟨y.1.first + (m : Int), y.1.man, y.1.ship⟩) (n := l.length) fun j hj => miss_none hj
      generalize missAt s.men k row l i ⟨y.1.first + (m : Int), y.1.man, y.1.ship⟩ = p at *
      generalize lvl s.men k row ⟨y.1.first + (m : Int), y.1.man, y.1.ship⟩ = lv at *
      refine RM.c2s (mu := fun _ => false) ?_
      repeat' (first |(refine ldHO (s := s) (k := k) (row := row) h30 rfl rfl ?_) |with_reducible (first|refine RM.c4 ?_|refine RM.c9 ?_|refine RM.o1 ?_|refine RM.o2 ?_|refine RM.o4 ?_|refine RM.o5 ?_|refine RM.o7 ?_|refine RM.o9 ?_|refine RM.p1 ?_|refine RM.p2 ?_|refine RM.p3 ?_|refine RM.p6 ?_) |((with_reducible show force _ _);first|refine RM.f1 rfl ?_|refine RM.f2 rfl ?_|refine RM.f4 rfl ?_|refine RM.f5 rfl ?_|refine RM.f6 rfl ?_|refine RM.f7 rfl ?_) |((with_reducible show wpOne _ _ _ _ _ _ _ _ _ _ _ _);refine RM.o8 rfl ?_) |((with_reducible show wpLen _ _ _ _ _);refine RM.l1 rfl ?_) |(refine ⟨_, rfl, ?_⟩) |(refine ⟨_, _, rfl, by decide, ?_⟩) |(refine ⟨_, _, rfl, _, rfl, ?_⟩) |(refine ⟨_, _, rfl, Nat.le_of_ble_eq_true rfl, ?_⟩) |(refine PureV.call hrl rfl (hdeep rfl) ?_) |fail)
      refine RM.c2s (mu := fun _ => false) ?_
      repeat' (first |with_reducible (first|refine RM.c4 ?_|refine RM.c9 ?_|refine RM.o1 ?_|refine RM.o2 ?_|refine RM.o4 ?_|refine RM.o5 ?_) |((with_reducible show force _ _);refine RM.f7 rfl ?_) |((with_reducible show wpOne _ _ _ _ _ _ _ _ _ _ _ _);refine RM.o8 rfl ?_) |(refine And.intro (by kernel_rfl) ?_) |fail)
      refine SemC.seq ?_
      refine RM.c2s (mu := fun _ => false) ?_
      repeat' (first |with_reducible (first|refine RM.c4 ?_|refine RM.c9 ?_|refine RM.o1 ?_|refine RM.o2 ?_|refine RM.o4 ?_|refine RM.o5 ?_|refine RM.p2 ?_|refine RM.p6 ?_) |((with_reducible show force _ _);first|refine RM.f1 rfl ?_|refine RM.f2 rfl ?_) |((with_reducible show wpOne _ _ _ _ _ _ _ _ _ _ _ _);refine RM.o8 rfl ?_) |((with_reducible show wpLen _ _ _ _ _);refine RM.l1 rfl ?_) |(refine ⟨_, rfl, ?_⟩) |fail)
      refine SemC.block ?_
      refine SemC.weaker (Weaker.to (l := [(4, .pt [.sl (l.map eCount) false] 0), (5, .pt [I64 i] 0), (7, .ptr 0 0 0), (8, .ptr 2 0 0), (10, .ptr 4 0 0), (11, .ptr 5 0 0), (12, .sl (lv.map eI) false), (14, .ptr 6 0 0), (50, .sl (l.map eCount) false), (51, I64 l.length), (52, I64 (0 : Nat))]) (hp := [.cells (eHoldV s k row (.sl [] false)) 0 0, mB (E), mC, .cells (eTruth y.1) 0 0, .cells (eTruth y.2) 0 0, .cells (eTruth ⟨y.1.first + (m : Nat), y.1.man, y.1.ship⟩) 0 0, .cells ((keyOf (upto p 0)).map I64) 0 0]) 7 (by rw [upto_zero]; rfl) ⟨rfl, rfl, rfl, rfl, rfl, rfl, rfl, rfl, rfl, i64c el, rfl, trivial⟩ (Nat.le_of_ble_eq_true rfl) rfl (hb_inb _ _ _ _ _ _ _ _)) ?_
      refine SemC.loop (fun j : Nat => j ≤ l.length) (fun j => ⟨mkFr [(4, .pt [.sl (l.map eCount) false] 0), (5, .pt [I64 i] 0), (7, .ptr 0 0 0), (8, .ptr 2 0 0), (10, .ptr 4 0 0), (11, .ptr 5 0 0), (12, .sl (lv.map eI) false), (14, .ptr 6 0 0), (50, .sl (l.map eCount) false), (51, I64 l.length), (52, I64 (j : Nat))], [.cells (eHoldV s k row (.sl [] false)) 0 0, mB (E), mC, .cells (eTruth y.1) 0 0, .cells (eTruth y.2) 0 0, .cells (eTruth ⟨y.1.first + (m : Nat), y.1.man, y.1.ship⟩) 0 0, .cells ((keyOf (upto p j)).map I64) 0 0], Amb.none, true, 3⟩) (fun j => l.length - j) ?_ 0 (Nat.zero_le _)
      intro j hj
      refine wpC_sound (mu := fun _ => false) ?_
      by_cases hjl : j < l.length
      · have d2 : decide ((j : Int) < (l.length : Int)) = true := decide_eq_true (by omega)
        have hms := hmiss j hjl
        have hcj := hlc _ (List.getElem_mem hjl)
        have hgd := getD_at (L := lv) (d := l[j].day) (by omega)
        have hat : (l.map eCount)[((j : Nat) : Int).toNat]? = some (eCount l[j]) := map_at hjl
        have hst : 0 + ((j : Nat) : Int).toNat * 1 + 1 ≤ ((keyOf (upto p j)).map I64).length := by
          show _ ≤ 8
          omega
        generalize l[j] = cj at *
        by_cases hk : cj.kind = (i : Int)
        · have d3 := decide_eq_true hk
          have hou := outside_c true cj.amount.lo cj.amount.hi [eI (lv.getD cj.day.toNat 0)] true rfl (Nat.le_of_ble_eq_true rfl)
          rw [show outB cj.amount.lo cj.amount.hi ([eI (lv.getD cj.day.toNat 0)].map unI) = !cntIn lv cj from outB1 _ _ _] at hou
          rw [d3, Bool.true_and] at hms
          cases hb : cntIn lv cj with
          | true =>
            rw [hb] at hms hou
            have hsk := upto_skip (p := p) (j := j) hms
            repeat' (first |(refine ⟨_, hou, ?_⟩) |with_reducible (first|refine RM.c1 ?_|refine RM.c2 ?_|refine RM.c3 ?_|refine RM.c4 ?_|refine RM.c5 ?_|refine RM.c9 ?_|refine RM.d3 ?_|refine RM.o1 ?_|refine RM.o2 ?_|refine RM.o3 ?_|refine RM.o4 ?_|refine RM.o5 ?_|refine RM.o6 ?_|refine RM.o9 ?_|refine RM.p1 ?_|refine RM.p2 ?_|refine RM.p3 ?_|refine RM.p4 ?_|refine RM.p5 ?_|refine RM.n1 ?_) |((with_reducible show force _ _);first|refine RM.f1 rfl ?_|refine RM.f2 rfl ?_|refine RM.f3 rfl ?_|refine RM.f4 rfl ?_|refine RM.f5 rfl ?_|refine RM.f7 rfl ?_|refine RM.g2 rfl ?_) |((with_reducible show wpOne _ _ _ _ _ _ _ _ _ _ _ _);refine RM.o8 rfl ?_) |((with_reducible show wpDOne _ _ _ _ _ _ _ _ _ _);refine RM.p9 rfl ?_) |((with_reducible show wpGuard _ _ _ _ _);refine wpGuard_yes rfl rfl (by assumption) ?_) |((with_reducible show wpC _ _ _ _ (.cond _ _ _) _ _);first|refine RM.e3 rfl rfl ?_|refine RM.e2 rfl (by assumption) ?_) |((with_reducible show wpPick _ _ _ _ _);refine RM.k1 rfl ?_) |((with_reducible show wpPickB _ _ _ _ _);refine RM.k2 (by assumption) ?_) |((with_reducible show wpBin _ _ _ _ _ _ _ _ _);first|refine RM.b4 rfl rfl ?_|refine RM.b6 rfl rfl ?_|refine RM.b1 rfl rfl (by omega) ?_) |(refine ⟨_, rfl, ?_⟩) |(refine ⟨_, _, rfl, by decide, ?_⟩) |(refine ⟨rfl, rfl, rfl, ?_⟩) |(refine ⟨rfl, rfl, ?_⟩) |(refine ⟨_, _, rfl, _, rfl, ?_⟩) |(refine And.intro (Nat.le_of_ble_eq_true rfl) ?_) |(refine And.intro (by kernel_rfl) ?_) |(refine ⟨_, _, rfl, rfl, rfl, rfl, Nat.le_of_ble_eq_true rfl, ?_⟩) |(refine ⟨eCount cj, ⟨by omega, hat⟩, rfl, ?_⟩) |(refine ⟨eI _, ⟨by omega, hgd⟩, rfl, ?_⟩) |fail)
            refine ⟨j + 1, hjl, (by dsimp only; omega), ?_⟩
            show Weaker _ ⟨mkFr [(4, .pt [.sl (l.map eCount) false] 0), (5, .pt [I64 i] 0), (7, .ptr 0 0 0), (8, .ptr 2 0 0), (10, .ptr 4 0 0), (11, .ptr 5 0 0), (12, .sl (lv.map eI) false), (14, .ptr 6 0 0), (50, .sl (l.map eCount) false), (51, I64 l.length), (52, I64 ((j + 1) : Nat))], [.cells (eHoldV s k row (.sl [] false)) 0 0, mB (E), mC, .cells (eTruth y.1) 0 0, .cells (eTruth y.2) 0 0, .cells (eTruth ⟨y.1.first + (m : Nat), y.1.man, y.1.ship⟩) 0 0, .cells ((keyOf (upto p (j + 1))).map I64) 0 0], Amb.none, true, 3⟩
            rw [hsk]
            exact Weaker.to 7 rfl ⟨rfl, rfl, rfl, rfl, rfl, rfl, rfl, rfl, rfl, rfl, i64c (by simp), trivial⟩ (Nat.le_of_ble_eq_true rfl) rfl (hb_inb _ _ _ _ _ _ _ _)
          | false =>
            rw [hb] at hms hou
            have hsp := upto_splice (p := p) (j := j) hms (by omega)
            repeat' (first |(refine ⟨_, hou, ?_⟩) |with_reducible (first|refine RM.c1 ?_|refine RM.c2 ?_|refine RM.c3 ?_|refine RM.c4 ?_|refine RM.c5 ?_|refine RM.c9 ?_|refine RM.d3 ?_|refine RM.o1 ?_|refine RM.o2 ?_|refine RM.o3 ?_|refine RM.o4 ?_|refine RM.o5 ?_|refine RM.o6 ?_|refine RM.o9 ?_|refine RM.p1 ?_|refine RM.p2 ?_|refine RM.p3 ?_|refine RM.p4 ?_|refine RM.p5 ?_|refine RM.n1 ?_) |((with_reducible show force _ _);first|refine RM.f1 rfl ?_|refine RM.f2 rfl ?_|refine RM.f3 rfl ?_|refine RM.f4 rfl ?_|refine RM.f5 rfl ?_|refine RM.f7 rfl ?_|refine RM.g2 rfl ?_) |((with_reducible show wpOne _ _ _ _ _ _ _ _ _ _ _ _);refine RM.o8 rfl ?_) |((with_reducible show wpDOne _ _ _ _ _ _ _ _ _ _);refine RM.p9 rfl ?_) |((with_reducible show wpGuard _ _ _ _ _);refine wpGuard_yes rfl rfl (by assumption) ?_) |((with_reducible show wpC _ _ _ _ (.cond _ _ _) _ _);first|refine RM.e2 rfl rfl ?_|refine RM.e2 rfl (by assumption) ?_) |((with_reducible show wpPick _ _ _ _ _);refine RM.k1 rfl ?_) |((with_reducible show wpPickB _ _ _ _ _);refine RM.k2 (by assumption) ?_) |((with_reducible show wpBin _ _ _ _ _ _ _ _ _);first|refine RM.b4 rfl rfl ?_|refine RM.b6 rfl rfl ?_|refine RM.b1 rfl rfl (by omega) ?_) |(refine ⟨_, rfl, ?_⟩) |(refine ⟨_, _, rfl, by decide, ?_⟩) |(refine ⟨rfl, rfl, rfl, ?_⟩) |(refine ⟨rfl, rfl, ?_⟩) |(refine ⟨_, _, rfl, _, rfl, ?_⟩) |(refine And.intro (Nat.le_of_ble_eq_true rfl) ?_) |(refine And.intro (by omega) ?_) |(refine And.intro (by kernel_rfl) ?_) |(refine ⟨_, _, rfl, rfl, rfl, rfl, Nat.le_of_ble_eq_true rfl, ?_⟩) |(refine ⟨eCount cj, ⟨by omega, hat⟩, rfl, ?_⟩) |(refine ⟨eI _, ⟨by omega, hgd⟩, rfl, ?_⟩) |fail)
            refine ⟨j + 1, hjl, (by dsimp only; omega), ?_⟩
            show Weaker _ ⟨mkFr [(4, .pt [.sl (l.map eCount) false] 0), (5, .pt [I64 i] 0), (7, .ptr 0 0 0), (8, .ptr 2 0 0), (10, .ptr 4 0 0), (11, .ptr 5 0 0), (12, .sl (lv.map eI) false), (14, .ptr 6 0 0), (50, .sl (l.map eCount) false), (51, I64 l.length), (52, I64 ((j + 1) : Nat))], [.cells (eHoldV s k row (.sl [] false)) 0 0, mB (E), mC, .cells (eTruth y.1) 0 0, .cells (eTruth y.2) 0 0, .cells (eTruth ⟨y.1.first + (m : Nat), y.1.man, y.1.ship⟩) 0 0, .cells ((keyOf (upto p (j + 1))).map I64) 0 0], Amb.none, true, 3⟩
            exact Weaker.to 7 (by rw [← hsp]; rfl) ⟨rfl, rfl, rfl, rfl, rfl, rfl, rfl, rfl, rfl, rfl, i64c (by simp), trivial⟩ (Nat.le_of_ble_eq_true rfl) rfl (hb_inb _ _ _ _ _ _ _ _)
        · have d3 := decide_eq_false hk
          rw [d3, Bool.false_and] at hms
          have hsk := upto_skip (p := p) (j := j) hms
          repeat' (first |(refine ⟨eCount cj, ⟨by omega, hat⟩, rfl, ?_⟩) |with_reducible (first|refine RM.c1 ?_|refine RM.c2 ?_|refine RM.c4 ?_|refine RM.c5 ?_|refine RM.c9 ?_|refine RM.d3 ?_|refine RM.o1 ?_|refine RM.o2 ?_|refine RM.o3 ?_|refine RM.o4 ?_|refine RM.o5 ?_|refine RM.o6 ?_|refine RM.p2 ?_|refine RM.p3 ?_|refine RM.p4 ?_|refine RM.p5 ?_) |((with_reducible show force _ _);first|refine RM.f1 rfl ?_|refine RM.f3 rfl ?_|refine RM.f5 rfl ?_|refine RM.f7 rfl ?_|refine RM.g2 rfl ?_) |((with_reducible show wpOne _ _ _ _ _ _ _ _ _ _ _ _);refine RM.o8 rfl ?_) |((with_reducible show wpDOne _ _ _ _ _ _ _ _ _ _);refine RM.p9 rfl ?_) |((with_reducible show wpGuard _ _ _ _ _);refine wpGuard_no rfl rfl (by assumption) ?_) |((with_reducible show wpC _ _ _ _ (.cond _ _ _) _ _);first|refine RM.e3 rfl rfl ?_|refine RM.e2 rfl (by assumption) ?_) |((with_reducible show wpPick _ _ _ _ _);refine RM.k1 rfl ?_) |((with_reducible show wpPickB _ _ _ _ _);refine RM.k3 (by assumption) ?_) |((with_reducible show wpBin _ _ _ _ _ _ _ _ _);first|refine RM.b4 rfl rfl ?_|refine RM.b6 rfl rfl ?_|refine RM.b1 rfl rfl (by omega) ?_) |(refine ⟨_, rfl, ?_⟩) |(refine ⟨_, _, rfl, by decide, ?_⟩) |(refine ⟨_, _, rfl, _, rfl, ?_⟩) |(refine And.intro (Nat.le_of_ble_eq_true rfl) ?_) |(refine And.intro (by kernel_rfl) ?_) |(refine ⟨_, _, rfl, rfl, rfl, rfl, Nat.le_of_ble_eq_true rfl, ?_⟩) |fail)
          refine ⟨j + 1, hjl, (by dsimp only; omega), ?_⟩
          show Weaker _ ⟨mkFr [(4, .pt [.sl (l.map eCount) false] 0), (5, .pt [I64 i] 0), (7, .ptr 0 0 0), (8, .ptr 2 0 0), (10, .ptr 4 0 0), (11, .ptr 5 0 0), (12, .sl (lv.map eI) false), (14, .ptr 6 0 0), (50, .sl (l.map eCount) false), (51, I64 l.length), (52, I64 ((j + 1) : Nat))], [.cells (eHoldV s k row (.sl [] false)) 0 0, mB (E), mC, .cells (eTruth y.1) 0 0, .cells (eTruth y.2) 0 0, .cells (eTruth ⟨y.1.first + (m : Nat), y.1.man, y.1.ship⟩) 0 0, .cells ((keyOf (upto p (j + 1))).map I64) 0 0], Amb.none, true, 3⟩
          rw [hsk]
          exact Weaker.to 7 rfl ⟨rfl, rfl, rfl, rfl, rfl, rfl, rfl, rfl, rfl, rfl, i64c (by simp), trivial⟩ (Nat.le_of_ble_eq_true rfl) rfl (hb_inb _ _ _ _ _ _ _ _)
      · have d2 : decide ((j : Int) < (l.length : Int)) = false := decide_eq_false (by omega)
        have hjj : j = l.length := by omega
        subst hjj
        rw [hmall]
        repeat' (first |with_reducible (first|refine RM.c2 ?_|refine RM.c4 ?_|refine RM.c6 ?_|refine RM.c9 ?_|refine RM.d2 ?_|refine RM.o1 ?_|refine RM.o2 ?_|refine RM.o4 ?_|refine RM.o5 ?_|refine RM.p5 ?_|refine RM.q2 ?_) |((with_reducible show force _ _);refine RM.f1 rfl ?_) |((with_reducible show wpOne _ _ _ _ _ _ _ _ _ _ _ _);refine RM.o8 rfl ?_) |((with_reducible show wpC _ _ _ _ (.cond _ _ _) _ _);refine RM.e3 rfl (by assumption) ?_) |((with_reducible show wpBin _ _ _ _ _ _ _ _ _);refine RM.b6 rfl rfl ?_) |((with_reducible show blockK _ _ _ _);refine RM.d5 rfl ?_) |fail)
        rw [hkt] at hmE hnext
        have h8p : (keyOf p).length = 8 := rfl
        have ht8 := touch_len h8p hE8
        refine SemC.opAssign rfl (by kernel_rfl) ?_
        unfold opAsg
        repeat' (first |(refine lookMet (E := E) rfl rfl rfl h8p hE8 ?_) |(refine entryMet (E := E) rfl rfl rfl h8p hE8 ?_) |with_reducible (first|refine RM.o5 ?_|refine RM.p5 ?_) |((with_reducible show force _ _);first|refine RM.f1 rfl ?_|refine RM.f5 rfl ?_|refine RM.f9 rfl ?_) |((with_reducible show wpBin _ _ _ _ _ _ _ _ _);refine RM.b1 rfl rfl (by omega) ?_) |(refine ⟨_, rfl, ?_⟩) |(refine ⟨_, _, rfl, _, rfl, ?_⟩) |(refine ⟨_, _, rfl, Nat.le_of_ble_eq_true rfl, ?_⟩) |fail)
        refine And.intro (lookMet (E := metTouch (keyOf p) E) rfl rfl rfl h8p ht8 (by rw [metVal_touch])) ?_
        repeat' (first |(refine storeMet (E := E) (key := keyOf p) rfl rfl rfl rfl rfl ?_) |with_reducible (first|refine RM.c9 ?_|refine RM.d3 ?_|refine RM.o5 ?_) |((with_reducible show force _ _);first|refine RM.f1 rfl ?_|refine RM.f6 rfl ?_) |(refine ⟨_, rfl, ?_⟩) |fail)
        have hbnd : -9223372036854775808 ≤ y.1.first + (m : Int) + 1 ∧ y.1.first + (m : Int) + 1 ≤ 9223372036854775807 := by omega
        refine wpC_sound (mu := fun _ => false) ?_
        repeat' (first |(refine RM.b1 rfl rfl hbnd ?_) |with_reducible (first|refine RM.c2 ?_|refine RM.c4 ?_|refine RM.c9 ?_|refine RM.o1 ?_|refine RM.o2 ?_|refine RM.o4 ?_|refine RM.o5 ?_|refine RM.o6 ?_|refine RM.p5 ?_) |((with_reducible show force _ _);first|refine RM.f1 rfl ?_|refine RM.f5 rfl ?_|refine RM.f7 rfl ?_|refine RM.g2 rfl ?_) |((with_reducible show wpOne _ _ _ _ _ _ _ _ _ _ _ _);refine RM.o8 rfl ?_) |(refine ⟨_, _, rfl, by decide, ?_⟩) |(refine ⟨_, _, rfl, _, rfl, ?_⟩) |(refine And.intro (by kernel_rfl) ?_) |(refine ⟨_, _, rfl, rfl, rfl, rfl, Nat.le_of_ble_eq_true rfl, ?_⟩) |(refine ⟨_, _, rfl, Nat.le_of_ble_eq_true rfl, ?_⟩) |fail)
        refine ⟨m + 1, hlt, (by dsimp only; omega), ?_⟩
        show Weaker _ ⟨mkFr [(4, .pt [.sl (l.map eCount) false] 0), (5, .pt [I64 i] 0), (7, .ptr 0 0 0), (8, .ptr 2 0 0), (10, .ptr 4 0 0), (11, .ptr 5 0 0)], [.cells (eHoldV s k row (.sl [] false)) 0 0, mB ((tally kf (metT (L.take n) ++ (spanT y).take (m + 1)))), mC, .cells (eTruth y.1) 0 0, .cells (eTruth y.2) 0 0, .cells (eTruth ⟨y.1.first + ((m + 1) : Nat), y.1.man, y.1.ship⟩) 0 0], Amb.none, true, 3⟩
        rw [hnext, show y.1.first + ((m + 1 : Nat) : Int) = y.1.first + (m : Int) + 1 by omega]
        refine Weaker.trans (Weaker.moveTo 5 7 (l := [(4, .pt [.sl (l.map eCount) false] 0), (5, .pt [I64 i] 0), (7, .ptr 0 0 0), (8, .ptr 2 0 0), (10, .ptr 4 0 0), (11, .ptr 5 0 0)]) (hp := [.cells (eHoldV s k row (.sl [] false)) 0 0, mB ((bump (keyOf p) E)), mC, .cells (eTruth y.1) 0 0, .cells (eTruth y.2) 0 0, .cells (eTruth ⟨y.1.first + (m : Int) + 1, y.1.man, y.1.ship⟩) 0 0, .cells ((keyOf p).map I64) 0 0, .gone]) (by decide) rfl rfl (Nat.le_of_ble_eq_true rfl) (Nat.le_of_ble_eq_true rfl) ⟨.same rfl rfl, .same rfl rfl, .same rfl rfl, .same rfl rfl, .same rfl rfl, .ptr, trivial⟩ (round_noj s k row y (bump (keyOf p) E) (y.1.first + (m : Int)) (y.1.first + (m : Int) + 1) p) rfl) ?_
        exact Weaker.to 6 rfl ⟨rfl, rfl, rfl, rfl, rfl, rfl, trivial⟩ (Nat.le_of_ble_eq_true rfl) rfl (allInb (hold_in s k row 6) (allInb (ents_inb 6 _ 0) rfl))
    · have d1 : decide (y.1.first + (m : Int) ≤ y.2.first) = false := decide_eq_false (by omega)
      have hmm2 : (spanT y).take m = spanT y := List.take_of_length_le (by omega)
      rw [hmm2, ← htk]
      repeat' (first |with_reducible (first|refine RM.c2 ?_|refine RM.c4 ?_|refine RM.c6 ?_|refine RM.c9 ?_|refine RM.d2 ?_|refine RM.d3 ?_|refine RM.o1 ?_|refine RM.o2 ?_|refine RM.o4 ?_|refine RM.o5 ?_|refine RM.p5 ?_|refine RM.q2 ?_) |((with_reducible show force _ _);first|refine RM.f1 rfl ?_|refine RM.f7 rfl ?_) |((with_reducible show wpOne _ _ _ _ _ _ _ _ _ _ _ _);refine RM.o8 rfl ?_) |((with_reducible show wpC _ _ _ _ (.cond _ _ _) _ _);refine RM.e3 rfl (by assumption) ?_) |((with_reducible show wpBin _ _ _ _ _ _ _ _ _);refine RM.b7 rfl rfl ?_) |((with_reducible show blockK _ _ _ _);refine RM.d5 rfl ?_) |(refine ⟨_, _, rfl, by decide, ?_⟩) |(refine ⟨_, _, rfl, _, rfl, ?_⟩) |(refine And.intro (by omega) ?_) |fail)
      exact ⟨_, Weaker.to (l := []) 3 rfl trivial (Nat.le_refl _) rfl (out_inb s k row _)⟩
  · rw [show L.take (L.map ePair).length = L from List.take_of_length_le (by simp)]
    repeat' (first |with_reducible (first|refine RM.c9 ?_|refine RM.d3 ?_) |fail)
    refine SemC.weaker (Weaker.toS (l := [(6, .sl [] false), (8, .ptr 2 0 0)]) (hp := [.cells (eHoldV s k row (.sl [] false)) 0 0, mB (tally kf (metT L)), mC]) 3 rfl ⟨Soft.nil _, Soft.refl _, trivial⟩ (Nat.zero_le _) rfl (allInb (hold_in s k row 3) (allInb (ents_inb 3 _ 0) rfl))) ?_
    have hti := tally_inv (key := kf) (metT L)
    refine fewest_tail (hold_in s k row) (hold_noj s k row) (fun x hx => ?_) ?_ (fun x hx => ?_)
    · obtain ⟨t, _, ht⟩ := hti.some x hx
      exact ⟨_, ht.trans (hkf' t)⟩
    · obtain ⟨x, hx, he⟩ := hti.all ts ((hmm ts).2 hts)
      exact ⟨x, hx, by rw [he, hkf', key_lst]⟩
    · obtain ⟨t, h1, ht⟩ := hti.some x hx
      rw [ht, hkf', key_lst]
      exact hmin t ((hmm t).1 h1)
end Go.Proofs.Ytmkaeohmdcoanaa
open Go Go.RM
namespace Go.Proofs.Ytmkaeohmdcoanaa
set_option maxRecDepth 100000
def missK (s : Stores) (l : List Count) (k : Nat) (t : Truth) (i : Nat) : Bool := match s.kinds[k]? with
  | some x => missAt s.men x (cargoRow k s.cargos) l k t i
  | none => false
def waysK (s : Stores) (k : Nat) : List Truth := match s.kinds[k]? with
  | some x => metT (truthsL s.men x (cargoRow k s.cargos) [])
  | none => []
/-- Of each kind a truth that misses least. -/
def BestT (s : Stores) (l : List Count) (T : Nat → Truth) : Prop := Best s.kinds.length 8 (waysK s) (missK s l) T
def wrongT (s : Stores) (l : List Count) (T : Nat → Truth) : List Int := lst (unTo (missK s l) T s.kinds.length) 0 8
theorem missK_at {s : Stores} {l : List Count} {k : Nat} (hk : k < s.kinds.length) : missK s l k = missAt s.men s.kinds[k] (cargoRow k s.cargos) l k := by
  funext t i
  unfold missK
  rw [List.getElem?_eq_getElem hk]
theorem waysK_at {s : Stores} {k : Nat} (hk : k < s.kinds.length) : waysK s k = metT (truthsL s.men s.kinds[k] (cargoRow k s.cargos) []) := by
  unfold waysK
  rw [List.getElem?_eq_getElem hk]
theorem missK_kind {s : Stores} {l : List Count} {k : Nat} {t : Truth} {i : Nat} (h : missK s l k t i = true) : ∃ c, l[i]? = some c ∧ c.kind = (k : Int) := by
  unfold missK missAt at h
  split at h
  · split at h
    · rename_i c hc
      rw [Bool.and_eq_true] at h
      exact ⟨c, hc, of_decide_eq_true h.1⟩
    · cases h
  · cases h
theorem miss_disj (s : Stores) (l : List Count) : Disj (missK s l) := fun k k' t t' i h h' => by
  obtain ⟨c, h1, h2⟩ := missK_kind h
  obtain ⟨c', h3, h4⟩ := missK_kind h'
  rw [h1] at h3
  cases h3
  omega
theorem ways_iff {s : Stores} (hg : Good s) {k : Nat} (hk : k < s.kinds.length) {t : Truth} : t ∈ waysK s k ↔ truthOk s.kinds[k] t = true := by
  have h1 := (hg.kinds _ (List.getElem_mem hk)).first
  rw [waysK_at hk]
  exact mem_met (by omega)
theorem ways_some {s : Stores} (hg : Good s) {k : Nat} (hk : k < s.kinds.length) : waysK s k ≠ [] := by
  have hkg := hg.kinds _ (List.getElem_mem hk)
  have h1 := hkg.first
  have h2 := hkg.man
  have h3 := hkg.ship
  have : (⟨s.kinds[k].first.lo, s.kinds[k].man.lo, s.kinds[k].ship.lo⟩ : Truth) ∈ waysK s k := by
    rw [ways_iff hg hk, truthOk_iff]
    dsimp only
    omega
  intro h
  rw [h] at this
  cases this
theorem bestT_ex {s : Stores} (hg : Good s) (l : List Count) : ∃ T, BestT s l T := best_ex (fun _ hk => ways_some hg hk) ⟨0, 0, 0⟩
def rowsK (s : Stores) (l : List Count) (T : Nat → Truth) (n : Nat) : List Int := ((List.range n).map fun k => lst (missK s l k (T k)) 0 8).flatten
theorem rowsK_succ (s : Stores) (l : List Count) (T : Nat → Truth) (n : Nat) : rowsK s l T (n + 1) = rowsK s l T n ++ lst (missK s l n (T n)) 0 8 := by
  unfold rowsK
  rw [List.range_succ, List.map_append, List.flatten_append]
  simp
theorem rowsK_perm (s : Stores) (l : List Count) (T : Nat → Truth) : ∀ n, (rowsK s l T n).Perm (lst (unTo (missK s l) T n) 0 8)
  | 0 => by
    have : lst (unTo (missK s l) T 0) 0 8 = [] := rfl
    rw [this]
    exact .refl _
  | n + 1 => by
    rw [rowsK_succ]
    exact ((rowsK_perm s l T n).append_right _).trans (un_perm (miss_disj s l) T n).symm
theorem rowsK_len (s : Stores) (l : List Count) (T : Nat → Truth) (n : Nat) : (rowsK s l T n).length ≤ 8 := by
  rw [(rowsK_perm s l T n).length_eq]
  exact lst_len_le _ _ _
/-- A truth misses none of the counts: no count has to be wrong. -/
theorem wrong_nil {s : Stores} {l : List Count} {T : Nat → Truth} (hT : BestT s l T) (h : ∀ k, k < s.kinds.length → ∃ u ∈ waysK s k, ∀ i, missK s l k u i = false) : wrongT s l T = [] := by
  cases hw : wrongT s l T with
  | nil => rfl
  | cons a L =>
    exfalso
    have ha : a ∈ wrongT s l T := by rw [hw]; exact List.mem_cons_self ..
    unfold wrongT at ha
    obtain ⟨i, rfl, _, _, hi⟩ := mem_lst.1 ha
    obtain ⟨k, hk, hm⟩ := unTo_iff.1 hi
    obtain ⟨u, hu, hn⟩ := h k hk
    have h0 : lst (missK s l k u) 0 8 = [] := by
      cases hl : lst (missK s l k u) 0 8 with
      | nil => rfl
      | cons b B =>
        have hb : b ∈ lst (missK s l k u) 0 8 := by rw [hl]; exact List.mem_cons_self ..
        obtain ⟨j, _, _, _, hj⟩ := mem_lst.1 hb
        rw [hn] at hj
        cases hj
    have hi8 : (i : Int) ∈ lst (missK s l k (T k)) 0 8 := mem_lst.2 ⟨i, rfl, Nat.zero_le _, by omega, hm⟩
    refine (hT k hk).2 u hu (.inl ?_)
    rw [h0]
    exact List.length_pos_of_mem hi8
end Go.Proofs.Ytmkaeohmdcoanaa
open Go Go.RM
namespace Go.Proofs.Ytmkaeohmdcoanaa
set_option maxRecDepth 100000
set_option maxHeartbeats 4000000
theorem rows_one (L : List Int) : (L.map eI).flatten.all AV.one = true := by
  rw [flat_map1 (f := I64)]
  rw [List.all_eq_true]
  intro x hx
  obtain ⟨n, _, rfl⟩ := List.mem_map.1 hx
  rfl
abbrev wS (L : List Int) (v c : Nat) : AV := .osl 0 v 0 L.length c
theorem rowsB_fz (L : List Int) {N : Nat} (hN : L.length = N) (v c : Nat) : Fz [rowB L v] (.osl 0 v 0 N c) (.sl (L.map eI) false) := by
  subst hN
  exact Fz.row (es := 1) rfl (by simp) (by simp) (fun el hel => by obtain ⟨x, _, rfl⟩ := List.mem_map.1 hel; rfl) (by rw [flat_map1 (f := I64), List.drop_zero, List.take_of_length_le (by simp)]) (by rw [flat_map1 (f := I64)]; exact deepL_map (fun _ => rfl) _) (fun h => Bool.noConfusion h)
theorem fewestK (s : Stores) (h : s.Ok) (l : List Count) (h0 : cntsErr s l = 0) (T : Nat → Truth) (hT : BestT s l T) (k : Nat) (hk : k < s.kinds.length) :
    Pu false 78 [.ag (eStores s), .sl (l.map eCount) false, I64 k] (.sl ((lst (missK s l k (T k)) 0 8).map eI) false) := by
  obtain ⟨hg, _, _⟩ := cnts_good h0
  obtain ⟨h1, h2⟩ := hT k hk
  rw [missK_at hk] at h2 ⊢
  exact fewest_c s h l h0 k hk (T k) ((ways_iff hg hk).1 h1) fun u hu => h2 u ((ways_iff hg hk).2 hu)
theorem wrong_c (s : Stores) (h : s.Ok) (l : List Count) (h0 : cntsErr s l = 0) (T : Nat → Truth) (hT : BestT s l T) : Pu false 33 [.ag (eStores s), .sl (l.map eCount) false] (.tp [.sl ((wrongT s l T).map eI) false, I64 0]) := by
  obtain ⟨hg, hl, hc⟩ := cnts_good h0
  have hcn := counted_c false s h l (by unfold maxLen; omega)
  have hK := sizes_9 hg.sizes
  have ek : ((s.kinds.map eKind).length : Int) = s.kinds.length := by simp
  rw [h0] at hcn
  have hfew := fun k (hk : k < s.kinds.length) => fewestK s h l h0 T hT k hk
  have hlen := fun k => rowsK_len s l T k
  have hsucc := rowsK_succ s l T
  have hperm := rowsK_perm s l T s.kinds.length
  have hz : rowsK s l T 0 = [] := rfl
  unfold wrongT
  generalize rowsK s l T = R at *
  refine PureV.body (fn := Try.f33) rfl rfl rfl rfl ?_
  refine wpC_sound (mu := fun t => Nat.beq t 24) ?_
  repeat' (first |with_reducible (first|refine RM.c1 ?_|refine RM.c2 ?_|refine RM.c3 ?_|refine RM.c4 ?_|refine RM.c9 ?_|refine RM.o1 ?_|refine RM.o2 ?_|refine RM.o4 ?_|refine RM.o5 ?_|refine RM.o7 ?_|refine RM.o9 ?_|refine RM.p1 ?_|refine RM.p2 ?_|refine RM.p3 ?_|refine RM.p5 ?_|refine RM.p6 ?_) |((with_reducible show force _ _);first|refine RM.f1 rfl ?_|refine RM.f2 rfl ?_|refine RM.f3 rfl ?_|refine RM.f4 rfl ?_|refine RM.f5 rfl ?_) |((with_reducible show wpOne _ _ _ _ _ _ _ _ _ _ _ _);refine RM.o8 rfl ?_) |((with_reducible show wpC _ _ _ _ (.cond _ _ _) _ _);refine RM.e3 rfl rfl ?_) |((with_reducible show wpBin _ _ _ _ _ _ _ _ _);refine RM.b5 rfl rfl ?_) |((with_reducible show wpLen _ _ _ _ _);refine RM.l1 rfl ?_) |(refine ⟨_, rfl, ?_⟩) |(refine ⟨_, _, rfl, by decide, ?_⟩) |(refine ⟨rfl, rfl, rfl, ?_⟩) |(refine And.intro (Nat.le_of_ble_eq_true rfl) ?_) |(refine PureV.call hcn rfl rfl ?_) |fail)
  refine SemC.weaker (Weaker.trans (Weaker.addNil 1) (Weaker.toS (l := [(1, .sl (l.map eCount) false), (2, .pt (eStores s) 0), (4, wS (R 0) (0, 0, 0).2.1 (0, 0, 0).2.2), (5, I64 0), (15, I64 s.kinds.length), (16, I64 ((0, 0, 0).1 : Nat))]) (hp := [rowB (R 0) 0]) 1 (by rw [hz]; rfl) ⟨Soft.refl _, Soft.refl _, (by rw [hz]; exact Soft.nilRow), Soft.refl _, Soft.of (i64c ek), Soft.refl _, trivial⟩ (Nat.zero_le _) rfl (rowB_inb _ _))) ?_
  refine SemC.loop (fun x : Nat × Nat × Nat => x.1 ≤ s.kinds.length ∧ (x.2.2 = (R x.1).length ∨ x.2.2 = (R x.1).length + 1)) (fun x => ⟨mkFr [(1, .sl (l.map eCount) false), (2, .pt (eStores s) 0), (4, wS (R x.1) x.2.1 x.2.2), (5, I64 0), (15, I64 s.kinds.length), (16, I64 (x.1 : Nat))], [rowB (R x.1) x.2.1], Amb.none, false, 0⟩) (fun x => s.kinds.length - x.1) ?_ (0, 0, 0) ⟨Nat.zero_le _, .inl (by rw [hz]; rfl)⟩
  rintro ⟨k, ver, c⟩ ⟨hk, hcap⟩
  refine wpC_sound (mu := fun t => Nat.beq t 24) ?_
  repeat' (first |with_reducible (first|refine RM.c2 ?_|refine RM.c4 ?_|refine RM.c9 ?_|refine RM.o1 ?_|refine RM.o2 ?_|refine RM.o4 ?_|refine RM.o5 ?_|refine RM.p5 ?_) |((with_reducible show force _ _);refine RM.f1 rfl ?_) |((with_reducible show wpOne _ _ _ _ _ _ _ _ _ _ _ _);refine RM.o8 rfl ?_) |((with_reducible show wpBin _ _ _ _ _ _ _ _ _);refine RM.b6 rfl rfl ?_) |fail)
  refine RM.e1 rfl ⟨fun hq => ?_, fun hq => ?_⟩
  · have hlt : k < s.kinds.length := by simpa only [decide_eq_true_eq, Int.ofNat_lt] using hq
    have hf := hfew k hlt
    have hs := hsucc k
    have h8 := hlen (k + 1)
    rw [hs, List.length_append] at h8
    generalize lst (missK s l k (T k)) 0 8 = B at *
    have hb : ((R k).length + (B.map eI).length) * 8 ≤ 140737488355328 ∧ (R k).length + (B.map eI).length ≤ 9223372036854775807 := by rw [List.length_map]; omega
    repeat' (first |(refine PureV.call hf rfl rfl ?_) |(refine RM.appG (cs := (R k).map I64) (n := (R k).length) (els := B.map eI) rfl rfl rfl rfl rfl (fun el hel => (by obtain ⟨t, _, rfl⟩ := List.mem_map.1 hel; rfl)) (rows_one B) rfl (by simp) hcap hb (fun v c' hc' => ?_)) |with_reducible (first|refine RM.c1 ?_|refine RM.c2 ?_|refine RM.c3 ?_|refine RM.c4 ?_|refine RM.c9 ?_|refine RM.d3 ?_|refine RM.o1 ?_|refine RM.o2 ?_|refine RM.o4 ?_|refine RM.o5 ?_|refine RM.p2 ?_|refine RM.p3 ?_|refine RM.p5 ?_) |((with_reducible show force _ _);first|refine RM.f1 rfl ?_|refine RM.f8 rfl ?_) |((with_reducible show wpOne _ _ _ _ _ _ _ _ _ _ _ _);refine RM.o8 rfl ?_) |((with_reducible show wpBin _ _ _ _ _ _ _ _ _);refine RM.b1 rfl rfl (by omega) ?_) |(refine And.intro (Nat.le_of_ble_eq_true rfl) ?_) |fail)
    rw [List.length_map] at hc'
    refine ⟨(k + 1, v, c'), ⟨hlt, by dsimp only; rw [hs, List.length_append]; exact hc'⟩, (by dsimp only; omega), ?_⟩
    show Weaker _ ⟨mkFr [(1, .sl (l.map eCount) false), (2, .pt (eStores s) 0), (4, wS (R (k + 1)) (k + 1, v, c').2.1 (k + 1, v, c').2.2), (5, I64 0), (15, I64 s.kinds.length), (16, I64 ((k + 1, v, c').1 : Nat))], [rowB (R (k + 1)) v], Amb.none, false, 0⟩
    rw [hs]
    exact Weaker.to 1 (by show [AB.cells ((R k).map I64 ++ (B.map eI).flatten) 1 v] = _; rw [flat_map1 (f := I64), ← List.map_append]) ⟨rfl, rfl, (by show AV.osl 0 v 0 ((R k).length + (B.map eI).length) c' = AV.osl 0 v 0 (R k ++ B).length c'; rw [List.length_map, List.length_append]), rfl, rfl, i64c (by simp), trivial⟩ (Nat.zero_le _) rfl (rowB_inb _ _)
  · have hkK : k = s.kinds.length := by
      simp only [decide_eq_false_iff_not] at hq
      omega
    subst hkK
    have h8 := hlen s.kinds.length
    repeat' (first |(refine sort_c _ (R s.kinds.length) (R s.kinds.length).length rfl (by omega) (fun S hso hpe => ?_)) |with_reducible (first|refine RM.c2 ?_|refine RM.c4 ?_|refine RM.c7 ?_|refine RM.c9 ?_|refine RM.o1 ?_|refine RM.o2 ?_|refine RM.o4 ?_|refine RM.o5 ?_|refine RM.p2 ?_|refine RM.p3 ?_) |((with_reducible show force _ _);first|refine RM.f1 rfl ?_|refine RM.f8 rfl ?_) |((with_reducible show wpOne _ _ _ _ _ _ _ _ _ _ _ _);refine RM.o8 rfl ?_) |fail)
    rw [← sorted_eq hpe.length_eq hso (hpe.trans hperm)]
    exact ⟨[_, _], ⟨rowsB_fz S hpe.length_eq _ _, Fz.deep rfl, trivial⟩, rfl⟩
end Go.Proofs.Ytmkaeohmdcoanaa
open Go Go.RM
namespace Go.Proofs.Ytmkaeohmdcoanaa
set_option maxRecDepth 100000
theorem cnts_zero {s : Stores} {l : List Count} : cntsErr s l = 0 ↔ ((chk s).2.2 = 0 ∧ l.length ≤ 8 ∧ ∀ c ∈ l, cntErr s c = 0) := by
  unfold cntsErr
  by_cases h1 : (chk s).2.2 = 0
  · rw [if_neg (by simpa using h1)]
    by_cases h2 : 8 < (l.length : Int)
    · rw [if_pos h2]
      exact ⟨fun h => absurd h (by decide), fun h => by omega⟩
    · rw [if_neg h2]
      constructor
      · intro h
        refine ⟨h1, by omega, fun c hc => ?_⟩
        obtain ⟨i, hi, rfl⟩ := List.getElem_of_mem hc
        have := firstN_zero h i hi
        unfold cntE at this
        simpa only [List.getElem?_eq_getElem hi] using this
      · rintro ⟨_, _, h⟩
        rw [firstN_none]
        intro i hi
        unfold cntE
        simp only [List.getElem?_eq_getElem hi]
        exact h _ (List.getElem_mem hi)
  · rw [if_pos h1]
    exact ⟨fun h => absurd h h1, fun h => absurd h.1 h1⟩
theorem lvRef_facts (lf : Truth → Int) (L : List Truth) (h : L ≠ []) : (∀ u ∈ L, (lvRef lf L).lo ≤ lf u ∧ lf u ≤ (lvRef lf L).hi) ∧ (∃ u ∈ L, lf u = (lvRef lf L).lo) ∧ ∃ u ∈ L, lf u = (lvRef lf L).hi := by
  cases L with
  | nil => exact absurd rfl h
  | cons t L =>
    have hf := fold_span lf lf (t :: L) ⟨lf t, lf t⟩
    change ((lvRef lf (t :: L)).lo ≤ _ ∧ _) ∧ _ at hf
    obtain ⟨⟨_, h2⟩, h3, ⟨_, h5⟩, h6⟩ := hf
    refine ⟨fun u hu => ⟨h2 u hu, h5 u hu⟩, ?_, ?_⟩
    · rcases h3 with h3 | ⟨y, hy, h3⟩
      · exact ⟨t, by simp, h3.symm⟩
      · exact ⟨y, hy, h3.symm⟩
    · rcases h6 with h6 | ⟨y, hy, h6⟩
      · exact ⟨t, by simp, h6.symm⟩
      · exact ⟨y, hy, h6.symm⟩
theorem level_facts (s : Stores) (h : s.Ok) (l : List Count) (h0 : cntsErr s l = 0) (i : Nat) (hi : i < s.kinds.length) (d : Nat) (hd : d ≤ s.men.length) :
    (allS s l i s.kinds[i] = [] ∧ Pu true 23 [.ag (eStores s), .sl (l.map eCount) false, I64 i, I64 d] (.tp [.ag (eSpan ⟨0, 0⟩), I64 9])) ∨
    ∃ z : Span, Pu true 23 [.ag (eStores s), .sl (l.map eCount) false, I64 i, I64 d] (.tp [.ag (eSpan z), I64 0]) ∧ allS s l i s.kinds[i] ≠ [] ∧ (∀ u ∈ allS s l i s.kinds[i], z.lo ≤ levelAt s.men s.kinds[i] (cargoRow i s.cargos) d u ∧ levelAt s.men s.kinds[i] (cargoRow i s.cargos) d u ≤ z.hi) ∧
      (∃ u ∈ allS s l i s.kinds[i], levelAt s.men s.kinds[i] (cargoRow i s.cargos) d u = z.lo) ∧ ∃ u ∈ allS s l i s.kinds[i], levelAt s.men s.kinds[i] (cargoRow i s.cargos) d u = z.hi := by
  have hold := holdOk h0 hi
  have q1 := level_ok true s h l h0 i hi d hd
  unfold levelOf at q1
  rw [level_eq hold hd] at q1
  change Pu true 23 _ (.tp [.ag (eSpan (lvRef (levelAt s.men s.kinds[i] (cargoRow i s.cargos) d) (allS s l i s.kinds[i]))), I64 (if allS s l i s.kinds[i] = [] then 9 else 0)]) at q1
  by_cases hz : allS s l i s.kinds[i] = []
  · rw [if_pos hz, hz] at q1
    exact .inl ⟨hz, q1⟩
  · rw [if_neg hz] at q1
    have hf := lvRef_facts (levelAt s.men s.kinds[i] (cargoRow i s.cargos) d) _ hz
    exact .inr ⟨_, q1, hz, hf⟩
theorem lasts_facts (s : Stores) (h : s.Ok) (l : List Count) (h0 : cntsErr s l = 0) (i : Nat) (hi : i < s.kinds.length) :
    (allS s l i s.kinds[i] = [] ∧ Pu true 25 [.ag (eStores s), .sl (l.map eCount) false, I64 i] (.tp [I64 0, I64 9])) ∨
    ∃ n : Int, Pu true 25 [.ag (eStores s), .sl (l.map eCount) false, I64 i] (.tp [I64 n, I64 0]) ∧ (0 ≤ n ∧ n ≤ s.men.length) ∧ (∃ t ∈ allS s l i s.kinds[i], n = shortF s.men s.kinds[i] (cargoRow i s.cargos) t) ∧
      ∀ u ∈ allS s l i s.kinds[i], n ≤ shortF s.men s.kinds[i] (cargoRow i s.cargos) u := by
  have hla := lasts_ok true s h l h0 i hi
  unfold earlOf at hla
  rcases earl_facts (s := s) (k := s.kinds[i]) (row := cargoRow i s.cargos) (l := l) (i := i) with ⟨hn, h9⟩ | ⟨v, n, hz, hv, hvn, hlow⟩
  · rw [h9, if_neg (by decide)] at hla
    exact .inl ⟨hn, hla⟩
  · rw [hz, if_pos rfl] at hla
    exact .inr ⟨n, hla, by rw [hvn]; exact short_bnd _ _ _ _, ⟨v, hv, hvn⟩, hlow⟩
end Go.Proofs.Ytmkaeohmdcoanaa
open Go Go.RM
namespace Go.Proofs.Ytmkaeohmdcoanaa
set_option maxRecDepth 100000
theorem counts_deep : ∀ L : List Count, deepL ((L.map eCount).flatten) = true
  | [] => rfl
  | t :: L => by
    rw [List.map_cons, List.flatten_cons]
    exact deepL_append rfl (counts_deep L)
theorem counts_flen (L : List Count) : ((L.map eCount).flatten).length = L.length * 4 := by
  rw [flatten_len (es := 4) fun el he => by obtain ⟨t, _, rfl⟩ := List.mem_map.1 he; rfl, List.length_map]
end Go.Proofs.Ytmkaeohmdcoanaa
open Go Go.RM
namespace Go.Proofs.Ytmkaeohmdcoanaa
set_option maxRecDepth 100000
set_option maxHeartbeats 4000000
theorem span38_c (one : Bool) (a b : Int) : Pu one 38 [I64 a, I64 b] (.ag (eSpan ⟨a, b⟩)) := by
  refine PureV.body (fn := Try.f38) rfl rfl rfl rfl ?_
  refine wpC_sound (mu := fun _ => false) ?_
  repeat' (first |with_reducible (first|refine RM.c2 ?_|refine RM.c4 ?_|refine RM.c7 ?_|refine RM.c9 ?_|refine RM.o1 ?_|refine RM.o2 ?_|refine RM.o4 ?_|refine RM.o5 ?_|refine RM.o6 ?_) |((with_reducible show force _ _);first|refine RM.f5 rfl ?_|refine RM.g2 rfl ?_) |((with_reducible show wpOne _ _ _ _ _ _ _ _ _ _ _ _);refine RM.o8 rfl ?_) |(refine ⟨_, rfl, ?_⟩) |(refine ⟨rfl, rfl, ?_⟩) |(refine ⟨_, _, rfl, rfl, rfl, rfl, Nat.le_of_ble_eq_true rfl, ?_⟩) |(refine ⟨_, _, rfl, Nat.le_of_ble_eq_true rfl, ?_⟩) |fail)
  exact ⟨[_], ⟨Fz.deep rfl, trivial⟩, rfl⟩
end Go.Proofs.Ytmkaeohmdcoanaa
open Go Go.RM
namespace Go.Proofs.Ytmkaeohmdcoanaa
set_option maxRecDepth 100000
set_option maxHeartbeats 4000000
abbrev e8 (n : Int) : List AV := [.fl (.int .u8 n)]
def toldAt (m : Nat) (i : Nat) (M x : List Int) (j : Nat) : Count :=
  ⟨x.getD (3 * j) 0 % ((m : Int) + 1), i, ⟨max 0 (M.getD (x.getD (3 * j) 0 % ((m : Int) + 1)).toNat 0 - x.getD (3 * j + 1) 0 % 20), M.getD (x.getD (3 * j) 0 % ((m : Int) + 1)).toNat 0 + x.getD (3 * j + 2) 0 % 20⟩⟩
def toldN (m : Nat) (i : Nat) (M x : List Int) (n : Nat) : List Count := (List.range n).map (toldAt m i M x)
def told (m : Nat) (i : Nat) (M x : List Int) : List Count := toldN m i M x (min 8 (x.length / 3))
theorem told_succ (m i : Nat) (M x : List Int) (n : Nat) : toldN m i M x (n + 1) = toldN m i M x n ++ [toldAt m i M x n] := by
  unfold toldN
  rw [List.range_succ, List.map_append]
  rfl
theorem toldN_len (m i : Nat) (M x : List Int) (n : Nat) : (toldN m i M x n).length = n := by
  unfold toldN
  simp
theorem get8 {x : List Int} {p : Nat} (h : p < x.length) : (x.map e8)[p]? = some (e8 (x.getD p 0)) := by
  rw [List.getElem?_map, List.getD_eq_getElem?_getD, List.getElem?_eq_getElem h]
  rfl
theorem in8 {x : List Int} (hx : ∀ n ∈ x, 0 ≤ n ∧ n ≤ 255) (p : Nat) : 0 ≤ x.getD p 0 ∧ x.getD p 0 ≤ 255 := by
  rw [List.getD_eq_getElem?_getD]
  by_cases h : p < x.length
  · rw [List.getElem?_eq_getElem h]
    exact hx _ (List.getElem_mem h)
  · rw [List.getElem?_eq_none (by omega)]
    exact ⟨by decide, by decide⟩
theorem lvl_bnd {men : List Int} {k : Kind} {row : List Int} {t : Truth} (h : RunOk men k row t) (d : Nat) : 0 ≤ (lvl men k row t).getD d 0 ∧ (lvl men k row t).getD d 0 ≤ 300 := by
  rw [List.getD_eq_getElem?_getD]
  unfold lvl
  rw [List.getElem?_map]
  by_cases hd : d < men.length + 1
  · rw [List.getElem?_range hd]
    exact h.haveB _ _ (by omega)
  · rw [List.getElem?_eq_none (by simp; omega)]
    exact ⟨Int.le_refl 0, Int.le_of_lt (show (0 : Int) < 300 by decide)⟩
abbrev tB (L : List Count) : AB := .cells ((L.map eCount).flatten) 4 L.length
abbrev tV (L : List Count) : AV := .osl 0 L.length 0 L.length (L.length + 1)
theorem tB_inb (L : List Count) : ([tB L] : List AB).all (AB.inb 1) = true := by
  rw [List.all_cons, List.all_nil, Bool.and_true]
  exact deep_inb 1 (.ag _) (counts_deep L)
theorem tB_fz (L : List Count) : Fz [tB L] (tV L) (.sl (L.map eCount) false) :=
  Fz.row (es := 4) rfl (by rw [counts_flen]; omega) (by simp) (fun el hel => by obtain ⟨x, _, rfl⟩ := List.mem_map.1 hel; rfl) (by rw [List.drop_zero, List.take_of_length_le (by rw [counts_flen]; omega)]) (counts_deep L) (fun h => Bool.noConfusion h)
theorem tB_snoc (L : List Count) (c : Count) : tB (L ++ [c]) = .cells ((L.map eCount).flatten ++ [eCount c].flatten) 4 (L.length + 1) := by
  show AB.cells _ _ _ = _
  rw [List.map_append, List.flatten_append, List.length_append]
  rfl
theorem tV_snoc (L : List Count) (c : Count) : tV (L ++ [c]) = .osl 0 (L.length + 1) 0 (L.length + 1) (L.length + 1 + 1) := by
  show AV.osl _ _ _ _ _ = _
  rw [List.length_append]
  rfl
theorem told_c (one : Bool) {s : Stores} (hg : Good s) {i : Nat} (hi : i < s.kinds.length) {t : Truth} (h : RunOk s.men s.kinds[i] (cargoRow i s.cargos) t) (x : List Int) (hx : ∀ n ∈ x, 0 ≤ n ∧ n ≤ 255) (hxl : x.length ≤ maxLen) :
    Pu one 41 [.ag (eStores s), I64 i, .ag (eTruth t), .sl (x.map e8) false] (.sl ((told s.men.length i (lvl s.men s.kinds[i] (cargoRow i s.cargos) t) x).map eCount) false) := by
  unfold maxLen at hxl
  have em : ((s.men.map eI).length : Int) = s.men.length := by simp
  have ex : ((x.map e8).length : Int) = x.length := by simp
  have h8 := sizes_9 hg.sizes
  obtain ⟨u, b, hfo⟩ := follow_l one hg hi h
  rw [← em] at hfo
  have hML := lvl_len s.men s.kinds[i] (cargoRow i s.cargos) t
  have hMB := fun d => lvl_bnd h d
  unfold told
  generalize lvl s.men s.kinds[i] (cargoRow i s.cargos) t = M at *
  generalize shortF s.men s.kinds[i] (cargoRow i s.cargos) t = sh at *
  refine PureV.body (fn := Try.f41) rfl rfl rfl rfl ?_
  refine wpC_sound (mu := fun t => Nat.beq t 81) ?_
  repeat' (first |with_reducible (first|refine RM.c2 ?_|refine RM.c3 ?_|refine RM.c4 ?_|refine RM.c9 ?_|refine RM.o1 ?_|refine RM.o2 ?_|refine RM.o4 ?_|refine RM.o5 ?_|refine RM.o7 ?_|refine RM.o9 ?_|refine RM.p1 ?_|refine RM.p2 ?_|refine RM.p3 ?_|refine RM.p6 ?_) |((with_reducible show force _ _);first|refine RM.f1 rfl ?_|refine RM.f2 rfl ?_|refine RM.f3 rfl ?_|refine RM.f4 rfl ?_|refine RM.f5 rfl ?_|refine RM.f6 rfl ?_) |((with_reducible show wpOne _ _ _ _ _ _ _ _ _ _ _ _);refine RM.o8 rfl ?_) |((with_reducible show wpLen _ _ _ _ _);refine RM.l1 rfl ?_) |(refine ⟨_, rfl, ?_⟩) |(refine ⟨_, _, rfl, by decide, ?_⟩) |(refine ⟨rfl, rfl, rfl, ?_⟩) |(refine And.intro (Nat.le_of_ble_eq_true rfl) ?_) |(refine PureV.call hfo rfl rfl ?_) |fail)
  refine SemC.weaker (Weaker.trans (Weaker.addNil 4) (Weaker.toS (l := [(1, I64 i), (3, .sl (x.map e8) false), (4, .pt (eStores s) 0), (9, .sl (M.map eI) false), (13, tV (([] : List Count))), (14, I64 (3 * 0 : Nat))]) (hp := [tB []]) 1 rfl ⟨Soft.refl _, Soft.refl _, Soft.refl _, Soft.refl _, Soft.nilRow, Soft.refl _, trivial⟩ (Nat.zero_le _) rfl (tB_inb _))) ?_
  refine SemC.loop (fun j : Nat => j ≤ min 8 (x.length / 3)) (fun j => ⟨mkFr [(1, I64 i), (3, .sl (x.map e8) false), (4, .pt (eStores s) 0), (9, .sl (M.map eI) false), (13, tV (toldN s.men.length i M x j)), (14, I64 (3 * j : Nat))], [tB (toldN s.men.length i M x j)], Amb.none, false, 0⟩) (fun j => x.length - j) ?_ 0 (Nat.zero_le _)
  intro j hj
  have hjl := toldN_len s.men.length i M x j
  have hj8 : j ≤ 8 := Nat.le_trans hj (Nat.min_le_left _ _)
  refine wpC_sound (mu := fun t => Nat.beq t 81) ?_
  by_cases hlt : j < min 8 (x.length / 3)
  · have hsu := told_succ s.men.length i M x j
    unfold toldAt at hsu
    generalize hL : toldN s.men.length i M x j = L at *
    have hq : 3 * j + 2 < x.length := by omega
    have d1 : decide (((3 * j : Nat) : Int) + 2 < ((x.map e8).length : Int)) = true := decide_eq_true (by omega)
    have d2 : decide ((L.length : Int) < 8) = true := decide_eq_true (by omega)
    have g0 := get8 (x := x) (p := ((3 * j : Nat) : Int).toNat) (by omega)
    have g1 := get8 (x := x) (p := (((3 * j : Nat) : Int) + 1).toNat) (by omega)
    have g2 := get8 (x := x) (p := (((3 * j : Nat) : Int) + 2).toNat) (by omega)
    rw [show x.getD ((3 * j : Nat) : Int).toNat 0 = x.getD (3 * j) 0 by congr 1] at g0
    rw [show x.getD (((3 * j : Nat) : Int) + 1).toNat 0 = x.getD (3 * j + 1) 0 by congr 1] at g1
    rw [show x.getD (((3 * j : Nat) : Int) + 2).toNat 0 = x.getD (3 * j + 2) 0 by congr 1] at g2
    have b0 := in8 hx (3 * j)
    have b1 := in8 hx (3 * j + 1)
    have b2 := in8 hx (3 * j + 2)
    generalize x.getD (3 * j) 0 = x0 at *
    generalize x.getD (3 * j + 1) 0 = x1 at *
    generalize x.getD (3 * j + 2) 0 = x2 at *
    have m0 := Int.emod_nonneg x0 (b := (s.men.length : Int) + 1) (by omega)
    have m1 := Int.emod_lt_of_pos x0 (b := (s.men.length : Int) + 1) (by omega)
    have hmd := hMB (x0 % ((s.men.length : Int) + 1)).toNat
    have hgd := getD_at (L := M) (d := x0 % ((s.men.length : Int) + 1)) (by omega)
    rw [← em] at hsu m0 m1 hmd hgd
    generalize M.getD (x0 % (((s.men.map eI).length : Int) + 1)).toNat 0 = md at *
    have hsp := span38_c true (max 0 (md - x1 % 20)) (md + x2 % 20)
    repeat' (first |(refine ⟨_, cv8 b0, rfl, ?_⟩) |(refine ⟨_, cv8 b1, rfl, ?_⟩) |(refine ⟨_, cv8 b2, rfl, ?_⟩) |(refine ⟨_, hsp, ?_⟩) |with_reducible (first|refine RM.c1 ?_|refine RM.c2 ?_|refine RM.c3 ?_|refine RM.c4 ?_|refine RM.c5 ?_|refine RM.c9 ?_|refine RM.o1 ?_|refine RM.o2 ?_|refine RM.o3 ?_|refine RM.o4 ?_|refine RM.o5 ?_|refine RM.o9 ?_|refine RM.p1 ?_|refine RM.p2 ?_|refine RM.p3 ?_|refine RM.p4 ?_|refine RM.p5 ?_|refine RM.p6 ?_|refine RM.n1 ?_) |((with_reducible show force _ _);first|refine RM.f1 rfl ?_|refine RM.f2 rfl ?_|refine RM.f3 rfl ?_|refine RM.f4 rfl ?_|refine RM.f5 rfl ?_|refine RM.f8 rfl ?_) |((with_reducible show wpOne _ _ _ _ _ _ _ _ _ _ _ _);refine RM.o8 rfl ?_) |((with_reducible show wpDOne _ _ _ _ _ _ _ _ _ _);refine RM.p9 rfl ?_) |((with_reducible show wpGuard _ _ _ _ _);refine wpGuard_yes rfl rfl (by assumption) ?_) |((with_reducible show wpC _ _ _ _ (.cond _ _ _) _ _);refine RM.e2 rfl (by assumption) ?_) |((with_reducible show wpPick _ _ _ _ _);refine RM.k1 rfl ?_) |((with_reducible show wpPickB _ _ _ _ _);refine RM.k2 (by assumption) ?_) |((with_reducible show wpBin _ _ _ _ _ _ _ _ _);first|refine RM.b6 rfl rfl ?_|refine RM.b1 rfl rfl (by omega) ?_|refine RM.b2 rfl rfl (by omega) ?_|refine RM.r1 rfl rfl (by omega) ?_) |((with_reducible show wpLen _ _ _ _ _);first|refine RM.l1 rfl ?_|refine RM.l2 rfl ?_) |((with_reducible show RM.wpOp _ _ _ _ _ _);refine RM.n5 rfl rfl ?_) |(refine ⟨_, rfl, ?_⟩) |(refine ⟨_, _, rfl, by decide, ?_⟩) |(refine ⟨rfl, rfl, rfl, ?_⟩) |(refine ⟨rfl, rfl, ?_⟩) |(refine And.intro (by kernel_rfl) ?_) |(refine ⟨e8 x0, ⟨by omega, g0⟩, rfl, ?_⟩) |(refine ⟨e8 x1, ⟨by omega, g1⟩, rfl, ?_⟩) |(refine ⟨e8 x2, ⟨by omega, g2⟩, rfl, ?_⟩) |(refine ⟨eI md, ⟨by omega, hgd⟩, rfl, ?_⟩) |fail)
    refine ⟨[eCount ⟨x0 % (((s.men.map eI).length : Int) + 1), i, ⟨max 0 (md - x1 % 20), md + x2 % 20⟩⟩], ⟨(fun el hel => by rw [List.mem_singleton.1 hel]; rfl), rfl⟩, rfl, _, rfl, (by rw [counts_flen]), Or.inr rfl, And.intro (by dsimp only [List.length]; omega) (by dsimp only [List.length]; omega), fun hn => absurd hn (by simp), fun _ => ?_⟩
    repeat' (first |with_reducible (first|refine RM.c4 ?_|refine RM.c9 ?_|refine RM.d3 ?_|refine RM.o1 ?_|refine RM.o2 ?_|refine RM.o3 ?_|refine RM.o4 ?_|refine RM.o5 ?_|refine RM.p2 ?_|refine RM.p3 ?_|refine RM.p5 ?_) |((with_reducible show force _ _);first|refine RM.f1 rfl ?_|refine RM.f8 rfl ?_) |((with_reducible show wpOne _ _ _ _ _ _ _ _ _ _ _ _);refine RM.o8 rfl ?_) |((with_reducible show wpDOne _ _ _ _ _ _ _ _ _ _);refine RM.p9 rfl ?_) |((with_reducible show wpBin _ _ _ _ _ _ _ _ _);refine RM.b1 rfl rfl (by omega) ?_) |(refine ⟨_, rfl, ?_⟩) |(refine And.intro (by kernel_rfl) ?_) |fail)
    refine ⟨j + 1, by omega, (by dsimp only; omega), ?_⟩
    show Weaker _ ⟨mkFr [(1, I64 i), (3, .sl (x.map e8) false), (4, .pt (eStores s) 0), (9, .sl (M.map eI) false), (13, tV (toldN s.men.length i M x (j + 1))), (14, I64 (3 * (j + 1) : Nat))], [tB (toldN s.men.length i M x (j + 1))], Amb.none, false, 0⟩
    rw [hsu]
    exact Weaker.to 1 (by rw [tB_snoc]; rfl) ⟨rfl, rfl, rfl, rfl, (by rw [tV_snoc]; rfl), i64c (by omega), trivial⟩ (Nat.zero_le _) rfl (tB_inb _)
  · have hjn : j = min 8 (x.length / 3) := by omega
    subst hjn
    have hd : decide (((3 * min 8 (x.length / 3) : Nat) : Int) + 2 < ((x.map e8).length : Int)) = false ∨ decide (((toldN s.men.length i M x (min 8 (x.length / 3))).length : Int) < 8) = false := by
      by_cases h1 : 3 * min 8 (x.length / 3) + 2 < x.length
      · exact .inr (decide_eq_false (by omega))
      · exact .inl (decide_eq_false (by omega))
    generalize hL : toldN s.men.length i M x (min 8 (x.length / 3)) = L at *
    cases hd1 : decide (((3 * min 8 (x.length / 3) : Nat) : Int) + 2 < ((x.map e8).length : Int)) with
    | false =>
      repeat' (first |with_reducible (first|refine RM.c2 ?_|refine RM.c4 ?_|refine RM.c6 ?_|refine RM.c7 ?_|refine RM.c9 ?_|refine RM.d2 ?_|refine RM.o1 ?_|refine RM.o2 ?_|refine RM.o4 ?_|refine RM.o5 ?_|refine RM.p2 ?_|refine RM.p3 ?_|refine RM.p4 ?_|refine RM.p5 ?_|refine RM.p6 ?_|refine RM.q2 ?_) |((with_reducible show force _ _);first|refine RM.f1 rfl ?_|refine RM.f2 rfl ?_|refine RM.f8 rfl ?_) |((with_reducible show wpOne _ _ _ _ _ _ _ _ _ _ _ _);refine RM.o8 rfl ?_) |((with_reducible show wpGuard _ _ _ _ _);refine wpGuard_no rfl rfl (by assumption) ?_) |((with_reducible show wpC _ _ _ _ (.cond _ _ _) _ _);refine RM.e3 rfl rfl ?_) |((with_reducible show wpPick _ _ _ _ _);refine RM.k1 rfl ?_) |((with_reducible show wpPickB _ _ _ _ _);refine RM.k3 (by assumption) ?_) |((with_reducible show wpBin _ _ _ _ _ _ _ _ _);first|refine RM.b6 rfl rfl ?_|refine RM.b1 rfl rfl (by omega) ?_) |((with_reducible show wpLen _ _ _ _ _);refine RM.l1 rfl ?_) |((with_reducible show blockK _ _ _ _);refine RM.d5 rfl ?_) |fail)
      exact ⟨[_], ⟨tB_fz _, trivial⟩, rfl⟩
    | true =>
      have d2 : decide ((L.length : Int) < 8) = false := by
        rcases hd with hd | hd
        · rw [hd1] at hd; cases hd
        · exact hd
      repeat' (first |with_reducible (first|refine RM.c2 ?_|refine RM.c4 ?_|refine RM.c6 ?_|refine RM.c7 ?_|refine RM.c9 ?_|refine RM.d2 ?_|refine RM.o1 ?_|refine RM.o2 ?_|refine RM.o4 ?_|refine RM.o5 ?_|refine RM.p2 ?_|refine RM.p3 ?_|refine RM.p4 ?_|refine RM.p5 ?_|refine RM.p6 ?_|refine RM.q2 ?_) |((with_reducible show force _ _);first|refine RM.f1 rfl ?_|refine RM.f2 rfl ?_|refine RM.f8 rfl ?_) |((with_reducible show wpOne _ _ _ _ _ _ _ _ _ _ _ _);refine RM.o8 rfl ?_) |((with_reducible show wpGuard _ _ _ _ _);refine wpGuard_yes rfl rfl (by assumption) ?_) |((with_reducible show wpC _ _ _ _ (.cond _ _ _) _ _);refine RM.e3 rfl (by assumption) ?_) |((with_reducible show wpPick _ _ _ _ _);refine RM.k1 rfl ?_) |((with_reducible show wpPickB _ _ _ _ _);refine RM.k2 (by assumption) ?_) |((with_reducible show wpBin _ _ _ _ _ _ _ _ _);first|refine RM.b6 rfl rfl ?_|refine RM.b1 rfl rfl (by omega) ?_) |((with_reducible show wpLen _ _ _ _ _);first|refine RM.l1 rfl ?_|refine RM.l2 rfl ?_) |((with_reducible show blockK _ _ _ _);refine RM.d5 rfl ?_) |fail)
      exact ⟨[_], ⟨tB_fz _, trivial⟩, rfl⟩
end Go.Proofs.Ytmkaeohmdcoanaa
open Go Go.RM
namespace Go.Proofs.Ytmkaeohmdcoanaa
set_option maxRecDepth 100000
set_option maxHeartbeats 4000000
theorem told_len (m i : Nat) (M x : List Int) : (told m i M x).length ≤ 8 := by
  unfold told
  rw [toldN_len]
  exact Nat.min_le_left _ _
theorem told_mem {m i : Nat} {M x : List Int} {c : Count} (h : c ∈ told m i M x) : ∃ j, c = toldAt m i M x j := by
  unfold told toldN at h
  obtain ⟨j, _, rfl⟩ := List.mem_map.1 h
  exact ⟨j, rfl⟩
theorem told_zero {s : Stores} {i : Nat} {M x : List Int} (hc : (chk s).2.2 = 0) (hi : i < s.kinds.length) (hM : ∀ d, 0 ≤ M.getD d 0 ∧ M.getD d 0 ≤ 300) (hx : ∀ n ∈ x, 0 ≤ n ∧ n ≤ 255) : cntsErr s (told s.men.length i M x) = 0 := by
  rw [cnts_zero]
  refine ⟨hc, told_len _ _ _ _, fun c h => ?_⟩
  obtain ⟨j, rfl⟩ := told_mem h
  have b0 := in8 hx (3 * j)
  have b1 := in8 hx (3 * j + 1)
  have b2 := in8 hx (3 * j + 2)
  unfold toldAt
  generalize x.getD (3 * j) 0 = x0 at *
  generalize x.getD (3 * j + 1) 0 = x1 at *
  generalize x.getD (3 * j + 2) 0 = x2 at *
  have m0 := Int.emod_nonneg x0 (b := (s.men.length : Int) + 1) (by omega)
  have m1 := Int.emod_lt_of_pos x0 (b := (s.men.length : Int) + 1) (by omega)
  generalize x0 % ((s.men.length : Int) + 1) = d at *
  have hm := hM d.toNat
  generalize M.getD d.toNat 0 = md at *
  unfold cntErr
  have e1 : outB 0 ((s.kinds.length : Int) - 1) [(i : Int)] = false := by rw [outB1, inB_iff.2 (by omega)]; rfl
  have e2 : outB 0 (s.men.length : Int) [d] = false := by rw [outB1, inB_iff.2 (by omega)]; rfl
  have e3 : outB 0 600 [max 0 (md - x1 % 20), md + x2 % 20] = false := by
    rw [outB_false]
    intro n hn
    simp only [List.mem_cons, List.not_mem_nil, or_false] at hn
    omega
  have e4 : decide (md + x2 % 20 < max 0 (md - x1 % 20)) = false := decide_eq_false (by omega)
  dsimp only
  rw [e1, e2, e3, e4]
  rfl
theorem told_in {m i : Nat} {M x : List Int} (hM : ∀ d, 0 ≤ M.getD d 0 ∧ M.getD d 0 ≤ 300) (hx : ∀ n ∈ x, 0 ≤ n ∧ n ≤ 255) {c : Count} (h : c ∈ told m i M x) : cntIn M c = true := by
  obtain ⟨j, rfl⟩ := told_mem h
  have b1 := in8 hx (3 * j + 1)
  have b2 := in8 hx (3 * j + 2)
  unfold toldAt cntIn
  dsimp only
  have hm := hM (x.getD (3 * j) 0 % ((m : Int) + 1)).toNat
  rw [inB_iff]
  omega
theorem told_kind {m i : Nat} {M x : List Int} {c : Count} (h : c ∈ told m i M x) : c.kind = (i : Int) := by
  obtain ⟨j, rfl⟩ := told_mem h
  rfl
/-- Nothing has to be wrong of what is told of a truth. -/
theorem told_wrong {s : Stores} (hg : Good s) {i : Nat} (hi : i < s.kinds.length) {t : Truth} (ht : truthOk s.kinds[i] t = true) {x : List Int} (hM : ∀ d, 0 ≤ (lvl s.men s.kinds[i] (cargoRow i s.cargos) t).getD d 0 ∧ (lvl s.men s.kinds[i] (cargoRow i s.cargos) t).getD d 0 ≤ 300) (hx : ∀ n ∈ x, 0 ≤ n ∧ n ≤ 255) {T : Nat → Truth}
    (hT : BestT s (told s.men.length i (lvl s.men s.kinds[i] (cargoRow i s.cargos) t) x) T) : wrongT s (told s.men.length i (lvl s.men s.kinds[i] (cargoRow i s.cargos) t) x) T = [] := by
  refine wrong_nil hT fun k hk => ?_
  by_cases hki : k = i
  · subst hki
    refine ⟨t, (ways_iff hg hk).2 ht, fun j => ?_⟩
    rw [missK_at hk]
    unfold missAt
    split
    · rename_i c hc
      rw [told_in hM hx (List.mem_of_getElem? hc)]
      simp
    · rfl
  · cases hw : waysK s k with
    | nil => exact absurd hw (ways_some hg hk)
    | cons u U =>
      refine ⟨u, List.mem_cons_self .., fun j => ?_⟩
      apply Bool.eq_false_iff.2
      intro hm
      obtain ⟨c, h1, h2⟩ := missK_kind hm
      have := told_kind (List.mem_of_getElem? h1)
      omega
theorem told_all {s : Stores} {i : Nat} (hi : i < s.kinds.length) {t : Truth} (ht : truthOk s.kinds[i] t = true) {x : List Int} (hM : ∀ d, 0 ≤ (lvl s.men s.kinds[i] (cargoRow i s.cargos) t).getD d 0 ∧ (lvl s.men s.kinds[i] (cargoRow i s.cargos) t).getD d 0 ≤ 300) (hx : ∀ n ∈ x, 0 ≤ n ∧ n ≤ 255) :
    t ∈ allS s (told s.men.length i (lvl s.men s.kinds[i] (cargoRow i s.cargos) t) x) i s.kinds[i] := by
  rw [all_iff]
  refine ⟨ht, ?_⟩
  unfold agr
  rw [List.all_eq_true]
  intro c hc
  rw [told_in hM hx hc]
  simp
theorem true_err (s : Stores) (h : s.Ok) (kd a b c : Int) (x : List Int) (he : (chk s).2.2 ≠ 0) : Pu false 8 [.ag (eStores s), .ag [.fl (.int .u8 kd), U16 a, U16 b, U16 c, .sl (x.map e8) false]] (BB true) := by
  have hv := valid_c false s h
  rw [decide_eq_false he] at hv
  have hcz : cntsErr s [] = (chk s).2.2 := by unfold cntsErr; rw [if_pos he]
  have hask : askErr s [] 0 = (chk s).2.2 := by unfold askErr; rw [hcz, if_pos he]
  have hla := lasts_err false s h [] (Nat.zero_le _) 0 (by rw [hask]; exact he)
  rw [hask] at hla
  have hla := hla.soft (args' := [.ag (eStores s), .fl (.slice none 0 0), I64 0]) ⟨DSoft.refl _, DSoft.nil _, DSoft.refl _, trivial⟩
  have haw := aw_c false
  have d1 : (!decide ((chk s).2.2 = 0)) = true := by simpa using he
  refine PureV.body (fn := Try.f8) rfl rfl rfl rfl ?_
  refine wpC_sound (mu := fun _ => false) ?_
  repeat' (first |with_reducible (first|refine RM.c2 ?_|refine RM.c4 ?_|refine RM.c7 ?_|refine RM.c9 ?_|refine RM.d1 ?_|refine RM.o1 ?_|refine RM.o2 ?_|refine RM.o4 ?_|refine RM.o5 ?_|refine RM.o7 ?_|refine RM.o9 ?_|refine RM.p1 ?_|refine RM.p2 ?_|refine RM.p3 ?_|refine RM.p4 ?_|refine RM.p5 ?_) |((with_reducible show force _ _);first|refine RM.f1 rfl ?_|refine RM.f3 rfl ?_|refine RM.f4 rfl ?_|refine RM.f5 rfl ?_|refine RM.f6 rfl ?_) |((with_reducible show wpOne _ _ _ _ _ _ _ _ _ _ _ _);refine RM.o8 rfl ?_) |((with_reducible show wpGuard _ _ _ _ _);refine wpGuard_yes rfl rfl (by assumption) ?_) |((with_reducible show wpC _ _ _ _ (.cond _ _ _) _ _);refine RM.e2 rfl rfl ?_) |((with_reducible show wpPick _ _ _ _ _);refine RM.k1 rfl ?_) |((with_reducible show wpPickB _ _ _ _ _);refine RM.k2 (by assumption) ?_) |((with_reducible show wpBin _ _ _ _ _ _ _ _ _);refine RM.b5 rfl rfl ?_) |((with_reducible show RM.wpOp _ _ _ _ _ _);refine RM.n3 rfl ?_) |(refine ⟨_, rfl, ?_⟩) |(refine ⟨rfl, rfl, rfl, ?_⟩) |(refine And.intro (Nat.le_of_ble_eq_true rfl) ?_) |(refine PureV.call hv rfl rfl ?_) |(refine PureV.call hla rfl rfl ?_) |(refine PureV.call haw rfl rfl ?_) |fail)
  exact ⟨[_], ⟨Fz.deep rfl, trivial⟩, rfl⟩
theorem true_c (s : Stores) (h : s.Ok) (kd a b c : Int) (x : List Int) (hkd : 0 ≤ kd ∧ kd ≤ 255) (ha : U16ok a) (hb : U16ok b) (hc : U16ok c) (hx : ∀ n ∈ x, 0 ≤ n ∧ n ≤ 255) (hxl : x.length ≤ maxLen) : Pu false 8 [.ag (eStores s), .ag [.fl (.int .u8 kd), U16 a, U16 b, U16 c, .sl (x.map e8) false]] (BB true) := by
  by_cases he : (chk s).2.2 = 0
  · have hv := valid_c false s h
    rw [decide_eq_true he] at hv
    have hg := chk_good he
    have haw := aw_c false
    have h8 := sizes_9 hg.sizes
    have em : ((s.men.map eI).length : Int) = s.men.length := by simp
    have ek : ((s.kinds.map eKind).length : Int) = s.kinds.length := by simp
    obtain ⟨i, hi, hki⟩ := modN (a := kd) (n := (s.kinds.map eKind).length) (by simp; omega)
    rw [List.length_map] at hi
    have hkg := hg.kinds _ (List.getElem_mem hi)
    have hay := any_c true s.kinds[i] hkg a b c ha hb hc
    have ht := truthAny hkg a b c
    generalize anyT s.kinds[i] a b c = t at *
    have ht2 := truthOk_iff.1 ht
    have hh0 : HoldOk s s.kinds[i] (cargoRow i s.cargos) [] := ⟨hg, hkg, hg.row i, fun c hc => (by cases hc), Nat.zero_le _⟩
    have hr := hh0.run ht2.1 ht2.2.1 ht2.2.2
    have hM := fun d => lvl_bnd hr d
    have hto := told_c false hg hi hr x hx hxl
    have hz := told_zero (x := x) he hi hM hx
    have hall := told_all hi ht hM hx
    obtain ⟨T, hT⟩ := bestT_ex hg (told s.men.length i (lvl s.men s.kinds[i] (cargoRow i s.cargos) t) x)
    have hwr := wrong_c s h _ hz T hT
    rw [told_wrong hg hi ht hM hx hT] at hwr
    have hll := lvl_len s.men s.kinds[i] (cargoRow i s.cargos) t
    generalize hl : told s.men.length i (lvl s.men s.kinds[i] (cargoRow i s.cargos) t) x = l at *
    obtain ⟨u1, b1, hfo⟩ := follow_l false hg hi hr
    rw [← em] at hfo
    have hmo := mornings_c false s h i t s.men.length
    rw [morn_3 he hi, ht, inB_iff.2 (by omega)] at hmo
    change Pu false 19 _ (.tp [.sl ((lvl s.men s.kinds[i] (cargoRow i s.cargos) t).map eI) false, I64 (shortF s.men s.kinds[i] (cargoRow i s.cargos) t), I64 0]) at hmo
    rw [← em] at hmo
    have hlev : ∀ d : Nat, d < s.men.length + 1 → ∃ z : Span, Pu false 23 [.ag (eStores s), .sl (l.map eCount) false, I64 i, I64 d] (.tp [.ag (eSpan z), I64 0]) ∧ z.lo ≤ (lvl s.men s.kinds[i] (cargoRow i s.cargos) t).getD d 0 ∧ (lvl s.men s.kinds[i] (cargoRow i s.cargos) t).getD d 0 ≤ z.hi := by
      intro d hd
      rcases level_facts s h l hz i hi d (by omega) with ⟨h1, _⟩ | ⟨z, h1, _, h2, _⟩
      · rw [h1] at hall; cases hall
      · exact ⟨z, h1.weak, h2 t hall⟩
    obtain ⟨n, hla, hn⟩ : ∃ n : Int, Pu false 25 [.ag (eStores s), .sl (l.map eCount) false, I64 i] (.tp [I64 n, I64 0]) ∧ n ≤ shortF s.men s.kinds[i] (cargoRow i s.cargos) t := by
      rcases lasts_facts s h l hz i hi with ⟨h1, _⟩ | ⟨n, h1, _, _, h2⟩
      · rw [h1] at hall; cases hall
      · exact ⟨n, h1.weak, h2 t hall⟩
    have hin := ints_c false (lvl s.men s.kinds[i] (cargoRow i s.cargos) t) (lvl s.men s.kinds[i] (cargoRow i s.cargos) t) false false (by rw [hll]; unfold maxLen; omega) (by rw [hll]; unfold maxLen; omega)
    rw [decide_eq_true rfl] at hin
    have hidx : (s.kinds.map eKind)[((i : Nat) : Int).toNat]? = some (eKind s.kinds[i]) := map_at hi
    generalize lvl s.men s.kinds[i] (cargoRow i s.cargos) t = M at *
    generalize shortF s.men s.kinds[i] (cargoRow i s.cargos) t = sh at *
    have eM : ((M.map eI).length : Int) = M.length := by simp
    refine PureV.body (fn := Try.f8) rfl rfl rfl rfl ?_
    refine wpC_sound (mu := fun _ => false) ?_
    repeat' (first |(refine ⟨_, cv8 hkd, rfl, ?_⟩) |with_reducible (first|refine RM.c1 ?_|refine RM.c2 ?_|refine RM.c4 ?_|refine RM.c5 ?_|refine RM.c9 ?_|refine RM.o1 ?_|refine RM.o2 ?_|refine RM.o3 ?_|refine RM.o4 ?_|refine RM.o5 ?_|refine RM.o7 ?_|refine RM.o9 ?_|refine RM.p1 ?_|refine RM.p2 ?_|refine RM.p3 ?_|refine RM.p5 ?_|refine RM.p6 ?_) |((with_reducible show force _ _);first|refine RM.f1 rfl ?_|refine RM.f2 rfl ?_|refine RM.f3 rfl ?_|refine RM.f4 rfl ?_|refine RM.f5 rfl ?_) |((with_reducible show wpOne _ _ _ _ _ _ _ _ _ _ _ _);refine RM.o8 rfl ?_) |((with_reducible show wpDOne _ _ _ _ _ _ _ _ _ _);refine RM.p9 rfl ?_) |((with_reducible show wpC _ _ _ _ (.cond _ _ _) _ _);refine RM.e3 rfl rfl ?_) |((with_reducible show wpBin _ _ _ _ _ _ _ _ _);refine RM.r1 rfl rfl (by omega) ?_) |((with_reducible show wpLen _ _ _ _ _);refine RM.l1 rfl ?_) |((with_reducible show RM.wpOp _ _ _ _ _ _);refine RM.n3 rfl ?_) |(refine ⟨_, rfl, ?_⟩) |(refine ⟨_, _, rfl, by decide, ?_⟩) |(refine ⟨rfl, rfl, rfl, ?_⟩) |(refine And.intro (Nat.le_of_ble_eq_true rfl) ?_) |(refine PureV.call hv rfl rfl ?_) |fail)
    rw [hki]
    repeat' (first |(refine ⟨_, hay, ?_⟩) |with_reducible (first|refine RM.c2 ?_|refine RM.c3 ?_|refine RM.c4 ?_|refine RM.c9 ?_|refine RM.o1 ?_|refine RM.o2 ?_|refine RM.o3 ?_|refine RM.o4 ?_|refine RM.o5 ?_|refine RM.o6 ?_|refine RM.o7 ?_|refine RM.o9 ?_|refine RM.p1 ?_|refine RM.p2 ?_|refine RM.p3 ?_|refine RM.p6 ?_|refine RM.n1 ?_) |((with_reducible show force _ _);first|refine RM.f1 rfl ?_|refine RM.f2 rfl ?_|refine RM.f3 rfl ?_|refine RM.f4 rfl ?_|refine RM.f5 rfl ?_|refine RM.f6 rfl ?_|refine RM.f7 rfl ?_|refine RM.g2 rfl ?_) |((with_reducible show wpOne _ _ _ _ _ _ _ _ _ _ _ _);refine RM.o8 rfl ?_) |((with_reducible show wpDOne _ _ _ _ _ _ _ _ _ _);refine RM.p9 rfl ?_) |((with_reducible show wpLen _ _ _ _ _);refine RM.l1 rfl ?_) |(refine ⟨_, rfl, ?_⟩) |(refine ⟨_, _, rfl, by decide, ?_⟩) |(refine ⟨rfl, rfl, ?_⟩) |(refine And.intro (Nat.le_of_ble_eq_true rfl) ?_) |(refine And.intro (by kernel_rfl) ?_) |(refine ⟨_, _, rfl, rfl, rfl, rfl, Nat.le_of_ble_eq_true rfl, ?_⟩) |(refine ⟨_, _, rfl, Nat.le_of_ble_eq_true rfl, ?_⟩) |(refine ⟨eKind s.kinds[i], ⟨by omega, hidx⟩, rfl, ?_⟩) |(refine PureV.call hto rfl rfl ?_) |(refine PureV.call hfo rfl rfl ?_) |fail)
    refine SemC.weaker (Weaker.to (l := [(2, .pt (eStores s) 0), (7, I64 i), (8, .ptr 0 0 0), (9, .sl (l.map eCount) false), (10, .sl (M.map eI) false), (11, I64 sh), (14, I64 (0 : Nat))]) (hp := [.cells (eTruth t) 0 0]) 1 rfl ⟨rfl, rfl, rfl, rfl, rfl, rfl, rfl, trivial⟩ (Nat.zero_le _) rfl rfl) ?_
    refine SemC.loop (fun d : Nat => d ≤ M.length) (fun d => ⟨mkFr [(2, .pt (eStores s) 0), (7, I64 i), (8, .ptr 0 0 0), (9, .sl (l.map eCount) false), (10, .sl (M.map eI) false), (11, I64 sh), (14, I64 (d : Nat))], [.cells (eTruth t) 0 0], Amb.none, false, 0⟩) (fun d => M.length - d) ?_ 0 (Nat.zero_le _)
    intro d hd
    refine wpC_sound (mu := fun _ => false) ?_
    by_cases hlt : d < M.length
    · have d1 : decide ((d : Int) < ((M.map eI).length : Int)) = true := decide_eq_true (by omega)
      obtain ⟨z, hle, hz1, hz2⟩ := hlev d (by omega)
      have hgd := getD_at (L := M) (d := (d : Int)) (by omega)
      change (M.map eI)[((d : Nat) : Int).toNat]? = some (eI (M.getD d 0)) at hgd
      have d2 : decide (M.getD d 0 < z.lo) = false := decide_eq_false (by omega)
      have d3 : decide (z.hi < M.getD d 0) = false := decide_eq_false (by omega)
      generalize M.getD d 0 = md at *
      repeat' (first |with_reducible (first|refine RM.c1 ?_|refine RM.c2 ?_|refine RM.c3 ?_|refine RM.c4 ?_|refine RM.c5 ?_|refine RM.c9 ?_|refine RM.d3 ?_|refine RM.o1 ?_|refine RM.o2 ?_|refine RM.o3 ?_|refine RM.o4 ?_|refine RM.o5 ?_|refine RM.o6 ?_|refine RM.o7 ?_|refine RM.o9 ?_|refine RM.p1 ?_|refine RM.p2 ?_|refine RM.p3 ?_|refine RM.p4 ?_|refine RM.p5 ?_|refine RM.p6 ?_) |((with_reducible show force _ _);first|refine RM.f1 rfl ?_|refine RM.f2 rfl ?_|refine RM.f3 rfl ?_|refine RM.f4 rfl ?_|refine RM.f5 rfl ?_|refine RM.f6 rfl ?_|refine RM.f7 rfl ?_|refine RM.g2 rfl ?_) |((with_reducible show wpOne _ _ _ _ _ _ _ _ _ _ _ _);refine RM.o8 rfl ?_) |((with_reducible show wpDOne _ _ _ _ _ _ _ _ _ _);refine RM.p9 rfl ?_) |((with_reducible show wpGuard _ _ _ _ _);first|refine wpGuard_yes rfl rfl rfl ?_|refine wpGuard_yes rfl rfl (by assumption) ?_) |((with_reducible show wpC _ _ _ _ (.cond _ _ _) _ _);first|refine RM.e2 rfl (by assumption) ?_|refine RM.e3 rfl (by assumption) ?_) |((with_reducible show wpPick _ _ _ _ _);refine RM.k1 rfl ?_) |((with_reducible show wpPickB _ _ _ _ _);first|refine RM.k3 rfl ?_|refine RM.k3 (by assumption) ?_) |((with_reducible show wpBin _ _ _ _ _ _ _ _ _);first|refine RM.b5 rfl rfl ?_|refine RM.b6 rfl rfl ?_|refine RM.b8 rfl rfl ?_|refine RM.b1 rfl rfl (by omega) ?_) |((with_reducible show wpLen _ _ _ _ _);refine RM.l1 rfl ?_) |(refine ⟨_, rfl, ?_⟩) |(refine ⟨_, _, rfl, by decide, ?_⟩) |(refine ⟨_, _, rfl, _, rfl, ?_⟩) |(refine And.intro (Nat.le_of_ble_eq_true rfl) ?_) |(refine And.intro (by kernel_rfl) ?_) |(refine ⟨_, _, rfl, rfl, rfl, rfl, Nat.le_of_ble_eq_true rfl, ?_⟩) |(refine PureV.call hle rfl rfl ?_) |(refine ⟨eI md, ⟨by omega, hgd⟩, rfl, ?_⟩) |fail)
      exact ⟨d + 1, hlt, (by dsimp only; omega), Weaker.to 1 rfl ⟨rfl, rfl, rfl, rfl, rfl, rfl, i64c (by simp), trivial⟩ (Nat.zero_le _) rfl rfl⟩
    · have d1 : decide ((d : Int) < ((M.map eI).length : Int)) = false := decide_eq_false (by omega)
      have d2 : decide (n ≤ sh) = true := decide_eq_true hn
      have d3 : decide (sh = sh) = true := decide_eq_true rfl
      repeat' (first |with_reducible (first|refine RM.c2 ?_|refine RM.c4 ?_|refine RM.c6 ?_|refine RM.c7 ?_|refine RM.c9 ?_|refine RM.d2 ?_|refine RM.o1 ?_|refine RM.o2 ?_|refine RM.o4 ?_|refine RM.o5 ?_|refine RM.o7 ?_|refine RM.o9 ?_|refine RM.p1 ?_|refine RM.p2 ?_|refine RM.p3 ?_|refine RM.p4 ?_|refine RM.p5 ?_|refine RM.p6 ?_|refine RM.q2 ?_) |((with_reducible show force _ _);first|refine RM.f1 rfl ?_|refine RM.f2 rfl ?_|refine RM.f3 rfl ?_|refine RM.f4 rfl ?_|refine RM.f5 rfl ?_|refine RM.f6 rfl ?_) |((with_reducible show wpOne _ _ _ _ _ _ _ _ _ _ _ _);refine RM.o8 rfl ?_) |((with_reducible show wpGuard _ _ _ _ _);first|refine wpGuard_yes rfl rfl rfl ?_|refine wpGuard_yes rfl rfl (by assumption) ?_) |((with_reducible show wpC _ _ _ _ (.cond _ _ _) _ _);refine RM.e3 rfl (by assumption) ?_) |((with_reducible show wpPick _ _ _ _ _);refine RM.k1 rfl ?_) |((with_reducible show wpPickB _ _ _ _ _);first|refine RM.k2 rfl ?_|refine RM.k2 (by assumption) ?_) |((with_reducible show wpBin _ _ _ _ _ _ _ _ _);first|refine RM.b4 rfl rfl ?_|refine RM.b6 rfl rfl ?_|refine RM.b9 rfl rfl ?_) |((with_reducible show wpLen _ _ _ _ _);refine RM.l1 rfl ?_) |((with_reducible show blockK _ _ _ _);refine RM.d5 rfl ?_) |(refine ⟨_, rfl, ?_⟩) |(refine ⟨_, _, rfl, by decide, ?_⟩) |(refine And.intro (Nat.le_of_ble_eq_true rfl) ?_) |(refine ⟨_, _, rfl, Nat.le_of_ble_eq_true rfl, ?_⟩) |(refine PureV.call hla rfl rfl ?_) |(refine PureV.call hwr rfl rfl ?_) |(refine PureV.call hmo rfl rfl ?_) |(refine PureV.call hin rfl rfl ?_) |(refine PureV.call haw rfl rfl ?_) |fail)
      exact ⟨[_], ⟨Fz.deep rfl, trivial⟩, rfl⟩
  · exact true_err s h kd a b c x he
end Go.Proofs.Ytmkaeohmdcoanaa
namespace Go.Proofs.Ytmkaeohmdcoanaa
open Go.RM
set_option maxRecDepth 1000000
noncomputable def tabA : List XE := [x_a1, x_a2, x_a3, x_a4, x_a5, x_a6, x_a7, x_a8]
theorem xs_tabA : ∀ e ∈ tabA, XSound TT e := by
  unfold tabA
  simp only [List.mem_cons, List.not_mem_nil, or_false]
  rintro e (rfl | rfl | rfl | rfl | rfl | rfl | rfl | rfl)
  · exact xs_a1
  · exact xs_a2
  · exact xs_a3
  · exact xs_a4
  · exact xs_a5
  · exact xs_a6
  · exact xs_a7
  · exact xs_a8
theorem xs_aw : XSound TT x_aw := xe_add tt_ok tt_mixed xs_tabA 1000 (by kernel_rfl)
theorem xs_TB : ∀ e ∈ TB, XSound TT e := fun e he => by
  obtain rfl := List.mem_singleton.1 he
  exact xs_aw
end Go.Proofs.Ytmkaeohmdcoanaa
open Go Go.RM
namespace Go.Proofs.Ytmkaeohmdcoanaa
open Go.ChangeShapes Go.WideShapes Go.ChangeAt Go.RowKit
theorem try_own : ownKnob Try.prog.godebug = none := by kernel_rfl
theorem try_laid : laidOutB Try.prog = true := by kernel_rfl
theorem wf8 {n : Int} (h : (Lit.int .u8 n).wf = true) : 0 ≤ n ∧ n ≤ 255 := by
  simp only [Lit.wf, Bool.and_eq_true, decide_eq_true_eq] at h
  exact h
theorem wf16 {n : Int} (h : (Lit.int .u16 n).wf = true) : 0 ≤ n ∧ n ≤ 65535 := by
  simp only [Lit.wf, Bool.and_eq_true, decide_eq_true_eq] at h
  exact h
abbrev sh8 : Sh := .int .u8
abbrev sh16 : Sh := .int .u16
abbrev shPast : Sh := .cons sh8 (.cons (.arr 3 sh16) (.cons (.slice sh8) .nil))
theorem tv8 {l : List AV} (h : TV sh8 l) : ∃ n, (0 ≤ n ∧ n ≤ 255) ∧ l = [.fl (.int .u8 n)] := by
  obtain ⟨n, hn, rfl⟩ := tvK h
  exact ⟨n, wf8 hn, rfl⟩
theorem tv16 {l : List AV} (h : TV sh16 l) : ∃ n, (0 ≤ n ∧ n ≤ 65535) ∧ l = [.fl (.int .u16 n)] := by
  obtain ⟨n, hn, rfl⟩ := tvK h
  exact ⟨n, wf16 hn, rfl⟩
theorem tvA3 {l : List AV} (h : TV (.arr 3 sh16) l) : ∃ a b c, ((0 ≤ a ∧ a ≤ 65535) ∧ (0 ≤ b ∧ b ≤ 65535) ∧ (0 ≤ c ∧ c ≤ 65535)) ∧ l = [.fl (.int .u16 a), .fl (.int .u16 b), .fl (.int .u16 c)] := by
  obtain ⟨els, hl, he, rfl⟩ := tvA h
  match els, hl with
  | [x, y, z], _ =>
    obtain ⟨a, ha, rfl⟩ := tv16 (he x (by simp))
    obtain ⟨b, hb, rfl⟩ := tv16 (he y (by simp))
    obtain ⟨c, hc, rfl⟩ := tv16 (he z (by simp))
    exact ⟨a, b, c, ⟨ha, hb, hc⟩, rfl⟩
theorem tvPast {l : List AV} (h : TV shPast l) : ∃ (kd a b c : Int) (taken : List (List AV)), ((0 ≤ kd ∧ kd ≤ 255) ∧ (0 ≤ a ∧ a ≤ 65535) ∧ (0 ≤ b ∧ b ≤ 65535) ∧ (0 ≤ c ∧ c ≤ 65535)) ∧ (taken.length ≤ maxLen ∧ ∀ el ∈ taken, TV sh8 el) ∧ l = [.fl (.int .u8 kd), .fl (.int .u16 a), .fl (.int .u16 b), .fl (.int .u16 c), .sl taken false] := by
  obtain ⟨_, _, h1, k1, rfl⟩ := tvC h
  obtain ⟨_, _, h2, k2, rfl⟩ := tvC k1
  obtain ⟨_, _, h3, k3, rfl⟩ := tvC k2
  obtain rfl := tvN k3
  obtain ⟨kd, hk, rfl⟩ := tv8 h1
  obtain ⟨a, b, c, hh, rfl⟩ := tvA3 h2
  obtain ⟨els, hl, he, rfl⟩ := tvL h3
  exact ⟨kd, a, b, c, els, ⟨hk, hh⟩, ⟨hl, he⟩, rfl⟩
end Go.Proofs.Ytmkaeohmdcoanaa
