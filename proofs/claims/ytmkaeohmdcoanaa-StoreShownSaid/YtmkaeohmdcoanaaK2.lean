/-
  Contracts of the program's functions and of the document's. Lemmas alone; their conditions stand in them.
-/
import Derived.Test.YtmkaeohmdcoanaaA2
import Derived.Test.YtmkaeohmdcoanaaX1
import Derived.Test.YtmkaeohmdcoanaaK1
import Derived.Laws.StructEq
import Derived.Test.YtmkaeohmdcoanaaRows
open Go Go.RM
namespace Go.Proofs.Ytmkaeohmdcoanaa
theorem useOf_mono' {k : Kind} {t u : Truth} {down : Int} {i : Nat} {n : Int} (hm : u.man = t.man) : useOf k u down i n = useOf k t down i n := by
  unfold useOf; rw [hm]
/-- More at first never leaves less. -/
theorem have_up {men : List Int} {k : Kind} {row : List Int} {m p n n' : Int} (h : n ≤ n') (down : Int) : ∀ i, haveAt men k row ⟨n, m, p⟩ down i ≤ haveAt men k row ⟨n', m, p⟩ down i
  | 0 => h
  | i + 1 => by
    have ih := have_up (men := men) (k := k) (row := row) (m := m) (p := p) h down i
    have hu := useOf_mono' (k := k) (t := ⟨n, m, p⟩) (u := ⟨n', m, p⟩) (down := down) (i := i) (n := men.getD i 0) rfl
    simp only [haveAt, rawAt] at ih ⊢
    rw [hu]
    omega
theorem short_up {men : List Int} {k : Kind} {row : List Int} {m p n n' : Int} (h : n ≤ n') (down : Int) : ∀ i, shortAt men k row ⟨n, m, p⟩ down i ≤ shortAt men k row ⟨n', m, p⟩ down i
  | 0 => Int.le_refl _
  | i + 1 => by
    have ih := short_up (men := men) (k := k) (row := row) (m := m) (p := p) h down i
    have hh := have_up (men := men) (k := k) (row := row) (m := m) (p := p) h down i
    have hu := useOf_mono' (k := k) (t := ⟨n, m, p⟩) (u := ⟨n', m, p⟩) (down := down) (i := i) (n := men.getD i 0) rfl
    have hr : rawAt men k row ⟨n, m, p⟩ down i (haveAt men k row ⟨n, m, p⟩ down i) ≤ rawAt men k row ⟨n', m, p⟩ down i (haveAt men k row ⟨n', m, p⟩ down i) := by
      unfold rawAt
      rw [hu]
      generalize haveAt men k row ⟨n, m, p⟩ down i = a at *
      generalize haveAt men k row ⟨n', m, p⟩ down i = b at *
      dsimp only
      omega
    show (if _ < 0 then _ else _) ≤ (if _ < 0 then _ else _)
    split <;> split <;> omega
theorem lvl_at {men : List Int} {k : Kind} {row : List Int} {t : Truth} {d : Nat} (h : d ≤ men.length) : (lvl men k row t).getD d 0 = haveAt men k row t men.length d := by
  unfold lvl
  rw [List.getD_eq_getElem?_getD, List.getElem?_map, List.getElem?_range (by omega)]
  rfl
theorem lvl_up {men : List Int} {k : Kind} {row : List Int} {m p n n' : Int} (h : n ≤ n') (d : Nat) : (lvl men k row ⟨n, m, p⟩).getD d 0 ≤ (lvl men k row ⟨n', m, p⟩).getD d 0 := by
  by_cases hd : d ≤ men.length
  · rw [lvl_at hd, lvl_at hd]; exact have_up h _ _
  · rw [List.getD_eq_getElem?_getD, List.getD_eq_getElem?_getD, List.getElem?_eq_none (by rw [lvl_len]; omega), List.getElem?_eq_none (by rw [lvl_len]; omega)]
    exact Int.le_refl _
theorem enough_up {men : List Int} {k : Kind} {row : List Int} {f : List Count} {b : Bool} {m p n n' : Int} (h : n ≤ n') (he : enough men k row f b ⟨n, m, p⟩ = true) : enough men k row f b ⟨n', m, p⟩ = true := by
  unfold enough at he ⊢
  cases b with
  | true =>
    simp only [cond_true, List.any_eq_true] at he ⊢
    obtain ⟨c, hc, h1⟩ := he
    refine ⟨c, hc, ?_⟩
    unfold cntOver at h1 ⊢
    have := lvl_up (men := men) (k := k) (row := row) (m := m) (p := p) h c.day.toNat
    rw [decide_eq_true_eq] at h1 ⊢
    omega
  | false =>
    simp only [cond_false, Bool.not_eq_true', List.any_eq_false] at he ⊢
    intro c hc h1
    apply he c hc
    unfold cntUnder at h1 ⊢
    have := lvl_up (men := men) (k := k) (row := row) (m := m) (p := p) h c.day.toNat
    rw [decide_eq_true_eq] at h1 ⊢
    omega
theorem agr_iff' (men : List Int) (k : Kind) (row : List Int) (l : List Count) (i : Nat) (t : Truth) : agr men k row l i t = true ↔ (enough men k row (cntsOf l i) false t = true ∧ enough men k row (cntsOf l i) true t = false) := by
  have e : agr men k row l i t = (cntsOf l i).all (cntIn (lvl men k row t)) := by
    unfold agr cntsOf
    rw [List.all_filter]
  rw [e]
  unfold enough
  simp only [cond_false, cond_true, Bool.not_eq_true', List.any_eq_false, List.all_eq_true]
  unfold cntIn cntUnder cntOver
  constructor
  · intro h
    exact ⟨fun c hc => by have := inB_iff.1 (h c hc); rw [decide_eq_true_eq]; omega, fun c hc => by have := inB_iff.1 (h c hc); rw [decide_eq_true_eq]; omega⟩
  · rintro ⟨h1, h2⟩ c hc
    have a := h1 c hc
    have b := h2 c hc
    rw [decide_eq_true_eq] at a b
    exact inB_iff.2 (by omega)
/-- A truth agrees just if its First is from the least to the greatest one of its use. -/
theorem agr_iff (men : List Int) (k : Kind) (row : List Int) (l : List Count) (i : Nat) (m p : Int) {a : Nat} (ha : a < spanN k.first) :
    agr men k row l i ⟨k.first.lo + a, m, p⟩ = true ↔ (lowF men k row (cntsOf l i) m p ≤ k.first.lo + a ∧ k.first.lo + a ≤ highF men k row (cntsOf l i) m p) := by
  rw [agr_iff']
  have b0 := bs_least (fun i' => enough men k row (cntsOf l i) false ⟨k.first.lo + (i' : Int), m, p⟩) 0 (spanN k.first) (Nat.zero_le _) (fun a b _ h _ he => enough_up (by omega) he)
  have b1 := bs_least (fun i' => enough men k row (cntsOf l i) true ⟨k.first.lo + (i' : Int), m, p⟩) 0 (spanN k.first) (Nat.zero_le _) (fun a b _ h _ he => enough_up (by omega) he)
  have c0 : lowF men k row (cntsOf l i) m p = k.first.lo + bs (fun i' => enough men k row (cntsOf l i) false ⟨k.first.lo + (i' : Int), m, p⟩) 0 (spanN k.first) := rfl
  have c1 : highF men k row (cntsOf l i) m p = k.first.lo + bs (fun i' => enough men k row (cntsOf l i) true ⟨k.first.lo + (i' : Int), m, p⟩) 0 (spanN k.first) - 1 := rfl
  generalize hr0 : bs (fun i' => enough men k row (cntsOf l i) false ⟨k.first.lo + (i' : Int), m, p⟩) 0 (spanN k.first) = r0 at *
  generalize hr1 : bs (fun i' => enough men k row (cntsOf l i) true ⟨k.first.lo + (i' : Int), m, p⟩) 0 (spanN k.first) = r1 at *
  have h0 : enough men k row (cntsOf l i) false ⟨k.first.lo + a, m, p⟩ = true ↔ r0 ≤ a := by
    constructor
    · intro h
      apply Nat.le_of_not_lt
      intro hlt
      have := b0.1 a (Nat.zero_le _) hlt
      rw [h] at this; cases this
    · intro h
      exact enough_up (by omega) (b0.2 (by omega))
  have h1 : enough men k row (cntsOf l i) true ⟨k.first.lo + a, m, p⟩ = false ↔ a < r1 := by
    constructor
    · intro h
      apply Nat.lt_of_not_le
      intro hle
      have := enough_up (n := k.first.lo + r1) (n' := k.first.lo + a) (by omega) (b1.2 (by omega))
      rw [h] at this; cases this
    · intro h
      exact b1.1 a (Nat.zero_le _) h
  rw [h0, h1, c0, c1]
  omega
theorem mem_all {men : List Int} {k : Kind} {row : List Int} {l : List Count} {i : Nat} {t : Truth} (h : t ∈ allOf men k row l i) :
    ∃ a m p : Nat, a < spanN k.first ∧ m < spanN k.man ∧ p < spanN k.ship ∧ t = ⟨k.first.lo + a, k.man.lo + m, k.ship.lo + p⟩ ∧ lowF men k row (cntsOf l i) (k.man.lo + m) (k.ship.lo + p) ≤ t.first ∧ t.first ≤ highF men k row (cntsOf l i) (k.man.lo + m) (k.ship.lo + p) := by
  unfold allOf pastN at h
  rw [List.mem_filter, List.mem_map] at h
  obtain ⟨⟨q, hq, rfl⟩, ha⟩ := h
  rw [List.mem_range] at hq
  have hP : 0 < spanN k.ship := Nat.pos_of_ne_zero fun e => by rw [e] at hq; simp at hq
  have hM : 0 < spanN k.man := Nat.pos_of_ne_zero fun e => by rw [e] at hq; simp at hq
  have h1 : q / spanN k.ship < spanN k.first * spanN k.man := Nat.div_lt_of_lt_mul (by rw [Nat.mul_comm]; exact hq)
  have h2 : q / spanN k.ship / spanN k.man < spanN k.first := Nat.div_lt_of_lt_mul (by rw [Nat.mul_comm]; exact h1)
  refine ⟨q / spanN k.ship / spanN k.man, q / spanN k.ship % spanN k.man, q % spanN k.ship, h2, Nat.mod_lt _ hM, Nat.mod_lt _ hP, rfl, ?_⟩
  exact (agr_iff men k row l i _ _ h2).1 ha
theorem all_mem {men : List Int} {k : Kind} {row : List Int} {l : List Count} {i a m p : Nat} (ha : a < spanN k.first) (hm : m < spanN k.man) (hp : p < spanN k.ship)
    (h1 : lowF men k row (cntsOf l i) (k.man.lo + m) (k.ship.lo + p) ≤ k.first.lo + a) (h2 : k.first.lo + a ≤ highF men k row (cntsOf l i) (k.man.lo + m) (k.ship.lo + p)) : (⟨k.first.lo + a, k.man.lo + m, k.ship.lo + p⟩ : Truth) ∈ allOf men k row l i := by
  unfold allOf pastN
  rw [List.mem_filter, List.mem_map]
  refine ⟨⟨(a * spanN k.man + m) * spanN k.ship + p, ?_, truthQ_at k hm hp⟩, (agr_iff men k row l i _ _ ha).2 ⟨h1, h2⟩⟩
  rw [List.mem_range]
  have q1 : (a + 1) * spanN k.man ≤ spanN k.first * spanN k.man := Nat.mul_le_mul_right _ ha
  rw [Nat.add_mul, Nat.one_mul] at q1
  have q2 : (a * spanN k.man + m + 1) * spanN k.ship ≤ spanN k.first * spanN k.man * spanN k.ship := Nat.mul_le_mul_right _ (by omega)
  rw [Nat.add_mul, Nat.one_mul] at q2
  omega
theorem mem_pairs {men : List Int} {k : Kind} {row : List Int} {f : List Count} {y : Truth × Truth} (h : y ∈ truthsL men k row f) :
    ∃ m p : Nat, m < spanN k.man ∧ p < spanN k.ship ∧ lowF men k row f (k.man.lo + m) (k.ship.lo + p) ≤ highF men k row f (k.man.lo + m) (k.ship.lo + p) ∧
      y = (⟨lowF men k row f (k.man.lo + m) (k.ship.lo + p), k.man.lo + m, k.ship.lo + p⟩, ⟨highF men k row f (k.man.lo + m) (k.ship.lo + p), k.man.lo + m, k.ship.lo + p⟩) := by
  unfold truthsL pairs at h
  rw [List.mem_filterMap] at h
  obtain ⟨q, hq, h⟩ := h
  rw [List.mem_range] at hq
  have hP : 0 < spanN k.ship := Nat.pos_of_ne_zero fun e => by rw [e] at hq; simp at hq
  unfold useAt pairAt at h
  split at h
  · rename_i hle
    cases h
    exact ⟨q / spanN k.ship, q % spanN k.ship, Nat.div_lt_of_lt_mul (by rw [Nat.mul_comm]; exact hq), Nat.mod_lt _ hP, hle, rfl⟩
  · cases h
theorem pairs_mem {men : List Int} {k : Kind} {row : List Int} {f : List Count} {m p : Nat} (hm : m < spanN k.man) (hp : p < spanN k.ship) (hle : lowF men k row f (k.man.lo + m) (k.ship.lo + p) ≤ highF men k row f (k.man.lo + m) (k.ship.lo + p)) :
    ((⟨lowF men k row f (k.man.lo + m) (k.ship.lo + p), k.man.lo + m, k.ship.lo + p⟩, ⟨highF men k row f (k.man.lo + m) (k.ship.lo + p), k.man.lo + m, k.ship.lo + p⟩) : Truth × Truth) ∈ truthsL men k row f := by
  unfold truthsL pairs
  rw [List.mem_filterMap]
  refine ⟨m * spanN k.ship + p, ?_, ?_⟩
  · rw [List.mem_range]
    have : (m + 1) * spanN k.ship ≤ spanN k.man * spanN k.ship := Nat.mul_le_mul_right _ hm
    rw [Nat.add_mul, Nat.one_mul] at this
    omega
  · rw [use_at men k row f hp]
    unfold pairAt
    rw [if_pos hle]
/-- First as a number of the span. -/
theorem low_nat (men : List Int) (k : Kind) (row : List Int) (f : List Count) (m p : Int) (hle : lowF men k row f m p ≤ highF men k row f m p) : ∃ a b : Nat, a < spanN k.first ∧ b < spanN k.first ∧ lowF men k row f m p = k.first.lo + a ∧ highF men k row f m p = k.first.lo + b := by
  have b0 := (bs_in (fun i' => enough men k row f false ⟨k.first.lo + (i' : Int), m, p⟩) 0 (spanN k.first) (Nat.zero_le _)).2
  have b1 := (bs_in (fun i' => enough men k row f true ⟨k.first.lo + (i' : Int), m, p⟩) 0 (spanN k.first) (Nat.zero_le _)).2
  have c0 : lowF men k row f m p = k.first.lo + bs (fun i' => enough men k row f false ⟨k.first.lo + (i' : Int), m, p⟩) 0 (spanN k.first) := rfl
  have c1 : highF men k row f m p = k.first.lo + bs (fun i' => enough men k row f true ⟨k.first.lo + (i' : Int), m, p⟩) 0 (spanN k.first) - 1 := rfl
  generalize bs (fun i' => enough men k row f false ⟨k.first.lo + (i' : Int), m, p⟩) 0 (spanN k.first) = r0 at *
  generalize bs (fun i' => enough men k row f true ⟨k.first.lo + (i' : Int), m, p⟩) 0 (spanN k.first) = r1 at *
  exact ⟨r0, r1 - 1, by omega, by omega, by omega, by omega⟩
/-- Each truth that agrees has a pair around it; both of each pair agree. -/
theorem all_pair {men : List Int} {k : Kind} {row : List Int} {l : List Count} {i : Nat} {t : Truth} (h : t ∈ allOf men k row l i) : ∃ y ∈ truthsL men k row (cntsOf l i), (y.1.first ≤ t.first ∧ t.first ≤ y.2.first) ∧ (y.1.man = t.man ∧ y.1.ship = t.ship) ∧ y.2.man = t.man ∧ y.2.ship = t.ship := by
  obtain ⟨a, m, p, _, hm, hp, rfl, h1, h2⟩ := mem_all h
  exact ⟨_, pairs_mem hm hp (by omega), ⟨h1, h2⟩, ⟨rfl, rfl⟩, rfl, rfl⟩
theorem pair_all {men : List Int} {k : Kind} {row : List Int} {l : List Count} {i : Nat} {y : Truth × Truth} (h : y ∈ truthsL men k row (cntsOf l i)) : y.1 ∈ allOf men k row l i ∧ y.2 ∈ allOf men k row l i := by
  obtain ⟨m, p, hm, hp, hle, rfl⟩ := mem_pairs h
  obtain ⟨a, b, ha, hb, ea, eb⟩ := low_nat _ _ _ _ _ _ hle
  dsimp only
  constructor
  · have := all_mem (men := men) (row := row) (l := l) (i := i) ha hm hp (by omega) (by omega)
    rw [← ea] at this
    exact this
  · have := all_mem (men := men) (row := row) (l := l) (i := i) hb hm hp (by omega) (by omega)
    rw [← eb] at this
    exact this
end Go.Proofs.Ytmkaeohmdcoanaa
open Go Go.RM
namespace Go.Proofs.Ytmkaeohmdcoanaa
theorem shortF_up {men : List Int} {k : Kind} {row : List Int} {t u : Truth} (h : t.first ≤ u.first) (h1 : t.man = u.man) (h2 : t.ship = u.ship) : shortF men k row t ≤ shortF men k row u := by
  obtain ⟨a, b, c⟩ := t
  obtain ⟨a', b', c'⟩ := u
  dsimp only at h h1 h2
  subst h1 h2
  exact short_up h _ _
theorem nil_iff {men : List Int} {k : Kind} {row : List Int} {l : List Count} {i : Nat} : truthsL men k row (cntsOf l i) = [] ↔ allOf men k row l i = [] := by
  constructor
  · intro h
    apply List.eq_nil_iff_forall_not_mem.2
    intro t ht
    obtain ⟨y, hy, _⟩ := all_pair ht
    rw [h] at hy; cases hy
  · intro h
    apply List.eq_nil_iff_forall_not_mem.2
    intro y hy
    have := (pair_all hy).1
    rw [h] at this; cases this
def Le (sh : Truth → Int) (t u : Truth) : Prop := sh t < sh u ∨ sh t = sh u ∧ (t.first < u.first ∨ t.first = u.first ∧ (t.man < u.man ∨ t.man = u.man ∧ t.ship ≤ u.ship))
theorem div_order {q n P : Nat} (h : q < n) : q / P < n / P ∨ (q / P = n / P ∧ q % P < n % P) := by
  have h1 := Nat.div_le_div_right (c := P) (Nat.le_of_lt h)
  have h2 := Nat.div_add_mod q P
  have h3 := Nat.div_add_mod n P
  by_cases he : q / P = n / P
  · rw [he] at h2
    exact .inr ⟨he, by omega⟩
  · exact .inl (by omega)
theorem use_man {men : List Int} {k : Kind} {row : List Int} {f : List Count} {q : Nat} {y : Truth × Truth} (h : useAt men k row f q = some y) : y.1.man = k.man.lo + (q / spanN k.ship : Nat) ∧ y.1.ship = k.ship.lo + (q % spanN k.ship : Nat) := by
  unfold useAt pairAt at h
  split at h
  · cases h; exact ⟨rfl, rfl⟩
  · cases h
theorem earl_spec (men : List Int) (k : Kind) (row : List Int) (f : List Count) (sh : Truth → Int) (N : Nat) (hN : ∀ t, sh t ≤ N) : ∀ n,
    (pairs men k row f n = [] ∧ earl N sh (pairs men k row f n) = ⟨⟨0, 0, 0⟩, (N : Int) + 1, 9⟩) ∨
    ((earl N sh (pairs men k row f n)).e = 0 ∧ (∃ z ∈ pairs men k row f n, (earl N sh (pairs men k row f n)).t = z.1) ∧ (earl N sh (pairs men k row f n)).day = sh (earl N sh (pairs men k row f n)).t ∧ ∀ z ∈ pairs men k row f n, Le sh (earl N sh (pairs men k row f n)).t z.1)
  | 0 => .inl ⟨rfl, rfl⟩
  | n + 1 => by
    have ih := earl_spec men k row f sh N hN n
    rw [pairs_succ]
    cases hu : useAt men k row f n with
    | none => rw [show (none : Option (Truth × Truth)).toList = [] from rfl, List.append_nil]; exact ih
    | some y =>
      rw [show (some y).toList = [y] from rfl]
      have hst : earl N sh (pairs men k row f n ++ [y]) = earlStep sh (earl N sh (pairs men k row f n)) y := by unfold earl; rw [List.foldl_append]; rfl
      rw [hst]
      have hy := hN y.1
      have hym := use_man hu
      have hord : ∀ z ∈ pairs men k row f n, z.1.man < y.1.man ∨ z.1.man = y.1.man ∧ z.1.ship ≤ y.1.ship := by
        intro z hz
        unfold pairs at hz
        rw [List.mem_filterMap] at hz
        obtain ⟨q, hq, hz⟩ := hz
        rw [List.mem_range] at hq
        have hzm := use_man hz
        have := div_order (P := spanN k.ship) hq
        omega
      generalize pairs men k row f n = L at *
      generalize earl N sh L = x at *
      refine .inr ?_
      rcases ih with ⟨rfl, rfl⟩ | ⟨h1, ⟨z0, hz0, h2⟩, h3, h4⟩
      · unfold earlStep
        rw [if_pos (.inl (by dsimp only; omega))]
        refine ⟨rfl, ⟨y, by simp, rfl⟩, rfl, fun z hz => ?_⟩
        simp only [List.nil_append, List.mem_singleton] at hz
        subst hz
        exact .inr ⟨rfl, .inr ⟨rfl, .inr ⟨rfl, Int.le_refl _⟩⟩⟩
      · unfold earlStep
        by_cases hc : sh y.1 < x.day ∨ sh y.1 = x.day ∧ y.1.first < x.t.first
        · rw [if_pos hc]
          refine ⟨rfl, ⟨y, by simp, rfl⟩, rfl, fun z hz => ?_⟩
          rcases List.mem_append.1 hz with hz | hz
          · have := h4 z hz
            unfold Le at this ⊢
            dsimp only
            omega
          · simp only [List.mem_singleton] at hz
            subst hz
            exact .inr ⟨rfl, .inr ⟨rfl, .inr ⟨rfl, Int.le_refl _⟩⟩⟩
        · rw [if_neg hc]
          refine ⟨h1, ⟨z0, List.mem_append_left _ hz0, h2⟩, h3, fun z hz => ?_⟩
          rcases List.mem_append.1 hz with hz | hz
          · exact h4 z hz
          · simp only [List.mem_singleton] at hz
            subst hz
            have := hord z0 hz0
            rw [← h2] at this
            unfold Le
            omega
end Go.Proofs.Ytmkaeohmdcoanaa
open Go Go.RM
namespace Go.Proofs.Ytmkaeohmdcoanaa
set_option maxRecDepth 100000
set_option maxHeartbeats 4000000
theorem pr_bind {P : Program} {α β : Type} (m : Sem α) (f : α → Sem β) : pureRun P (m >>= f) = (pureRun P m).bind fun a => pureRun P (f a) := by
  show pureRun P (Sem.bind m f) = _
  induction m with
  | pure a => rfl
  | program k ih => exact ih P
  | mark _ k ih => exact ih
  | _ => rfl
theorem pr_struct {P : Program} (d : Nat) (t : TypeId) (xs ys : Array Value) (ht : P.underlying t = some (.struct (P.fieldsOf t))) (hp : P.stoodInHeld t = false) :
    pureRun P (Op.equalIn (d + 1) t (.agg xs) (.agg ys)) = pureRun P (Op.eqFields d xs ys (P.fieldsOf t).toList) := by
  have hu : pureRun P (underlying t) = some (.struct (P.fieldsOf t)) := by
    unfold underlying
    simp only [pr_bind]
    show pureRun P _ = _
    simp [ht]
    rfl
  have hg : pureRun P program = some P := rfl
  simp only [Op.equalIn, pr_bind, hu, hg, hp, Option.bind_some, Bool.false_eq_true, if_false]
  rw [← Array.forIn_toList]
  generalize (P.fieldsOf t).toList = fs
  clear ht hu
  induction fs with
  | nil => rfl
  | cons f fs ih =>
    simp only [List.forIn_cons, Op.eqFields, pr_bind]
    split
    · simp only [pr_bind]
      cases pureRun P (part f.type xs f.offset) with
      | none => rfl
      | some a =>
        simp only [Option.bind_some]
        cases pureRun P (part f.type ys f.offset) with
        | none => rfl
        | some b =>
          simp only [Option.bind_some]
          cases pureRun P (Op.equalIn d f.type a b) with
          | none => rfl
          | some r =>
            cases r
            · rfl
            · exact ih
    · exact ih
def vI (n : Int) : Value := .int .i64 n
theorem eq_int {d : Nat} (a : Int) : pureRun TT.P (Op.equalIn (d + 1) 3 (vI a) (vI a)) = some true := by
  show some (a == a) = _
  rw [beq_self_eq_true]
theorem eqFields_all {d : Nat} {P : Program} {xs ys : Array Value} : ∀ {L : List Field}, (∀ f ∈ L, ∃ a b, pureRun P (part f.type xs f.offset) = some a ∧ pureRun P (part f.type ys f.offset) = some b ∧ pureRun P (Op.equalIn d f.type a b) = some true) → pureRun P (Op.eqFields d xs ys L) = some true
  | [], _ => rfl
  | f :: L, h => by
    obtain ⟨a, b, h1, h2, h3⟩ := h f (by simp)
    have ih := eqFields_all (L := L) fun g hg => h g (by simp [hg])
    unfold Op.eqFields
    split
    · simp only [pr_bind, h1, h2, h3, Option.bind_some]
      exact ih
    · exact ih
theorem fields28 : ((TT.P.fieldsOf 28).toList.all fun f => f.type == 3 && Nat.blt f.offset 3) = true := by kernel_rfl
theorem eq_truth (a b c : Int) : pureRun TT.P (Op.equalIn 10000 28 (.agg #[vI a, vI b, vI c]) (.agg #[vI a, vI b, vI c])) = some true := by
  rw [pr_struct 9999 28 _ _ (by kernel_rfl) (by kernel_rfl)]
  apply eqFields_all
  intro f hf
  have hh := List.all_eq_true.1 fields28 f hf
  rw [Bool.and_eq_true, beq_iff_eq, Nat.blt_eq] at hh
  rw [hh.1]
  match f.offset, hh.2 with
  | 0, _ => exact ⟨vI a, vI a, rfl, rfl, eq_int a⟩
  | 1, _ => exact ⟨vI b, vI b, rfl, rfl, eq_int b⟩
  | 2, _ => exact ⟨vI c, vI c, rfl, rfl, eq_int c⟩
theorem bin_truth {x y : Operand} (a b c : Int) : binA TT.P .eql 28 x y (.agg #[vI a, vI b, vI c]) (.agg #[vI a, vI b, vI c]) = some (.bool true, .none) := by
  show slowBin TT.P .eql 28 x y (.agg #[vI a, vI b, vI c]) (.agg #[vI a, vI b, vI c]) = _
  unfold slowBin
  rw [show (flat (.agg #[vI a, vI b, vI c]) && flat (.agg #[vI a, vI b, vI c])) = true from rfl, cond_true, pr_bind]
  rw [show pureRun TT.P (eqGuard .eql 28 x y (.agg #[vI a, vI b, vI c]) (.agg #[vI a, vI b, vI c])) = some () by
    show pureRun TT.P (if (!(TT.P.eqGuardType TT.P.depth 28)) = true then _ else _) = _
    rw [show TT.P.eqGuardType TT.P.depth 28 = false by kernel_rfl]; rfl]
  show pureV (pureRun TT.P (Op.equal 28 _ _ >>= fun r => pure (Value.bool r))) = _
  rw [pr_bind]
  show pureV ((pureRun TT.P (Op.equalIn 10000 28 _ _)).bind _) = _
  rw [eq_truth]
  rfl
end Go.Proofs.Ytmkaeohmdcoanaa
open Go Go.RM
namespace Go.Proofs.Ytmkaeohmdcoanaa
set_option maxRecDepth 100000
set_option maxHeartbeats 4000000
end Go.Proofs.Ytmkaeohmdcoanaa
open Go Go.RM
namespace Go.Proofs.Ytmkaeohmdcoanaa
set_option maxRecDepth 100000
set_option maxHeartbeats 4000000
end Go.Proofs.Ytmkaeohmdcoanaa
open Go Go.RM
namespace Go.Proofs.Ytmkaeohmdcoanaa
set_option maxRecDepth 100000
set_option maxHeartbeats 4000000
end Go.Proofs.Ytmkaeohmdcoanaa
open Go Go.RM
namespace Go.Proofs.Ytmkaeohmdcoanaa
set_option maxRecDepth 100000
set_option maxHeartbeats 4000000
theorem RowOk.more {row : List Int} (h : RowOk 8 row) {d : Nat} (hd : d < 30) {n : Int} (hn : 0 ≤ n ∧ n ≤ 300) : RowOk 9 (row.set d (row.getD d 0 + n)) := by
  have hg := h.get hd
  refine ⟨by rw [List.length_set]; exact h.len, fun x hx => ?_⟩
  rcases List.mem_or_eq_of_mem_set hx with hx | rfl
  · have := h.bnd x hx; omega
  · omega
theorem RunOk.more {men : List Int} {k : Kind} {row : List Int} {t : Truth} (h : RunOk men k row t) (hr : RowOk 8 row) {d : Nat} (hd : d < 30) {n : Int} (hn : 0 ≤ n ∧ n ≤ 300) : RunOk men k (row.set d (row.getD d 0 + n)) t :=
  ⟨h.men30, h.men, hr.more hd hn, h.room, h.ration, h.first, h.man, h.ship⟩
end Go.Proofs.Ytmkaeohmdcoanaa
open Go Go.RM
namespace Go.Proofs.Ytmkaeohmdcoanaa
set_option maxRecDepth 100000
set_option maxHeartbeats 4000000
end Go.Proofs.Ytmkaeohmdcoanaa
open Go Go.RM
namespace Go.Proofs.Ytmkaeohmdcoanaa
set_option maxRecDepth 100000
/-- The least amount, and none below. -/
structure IsLeast (p : Nat → Bool) (n r : Nat) : Prop where
  le : r ≤ n
  below : ∀ a, a < r → p a = false
  here : r < n → p r = true
end Go.Proofs.Ytmkaeohmdcoanaa
open Go Go.RM
namespace Go.Proofs.Ytmkaeohmdcoanaa
set_option maxRecDepth 100000
set_option maxHeartbeats 4000000
def other (t o : Truth) : Bool := !decide (o.man = t.man) || !decide (o.ship = t.ship)
end Go.Proofs.Ytmkaeohmdcoanaa
open Go Go.RM
namespace Go.Proofs.Ytmkaeohmdcoanaa
set_option maxRecDepth 100000
set_option maxHeartbeats 4000000
end Go.Proofs.Ytmkaeohmdcoanaa
open Go Go.RM
namespace Go.Proofs.Ytmkaeohmdcoanaa
set_option maxRecDepth 100000
theorem truthOk_iff {k : Kind} {t : Truth} : truthOk k t = true ↔ (k.first.lo ≤ t.first ∧ t.first ≤ k.first.hi) ∧ (k.man.lo ≤ t.man ∧ t.man ≤ k.man.hi) ∧ k.ship.lo ≤ t.ship ∧ t.ship ≤ k.ship.hi := by
  unfold truthOk
  simp only [Bool.and_eq_true, inB_iff]
theorem all_iff {men : List Int} {k : Kind} {row : List Int} {l : List Count} {i : Nat} {t : Truth} : t ∈ allOf men k row l i ↔ (truthOk k t = true ∧ agr men k row l i t = true) := by
  unfold allOf pastN
  rw [List.mem_filter, List.mem_map]
  constructor
  · rintro ⟨⟨q, hq, rfl⟩, ha⟩
    rw [List.mem_range] at hq
    refine ⟨?_, ha⟩
    have hP : 0 < spanN k.ship := by
      apply Nat.pos_of_ne_zero
      intro h0
      rw [h0, Nat.mul_zero] at hq
      exact absurd hq (Nat.not_lt_zero _)
    have hM : 0 < spanN k.man := by
      apply Nat.pos_of_ne_zero
      intro h0
      rw [h0, Nat.mul_zero, Nat.zero_mul] at hq
      exact absurd hq (Nat.not_lt_zero _)
    have h1 : q / spanN k.ship % spanN k.man < spanN k.man := Nat.mod_lt _ hM
    have h2 : q % spanN k.ship < spanN k.ship := Nat.mod_lt _ hP
    have h3 : q / spanN k.ship / spanN k.man < spanN k.first := by
      rw [Nat.div_lt_iff_lt_mul hM, Nat.div_lt_iff_lt_mul hP]
      exact hq
    rw [truthOk_iff]
    unfold truthQ
    dsimp only
    generalize q / spanN k.ship % spanN k.man = x at *
    generalize q % spanN k.ship = y at *
    generalize q / spanN k.ship / spanN k.man = z at *
    clear hq hP hM ha
    unfold spanN at *
    omega
  · rintro ⟨ht, ha⟩
    refine ⟨?_, ha⟩
    rw [truthOk_iff] at ht
    obtain ⟨a, b, c⟩ := t
    dsimp only at ht
    obtain ⟨x, rfl⟩ : ∃ x : Nat, a = k.first.lo + x := ⟨(a - k.first.lo).toNat, by omega⟩
    obtain ⟨y, rfl⟩ : ∃ x : Nat, b = k.man.lo + x := ⟨(b - k.man.lo).toNat, by omega⟩
    obtain ⟨z, rfl⟩ : ∃ x : Nat, c = k.ship.lo + x := ⟨(c - k.ship.lo).toNat, by omega⟩
    have hx : x < spanN k.first := by unfold spanN; omega
    have hy : y < spanN k.man := by unfold spanN; omega
    have hz : z < spanN k.ship := by unfold spanN; omega
    refine ⟨(x * spanN k.man + y) * spanN k.ship + z, ?_, truthQ_at k hy hz⟩
    rw [List.mem_range]
    have q1 : (x + 1) * spanN k.man ≤ spanN k.first * spanN k.man := Nat.mul_le_mul_right _ hx
    rw [Nat.add_mul, Nat.one_mul] at q1
    have q2 : (x * spanN k.man + y + 1) * spanN k.ship ≤ spanN k.first * spanN k.man * spanN k.ship := Nat.mul_le_mul_right _ (by omega)
    rw [Nat.add_mul, Nat.one_mul] at q2
    omega
theorem short_bnd (men : List Int) (k : Kind) (row : List Int) (t : Truth) : 0 ≤ shortF men k row t ∧ shortF men k row t ≤ men.length := by
  rcases shortAt_or men k row t men.length men.length with h | h
  · unfold shortF
    rw [h]
    omega
  · unfold shortF
    omega
/-- The earliest way, of all. -/
theorem earl_facts {s : Stores} {k : Kind} {row : List Int} {l : List Count} {i : Nat} :
    (allOf s.men k row l i = [] ∧ (earl s.men.length (shortF s.men k row) (truthsL s.men k row (cntsOf l i))).e = 9) ∨
    (∃ t n, (earl s.men.length (shortF s.men k row) (truthsL s.men k row (cntsOf l i))) = ⟨t, n, 0⟩ ∧ t ∈ allOf s.men k row l i ∧ n = shortF s.men k row t ∧ ∀ u ∈ allOf s.men k row l i, n ≤ shortF s.men k row u) := by
  have hs := earl_spec s.men k row (cntsOf l i) (shortF s.men k row) s.men.length (fun t => (short_bnd _ _ _ t).2) (spanN k.man * spanN k.ship)
  change (truthsL s.men k row (cntsOf l i) = [] ∧ earl s.men.length (shortF s.men k row) (truthsL s.men k row (cntsOf l i)) = _) ∨ _ at hs
  rcases hs with ⟨h1, h2⟩ | ⟨h1, ⟨z, hz, h2⟩, h3, h4⟩
  · exact .inl ⟨nil_iff.1 h1, by rw [h2]⟩
  · refine .inr ⟨z.1, shortF s.men k row z.1, ?_, (pair_all hz).1, rfl, fun u hu => ?_⟩
    · change (earl s.men.length (shortF s.men k row) (truthsL s.men k row (cntsOf l i))).e = 0 at h1
      change (earl s.men.length (shortF s.men k row) (truthsL s.men k row (cntsOf l i))).t = z.1 at h2
      change (earl s.men.length (shortF s.men k row) (truthsL s.men k row (cntsOf l i))).day = shortF s.men k row (earl s.men.length (shortF s.men k row) (truthsL s.men k row (cntsOf l i))).t at h3
      rw [h2] at h3
      generalize earl s.men.length (shortF s.men k row) (truthsL s.men k row (cntsOf l i)) = e at *
      obtain ⟨a, b, c⟩ := e
      dsimp only at h1 h2 h3
      rw [h1, h2, h3]
    · obtain ⟨y, hy, ⟨y1, _⟩, ⟨y2, y3⟩, _⟩ := all_pair hu
      have h5 := h4 y hy
      change Le (shortF s.men k row) (earl s.men.length (shortF s.men k row) (truthsL s.men k row (cntsOf l i))).t y.1 at h5
      change (earl s.men.length (shortF s.men k row) (truthsL s.men k row (cntsOf l i))).t = z.1 at h2
      rw [h2] at h5
      have h6 : shortF s.men k row y.1 ≤ shortF s.men k row u := shortF_up y1 y2 y3
      unfold Le at h5
      omega
end Go.Proofs.Ytmkaeohmdcoanaa
open Go Go.RM
namespace Go.Proofs.Ytmkaeohmdcoanaa
set_option maxRecDepth 100000
set_option maxHeartbeats 4000000
end Go.Proofs.Ytmkaeohmdcoanaa
open Go Go.RM
namespace Go.Proofs.Ytmkaeohmdcoanaa
set_option maxRecDepth 100000
set_option maxHeartbeats 4000000
end Go.Proofs.Ytmkaeohmdcoanaa
open Go Go.RM
namespace Go.Proofs.Ytmkaeohmdcoanaa
set_option maxRecDepth 100000
set_option maxHeartbeats 4000000
theorem truthAny {k : Kind} (h : KindGood k) (a b c : Int) : truthOk k (anyT k a b c) = true := by
  have hs := h.spans
  have h1 := amongI_in hs.1 a
  have h2 := amongI_in hs.2.1 b
  have h3 := amongI_in hs.2.2 c
  unfold truthOk anyT
  simp only [Bool.and_eq_true, inB_iff]
  exact ⟨h1, h2, h3⟩
theorem modN {a : Int} {n : Nat} (hn : 0 < n) : ∃ i : Nat, i < n ∧ a % (n : Int) = i := by
  have h1 := Int.emod_nonneg a (show (n : Int) ≠ 0 by omega)
  have h2 := Int.emod_lt_of_pos a (show 0 < (n : Int) by omega)
  exact ⟨(a % (n : Int)).toNat, by omega, by omega⟩
def agrL (l : List Count) (i : Nat) (L : List Int) : Bool := l.all fun c => !decide (c.kind = (i : Int)) || cntIn L c
theorem agrees44_c (one : Bool) (l : List Count) (i : Nat) (L : List Int) (hl : l.length ≤ 8) (hd : ∀ c ∈ l, 0 ≤ c.day ∧ c.day < L.length) :
    Pu one 44 [.sl (l.map eCount) false, I64 i, .sl (L.map eI) false] (BB (agrL l i L)) := by
  have el : ((l.map eCount).length : Int) = l.length := by simp
  unfold agrL
  generalize hff : (fun c : Count => !decide (c.kind = (i : Int)) || cntIn L c) = ff
  have hfa : ∀ c : Count, ff c = (!decide (c.kind = (i : Int)) || cntIn L c) := fun c => by rw [← hff]
  refine PureV.body (fn := Try.f44) rfl rfl rfl rfl ?_
  refine wpC_sound (mu := fun _ => false) ?_
  repeat' (first |with_reducible (first|refine RM.c2 ?_|refine RM.c3 ?_|refine RM.c4 ?_|refine RM.c9 ?_|refine RM.o1 ?_|refine RM.o2 ?_|refine RM.o4 ?_|refine RM.o5 ?_|refine RM.p3 ?_) |((with_reducible show force _ _);refine RM.f1 rfl ?_) |((with_reducible show wpOne _ _ _ _ _ _ _ _ _ _ _ _);refine RM.o8 rfl ?_) |fail)
  refine SemC.weaker (Weaker.to (l := [(0, .sl (l.map eCount) false), (1, I64 i), (2, .sl (L.map eI) false), (7, I64 (0 : Nat))]) (hp := []) 0 rfl ⟨rfl, rfl, rfl, rfl, trivial⟩ (Nat.zero_le _) rfl rfl) ?_
  refine SemC.loop (fun j : Nat => j ≤ l.length ∧ (l.take j).all ff = true) (fun j => ⟨mkFr [(0, .sl (l.map eCount) false), (1, I64 i), (2, .sl (L.map eI) false), (7, I64 (j : Nat))], [], Amb.none, false, 0⟩) (fun j => l.length - j) ?_ 0 ⟨Nat.zero_le _, rfl⟩
  rintro j ⟨hj, hno⟩
  refine wpC_sound (mu := fun _ => false) ?_
  repeat' (first |with_reducible (first|refine RM.c2 ?_|refine RM.c4 ?_|refine RM.c9 ?_|refine RM.o1 ?_|refine RM.o2 ?_|refine RM.o4 ?_|refine RM.o5 ?_|refine RM.p2 ?_|refine RM.p5 ?_|refine RM.p6 ?_) |((with_reducible show force _ _);first|refine RM.f1 rfl ?_|refine RM.f2 rfl ?_) |((with_reducible show wpOne _ _ _ _ _ _ _ _ _ _ _ _);refine RM.o8 rfl ?_) |((with_reducible show wpBin _ _ _ _ _ _ _ _ _);refine RM.b6 rfl rfl ?_) |((with_reducible show wpLen _ _ _ _ _);refine RM.l1 rfl ?_) |fail)
  refine RM.e1 rfl ⟨fun hc => ?_, fun hc => ?_⟩
  · have hlt : j < l.length := by simpa only [el, decide_eq_true_eq, Int.ofNat_lt] using hc
    have hat := all_take (f := ff) hlt
    have hagc := agrees_c one l[j] L (hd _ (List.getElem_mem hlt))
    rw [hno, Bool.true_and, hfa] at hat
    by_cases hk : l[j].kind = (i : Int)
    · have d1 : decide (l[j].kind = (i : Int)) = true := decide_eq_true hk
      rw [d1, Bool.not_true, Bool.false_or] at hat
      cases hb : cntIn L l[j] with
      | true =>
        rw [hb] at hat hagc
        repeat' (first |with_reducible (first|refine RM.c1 ?_|refine RM.c2 ?_|refine RM.c3 ?_|refine RM.c4 ?_|refine RM.c9 ?_|refine RM.d3 ?_|refine RM.o1 ?_|refine RM.o2 ?_|refine RM.o4 ?_|refine RM.o5 ?_|refine RM.o7 ?_|refine RM.o9 ?_|refine RM.p1 ?_|refine RM.p2 ?_|refine RM.p3 ?_|refine RM.p4 ?_|refine RM.p5 ?_) |((with_reducible show force _ _);first|refine RM.f1 rfl ?_|refine RM.f2 rfl ?_|refine RM.f3 rfl ?_|refine RM.f4 rfl ?_|refine RM.f5 rfl ?_) |((with_reducible show wpOne _ _ _ _ _ _ _ _ _ _ _ _);refine RM.o8 rfl ?_) |((with_reducible show wpGuard _ _ _ _ _);refine wpGuard_yes rfl rfl (by assumption) ?_) |((with_reducible show wpC _ _ _ _ (.cond _ _ _) _ _);refine RM.e3 rfl rfl ?_) |((with_reducible show wpPick _ _ _ _ _);refine RM.k1 rfl ?_) |((with_reducible show wpPickB _ _ _ _ _);refine RM.k2 (by assumption) ?_) |((with_reducible show wpBin _ _ _ _ _ _ _ _ _);first|refine RM.b4 rfl rfl ?_|refine RM.b1 rfl rfl (by omega) ?_) |((with_reducible show RM.wpOp _ _ _ _ _ _);refine RM.n3 rfl ?_) |(refine ⟨_, rfl, ?_⟩) |(refine ⟨_, _, rfl, by decide, ?_⟩) |(refine And.intro (Nat.le_of_ble_eq_true rfl) ?_) |(refine ⟨eCount l[j], ⟨by omega, map_at hlt⟩, rfl, ?_⟩) |(refine PureV.call hagc rfl rfl ?_) |fail)
        exact ⟨j + 1, ⟨hlt, hat⟩, (by dsimp only; omega), Weaker.to 0 rfl ⟨rfl, rfl, rfl, i64c (by simp), trivial⟩ (Nat.zero_le _) rfl rfl⟩
      | false =>
        rw [hb] at hagc
        have hall : l.all ff = false := by
          apply Bool.eq_false_iff.2
          intro h
          have h1 := List.all_eq_true.1 h _ (List.getElem_mem hlt)
          rw [hfa, d1, hb] at h1
          exact absurd h1 (by decide)
        rw [hall]
        repeat' (first |with_reducible (first|refine RM.c1 ?_|refine RM.c2 ?_|refine RM.c3 ?_|refine RM.c4 ?_|refine RM.c7 ?_|refine RM.c9 ?_|refine RM.d1 ?_|refine RM.d4 ?_|refine RM.o1 ?_|refine RM.o2 ?_|refine RM.o4 ?_|refine RM.o5 ?_|refine RM.o7 ?_|refine RM.o9 ?_|refine RM.p1 ?_|refine RM.p2 ?_|refine RM.p3 ?_|refine RM.p4 ?_|refine RM.p5 ?_|refine RM.q1 ?_) |((with_reducible show force _ _);first|refine RM.f1 rfl ?_|refine RM.f2 rfl ?_|refine RM.f3 rfl ?_|refine RM.f4 rfl ?_|refine RM.f5 rfl ?_) |((with_reducible show wpOne _ _ _ _ _ _ _ _ _ _ _ _);refine RM.o8 rfl ?_) |((with_reducible show wpGuard _ _ _ _ _);refine wpGuard_yes rfl rfl (by assumption) ?_) |((with_reducible show wpC _ _ _ _ (.cond _ _ _) _ _);refine RM.e2 rfl rfl ?_) |((with_reducible show wpPick _ _ _ _ _);refine RM.k1 rfl ?_) |((with_reducible show wpPickB _ _ _ _ _);refine RM.k2 (by assumption) ?_) |((with_reducible show wpBin _ _ _ _ _ _ _ _ _);refine RM.b4 rfl rfl ?_) |((with_reducible show RM.wpOp _ _ _ _ _ _);refine RM.n3 rfl ?_) |(refine ⟨_, rfl, ?_⟩) |(refine ⟨_, _, rfl, by decide, ?_⟩) |(refine And.intro (Nat.le_of_ble_eq_true rfl) ?_) |(refine ⟨eCount l[j], ⟨by omega, map_at hlt⟩, rfl, ?_⟩) |(refine PureV.call hagc rfl rfl ?_) |fail)
        exact ⟨[_], ⟨Fz.deep rfl, trivial⟩, rfl⟩
    · have d1 : decide (l[j].kind = (i : Int)) = false := decide_eq_false hk
      rw [d1, Bool.not_false, Bool.true_or] at hat
      repeat' (first |with_reducible (first|refine RM.c1 ?_|refine RM.c2 ?_|refine RM.c3 ?_|refine RM.c4 ?_|refine RM.c9 ?_|refine RM.d3 ?_|refine RM.o1 ?_|refine RM.o2 ?_|refine RM.o4 ?_|refine RM.o5 ?_|refine RM.p2 ?_|refine RM.p3 ?_|refine RM.p4 ?_|refine RM.p5 ?_) |((with_reducible show force _ _);first|refine RM.f1 rfl ?_|refine RM.f2 rfl ?_|refine RM.f3 rfl ?_) |((with_reducible show wpOne _ _ _ _ _ _ _ _ _ _ _ _);refine RM.o8 rfl ?_) |((with_reducible show wpGuard _ _ _ _ _);refine wpGuard_no rfl rfl (by assumption) ?_) |((with_reducible show wpC _ _ _ _ (.cond _ _ _) _ _);refine RM.e3 rfl rfl ?_) |((with_reducible show wpPick _ _ _ _ _);refine RM.k1 rfl ?_) |((with_reducible show wpPickB _ _ _ _ _);refine RM.k3 (by assumption) ?_) |((with_reducible show wpBin _ _ _ _ _ _ _ _ _);first|refine RM.b4 rfl rfl ?_|refine RM.b1 rfl rfl (by omega) ?_) |(refine ⟨_, rfl, ?_⟩) |(refine ⟨_, _, rfl, by decide, ?_⟩) |(refine ⟨eCount l[j], ⟨by omega, map_at hlt⟩, rfl, ?_⟩) |fail)
      exact ⟨j + 1, ⟨hlt, hat⟩, (by dsimp only; omega), Weaker.to 0 rfl ⟨rfl, rfl, rfl, i64c (by simp), trivial⟩ (Nat.zero_le _) rfl rfl⟩
  · have hjl : l.take j = l := List.take_of_length_le (by rw [el, decide_eq_false_iff_not] at hc; omega)
    rw [hjl] at hno
    rw [hno]
    repeat' (first |with_reducible (first|refine RM.c2 ?_|refine RM.c4 ?_|refine RM.c6 ?_|refine RM.c7 ?_|refine RM.c9 ?_|refine RM.d2 ?_|refine RM.o1 ?_|refine RM.o2 ?_|refine RM.o4 ?_|refine RM.o5 ?_|refine RM.p3 ?_|refine RM.q2 ?_) |((with_reducible show force _ _);refine RM.f1 rfl ?_) |((with_reducible show wpOne _ _ _ _ _ _ _ _ _ _ _ _);refine RM.o8 rfl ?_) |((with_reducible show blockK _ _ _ _);refine RM.d5 rfl ?_) |fail)
    exact ⟨[_], ⟨Fz.deep rfl, trivial⟩, rfl⟩
theorem follow_l (one : Bool) {s : Stores} (hg : Good s) {i : Nat} (hi : i < s.kinds.length) {t : Truth} (h : RunOk s.men s.kinds[i] (cargoRow i s.cargos) t) :
    ∃ u b : Int, Pu one 42 [.ag (eStores s), I64 i, .ag (eTruth t), I64 s.men.length] (.tp [.sl ((lvl s.men s.kinds[i] (cargoRow i s.cargos) t).map eI) false, I64 (shortF s.men s.kinds[i] (cargoRow i s.cargos) t), I64 u, I64 b]) := by
  have := follow_c one s hg i hi t s.men.length h
  rw [show ((List.range (s.men.length + 1)).map fun j => eI (haveAt s.men s.kinds[i] (cargoRow i s.cargos) t s.men.length j)) = (lvl s.men s.kinds[i] (cargoRow i s.cargos) t).map eI by unfold lvl; rw [List.map_map]; rfl] at this
  exact ⟨_, _, this⟩
theorem shown_err (s : Stores) (h : s.Ok) (l : List Count) (hl : l.length ≤ maxLen) (kd a b c : Int) (taken : List (List AV)) (he : cntsErr s l ≠ 0) : Pu true 10 [.ag (eStores s), .sl (l.map eCount) false, .ag [.fl (.int .u8 kd), U16 a, U16 b, U16 c, .sl taken false]] (BB true) := by
  have hcn := rcounts_c true s h l hl
  have hask : askErr s l 0 = cntsErr s l := by unfold askErr; rw [if_pos he]
  have hs := shortr_err true s h l hl 0 (by rw [hask]; exact he)
  rw [hask] at hs
  have haw := aw_c true
  have d1 : (!decide (cntsErr s l = 0)) = true := by simpa using he
  refine PureV.body (fn := Try.f10) rfl rfl rfl rfl ?_
  refine wpC_sound (mu := fun _ => false) ?_
  repeat' (first |with_reducible (first|refine RM.c2 ?_|refine RM.c4 ?_|refine RM.c7 ?_|refine RM.c9 ?_|refine RM.d1 ?_|refine RM.o1 ?_|refine RM.o2 ?_|refine RM.o4 ?_|refine RM.o5 ?_|refine RM.o6 ?_|refine RM.o7 ?_|refine RM.o9 ?_|refine RM.p1 ?_|refine RM.p2 ?_|refine RM.p3 ?_|refine RM.p4 ?_|refine RM.p5 ?_) |((with_reducible show force _ _);first|refine RM.f1 rfl ?_|refine RM.f2 rfl ?_|refine RM.f3 rfl ?_|refine RM.f4 rfl ?_|refine RM.f5 rfl ?_|refine RM.f6 rfl ?_|refine RM.f7 rfl ?_|refine RM.g2 rfl ?_) |((with_reducible show wpOne _ _ _ _ _ _ _ _ _ _ _ _);refine RM.o8 rfl ?_) |((with_reducible show wpGuard _ _ _ _ _);refine wpGuard_yes rfl rfl (by assumption) ?_) |((with_reducible show wpC _ _ _ _ (.cond _ _ _) _ _);refine RM.e2 rfl (by assumption) ?_) |((with_reducible show wpPick _ _ _ _ _);refine RM.k1 rfl ?_) |((with_reducible show wpPickB _ _ _ _ _);refine RM.k2 (by assumption) ?_) |((with_reducible show wpBin _ _ _ _ _ _ _ _ _);refine RM.b5 rfl rfl ?_) |(refine ⟨_, rfl, ?_⟩) |(refine ⟨_, _, rfl, by decide, ?_⟩) |(refine ⟨rfl, rfl, rfl, ?_⟩) |(refine ⟨rfl, rfl, ?_⟩) |(refine And.intro (Nat.le_of_ble_eq_true rfl) ?_) |(refine And.intro (by kernel_rfl) ?_) |(refine PureV.call hcn rfl rfl ?_) |(refine PureV.call hs rfl rfl ?_) |(refine PureV.call haw rfl rfl ?_) |fail)
  exact ⟨[_], ⟨Fz.deep rfl, trivial⟩, rfl⟩
theorem shown_c (s : Stores) (h : s.Ok) (l : List Count) (hl : l.length ≤ maxLen) (kd a b c : Int) (taken : List (List AV)) (hkd : 0 ≤ kd ∧ kd ≤ 255) (ha : U16ok a) (hb : U16ok b) (hc : U16ok c) : Pu true 10 [.ag (eStores s), .sl (l.map eCount) false, .ag [.fl (.int .u8 kd), U16 a, U16 b, U16 c, .sl taken false]] (BB true) := by
  by_cases he : cntsErr s l = 0
  · have hcn := rcounts_c true s h l hl
    rw [he] at hcn
    have haw := aw_c true
    obtain ⟨hg, hl8, hlc⟩ := cnts_good he
    have h8 := sizes_9 hg.sizes
    have em : ((s.men.map eI).length : Int) = s.men.length := by simp
    have ek : ((s.kinds.map eKind).length : Int) = s.kinds.length := by simp
    obtain ⟨i, hi, hki⟩ := modN (a := kd) (n := (s.kinds.map eKind).length) (by simp; omega)
    rw [List.length_map] at hi
    have hh := holdOk he hi
    have hkg := hg.kinds _ (List.getElem_mem hi)
    have hay := any_c true s.kinds[i] hkg a b c ha hb hc
    have ht := truthAny hkg a b c
    generalize anyT s.kinds[i] a b c = t at *
    have ht2 := truthOk_iff.1 ht
    obtain ⟨u1, b1, hfo⟩ := follow_l true hg hi (hh.run ht2.1 ht2.2.1 ht2.2.2)
    rw [← em] at hfo
    have hll := fun t => lvl_len s.men s.kinds[i] (cargoRow i s.cargos) t
    have hagr := agrees44_c true l i (lvl s.men s.kinds[i] (cargoRow i s.cargos) t) hl8 (fun c hc => by rw [hll]; have := hlc c hc; omega)
    have hsh := shortr_ok true s h l he i hi
    have hla := lasts_ok true s h l he i hi
    have hbn := short_bnd s.men s.kinds[i] (cargoRow i s.cargos) t
    have hmem : agrL l i (lvl s.men s.kinds[i] (cargoRow i s.cargos) t) = true → t ∈ allOf s.men s.kinds[i] (cargoRow i s.cargos) l i := fun h => all_iff.2 ⟨ht, h⟩
    have hidx : (s.kinds.map eKind)[((i : Nat) : Int).toNat]? = some (eKind s.kinds[i]) := map_at hi
    unfold earlOf at hsh hla
    unfold shortV at hsh
    rcases earl_facts (s := s) (k := s.kinds[i]) (row := cargoRow i s.cargos) (l := l) (i := i) with ⟨hn, h9⟩ | ⟨v, n, hz, hv, hvn, hlow⟩
    · rw [h9] at hsh hla
      rw [if_neg (by decide)] at hsh hla
      have hf : agrL l i (lvl s.men s.kinds[i] (cargoRow i s.cargos) t) = false := Bool.eq_false_iff.2 fun h => by
        have := hmem h
        rw [hn] at this
        cases this
      rw [hf] at hagr
      generalize lvl s.men s.kinds[i] (cargoRow i s.cargos) t = lv at *
      generalize shortF s.men s.kinds[i] (cargoRow i s.cargos) t = sh at *
      refine PureV.body (fn := Try.f10) rfl rfl rfl rfl ?_
      refine wpC_sound (mu := fun _ => false) ?_
      repeat' (first |(refine ⟨_, cv8 hkd, rfl, ?_⟩) |with_reducible (first|refine RM.c1 ?_|refine RM.c2 ?_|refine RM.c4 ?_|refine RM.c9 ?_|refine RM.o1 ?_|refine RM.o2 ?_|refine RM.o4 ?_|refine RM.o5 ?_|refine RM.o7 ?_|refine RM.o9 ?_|refine RM.p1 ?_|refine RM.p2 ?_|refine RM.p3 ?_|refine RM.p5 ?_|refine RM.p6 ?_) |((with_reducible show force _ _);first|refine RM.f1 rfl ?_|refine RM.f2 rfl ?_|refine RM.f3 rfl ?_|refine RM.f4 rfl ?_|refine RM.f5 rfl ?_) |((with_reducible show wpOne _ _ _ _ _ _ _ _ _ _ _ _);refine RM.o8 rfl ?_) |((with_reducible show wpC _ _ _ _ (.cond _ _ _) _ _);refine RM.e3 rfl rfl ?_) |((with_reducible show wpBin _ _ _ _ _ _ _ _ _);first|refine RM.b5 rfl rfl ?_|refine RM.r1 rfl rfl (by omega) ?_) |((with_reducible show wpLen _ _ _ _ _);refine RM.l1 rfl ?_) |(refine ⟨_, rfl, ?_⟩) |(refine ⟨_, _, rfl, by decide, ?_⟩) |(refine ⟨rfl, rfl, rfl, ?_⟩) |(refine And.intro (Nat.le_of_ble_eq_true rfl) ?_) |(refine PureV.call hcn rfl rfl ?_) |fail)
      rw [hki]
      repeat' (first |(refine ⟨_, hay, ?_⟩) |with_reducible (first|refine RM.c2 ?_|refine RM.c3 ?_|refine RM.c4 ?_|refine RM.c5 ?_|refine RM.c7 ?_|refine RM.c9 ?_|refine RM.d1 ?_|refine RM.d4 ?_|refine RM.o1 ?_|refine RM.o2 ?_|refine RM.o3 ?_|refine RM.o4 ?_|refine RM.o5 ?_|refine RM.o6 ?_|refine RM.o7 ?_|refine RM.o9 ?_|refine RM.p1 ?_|refine RM.p2 ?_|refine RM.p3 ?_|refine RM.p4 ?_|refine RM.p5 ?_|refine RM.p6 ?_|refine RM.n1 ?_) |((with_reducible show force _ _);first|refine RM.f1 rfl ?_|refine RM.f2 rfl ?_|refine RM.f3 rfl ?_|refine RM.f4 rfl ?_|refine RM.f5 rfl ?_|refine RM.f6 rfl ?_|refine RM.f7 rfl ?_|refine RM.g2 rfl ?_) |((with_reducible show wpOne _ _ _ _ _ _ _ _ _ _ _ _);refine RM.o8 rfl ?_) |((with_reducible show wpDOne _ _ _ _ _ _ _ _ _ _);refine RM.p9 rfl ?_) |((with_reducible show wpGuard _ _ _ _ _);refine wpGuard_yes rfl rfl rfl ?_) |((with_reducible show wpC _ _ _ _ (.cond _ _ _) _ _);refine RM.e2 rfl rfl ?_) |((with_reducible show wpPick _ _ _ _ _);refine RM.k1 rfl ?_) |((with_reducible show wpPickB _ _ _ _ _);refine RM.k2 rfl ?_) |((with_reducible show wpBin _ _ _ _ _ _ _ _ _);refine RM.b4 rfl rfl ?_) |((with_reducible show wpLen _ _ _ _ _);refine RM.l1 rfl ?_) |((with_reducible show RM.wpOp _ _ _ _ _ _);refine RM.n3 rfl ?_) |(refine ⟨_, rfl, ?_⟩) |(refine ⟨_, _, rfl, by decide, ?_⟩) |(refine ⟨rfl, rfl, ?_⟩) |(refine And.intro (Nat.le_of_ble_eq_true rfl) ?_) |(refine And.intro (by kernel_rfl) ?_) |(refine ⟨_, _, rfl, rfl, rfl, rfl, Nat.le_of_ble_eq_true rfl, ?_⟩) |(refine ⟨_, _, rfl, Nat.le_of_ble_eq_true rfl, ?_⟩) |(refine ⟨eKind s.kinds[i], ⟨by omega, hidx⟩, rfl, ?_⟩) |(refine PureV.call hsh rfl rfl ?_) |(refine PureV.call hla rfl rfl ?_) |(refine PureV.call hfo rfl rfl ?_) |(refine PureV.call hagr rfl rfl ?_) |(refine PureV.call haw rfl rfl ?_) |(refine ⟨_, _, rfl, rfl, _, bin_truth _ _ _, rfl, ?_⟩) |fail)
      exact ⟨[_], ⟨Fz.deep rfl, trivial⟩, rfl⟩
    · rw [hz] at hsh hla
      rw [if_pos rfl] at hsh hla
      dsimp only at hsh hla
      have hv1 := (all_iff.1 hv).1
      have hv2 : agrL l i (lvl s.men s.kinds[i] (cargoRow i s.cargos) v) = true := (all_iff.1 hv).2
      have hbv := short_bnd s.men s.kinds[i] (cargoRow i s.cargos) v
      have htv := truth_c true s.kinds[i] v
      rw [hv1] at htv
      have hvt := truthOk_iff.1 hv1
      obtain ⟨u2, b2, hfv⟩ := follow_l true hg hi (hh.run hvt.1 hvt.2.1 hvt.2.2)
      rw [← em] at hfv
      have hagv := agrees44_c true l i (lvl s.men s.kinds[i] (cargoRow i s.cargos) v) hl8 (fun c hc => by rw [hll]; have := hlc c hc; omega)
      rw [hv2] at hagv
      have hlt : agrL l i (lvl s.men s.kinds[i] (cargoRow i s.cargos) t) = true → n ≤ shortF s.men s.kinds[i] (cargoRow i s.cargos) t := fun h => hlow t (hmem h)
      rw [← hvn] at hbv hfv
      clear hlow hmem hz hv hv2 hll
      generalize lvl s.men s.kinds[i] (cargoRow i s.cargos) t = lv at *
      generalize lvl s.men s.kinds[i] (cargoRow i s.cargos) v = lw at *
      generalize shortF s.men s.kinds[i] (cargoRow i s.cargos) t = sh at *
      have e1 : decide (n < 0) = false := decide_eq_false (by omega)
      have e2 : decide (((s.men.map eI).length : Int) < n) = false := decide_eq_false (by omega)
      have e3 : agrL l i lv = true → decide (sh < n) = false := fun h => decide_eq_false (by have := hlt h; omega)
      have e4 : (!decide (n = n)) = false := by simp
      have e5 : decide (n = n) = true := by simp
      generalize agrL l i lv = is at *
      by_cases hnl : n = s.men.length
      · rw [if_pos hnl] at hsh
        have e6 : decide (n = ((s.men.map eI).length : Int)) = true := decide_eq_true (by omega)
        cases is with
        | true =>
          have e3 := e3 rfl
          refine PureV.body (fn := Try.f10) rfl rfl rfl rfl ?_
          refine wpC_sound (mu := fun _ => false) ?_
          repeat' (first |(refine ⟨_, cv8 hkd, rfl, ?_⟩) |with_reducible (first|refine RM.c1 ?_|refine RM.c2 ?_|refine RM.c4 ?_|refine RM.c9 ?_|refine RM.o1 ?_|refine RM.o2 ?_|refine RM.o4 ?_|refine RM.o5 ?_|refine RM.o7 ?_|refine RM.o9 ?_|refine RM.p1 ?_|refine RM.p2 ?_|refine RM.p3 ?_|refine RM.p5 ?_|refine RM.p6 ?_) |((with_reducible show force _ _);first|refine RM.f1 rfl ?_|refine RM.f2 rfl ?_|refine RM.f3 rfl ?_|refine RM.f4 rfl ?_|refine RM.f5 rfl ?_) |((with_reducible show wpOne _ _ _ _ _ _ _ _ _ _ _ _);refine RM.o8 rfl ?_) |((with_reducible show wpC _ _ _ _ (.cond _ _ _) _ _);refine RM.e3 rfl rfl ?_) |((with_reducible show wpBin _ _ _ _ _ _ _ _ _);first|refine RM.b5 rfl rfl ?_|refine RM.r1 rfl rfl (by omega) ?_) |((with_reducible show wpLen _ _ _ _ _);refine RM.l1 rfl ?_) |(refine ⟨_, rfl, ?_⟩) |(refine ⟨_, _, rfl, by decide, ?_⟩) |(refine ⟨rfl, rfl, rfl, ?_⟩) |(refine And.intro (Nat.le_of_ble_eq_true rfl) ?_) |(refine PureV.call hcn rfl rfl ?_) |fail)
          rw [hki]
          repeat' (first |(refine ⟨_, hay, ?_⟩) |with_reducible (first|refine RM.c2 ?_|refine RM.c3 ?_|refine RM.c4 ?_|refine RM.c5 ?_|refine RM.c7 ?_|refine RM.c9 ?_|refine RM.d1 ?_|refine RM.d4 ?_|refine RM.o1 ?_|refine RM.o2 ?_|refine RM.o3 ?_|refine RM.o4 ?_|refine RM.o5 ?_|refine RM.o6 ?_|refine RM.o7 ?_|refine RM.o9 ?_|refine RM.p1 ?_|refine RM.p2 ?_|refine RM.p3 ?_|refine RM.p4 ?_|refine RM.p5 ?_|refine RM.p6 ?_|refine RM.n1 ?_) |((with_reducible show force _ _);first|refine RM.f1 rfl ?_|refine RM.f2 rfl ?_|refine RM.f3 rfl ?_|refine RM.f4 rfl ?_|refine RM.f5 rfl ?_|refine RM.f6 rfl ?_|refine RM.f7 rfl ?_|refine RM.g2 rfl ?_) |((with_reducible show wpOne _ _ _ _ _ _ _ _ _ _ _ _);refine RM.o8 rfl ?_) |((with_reducible show wpDOne _ _ _ _ _ _ _ _ _ _);refine RM.p9 rfl ?_) |((with_reducible show wpGuard _ _ _ _ _);first|refine wpGuard_yes rfl rfl rfl ?_|refine wpGuard_yes rfl rfl (by assumption) ?_) |((with_reducible show wpC _ _ _ _ (.cond _ _ _) _ _);first|refine RM.e2 rfl rfl ?_|refine RM.e3 rfl rfl ?_|refine RM.e3 rfl (by assumption) ?_) |((with_reducible show wpPick _ _ _ _ _);refine RM.k1 rfl ?_) |((with_reducible show wpPickB _ _ _ _ _);first|refine RM.k2 rfl ?_|refine RM.k3 rfl ?_|refine RM.k2 (by assumption) ?_|refine RM.k3 (by assumption) ?_) |((with_reducible show wpBin _ _ _ _ _ _ _ _ _);first|refine RM.b4 rfl rfl ?_|refine RM.b5 rfl rfl ?_|refine RM.b6 rfl rfl ?_|refine RM.b8 rfl rfl ?_) |((with_reducible show wpLen _ _ _ _ _);refine RM.l1 rfl ?_) |(refine ⟨_, rfl, ?_⟩) |(refine ⟨_, _, rfl, by decide, ?_⟩) |(refine ⟨rfl, rfl, ?_⟩) |(refine And.intro (Nat.le_of_ble_eq_true rfl) ?_) |(refine And.intro (by kernel_rfl) ?_) |(refine ⟨_, _, rfl, rfl, rfl, rfl, Nat.le_of_ble_eq_true rfl, ?_⟩) |(refine ⟨_, _, rfl, Nat.le_of_ble_eq_true rfl, ?_⟩) |(refine ⟨eKind s.kinds[i], ⟨by omega, hidx⟩, rfl, ?_⟩) |(refine PureV.call hsh rfl rfl ?_) |(refine PureV.call hla rfl rfl ?_) |(refine PureV.call hfo rfl rfl ?_) |(refine PureV.call hagr rfl rfl ?_) |(refine PureV.call haw rfl rfl ?_) |fail)
          exact ⟨[_], ⟨Fz.deep rfl, trivial⟩, rfl⟩
        | false =>
          refine PureV.body (fn := Try.f10) rfl rfl rfl rfl ?_
          refine wpC_sound (mu := fun _ => false) ?_
          repeat' (first |(refine ⟨_, cv8 hkd, rfl, ?_⟩) |with_reducible (first|refine RM.c1 ?_|refine RM.c2 ?_|refine RM.c4 ?_|refine RM.c9 ?_|refine RM.o1 ?_|refine RM.o2 ?_|refine RM.o4 ?_|refine RM.o5 ?_|refine RM.o7 ?_|refine RM.o9 ?_|refine RM.p1 ?_|refine RM.p2 ?_|refine RM.p3 ?_|refine RM.p5 ?_|refine RM.p6 ?_) |((with_reducible show force _ _);first|refine RM.f1 rfl ?_|refine RM.f2 rfl ?_|refine RM.f3 rfl ?_|refine RM.f4 rfl ?_|refine RM.f5 rfl ?_) |((with_reducible show wpOne _ _ _ _ _ _ _ _ _ _ _ _);refine RM.o8 rfl ?_) |((with_reducible show wpC _ _ _ _ (.cond _ _ _) _ _);refine RM.e3 rfl rfl ?_) |((with_reducible show wpBin _ _ _ _ _ _ _ _ _);first|refine RM.b5 rfl rfl ?_|refine RM.r1 rfl rfl (by omega) ?_) |((with_reducible show wpLen _ _ _ _ _);refine RM.l1 rfl ?_) |(refine ⟨_, rfl, ?_⟩) |(refine ⟨_, _, rfl, by decide, ?_⟩) |(refine ⟨rfl, rfl, rfl, ?_⟩) |(refine And.intro (Nat.le_of_ble_eq_true rfl) ?_) |(refine PureV.call hcn rfl rfl ?_) |fail)
          rw [hki]
          repeat' (first |(refine ⟨_, hay, ?_⟩) |with_reducible (first|refine RM.c2 ?_|refine RM.c3 ?_|refine RM.c4 ?_|refine RM.c5 ?_|refine RM.c7 ?_|refine RM.c9 ?_|refine RM.d1 ?_|refine RM.d4 ?_|refine RM.o1 ?_|refine RM.o2 ?_|refine RM.o3 ?_|refine RM.o4 ?_|refine RM.o5 ?_|refine RM.o6 ?_|refine RM.o7 ?_|refine RM.o9 ?_|refine RM.p1 ?_|refine RM.p2 ?_|refine RM.p3 ?_|refine RM.p4 ?_|refine RM.p5 ?_|refine RM.p6 ?_|refine RM.n1 ?_) |((with_reducible show force _ _);first|refine RM.f1 rfl ?_|refine RM.f2 rfl ?_|refine RM.f3 rfl ?_|refine RM.f4 rfl ?_|refine RM.f5 rfl ?_|refine RM.f6 rfl ?_|refine RM.f7 rfl ?_|refine RM.g2 rfl ?_) |((with_reducible show wpOne _ _ _ _ _ _ _ _ _ _ _ _);refine RM.o8 rfl ?_) |((with_reducible show wpDOne _ _ _ _ _ _ _ _ _ _);refine RM.p9 rfl ?_) |((with_reducible show wpGuard _ _ _ _ _);first|refine wpGuard_yes rfl rfl rfl ?_|refine wpGuard_no rfl rfl rfl ?_|refine wpGuard_yes rfl rfl (by assumption) ?_) |((with_reducible show wpC _ _ _ _ (.cond _ _ _) _ _);first|refine RM.e2 rfl rfl ?_|refine RM.e3 rfl rfl ?_) |((with_reducible show wpPick _ _ _ _ _);refine RM.k1 rfl ?_) |((with_reducible show wpPickB _ _ _ _ _);first|refine RM.k2 rfl ?_|refine RM.k3 rfl ?_|refine RM.k2 (by assumption) ?_|refine RM.k3 (by assumption) ?_) |((with_reducible show wpBin _ _ _ _ _ _ _ _ _);first|refine RM.b4 rfl rfl ?_|refine RM.b5 rfl rfl ?_|refine RM.b6 rfl rfl ?_|refine RM.b8 rfl rfl ?_) |((with_reducible show wpLen _ _ _ _ _);refine RM.l1 rfl ?_) |(refine ⟨_, rfl, ?_⟩) |(refine ⟨_, _, rfl, by decide, ?_⟩) |(refine ⟨rfl, rfl, ?_⟩) |(refine And.intro (Nat.le_of_ble_eq_true rfl) ?_) |(refine And.intro (by kernel_rfl) ?_) |(refine ⟨_, _, rfl, rfl, rfl, rfl, Nat.le_of_ble_eq_true rfl, ?_⟩) |(refine ⟨_, _, rfl, Nat.le_of_ble_eq_true rfl, ?_⟩) |(refine ⟨eKind s.kinds[i], ⟨by omega, hidx⟩, rfl, ?_⟩) |(refine PureV.call hsh rfl rfl ?_) |(refine PureV.call hla rfl rfl ?_) |(refine PureV.call hfo rfl rfl ?_) |(refine PureV.call hagr rfl rfl ?_) |(refine PureV.call haw rfl rfl ?_) |fail)
          exact ⟨[_], ⟨Fz.deep rfl, trivial⟩, rfl⟩
      · rw [if_neg hnl] at hsh
        cases is with
        | true =>
          have e3 := e3 rfl
          refine PureV.body (fn := Try.f10) rfl rfl rfl rfl ?_
          refine wpC_sound (mu := fun _ => false) ?_
          repeat' (first |(refine ⟨_, cv8 hkd, rfl, ?_⟩) |with_reducible (first|refine RM.c1 ?_|refine RM.c2 ?_|refine RM.c4 ?_|refine RM.c9 ?_|refine RM.o1 ?_|refine RM.o2 ?_|refine RM.o4 ?_|refine RM.o5 ?_|refine RM.o7 ?_|refine RM.o9 ?_|refine RM.p1 ?_|refine RM.p2 ?_|refine RM.p3 ?_|refine RM.p5 ?_|refine RM.p6 ?_) |((with_reducible show force _ _);first|refine RM.f1 rfl ?_|refine RM.f2 rfl ?_|refine RM.f3 rfl ?_|refine RM.f4 rfl ?_|refine RM.f5 rfl ?_) |((with_reducible show wpOne _ _ _ _ _ _ _ _ _ _ _ _);refine RM.o8 rfl ?_) |((with_reducible show wpC _ _ _ _ (.cond _ _ _) _ _);refine RM.e3 rfl rfl ?_) |((with_reducible show wpBin _ _ _ _ _ _ _ _ _);first|refine RM.b5 rfl rfl ?_|refine RM.r1 rfl rfl (by omega) ?_) |((with_reducible show wpLen _ _ _ _ _);refine RM.l1 rfl ?_) |(refine ⟨_, rfl, ?_⟩) |(refine ⟨_, _, rfl, by decide, ?_⟩) |(refine ⟨rfl, rfl, rfl, ?_⟩) |(refine And.intro (Nat.le_of_ble_eq_true rfl) ?_) |(refine PureV.call hcn rfl rfl ?_) |fail)
          rw [hki]
          repeat' (first |(refine ⟨_, hay, ?_⟩) |(refine ⟨_, htv, ?_⟩) |with_reducible (first|refine RM.c1 ?_|refine RM.c2 ?_|refine RM.c3 ?_|refine RM.c4 ?_|refine RM.c5 ?_|refine RM.c7 ?_|refine RM.c9 ?_|refine RM.d3 ?_|refine RM.o1 ?_|refine RM.o2 ?_|refine RM.o3 ?_|refine RM.o4 ?_|refine RM.o5 ?_|refine RM.o6 ?_|refine RM.o7 ?_|refine RM.o9 ?_|refine RM.p1 ?_|refine RM.p2 ?_|refine RM.p3 ?_|refine RM.p4 ?_|refine RM.p5 ?_|refine RM.p6 ?_|refine RM.n1 ?_) |((with_reducible show force _ _);first|refine RM.f1 rfl ?_|refine RM.f2 rfl ?_|refine RM.f3 rfl ?_|refine RM.f4 rfl ?_|refine RM.f5 rfl ?_|refine RM.f6 rfl ?_|refine RM.f7 rfl ?_|refine RM.g2 rfl ?_) |((with_reducible show wpOne _ _ _ _ _ _ _ _ _ _ _ _);refine RM.o8 rfl ?_) |((with_reducible show wpDOne _ _ _ _ _ _ _ _ _ _);refine RM.p9 rfl ?_) |((with_reducible show wpGuard _ _ _ _ _);first|refine wpGuard_yes rfl rfl rfl ?_|refine wpGuard_yes rfl rfl (by assumption) ?_) |((with_reducible show wpC _ _ _ _ (.cond _ _ _) _ _);first|refine RM.e3 rfl rfl ?_|refine RM.e3 rfl (by assumption) ?_) |((with_reducible show wpPick _ _ _ _ _);refine RM.k1 rfl ?_) |((with_reducible show wpPickB _ _ _ _ _);first|refine RM.k2 rfl ?_|refine RM.k3 rfl ?_|refine RM.k2 (by assumption) ?_|refine RM.k3 (by assumption) ?_) |((with_reducible show wpBin _ _ _ _ _ _ _ _ _);first|refine RM.b4 rfl rfl ?_|refine RM.b5 rfl rfl ?_|refine RM.b6 rfl rfl ?_|refine RM.b8 rfl rfl ?_) |((with_reducible show wpLen _ _ _ _ _);refine RM.l1 rfl ?_) |((with_reducible show RM.wpOp _ _ _ _ _ _);refine RM.n3 rfl ?_) |(refine ⟨_, rfl, ?_⟩) |(refine ⟨_, _, rfl, by decide, ?_⟩) |(refine ⟨rfl, rfl, ?_⟩) |(refine And.intro (Nat.le_of_ble_eq_true rfl) ?_) |(refine And.intro (by kernel_rfl) ?_) |(refine ⟨_, _, rfl, rfl, rfl, rfl, Nat.le_of_ble_eq_true rfl, ?_⟩) |(refine ⟨_, _, rfl, Nat.le_of_ble_eq_true rfl, ?_⟩) |(refine ⟨eKind s.kinds[i], ⟨by omega, hidx⟩, rfl, ?_⟩) |(refine PureV.call hsh rfl rfl ?_) |(refine PureV.call hla rfl rfl ?_) |(refine PureV.call hfo rfl rfl ?_) |(refine PureV.call hagr rfl rfl ?_) |(refine PureV.call haw rfl rfl ?_) |(refine PureV.call hfv rfl rfl ?_) |(refine PureV.call hagv rfl rfl ?_) |fail)
          exact ⟨[_], ⟨Fz.deep rfl, trivial⟩, rfl⟩
        | false =>
          refine PureV.body (fn := Try.f10) rfl rfl rfl rfl ?_
          refine wpC_sound (mu := fun _ => false) ?_
          repeat' (first |(refine ⟨_, cv8 hkd, rfl, ?_⟩) |with_reducible (first|refine RM.c1 ?_|refine RM.c2 ?_|refine RM.c4 ?_|refine RM.c9 ?_|refine RM.o1 ?_|refine RM.o2 ?_|refine RM.o4 ?_|refine RM.o5 ?_|refine RM.o7 ?_|refine RM.o9 ?_|refine RM.p1 ?_|refine RM.p2 ?_|refine RM.p3 ?_|refine RM.p5 ?_|refine RM.p6 ?_) |((with_reducible show force _ _);first|refine RM.f1 rfl ?_|refine RM.f2 rfl ?_|refine RM.f3 rfl ?_|refine RM.f4 rfl ?_|refine RM.f5 rfl ?_) |((with_reducible show wpOne _ _ _ _ _ _ _ _ _ _ _ _);refine RM.o8 rfl ?_) |((with_reducible show wpC _ _ _ _ (.cond _ _ _) _ _);refine RM.e3 rfl rfl ?_) |((with_reducible show wpBin _ _ _ _ _ _ _ _ _);first|refine RM.b5 rfl rfl ?_|refine RM.r1 rfl rfl (by omega) ?_) |((with_reducible show wpLen _ _ _ _ _);refine RM.l1 rfl ?_) |(refine ⟨_, rfl, ?_⟩) |(refine ⟨_, _, rfl, by decide, ?_⟩) |(refine ⟨rfl, rfl, rfl, ?_⟩) |(refine And.intro (Nat.le_of_ble_eq_true rfl) ?_) |(refine PureV.call hcn rfl rfl ?_) |fail)
          rw [hki]
          repeat' (first |(refine ⟨_, hay, ?_⟩) |(refine ⟨_, htv, ?_⟩) |with_reducible (first|refine RM.c1 ?_|refine RM.c2 ?_|refine RM.c3 ?_|refine RM.c4 ?_|refine RM.c5 ?_|refine RM.c7 ?_|refine RM.c9 ?_|refine RM.d3 ?_|refine RM.o1 ?_|refine RM.o2 ?_|refine RM.o3 ?_|refine RM.o4 ?_|refine RM.o5 ?_|refine RM.o6 ?_|refine RM.o7 ?_|refine RM.o9 ?_|refine RM.p1 ?_|refine RM.p2 ?_|refine RM.p3 ?_|refine RM.p4 ?_|refine RM.p5 ?_|refine RM.p6 ?_|refine RM.n1 ?_) |((with_reducible show force _ _);first|refine RM.f1 rfl ?_|refine RM.f2 rfl ?_|refine RM.f3 rfl ?_|refine RM.f4 rfl ?_|refine RM.f5 rfl ?_|refine RM.f6 rfl ?_|refine RM.f7 rfl ?_|refine RM.g2 rfl ?_) |((with_reducible show wpOne _ _ _ _ _ _ _ _ _ _ _ _);refine RM.o8 rfl ?_) |((with_reducible show wpDOne _ _ _ _ _ _ _ _ _ _);refine RM.p9 rfl ?_) |((with_reducible show wpGuard _ _ _ _ _);first|refine wpGuard_yes rfl rfl rfl ?_|refine wpGuard_no rfl rfl rfl ?_|refine wpGuard_yes rfl rfl (by assumption) ?_) |((with_reducible show wpC _ _ _ _ (.cond _ _ _) _ _);refine RM.e3 rfl rfl ?_) |((with_reducible show wpPick _ _ _ _ _);refine RM.k1 rfl ?_) |((with_reducible show wpPickB _ _ _ _ _);first|refine RM.k2 rfl ?_|refine RM.k3 rfl ?_|refine RM.k2 (by assumption) ?_|refine RM.k3 (by assumption) ?_) |((with_reducible show wpBin _ _ _ _ _ _ _ _ _);first|refine RM.b4 rfl rfl ?_|refine RM.b5 rfl rfl ?_|refine RM.b6 rfl rfl ?_|refine RM.b8 rfl rfl ?_) |((with_reducible show wpLen _ _ _ _ _);refine RM.l1 rfl ?_) |((with_reducible show RM.wpOp _ _ _ _ _ _);refine RM.n3 rfl ?_) |(refine ⟨_, rfl, ?_⟩) |(refine ⟨_, _, rfl, by decide, ?_⟩) |(refine ⟨rfl, rfl, ?_⟩) |(refine And.intro (Nat.le_of_ble_eq_true rfl) ?_) |(refine And.intro (by kernel_rfl) ?_) |(refine ⟨_, _, rfl, rfl, rfl, rfl, Nat.le_of_ble_eq_true rfl, ?_⟩) |(refine ⟨_, _, rfl, Nat.le_of_ble_eq_true rfl, ?_⟩) |(refine ⟨eKind s.kinds[i], ⟨by omega, hidx⟩, rfl, ?_⟩) |(refine PureV.call hsh rfl rfl ?_) |(refine PureV.call hla rfl rfl ?_) |(refine PureV.call hfo rfl rfl ?_) |(refine PureV.call hagr rfl rfl ?_) |(refine PureV.call haw rfl rfl ?_) |(refine PureV.call hfv rfl rfl ?_) |(refine PureV.call hagv rfl rfl ?_) |fail)
          exact ⟨[_], ⟨Fz.deep rfl, trivial⟩, rfl⟩
  · exact shown_err s h l hl kd a b c taken he
end Go.Proofs.Ytmkaeohmdcoanaa
namespace Go.Proofs.Ytmkaeohmdcoanaa
open Go.RM
set_option maxRecDepth 1000000
noncomputable def tabA : List XE := [x_a1, x_a2, x_a3, x_a4, x_a5, x_a6, x_a7, x_a8]
theorem xs_tabA : ∀ e ∈ tabA, XSound TT e := by
  unfold tabA
  simp only [List.mem_cons, List.not_mem_nil, or_false]
  rintro e (rfl | rfl | rfl | rfl | rfl | rfl | rfl | rfl)
  · exact xs_a1
  · exact xs_a2
  · exact xs_a3
  · exact xs_a4
  · exact xs_a5
  · exact xs_a6
  · exact xs_a7
  · exact xs_a8
theorem xs_aw : XSound TT x_aw := xe_add tt_ok tt_mixed xs_tabA 1000 (by kernel_rfl)
theorem xs_TB : ∀ e ∈ TB, XSound TT e := fun e he => by
  obtain rfl := List.mem_singleton.1 he
  exact xs_aw
end Go.Proofs.Ytmkaeohmdcoanaa
open Go Go.RM
namespace Go.Proofs.Ytmkaeohmdcoanaa
open Go.ChangeShapes Go.WideShapes Go.ChangeAt Go.RowKit
theorem try_own : ownKnob Try.prog.godebug = none := by kernel_rfl
theorem try_laid : laidOutB Try.prog = true := by kernel_rfl
theorem wf8 {n : Int} (h : (Lit.int .u8 n).wf = true) : 0 ≤ n ∧ n ≤ 255 := by
  simp only [Lit.wf, Bool.and_eq_true, decide_eq_true_eq] at h
  exact h
theorem wf16 {n : Int} (h : (Lit.int .u16 n).wf = true) : 0 ≤ n ∧ n ≤ 65535 := by
  simp only [Lit.wf, Bool.and_eq_true, decide_eq_true_eq] at h
  exact h
abbrev sh8 : Sh := .int .u8
abbrev sh16 : Sh := .int .u16
abbrev shPast : Sh := .cons sh8 (.cons (.arr 3 sh16) (.cons (.slice sh8) .nil))
theorem tv8 {l : List AV} (h : TV sh8 l) : ∃ n, (0 ≤ n ∧ n ≤ 255) ∧ l = [.fl (.int .u8 n)] := by
  obtain ⟨n, hn, rfl⟩ := tvK h
  exact ⟨n, wf8 hn, rfl⟩
theorem tv16 {l : List AV} (h : TV sh16 l) : ∃ n, (0 ≤ n ∧ n ≤ 65535) ∧ l = [.fl (.int .u16 n)] := by
  obtain ⟨n, hn, rfl⟩ := tvK h
  exact ⟨n, wf16 hn, rfl⟩
theorem tvA3 {l : List AV} (h : TV (.arr 3 sh16) l) : ∃ a b c, ((0 ≤ a ∧ a ≤ 65535) ∧ (0 ≤ b ∧ b ≤ 65535) ∧ (0 ≤ c ∧ c ≤ 65535)) ∧ l = [.fl (.int .u16 a), .fl (.int .u16 b), .fl (.int .u16 c)] := by
  obtain ⟨els, hl, he, rfl⟩ := tvA h
  match els, hl with
  | [x, y, z], _ =>
    obtain ⟨a, ha, rfl⟩ := tv16 (he x (by simp))
    obtain ⟨b, hb, rfl⟩ := tv16 (he y (by simp))
    obtain ⟨c, hc, rfl⟩ := tv16 (he z (by simp))
    exact ⟨a, b, c, ⟨ha, hb, hc⟩, rfl⟩
theorem tvPast {l : List AV} (h : TV shPast l) : ∃ (kd a b c : Int) (taken : List (List AV)), ((0 ≤ kd ∧ kd ≤ 255) ∧ (0 ≤ a ∧ a ≤ 65535) ∧ (0 ≤ b ∧ b ≤ 65535) ∧ (0 ≤ c ∧ c ≤ 65535)) ∧ (taken.length ≤ maxLen ∧ ∀ el ∈ taken, TV sh8 el) ∧ l = [.fl (.int .u8 kd), .fl (.int .u16 a), .fl (.int .u16 b), .fl (.int .u16 c), .sl taken false] := by
  obtain ⟨_, _, h1, k1, rfl⟩ := tvC h
  obtain ⟨_, _, h2, k2, rfl⟩ := tvC k1
  obtain ⟨_, _, h3, k3, rfl⟩ := tvC k2
  obtain rfl := tvN k3
  obtain ⟨kd, hk, rfl⟩ := tv8 h1
  obtain ⟨a, b, c, hh, rfl⟩ := tvA3 h2
  obtain ⟨els, hl, he, rfl⟩ := tvL h3
  exact ⟨kd, a, b, c, els, ⟨hk, hh⟩, ⟨hl, he⟩, rfl⟩
end Go.Proofs.Ytmkaeohmdcoanaa
