/-
  Contracts of the program's functions and of the document's. Lemmas alone; their conditions stand in them.
-/
import Derived.Test.YtmkaeohmdcoanaaA2
import Derived.Test.YtmkaeohmdcoanaaX1
import Derived.Test.YtmkaeohmdcoanaaK1
import Derived.Laws.StructEq
import Derived.Test.YtmkaeohmdcoanaaRows
open Go Go.RM
namespace Go.Proofs.Ytmkaeohmdcoanaa
theorem useOf_mono' {k : Kind} {t u : Truth} {down : Int} {i : Nat} {n : Int} (hm : u.man = t.man) : useOf k u down i n = useOf k t down i n := by
  unfold useOf; rw [hm]
/-- More at first never leaves less. -/
theorem have_up {men : List Int} {k : Kind} {row : List Int} {m p n n' : Int} (h : n ≤ n') (down : Int) : ∀ i, haveAt men k row ⟨n, m, p⟩ down i ≤ haveAt men k row ⟨n', m, p⟩ down i
  | 0 => h
  | i + 1 => by
    have ih := have_up (men := men) (k := k) (row := row) (m := m) (p := p) h down i
    have hu := useOf_mono' (k := k) (t := ⟨n, m, p⟩) (u := ⟨n', m, p⟩) (down := down) (i := i) (n := men.getD i 0) rfl
    simp only [haveAt, rawAt] at ih ⊢
    rw [hu]
    omega
theorem short_up {men : List Int} {k : Kind} {row : List Int} {m p n n' : Int} (h : n ≤ n') (down : Int) : ∀ i, shortAt men k row ⟨n, m, p⟩ down i ≤ shortAt men k row ⟨n', m, p⟩ down i
  | 0 => Int.le_refl _
  | i + 1 => by
    have ih := short_up (men := men) (k := k) (row := row) (m := m) (p := p) h down i
    have hh := have_up (men := men) (k := k) (row := row) (m := m) (p := p) h down i
    have hu := useOf_mono' (k := k) (t := ⟨n, m, p⟩) (u := ⟨n', m, p⟩) (down := down) (i := i) (n := men.getD i 0) rfl
    have hr : rawAt men k row ⟨n, m, p⟩ down i (haveAt men k row ⟨n, m, p⟩ down i) ≤ rawAt men k row ⟨n', m, p⟩ down i (haveAt men k row ⟨n', m, p⟩ down i) := by
      unfold rawAt
      rw [hu]
      generalize haveAt men k row ⟨n, m, p⟩ down i = a at *
      generalize haveAt men k row ⟨n', m, p⟩ down i = b at *
      dsimp only
      omega
    show (if _ < 0 then _ else _) ≤ (if _ < 0 then _ else _)
    split <;> split <;> omega
theorem lvl_at {men : List Int} {k : Kind} {row : List Int} {t : Truth} {d : Nat} (h : d ≤ men.length) : (lvl men k row t).getD d 0 = haveAt men k row t men.length d := by
  unfold lvl
  rw [List.getD_eq_getElem?_getD, List.getElem?_map, List.getElem?_range (by omega)]
  rfl
theorem lvl_up {men : List Int} {k : Kind} {row : List Int} {m p n n' : Int} (h : n ≤ n') (d : Nat) : (lvl men k row ⟨n, m, p⟩).getD d 0 ≤ (lvl men k row ⟨n', m, p⟩).getD d 0 := by
  by_cases hd : d ≤ men.length
  · rw [lvl_at hd, lvl_at hd]; exact have_up h _ _
  · rw [List.getD_eq_getElem?_getD, List.getD_eq_getElem?_getD, List.getElem?_eq_none (by rw [lvl_len]; omega), List.getElem?_eq_none (by rw [lvl_len]; omega)]
    exact Int.le_refl _
theorem enough_up {men : List Int} {k : Kind} {row : List Int} {f : List Count} {b : Bool} {m p n n' : Int} (h : n ≤ n') (he : enough men k row f b ⟨n, m, p⟩ = true) : enough men k row f b ⟨n', m, p⟩ = true := by
  unfold enough at he ⊢
  cases b with
  | true =>
    simp only [cond_true, List.any_eq_true] at he ⊢
    obtain ⟨c, hc, h1⟩ := he
    refine ⟨c, hc, ?_⟩
    unfold cntOver at h1 ⊢
    have := lvl_up (men := men) (k := k) (row := row) (m := m) (p := p) h c.day.toNat
    rw [decide_eq_true_eq] at h1 ⊢
    omega
  | false =>
    simp only [cond_false, Bool.not_eq_true', List.any_eq_false] at he ⊢
    intro c hc h1
    apply he c hc
    unfold cntUnder at h1 ⊢
    have := lvl_up (men := men) (k := k) (row := row) (m := m) (p := p) h c.day.toNat
    rw [decide_eq_true_eq] at h1 ⊢
    omega
theorem agr_iff' (men : List Int) (k : Kind) (row : List Int) (l : List Count) (i : Nat) (t : Truth) : agr men k row l i t = true ↔ (enough men k row (cntsOf l i) false t = true ∧ enough men k row (cntsOf l i) true t = false) := by
  have e : agr men k row l i t = (cntsOf l i).all (cntIn (lvl men k row t)) := by
    unfold agr cntsOf
    rw [List.all_filter]
  rw [e]
  unfold enough
  simp only [cond_false, cond_true, Bool.not_eq_true', List.any_eq_false, List.all_eq_true]
  unfold cntIn cntUnder cntOver
  constructor
  · intro h
    exact ⟨fun c hc => by have := inB_iff.1 (h c hc); rw [decide_eq_true_eq]; omega, fun c hc => by have := inB_iff.1 (h c hc); rw [decide_eq_true_eq]; omega⟩
  · rintro ⟨h1, h2⟩ c hc
    have a := h1 c hc
    have b := h2 c hc
    rw [decide_eq_true_eq] at a b
    exact inB_iff.2 (by omega)
/-- A truth agrees just if its First is from the least to the greatest one of its use. -/
theorem agr_iff (men : List Int) (k : Kind) (row : List Int) (l : List Count) (i : Nat) (m p : Int) {a : Nat} (ha : a < spanN k.first) :
    agr men k row l i ⟨k.first.lo + a, m, p⟩ = true ↔ (lowF men k row (cntsOf l i) m p ≤ k.first.lo + a ∧ k.first.lo + a ≤ highF men k row (cntsOf l i) m p) := by
  rw [agr_iff']
  have b0 := bs_least (fun i' => enough men k row (cntsOf l i) false ⟨k.first.lo + (i' : Int), m, p⟩) 0 (spanN k.first) (Nat.zero_le _) (fun a b _ h _ he => enough_up (by omega) he)
  have b1 := bs_least (fun i' => enough men k row (cntsOf l i) true ⟨k.first.lo + (i' : Int), m, p⟩) 0 (spanN k.first) (Nat.zero_le _) (fun a b _ h _ he => enough_up (by omega) he)
  have c0 : lowF men k row (cntsOf l i) m p = k.first.lo + bs (fun i' => enough men k row (cntsOf l i) false ⟨k.first.lo + (i' : Int), m, p⟩) 0 (spanN k.first) := rfl
  have c1 : highF men k row (cntsOf l i) m p = k.first.lo + bs (fun i' => enough men k row (cntsOf l i) true ⟨k.first.lo + (i' : Int), m, p⟩) 0 (spanN k.first) - 1 := rfl
  generalize hr0 : bs (fun i' => enough men k row (cntsOf l i) false ⟨k.first.lo + (i' : Int), m, p⟩) 0 (spanN k.first) = r0 at *
  generalize hr1 : bs (fun i' => enough men k row (cntsOf l i) true ⟨k.first.lo + (i' : Int), m, p⟩) 0 (spanN k.first) = r1 at *
  have h0 : enough men k row (cntsOf l i) false ⟨k.first.lo + a, m, p⟩ = true ↔ r0 ≤ a := by
    constructor
    · intro h
      apply Nat.le_of_not_lt
      intro hlt
      have := b0.1 a (Nat.zero_le _) hlt
      rw [h] at this; cases this
    · intro h
      exact enough_up (by omega) (b0.2 (by omega))
  have h1 : enough men k row (cntsOf l i) true ⟨k.first.lo + a, m, p⟩ = false ↔ a < r1 := by
    constructor
    · intro h
      apply Nat.lt_of_not_le
      intro hle
      have := enough_up (n := k.first.lo + r1) (n' := k.first.lo + a) (by omega) (b1.2 (by omega))
      rw [h] at this; cases this
    · intro h
      exact b1.1 a (Nat.zero_le _) h
  rw [h0, h1, c0, c1]
  omega
theorem mem_all {men : List Int} {k : Kind} {row : List Int} {l : List Count} {i : Nat} {t : Truth} (h : t ∈ allOf men k row l i) :
    ∃ a m p : Nat, a < spanN k.first ∧ m < spanN k.man ∧ p < spanN k.ship ∧ t = ⟨k.first.lo + a, k.man.lo + m, k.ship.lo + p⟩ ∧ lowF men k row (cntsOf l i) (k.man.lo + m) (k.ship.lo + p) ≤ t.first ∧ t.first ≤ highF men k row (cntsOf l i) (k.man.lo + m) (k.ship.lo + p) := by
  unfold allOf pastN at h
  rw [List.mem_filter, List.mem_map] at h
  obtain ⟨⟨q, hq, rfl⟩, ha⟩ := h
  rw [List.mem_range] at hq
  have hP : 0 < spanN k.ship := Nat.pos_of_ne_zero fun e => by rw [e] at hq; simp at hq
  have hM : 0 < spanN k.man := Nat.pos_of_ne_zero fun e => by rw [e] at hq; simp at hq
  have h1 : q / spanN k.ship < spanN k.first * spanN k.man := Nat.div_lt_of_lt_mul (by rw [Nat.mul_comm]; exact hq)
  have h2 : q / spanN k.ship / spanN k.man < spanN k.first := Nat.div_lt_of_lt_mul (by rw [Nat.mul_comm]; exact h1)
  refine ⟨q / spanN k.ship / spanN k.man, q / spanN k.ship % spanN k.man, q % spanN k.ship, h2, Nat.mod_lt _ hM, Nat.mod_lt _ hP, rfl, ?_⟩
  exact (agr_iff men k row l i _ _ h2).1 ha
theorem all_mem {men : List Int} {k : Kind} {row : List Int} {l : List Count} {i a m p : Nat} (ha : a < spanN k.first) (hm : m < spanN k.man) (hp : p < spanN k.ship)
    (h1 : lowF men k row (cntsOf l i) (k.man.lo + m) (k.ship.lo + p) ≤ k.first.lo + a) (h2 : k.first.lo + a ≤ highF men k row (cntsOf l i) (k.man.lo + m) (k.ship.lo + p)) : (⟨k.first.lo + a, k.man.lo + m, k.ship.lo + p⟩ : Truth) ∈ allOf men k row l i := by
  unfold allOf pastN
  rw [List.mem_filter, List.mem_map]
  refine ⟨⟨(a * spanN k.man + m) * spanN k.ship + p, ?_, truthQ_at k hm hp⟩, (agr_iff men k row l i _ _ ha).2 ⟨h1, h2⟩⟩
  rw [List.mem_range]
  have q1 : (a + 1) * spanN k.man ≤ spanN k.first * spanN k.man := Nat.mul_le_mul_right _ ha
  rw [Nat.add_mul, Nat.one_mul] at q1
  have q2 : (a * spanN k.man + m + 1) * spanN k.ship ≤ spanN k.first * spanN k.man * spanN k.ship := Nat.mul_le_mul_right _ (by omega)
  rw [Nat.add_mul, Nat.one_mul] at q2
  omega
theorem mem_pairs {men : List Int} {k : Kind} {row : List Int} {f : List Count} {y : Truth × Truth} (h : y ∈ truthsL men k row f) :
    ∃ m p : Nat, m < spanN k.man ∧ p < spanN k.ship ∧ lowF men k row f (k.man.lo + m) (k.ship.lo + p) ≤ highF men k row f (k.man.lo + m) (k.ship.lo + p) ∧
      y = (⟨lowF men k row f (k.man.lo + m) (k.ship.lo + p), k.man.lo + m, k.ship.lo + p⟩, ⟨highF men k row f (k.man.lo + m) (k.ship.lo + p), k.man.lo + m, k.ship.lo + p⟩) := by
  unfold truthsL pairs at h
  rw [List.mem_filterMap] at h
  obtain ⟨q, hq, h⟩ := h
  rw [List.mem_range] at hq
  have hP : 0 < spanN k.ship := Nat.pos_of_ne_zero fun e => by rw [e] at hq; simp at hq
  unfold useAt pairAt at h
  split at h
  · rename_i hle
    cases h
    exact ⟨q / spanN k.ship, q % spanN k.ship, Nat.div_lt_of_lt_mul (by rw [Nat.mul_comm]; exact hq), Nat.mod_lt _ hP, hle, rfl⟩
  · cases h
theorem pairs_mem {men : List Int} {k : Kind} {row : List Int} {f : List Count} {m p : Nat} (hm : m < spanN k.man) (hp : p < spanN k.ship) (hle : lowF men k row f (k.man.lo + m) (k.ship.lo + p) ≤ highF men k row f (k.man.lo + m) (k.ship.lo + p)) :
    ((⟨lowF men k row f (k.man.lo + m) (k.ship.lo + p), k.man.lo + m, k.ship.lo + p⟩, ⟨highF men k row f (k.man.lo + m) (k.ship.lo + p), k.man.lo + m, k.ship.lo + p⟩) : Truth × Truth) ∈ truthsL men k row f := by
  unfold truthsL pairs
  rw [List.mem_filterMap]
  refine ⟨m * spanN k.ship + p, ?_, ?_⟩
  · rw [List.mem_range]
    have : (m + 1) * spanN k.ship ≤ spanN k.man * spanN k.ship := Nat.mul_le_mul_right _ hm
    rw [Nat.add_mul, Nat.one_mul] at this
    omega
  · rw [use_at men k row f hp]
    unfold pairAt
    rw [if_pos hle]
/-- First as a number of the span. -/
theorem low_nat (men : List Int) (k : Kind) (row : List Int) (f : List Count) (m p : Int) (hle : lowF men k row f m p ≤ highF men k row f m p) : ∃ a b : Nat, a < spanN k.first ∧ b < spanN k.first ∧ lowF men k row f m p = k.first.lo + a ∧ highF men k row f m p = k.first.lo + b := by
  have b0 := (bs_in (fun i' => enough men k row f false ⟨k.first.lo + (i' : Int), m, p⟩) 0 (spanN k.first) (Nat.zero_le _)).2
  have b1 := (bs_in (fun i' => enough men k row f true ⟨k.first.lo + (i' : Int), m, p⟩) 0 (spanN k.first) (Nat.zero_le _)).2
  have c0 : lowF men k row f m p = k.first.lo + bs (fun i' => enough men k row f false ⟨k.first.lo + (i' : Int), m, p⟩) 0 (spanN k.first) := rfl
  have c1 : highF men k row f m p = k.first.lo + bs (fun i' => enough men k row f true ⟨k.first.lo + (i' : Int), m, p⟩) 0 (spanN k.first) - 1 := rfl
  generalize bs (fun i' => enough men k row f false ⟨k.first.lo + (i' : Int), m, p⟩) 0 (spanN k.first) = r0 at *
  generalize bs (fun i' => enough men k row f true ⟨k.first.lo + (i' : Int), m, p⟩) 0 (spanN k.first) = r1 at *
  exact ⟨r0, r1 - 1, by omega, by omega, by omega, by omega⟩
/-- Each truth that agrees has a pair around it; both of each pair agree. -/
theorem all_pair {men : List Int} {k : Kind} {row : List Int} {l : List Count} {i : Nat} {t : Truth} (h : t ∈ allOf men k row l i) : ∃ y ∈ truthsL men k row (cntsOf l i), (y.1.first ≤ t.first ∧ t.first ≤ y.2.first) ∧ (y.1.man = t.man ∧ y.1.ship = t.ship) ∧ y.2.man = t.man ∧ y.2.ship = t.ship := by
  obtain ⟨a, m, p, _, hm, hp, rfl, h1, h2⟩ := mem_all h
  exact ⟨_, pairs_mem hm hp (by omega), ⟨h1, h2⟩, ⟨rfl, rfl⟩, rfl, rfl⟩
theorem pair_all {men : List Int} {k : Kind} {row : List Int} {l : List Count} {i : Nat} {y : Truth × Truth} (h : y ∈ truthsL men k row (cntsOf l i)) : y.1 ∈ allOf men k row l i ∧ y.2 ∈ allOf men k row l i := by
  obtain ⟨m, p, hm, hp, hle, rfl⟩ := mem_pairs h
  obtain ⟨a, b, ha, hb, ea, eb⟩ := low_nat _ _ _ _ _ _ hle
  dsimp only
  constructor
  · have := all_mem (men := men) (row := row) (l := l) (i := i) ha hm hp (by omega) (by omega)
    rw [← ea] at this
    exact this
  · have := all_mem (men := men) (row := row) (l := l) (i := i) hb hm hp (by omega) (by omega)
    rw [← eb] at this
    exact this
end Go.Proofs.Ytmkaeohmdcoanaa
open Go Go.RM
namespace Go.Proofs.Ytmkaeohmdcoanaa
theorem nil_iff {men : List Int} {k : Kind} {row : List Int} {l : List Count} {i : Nat} : truthsL men k row (cntsOf l i) = [] ↔ allOf men k row l i = [] := by
  constructor
  · intro h
    apply List.eq_nil_iff_forall_not_mem.2
    intro t ht
    obtain ⟨y, hy, _⟩ := all_pair ht
    rw [h] at hy; cases hy
  · intro h
    apply List.eq_nil_iff_forall_not_mem.2
    intro y hy
    have := (pair_all hy).1
    rw [h] at this; cases this
def Le (sh : Truth → Int) (t u : Truth) : Prop := sh t < sh u ∨ sh t = sh u ∧ (t.first < u.first ∨ t.first = u.first ∧ (t.man < u.man ∨ t.man = u.man ∧ t.ship ≤ u.ship))
end Go.Proofs.Ytmkaeohmdcoanaa
open Go Go.RM
namespace Go.Proofs.Ytmkaeohmdcoanaa
set_option maxRecDepth 100000
set_option maxHeartbeats 4000000
end Go.Proofs.Ytmkaeohmdcoanaa
open Go Go.RM
namespace Go.Proofs.Ytmkaeohmdcoanaa
set_option maxRecDepth 100000
set_option maxHeartbeats 4000000
end Go.Proofs.Ytmkaeohmdcoanaa
open Go Go.RM
namespace Go.Proofs.Ytmkaeohmdcoanaa
set_option maxRecDepth 100000
set_option maxHeartbeats 4000000
theorem low_deep : ∀ L : List Truth, deepL ((L.map eTruth).flatten) = true
  | [] => rfl
  | t :: L => by
    rw [List.map_cons, List.flatten_cons]
    exact deepL_append rfl (low_deep L)
theorem low_flen (L : List Truth) : ((L.map eTruth).flatten).length = L.length * 3 := by
  rw [flatten_len (es := 3) fun el he => by obtain ⟨t, _, rfl⟩ := List.mem_map.1 he; rfl, List.length_map]
abbrev lowB (L : List Truth) : AB := .cells ((L.map eTruth).flatten) 3 L.length
theorem low_inb (L : List Truth) (b : AB) (hb : b.inb 2 = true) : ([b, lowB L] : List AB).all (AB.inb 2) = true := by
  show (b.inb 2 && (inbL 2 ((L.map eTruth).flatten) && true)) = true
  rw [hb, show inbL 2 ((L.map eTruth).flatten) = true from deep_inb 2 (.ag _) (low_deep L)]
  rfl
theorem low_fz (L : List Truth) (b : AB) : Fz [b, lowB L] (pastV L) (.sl (L.map eTruth) false) :=
  Fz.row (es := 3) rfl (by rw [low_flen]; omega) (by simp) (fun el he => by obtain ⟨t, _, rfl⟩ := List.mem_map.1 he; rfl) (by rw [List.drop_zero, List.take_of_length_le (by rw [low_flen]; omega)]) (low_deep L) (fun h => Bool.noConfusion h)
theorem lowB_snoc (L : List Truth) (t : Truth) : lowB (L ++ [t]) = .cells ((L.map eTruth).flatten ++ [eTruth t].flatten) 3 (L.length + 1) := by
  show AB.cells _ _ _ = _
  rw [List.map_append, List.flatten_append, List.length_append]
  rfl
theorem truthsL_len {s : Stores} {k : Kind} {row : List Int} {f : List Count} (h : HoldOk s k row f) : (truthsL s.men k row f).length ≤ 91 := by
  have k2 := h.kind.man
  have k3 := h.kind.ship
  unfold truthsL pairs
  refine Nat.le_trans (List.length_filterMap_le _ _) ?_
  rw [List.length_range]
  have h1 : spanN k.man ≤ 7 := by unfold spanN; omega
  have h2 : spanN k.ship ≤ 13 := by unfold spanN; omega
  exact Nat.mul_le_mul h1 h2
theorem worst_c (one : Bool) {s : Stores} {k : Kind} {row : List Int} {f : List Count} (h : HoldOk s k row f) :
    Pu one 71 [.ag (eHoldV s k row (.sl (f.map eCount) false))] (.sl (((truthsL s.men k row f).map Prod.fst).map eTruth) false) := by
  have h30 := h.row.len
  have htr := truths_c one (s := s) (k := k) (row := row) (f := f)
  have hg := truths_g one h
  have hl := truthsL_len h
  generalize truthsL s.men k row f = L at hg hl ⊢
  refine PureV.body (fn := Try.f71) rfl rfl rfl rfl ?_
  refine RM.c2s (mu := fun _ => false) ?_
  repeat' (first |(refine ⟨rfl, holdd_one, holdd_deep, ?_⟩) |with_reducible (first|refine RM.c9 ?_|refine RM.o1 ?_|refine RM.o2 ?_|refine RM.o4 ?_|refine RM.o5 ?_) |((with_reducible show force _ _);first|refine RM.f3 rfl ?_|refine RM.f7 rfl ?_) |((with_reducible show wpOne _ _ _ _ _ _ _ _ _ _ _ _);refine RM.o8 rfl ?_) |(refine And.intro (by kernel_rfl) ?_) |fail)
  refine RM.c2s (mu := fun _ => false) ?_
  repeat' (first |(refine ldH h30 rfl ?_) |with_reducible (first|refine RM.c2 ?_|refine RM.c3 ?_|refine RM.c4 ?_|refine RM.c9 ?_|refine RM.o1 ?_|refine RM.o2 ?_|refine RM.o4 ?_|refine RM.o5 ?_|refine RM.o7 ?_|refine RM.o9 ?_|refine RM.p1 ?_) |((with_reducible show force _ _);first|refine RM.f4 rfl ?_|refine RM.f5 rfl ?_) |((with_reducible show wpOne _ _ _ _ _ _ _ _ _ _ _ _);refine RM.o8 rfl ?_) |(refine PureV.call htr rfl (hdeep rfl) ?_) |fail)
  refine SemC.weaker (Weaker.trans (Weaker.addNil 3) (Weaker.softAt 0 rfl (SoftL.sing (Soft.nilRow (j := 1) (ver := 0) (c := 1))) rfl)) ?_
  refine SemC.range (fun i => [.cells [pastV ((L.take i).map Prod.fst)] 0 0, lowB ((L.take i).map Prod.fst)]) (fun _ => Amb.none) (fun _ => True) rfl hg rfl rfl trivial (fun i x hx _ => ?_) (fun _ => ?_)
  · obtain ⟨y, hy, rfl⟩ := pair_of hx
    have hn : (L.take (i + 1)).map Prod.fst = (L.take i).map Prod.fst ++ [y.1] := by
      rw [List.take_add_one, hy, List.map_append]
      rfl
    have hlen : ((L.take i).map Prod.fst).length ≤ 91 := by rw [List.length_map, List.length_take]; omega
    rw [hn]
    generalize (L.take i).map Prod.fst = z at *
    refine ⟨rfl, ?_⟩
    refine wpC_sound (mu := fun _ => false) ?_
    repeat' (first |with_reducible (first|refine RM.c4 ?_|refine RM.o1 ?_|refine RM.o2 ?_|refine RM.o4 ?_|refine RM.o5 ?_|refine RM.o6 ?_) |((with_reducible show force _ _);first|refine RM.f7 rfl ?_|refine RM.g2 rfl ?_) |((with_reducible show wpOne _ _ _ _ _ _ _ _ _ _ _ _);refine RM.o8 rfl ?_) |(refine And.intro (by kernel_rfl) ?_) |(refine ⟨_, _, rfl, rfl, rfl, rfl, Nat.le_of_ble_eq_true rfl, ?_⟩) |fail)
    refine wpC_sound (mu := fun _ => false) ?_
    repeat' (first |with_reducible (first|refine RM.c3 ?_|refine RM.c4 ?_|refine RM.o2 ?_|refine RM.o4 ?_|refine RM.o5 ?_) |((with_reducible show force _ _);first|refine RM.f5 rfl ?_|refine RM.f8 rfl ?_) |((with_reducible show wpOne _ _ _ _ _ _ _ _ _ _ _ _);refine RM.o8 rfl ?_) |(refine ⟨rfl, rfl, rfl, ?_⟩) |(refine ⟨_, _, rfl, _, rfl, ?_⟩) |(refine ⟨_, _, rfl, Nat.le_of_ble_eq_true rfl, ?_⟩) |fail)
    refine ⟨[eTruth y.1], ⟨fun el hel => by rw [List.mem_singleton.1 hel]; rfl, rfl⟩, rfl, _, rfl, by rw [low_flen], Or.inr rfl, And.intro (by dsimp only [List.length]; omega) (by dsimp only [List.length]; omega), fun hn => absurd hn (by simp), fun _ => ?_⟩
    repeat' (first |with_reducible (first|refine RM.d3 ?_|refine RM.o1 ?_|refine RM.o2 ?_|refine RM.o4 ?_|refine RM.o5 ?_|refine RM.o6 ?_) |((with_reducible show force _ _);first|refine RM.f8 rfl ?_|refine RM.g2 rfl ?_) |((with_reducible show wpOne _ _ _ _ _ _ _ _ _ _ _ _);refine RM.o8 rfl ?_) |(refine And.intro (by omega) ?_) |(refine ⟨_, _, rfl, rfl, rfl, rfl, Nat.le_of_ble_eq_true rfl, ?_⟩) |fail)
    exact ⟨_, Weaker.to (l := []) 2 (by rw [lowB_snoc, pastV_snoc]; rfl) trivial (Nat.le_refl _) rfl (low_inb _ _ rfl)⟩
  · rw [List.take_of_length_le (by simp)]
    repeat' (first |with_reducible (first|refine RM.c9 ?_|refine RM.d3 ?_) |fail)
    refine wpC_sound (mu := fun _ => false) ?_
    repeat' (first |with_reducible (first|refine RM.c2 ?_|refine RM.c4 ?_|refine RM.c7 ?_|refine RM.c9 ?_|refine RM.o1 ?_|refine RM.o2 ?_|refine RM.o4 ?_|refine RM.o5 ?_|refine RM.o6 ?_) |((with_reducible show force _ _);first|refine RM.f8 rfl ?_|refine RM.g2 rfl ?_) |((with_reducible show wpOne _ _ _ _ _ _ _ _ _ _ _ _);refine RM.o8 rfl ?_) |(refine ⟨_, _, rfl, _, rfl, ?_⟩) |(refine ⟨_, _, rfl, rfl, rfl, rfl, Nat.le_of_ble_eq_true rfl, ?_⟩) |fail)
    exact ⟨[_], ⟨low_fz _ _, trivial⟩, rfl⟩
end Go.Proofs.Ytmkaeohmdcoanaa
open Go Go.RM
namespace Go.Proofs.Ytmkaeohmdcoanaa
set_option maxRecDepth 100000
set_option maxHeartbeats 4000000
def runsShort (men : List Int) (k : Kind) (row : List Int) (down : Int) (t : Truth) : Bool := decide (shortAt men k row t down men.length < men.length)
theorem lasts1_c (one : Bool) {s : Stores} {k : Kind} {row : List Int} {cnts : List (List AV)} {t : Truth} {down : Int} (h : RunOk s.men k row t) :
    PureV TT TB one (.fn 106 [] [.pt (eHoldV s k row (.sl cnts false)) 0, .pt [I64 down] 0]) [.ag (eTruth t)] (BB (runsShort s.men k row down t)) := by
  have h30 := h.row.len
  have em : ((s.men.map eI).length : Int) = s.men.length := by simp
  have hs := short_c true (cnts := cnts) (down := down) h
  unfold runsShort
  rw [← em]
  refine PureV.body (fn := Try.f106) rfl rfl rfl rfl ?_
  refine wpC_sound (mu := fun _ => false) ?_
  repeat' (first |(refine And.intro (by exact hdeep rfl) ?_) |(refine ldH h30 rfl ?_) |with_reducible (first|refine RM.c2 ?_|refine RM.c4 ?_|refine RM.c5 ?_|refine RM.c7 ?_|refine RM.c9 ?_|refine RM.o1 ?_|refine RM.o2 ?_|refine RM.o3 ?_|refine RM.o4 ?_|refine RM.o5 ?_|refine RM.o9 ?_|refine RM.p1 ?_|refine RM.p3 ?_|refine RM.p5 ?_|refine RM.p6 ?_|refine RM.n1 ?_) |((with_reducible show force _ _);first|refine RM.f1 rfl ?_|refine RM.f2 rfl ?_|refine RM.f3 rfl ?_|refine RM.f4 rfl ?_|refine RM.f5 rfl ?_) |((with_reducible show wpOne _ _ _ _ _ _ _ _ _ _ _ _);refine RM.o8 rfl ?_) |((with_reducible show wpDOne _ _ _ _ _ _ _ _ _ _);refine RM.p9 rfl ?_) |((with_reducible show wpBin _ _ _ _ _ _ _ _ _);refine RM.b6 rfl rfl ?_) |((with_reducible show wpLen _ _ _ _ _);refine RM.l1 rfl ?_) |(refine ⟨_, rfl, ?_⟩) |(refine ⟨_, _, rfl, by decide, ?_⟩) |(refine ⟨rfl, rfl, rfl, ?_⟩) |(refine And.intro (Nat.le_of_ble_eq_true rfl) ?_) |(refine And.intro (by kernel_rfl) ?_) |(refine ⟨_, hs, ?_⟩) |fail)
  exact ⟨[_], ⟨Fz.deep rfl, trivial⟩, rfl⟩
theorem lasts_c (one : Bool) {s : Stores} {k : Kind} {row : List Int} {cnts : List (List AV)} {L : List Truth} {full : Bool} {down : Int} (h : ∀ t ∈ L, RunOk s.men k row t) (hl : L.length ≤ maxLen) :
    Pu one 74 [.ag (eHoldV s k row (.sl cnts false)), .sl (L.map eTruth) full, I64 down] (BB (!L.any (runsShort s.men k row down))) := by
  have hc := containsFunc105_c one 106 [] [.pt (eHoldV s k row (.sl cnts false)) 0, .pt [I64 down] 0] rfl (runsShort s.men k row down) L full hl fun t ht => lasts1_c one (h t ht)
  refine PureV.body (fn := Try.f74) rfl rfl rfl rfl ?_
  refine wpC_sound (mu := fun _ => false) ?_
  repeat' (first |(refine ⟨rfl, holdd_one, holdd_deep, ?_⟩) |with_reducible (first|refine RM.c2 ?_|refine RM.c4 ?_|refine RM.c7 ?_|refine RM.c9 ?_|refine RM.o1 ?_|refine RM.o2 ?_|refine RM.o4 ?_|refine RM.o5 ?_|refine RM.o7 ?_|refine RM.o9 ?_|refine RM.p1 ?_|refine RM.p2 ?_|refine RM.p3 ?_|refine RM.p7 ?_) |((with_reducible show force _ _);first|refine RM.f1 rfl ?_|refine RM.f2 rfl ?_|refine RM.f3 rfl ?_|refine RM.f4 rfl ?_) |((with_reducible show wpOne _ _ _ _ _ _ _ _ _ _ _ _);refine RM.o8 rfl ?_) |((with_reducible show RM.wpOp _ _ _ _ _ _);refine RM.n3 rfl ?_) |(refine ⟨rfl, rfl, rfl, ?_⟩) |(refine PureV.call hc rfl rfl ?_) |fail)
  exact ⟨[_], ⟨Fz.deep rfl, trivial⟩, rfl⟩
theorem cargo1_c (one : Bool) {s : Stores} {k : Kind} {row : List Int} {cnts : List (List AV)} {L : List Truth} (day : Nat) (n : Int) (h30 : row.length = 30) (hd : day < 30) (hb : (0 ≤ n ∧ n ≤ 300) ∧ 0 ≤ row.getD day 0 ∧ row.getD day 0 ≤ 300 * 9)
    (h : ∀ t ∈ L, RunOk s.men k (row.set day (row.getD day 0 + n)) t) (hl : L.length ≤ maxLen) :
    PureV TT TB one (.fn 73 [] [.pt (eHoldV s k row (.sl cnts false)) 0, .pt [I64 day] 0, .pt [.sl (L.map eTruth) false] 0]) [I64 n] (BB (!L.any (runsShort s.men k (row.set day (row.getD day 0 + n)) s.men.length))) := by
  have em : ((s.men.map eI).length : Int) = s.men.length := by simp
  have hla := lasts_c one (cnts := cnts) (L := L) (full := false) (down := s.men.length) h hl
  rw [← em] at hla ⊢
  have hg : (eHoldV s k row (.sl cnts false))[0 + 12 + day * 1]? = some (I64 (row.getD day 0)) := hold_get (by omega)
  refine PureV.body (fn := Try.f73) rfl rfl rfl rfl ?_
  refine RM.c2s (mu := fun _ => false) ?_
  repeat' (first |with_reducible (first|refine RM.c4 ?_|refine RM.c9 ?_|refine RM.o1 ?_|refine RM.o2 ?_|refine RM.o4 ?_|refine RM.o5 ?_|refine RM.p3 ?_) |((with_reducible show force _ _);refine RM.f1 rfl ?_) |((with_reducible show wpOne _ _ _ _ _ _ _ _ _ _ _ _);refine RM.o8 rfl ?_) |fail)
  refine RM.c2s (mu := fun _ => false) ?_
  repeat' (first |(refine ldH (s := s) (k := k) (c := .sl cnts false) h30 rfl ?_) |with_reducible (first|refine RM.c4 ?_|refine RM.c9 ?_|refine RM.o1 ?_|refine RM.o2 ?_|refine RM.o4 ?_|refine RM.o5 ?_|refine RM.o6 ?_) |((with_reducible show force _ _);first|refine RM.f5 rfl ?_|refine RM.f7 rfl ?_|refine RM.g2 rfl ?_) |((with_reducible show wpOne _ _ _ _ _ _ _ _ _ _ _ _);refine RM.o8 rfl ?_) |(refine And.intro (by kernel_rfl) ?_) |(refine stH (s := s) (k := k) (row := row) (f := cnts) (b := false) h30 rfl rfl rfl (by rfl) ?_) |fail)
  refine RM.c2s (mu := fun _ => false) ?_
  repeat' (first |with_reducible (first|refine RM.c4 ?_|refine RM.c9 ?_|refine RM.o1 ?_|refine RM.o2 ?_|refine RM.o4 ?_|refine RM.o5 ?_|refine RM.o6 ?_|refine RM.p2 ?_|refine RM.p5 ?_) |((with_reducible show force _ _);first|refine RM.f1 rfl ?_|refine RM.f7 rfl ?_|refine RM.g2 rfl ?_) |((with_reducible show wpOne _ _ _ _ _ _ _ _ _ _ _ _);refine RM.o8 rfl ?_) |((with_reducible show wpBin _ _ _ _ _ _ _ _ _);refine RM.b1 rfl rfl (by omega) ?_) |(refine ⟨_, rfl, ?_⟩) |(refine ⟨_, _, rfl, by decide, ?_⟩) |(refine And.intro (by omega) ?_) |(refine ⟨_, _, rfl, I64 (row.getD day 0), hg, ?_⟩) |(refine ⟨_, _, rfl, rfl, rfl, rfl, by rw [hold_len (s := s) (k := k) (row := row) (c := .sl cnts false) h30]; omega, ?_⟩) |fail)
  have hb' : ([.cells (eHoldV s k (row.set day (row.getD day 0 + n)) (.sl cnts false)) 0 0] : List AB).all (AB.inb 1) = true := by
    show (inbL 1 (eHoldV s k (row.set day (row.getD day 0 + n)) (.sl cnts false)) && true) = true
    rw [show inbL 1 (eHoldV s k (row.set day (row.getD day 0 + n)) (.sl cnts false)) = true from deep_inb 1 (.ag _) (eHold_deep (s := s) (k := k) (row := row.set day (row.getD day 0 + n)) (c := .sl cnts false) rfl)]
    rfl
  refine SemC.weaker (Weaker.to (l := [(1, .pt (eHoldV s k row (.sl cnts false)) 0), (3, .pt [.sl (L.map eTruth) false] 0), (6, .ptr 0 0 0)]) (hp := [.cells (eHoldV s k (row.set day (row.getD day 0 + n)) (.sl cnts false)) 0 0]) 1 (by rw [← hold_put (s := s) (k := k) (row := row) (c := .sl cnts false) (d := day) (by omega)]; rfl) ⟨rfl, rfl, rfl, trivial⟩ (Nat.zero_le _) rfl hb') ?_
  have h30' : (row.set day (row.getD day 0 + n)).length = 30 := by rw [List.length_set]; exact h30
  generalize row.set day (row.getD day 0 + n) = row' at *
  refine wpC_sound (mu := fun _ => false) ?_
  repeat' (first |(refine ldHO (s := s) (k := k) (c := .sl cnts false) h30' rfl rfl ?_) |with_reducible (first|refine RM.c2 ?_|refine RM.c4 ?_|refine RM.c7 ?_|refine RM.c9 ?_|refine RM.o1 ?_|refine RM.o2 ?_|refine RM.o4 ?_|refine RM.o5 ?_|refine RM.o7 ?_|refine RM.o9 ?_|refine RM.p1 ?_|refine RM.p3 ?_|refine RM.p6 ?_) |((with_reducible show force _ _);first|refine RM.f1 rfl ?_|refine RM.f2 rfl ?_|refine RM.f3 rfl ?_|refine RM.f4 rfl ?_|refine RM.f5 rfl ?_) |((with_reducible show wpOne _ _ _ _ _ _ _ _ _ _ _ _);refine RM.o8 rfl ?_) |((with_reducible show wpLen _ _ _ _ _);refine RM.l1 rfl ?_) |(refine ⟨_, rfl, ?_⟩) |(refine ⟨_, _, rfl, by decide, ?_⟩) |(refine PureV.call hla rfl (by exact hdeep rfl) ?_) |fail)
  exact ⟨[_], ⟨Fz.deep rfl, trivial⟩, rfl⟩
end Go.Proofs.Ytmkaeohmdcoanaa
open Go Go.RM
namespace Go.Proofs.Ytmkaeohmdcoanaa
set_option maxRecDepth 100000
set_option maxHeartbeats 4000000
theorem sizes8 {s : Stores} {l : List Count} (h : cntsErr s l = 0) : s.cargos.length ≤ 8 := by
  unfold cntsErr at h
  by_cases h1 : (chk s).2.2 = 0
  · cases hb : sizesBad s with
    | true => rw [chk_1 hb] at h1; exact absurd h1 (by decide)
    | false => exact (sizes_ok hb).2.2
  · rw [if_pos h1] at h; exact absurd h h1
theorem row8 {s : Stores} {l : List Count} (h : cntsErr s l = 0) (i : Int) : RowOk 8 (cargoRow i s.cargos) := by
  have hg := (cnts_good h).1
  have h8 := sizes8 h
  have h9 := sizes_9 hg.sizes
  have := cargoRow_ok (k := i) (cs := s.cargos) (fun c hc => by have := hg.cargos c hc; omega)
  exact ⟨this.len, fun x hx => by have := this.bnd x hx; omega⟩
theorem RowOk.more {row : List Int} (h : RowOk 8 row) {d : Nat} (hd : d < 30) {n : Int} (hn : 0 ≤ n ∧ n ≤ 300) : RowOk 9 (row.set d (row.getD d 0 + n)) := by
  have hg := h.get hd
  refine ⟨by rw [List.length_set]; exact h.len, fun x hx => ?_⟩
  rcases List.mem_or_eq_of_mem_set hx with hx | rfl
  · have := h.bnd x hx; omega
  · omega
theorem RunOk.more {men : List Int} {k : Kind} {row : List Int} {t : Truth} (h : RunOk men k row t) (hr : RowOk 8 row) {d : Nat} (hd : d < 30) {n : Int} (hn : 0 ≤ n ∧ n ≤ 300) : RunOk men k (row.set d (row.getD d 0 + n)) t :=
  ⟨h.men30, h.men, hr.more hd hn, h.room, h.ration, h.first, h.man, h.ship⟩
abbrev lows (s : Stores) (l : List Count) (i : Nat) (k : Kind) : List Truth := (truthsL s.men k (cargoRow i s.cargos) (cntsOf l i)).map Prod.fst
def lastsWith (s : Stores) (k : Kind) (row : List Int) (L : List Truth) (d : Nat) (n : Int) : Bool := !L.any (runsShort s.men k (row.set d (row.getD d 0 + n)) s.men.length)
theorem cargoLeast_c (one : Bool) (s : Stores) (l : List Count) (h0 : cntsErr s l = 0) (i : Nat) (hi : i < s.kinds.length) (d : Nat) (hd : d < s.men.length) :
    Pu one 72 [I64 0, I64 300, .fn 73 [] [.pt (eHoldV s s.kinds[i] (cargoRow i s.cargos) (.sl ((cntsOf l i).map eCount) false)) 0, .pt [I64 d] 0, .pt [.sl ((lows s l i s.kinds[i]).map eTruth) false] 0]]
      (I64 (bs (fun n => lastsWith s s.kinds[i] (cargoRow i s.cargos) (lows s l i s.kinds[i]) d n) 0 301 : Nat)) := by
  have hh := holdOk h0 hi
  have hr8 := row8 h0 i
  have h30 := hh.row.len
  have h9 := sizes_9 hh.good.sizes
  have hget := hr8.get (d := d) (by omega)
  have hlen : (lows s l i s.kinds[i]).length ≤ maxLen := by rw [List.length_map]; have := truthsL_len hh; unfold maxLen; omega
  have hrun : ∀ t ∈ lows s l i s.kinds[i], RunOk s.men s.kinds[i] (cargoRow i s.cargos) t := fun t ht => by
    obtain ⟨y, hy, rfl⟩ := List.mem_map.1 ht
    exact (truthsL_run hh hy).1.1
  have key := least_c one 73 [] [.pt (eHoldV s s.kinds[i] (cargoRow i s.cargos) (.sl ((cntsOf l i).map eCount) false)) 0, .pt [I64 d] 0, .pt [.sl ((lows s l i s.kinds[i]).map eTruth) false] 0] rfl 0 301 (by omega) (by omega) (lastsWith s s.kinds[i] (cargoRow i s.cargos) (lows s l i s.kinds[i]) d) fun n hn => by
    rw [Int.zero_add]
    exact cargo1_c true d n h30 (by omega) (by omega) (fun t ht => (hrun t ht).more hr8 (by omega) (by omega)) hlen
  simp only [Int.zero_add] at key
  exact key
end Go.Proofs.Ytmkaeohmdcoanaa
open Go Go.RM
namespace Go.Proofs.Ytmkaeohmdcoanaa
set_option maxRecDepth 100000
set_option maxHeartbeats 4000000
theorem cargo_err (one : Bool) (s : Stores) (h : s.Ok) (l : List Count) (hl : l.length ≤ maxLen) (kd day : Int) (he : askErr s l kd ≠ 0) : Pu one 29 [.ag (eStores s), .sl (l.map eCount) false, I64 kd, I64 day] (.tp [I64 0, I64 (askErr s l kd)]) := by
  have hen := enter_err one s h l hl kd he
  have d1 : (!decide (askErr s l kd = 0)) = true := by simpa using he
  refine PureV.body (fn := Try.f29) rfl rfl rfl rfl ?_
  refine wpC_sound (mu := fun _ => false) ?_
  repeat' (first |with_reducible (first|refine RM.c2 ?_|refine RM.c3 ?_|refine RM.c4 ?_|refine RM.c7 ?_|refine RM.c9 ?_|refine RM.d1 ?_|refine RM.d4 ?_|refine RM.o1 ?_|refine RM.o2 ?_|refine RM.o4 ?_|refine RM.o5 ?_|refine RM.o6 ?_|refine RM.o7 ?_|refine RM.o9 ?_|refine RM.p1 ?_|refine RM.p2 ?_|refine RM.p3 ?_|refine RM.p5 ?_) |((with_reducible show force _ _);first|refine RM.f1 rfl ?_|refine RM.f2 rfl ?_|refine RM.f3 rfl ?_|refine RM.f4 rfl ?_|refine RM.f5 rfl ?_|refine RM.f6 rfl ?_|refine RM.f7 rfl ?_|refine RM.g2 rfl ?_) |((with_reducible show wpOne _ _ _ _ _ _ _ _ _ _ _ _);refine RM.o8 rfl ?_) |((with_reducible show wpC _ _ _ _ (.cond _ _ _) _ _);refine RM.e2 rfl (by assumption) ?_) |((with_reducible show wpBin _ _ _ _ _ _ _ _ _);refine RM.b5 rfl rfl ?_) |(refine ⟨_, rfl, ?_⟩) |(refine ⟨_, _, rfl, by decide, ?_⟩) |(refine ⟨rfl, rfl, rfl, ?_⟩) |(refine ⟨rfl, rfl, ?_⟩) |(refine And.intro (Nat.le_of_ble_eq_true rfl) ?_) |(refine And.intro (by kernel_rfl) ?_) |(refine PureV.call hen rfl rfl ?_) |fail)
  exact ⟨[_, _], ⟨Fz.deep rfl, Fz.deep rfl, trivial⟩, rfl⟩
theorem cargo_day (one : Bool) (s : Stores) (h : s.Ok) (l : List Count) (h0 : cntsErr s l = 0) (i : Nat) (hi : i < s.kinds.length) (day : Int) (hd : inB day 0 ((s.men.length : Int) - 1) = false) : Pu one 29 [.ag (eStores s), .sl (l.map eCount) false, I64 i, I64 day] (.tp [I64 0, I64 7]) := by
  have em : ((s.men.map eI).length : Int) = s.men.length := by simp
  have hen := enter_ok one s h l h0 i hi
  have hh := holdOk h0 hi
  have h30 := hh.row.len
  have h9 := sizes_9 hh.good.sizes
  have hou := outside_c one 0 (((s.men.map eI).length : Int) - 1) [eI day] true rfl (Nat.le_of_ble_eq_true rfl)
  rw [show outB 0 (((s.men.map eI).length : Int) - 1) ([eI day].map unI) = true by rw [em]; show outB 0 ((s.men.length : Int) - 1) [day] = true; rw [outB_one, hd]; rfl] at hou
  clear hh
  generalize cargoRow i s.cargos = row at *
  generalize s.kinds[i] = k at *
  refine PureV.body (fn := Try.f29) rfl rfl rfl rfl ?_
  refine wpC_sound (mu := fun _ => false) ?_
  repeat' (first |(refine stH h30 rfl rfl rfl rfl ?_) |with_reducible (first|refine RM.c2 ?_|refine RM.c3 ?_|refine RM.c4 ?_|refine RM.c7 ?_|refine RM.c9 ?_|refine RM.d1 ?_|refine RM.d4 ?_|refine RM.o1 ?_|refine RM.o2 ?_|refine RM.o4 ?_|refine RM.o5 ?_|refine RM.o6 ?_|refine RM.o7 ?_|refine RM.o9 ?_|refine RM.p1 ?_|refine RM.p2 ?_|refine RM.p3 ?_|refine RM.p5 ?_|refine RM.p6 ?_) |((with_reducible show force _ _);first|refine RM.f1 rfl ?_|refine RM.f2 rfl ?_|refine RM.f3 rfl ?_|refine RM.f4 rfl ?_|refine RM.f5 rfl ?_|refine RM.f6 rfl ?_|refine RM.f7 rfl ?_|refine RM.g2 rfl ?_) |((with_reducible show wpOne _ _ _ _ _ _ _ _ _ _ _ _);refine RM.o8 rfl ?_) |((with_reducible show wpC _ _ _ _ (.cond _ _ _) _ _);first|refine RM.e2 rfl rfl ?_|refine RM.e3 rfl rfl ?_) |((with_reducible show wpBin _ _ _ _ _ _ _ _ _);first|refine RM.b5 rfl rfl ?_|refine RM.b2 rfl rfl (by omega) ?_) |((with_reducible show wpLen _ _ _ _ _);refine RM.l1 rfl ?_) |(refine ⟨_, rfl, ?_⟩) |(refine ⟨_, _, rfl, by decide, ?_⟩) |(refine ⟨rfl, rfl, rfl, ?_⟩) |(refine ⟨rfl, rfl, ?_⟩) |(refine ⟨_, _, rfl, _, rfl, ?_⟩) |(refine And.intro (Nat.le_of_ble_eq_true rfl) ?_) |(refine And.intro (by kernel_rfl) ?_) |(refine PureV.call hen rfl rfl ?_) |(refine PureV.call hou rfl rfl ?_) |fail)
  exact ⟨[_, _], ⟨Fz.deep rfl, Fz.deep rfl, trivial⟩, rfl⟩
theorem cargo_none (one : Bool) (s : Stores) (h : s.Ok) (l : List Count) (h0 : cntsErr s l = 0) (i : Nat) (hi : i < s.kinds.length) (d : Nat) (hd : d < s.men.length) (he : truthsL s.men s.kinds[i] (cargoRow i s.cargos) (cntsOf l i) = []) :
    Pu one 29 [.ag (eStores s), .sl (l.map eCount) false, I64 i, I64 d] (.tp [I64 0, I64 9]) := by
  have em : ((s.men.map eI).length : Int) = s.men.length := by simp
  have hh := holdOk h0 hi
  have hen := enter_ok one s h l h0 i hi
  have h30 := hh.row.len
  have hkn := known_c one hh
  have h9 := sizes_9 hh.good.sizes
  rw [if_pos he] at hkn
  have hou := outside_c one 0 (((s.men.map eI).length : Int) - 1) [eI d] true rfl (Nat.le_of_ble_eq_true rfl)
  rw [show outB 0 (((s.men.map eI).length : Int) - 1) ([eI (d : Int)].map unI) = false by rw [em]; show outB 0 ((s.men.length : Int) - 1) [(d : Int)] = false; rw [outB_one, inB_iff.2 (by omega)]; rfl] at hou
  generalize cargoRow i s.cargos = row at *
  generalize s.kinds[i] = k at *
  refine PureV.body (fn := Try.f29) rfl rfl rfl rfl ?_
  refine wpC_sound (mu := fun _ => false) ?_
  repeat' (first |(refine stH h30 rfl rfl rfl rfl ?_) |(refine ldHO h30 rfl rfl ?_) |with_reducible (first|refine RM.c1 ?_|refine RM.c2 ?_|refine RM.c3 ?_|refine RM.c4 ?_|refine RM.c7 ?_|refine RM.c9 ?_|refine RM.d1 ?_|refine RM.d3 ?_|refine RM.o1 ?_|refine RM.o2 ?_|refine RM.o4 ?_|refine RM.o5 ?_|refine RM.o6 ?_|refine RM.o7 ?_|refine RM.o9 ?_|refine RM.p1 ?_|refine RM.p2 ?_|refine RM.p3 ?_|refine RM.p5 ?_|refine RM.p6 ?_) |((with_reducible show force _ _);first|refine RM.f1 rfl ?_|refine RM.f2 rfl ?_|refine RM.f3 rfl ?_|refine RM.f4 rfl ?_|refine RM.f5 rfl ?_|refine RM.f6 rfl ?_|refine RM.f7 rfl ?_|refine RM.g2 rfl ?_) |((with_reducible show wpOne _ _ _ _ _ _ _ _ _ _ _ _);refine RM.o8 rfl ?_) |((with_reducible show wpC _ _ _ _ (.cond _ _ _) _ _);first|refine RM.e2 rfl rfl ?_|refine RM.e3 rfl rfl ?_) |((with_reducible show wpBin _ _ _ _ _ _ _ _ _);first|refine RM.b5 rfl rfl ?_|refine RM.b2 rfl rfl (by omega) ?_) |((with_reducible show wpLen _ _ _ _ _);refine RM.l1 rfl ?_) |(refine ⟨_, rfl, ?_⟩) |(refine ⟨_, _, rfl, by decide, ?_⟩) |(refine ⟨rfl, rfl, rfl, ?_⟩) |(refine ⟨rfl, rfl, ?_⟩) |(refine ⟨_, _, rfl, _, rfl, ?_⟩) |(refine And.intro (Nat.le_of_ble_eq_true rfl) ?_) |(refine And.intro (by kernel_rfl) ?_) |(refine PureV.call hen rfl rfl ?_) |(refine PureV.call hou rfl rfl ?_) |(refine PureV.call hkn rfl (hdeep rfl) ?_) |fail)
  exact ⟨[_, _], ⟨Fz.deep rfl, Fz.deep rfl, trivial⟩, rfl⟩
theorem cargo_okT (one : Bool) (s : Stores) (h : s.Ok) (l : List Count) (h0 : cntsErr s l = 0) (i : Nat) (hi : i < s.kinds.length) (d : Nat) (hd : d < s.men.length) (he : truthsL s.men s.kinds[i] (cargoRow i s.cargos) (cntsOf l i) ≠ []) (r : Nat)
    (hr : bs (fun n => lastsWith s s.kinds[i] (cargoRow i s.cargos) (lows s l i s.kinds[i]) d n) 0 301 = r) :
    Pu one 29 [.ag (eStores s), .sl (l.map eCount) false, I64 i, I64 d] (if 300 < r then .tp [I64 0, I64 9] else .tp [I64 r, I64 0]) := by
  have em : ((s.men.map eI).length : Int) = s.men.length := by simp
  have hh := holdOk h0 hi
  have hen := enter_ok one s h l h0 i hi
  have h30 := hh.row.len
  have hkn := known_c one hh
  have h9 := sizes_9 hh.good.sizes
  rw [if_neg he] at hkn
  have hw := worst_c one hh
  have hle := cargoLeast_c one s l h0 i hi d hd
  rw [hr] at hle
  have hou := outside_c one 0 (((s.men.map eI).length : Int) - 1) [eI d] true rfl (Nat.le_of_ble_eq_true rfl)
  rw [show outB 0 (((s.men.map eI).length : Int) - 1) ([eI (d : Int)].map unI) = false by rw [em]; show outB 0 ((s.men.length : Int) - 1) [(d : Int)] = false; rw [outB_one, inB_iff.2 (by omega)]; rfl] at hou
  clear hr he hh
  unfold lows at hle
  generalize (truthsL s.men s.kinds[i] (cargoRow i s.cargos) (cntsOf l i)).map Prod.fst = L at *
  generalize cargoRow i s.cargos = row at *
  generalize s.kinds[i] = k at *
  have fin : ∀ v, (if 300 < r then AV.tp [I64 0, I64 9] else .tp [I64 r, I64 0]) = v → Pu one 29 [.ag (eStores s), .sl (l.map eCount) false, I64 i, I64 d] v := by
    intro v hv
    have hvd : v.deep = true := by rw [← hv]; split <;> rfl
    refine PureV.body (fn := Try.f29) rfl rfl rfl hvd ?_
    refine RM.c2s (mu := fun _ => false) ?_
    repeat' (first |with_reducible (first|refine RM.c4 ?_|refine RM.c9 ?_|refine RM.o1 ?_|refine RM.o2 ?_|refine RM.o4 ?_|refine RM.o5 ?_|refine RM.p3 ?_) |((with_reducible show force _ _);first|refine RM.f1 rfl ?_|refine RM.f3 rfl ?_) |((with_reducible show wpOne _ _ _ _ _ _ _ _ _ _ _ _);refine RM.o8 rfl ?_) |(refine ⟨rfl, rfl, rfl, ?_⟩) |fail)
    refine RM.c2s (mu := fun _ => false) ?_
    repeat' (first |(refine stH (s := s) (k := k) (row := row) h30 rfl rfl rfl rfl ?_) |with_reducible (first|refine RM.c4 ?_|refine RM.c9 ?_|refine RM.o1 ?_|refine RM.o2 ?_|refine RM.o4 ?_|refine RM.o5 ?_|refine RM.o6 ?_|refine RM.o7 ?_|refine RM.o9 ?_|refine RM.p1 ?_|refine RM.p2 ?_|refine RM.p3 ?_) |((with_reducible show force _ _);first|refine RM.f1 rfl ?_|refine RM.f2 rfl ?_|refine RM.f4 rfl ?_|refine RM.f5 rfl ?_|refine RM.f6 rfl ?_|refine RM.f7 rfl ?_|refine RM.g2 rfl ?_) |((with_reducible show wpOne _ _ _ _ _ _ _ _ _ _ _ _);refine RM.o8 rfl ?_) |(refine ⟨_, rfl, ?_⟩) |(refine And.intro (Nat.le_of_ble_eq_true rfl) ?_) |(refine And.intro (by kernel_rfl) ?_) |(refine PureV.call hen rfl rfl ?_) |fail)
    refine RM.c2s (mu := fun _ => false) ?_
    repeat' (first |with_reducible (first|refine RM.c1 ?_|refine RM.c2 ?_|refine RM.c3 ?_|refine RM.c4 ?_|refine RM.c9 ?_|refine RM.d3 ?_|refine RM.o1 ?_|refine RM.o2 ?_|refine RM.o4 ?_|refine RM.o5 ?_|refine RM.o7 ?_|refine RM.o9 ?_|refine RM.p1 ?_|refine RM.p2 ?_|refine RM.p3 ?_|refine RM.p5 ?_|refine RM.p6 ?_) |((with_reducible show force _ _);first|refine RM.f1 rfl ?_|refine RM.f2 rfl ?_|refine RM.f4 rfl ?_|refine RM.f7 rfl ?_) |((with_reducible show wpOne _ _ _ _ _ _ _ _ _ _ _ _);refine RM.o8 rfl ?_) |((with_reducible show wpC _ _ _ _ (.cond _ _ _) _ _);refine RM.e3 rfl rfl ?_) |((with_reducible show wpBin _ _ _ _ _ _ _ _ _);first|refine RM.b5 rfl rfl ?_|refine RM.b2 rfl rfl (by omega) ?_) |((with_reducible show wpLen _ _ _ _ _);refine RM.l1 rfl ?_) |(refine ⟨_, rfl, ?_⟩) |(refine ⟨_, _, rfl, by decide, ?_⟩) |(refine ⟨rfl, rfl, rfl, ?_⟩) |(refine ⟨rfl, rfl, ?_⟩) |(refine ⟨_, _, rfl, _, rfl, ?_⟩) |(refine PureV.call hou rfl rfl ?_) |fail)
    refine RM.c2s (mu := fun _ => false) ?_
    repeat' (first |(refine ldHO (s := s) (k := k) (row := row) h30 rfl rfl ?_) |with_reducible (first|refine RM.c1 ?_|refine RM.c2 ?_|refine RM.c4 ?_|refine RM.c9 ?_|refine RM.o1 ?_|refine RM.o2 ?_|refine RM.o4 ?_|refine RM.o5 ?_|refine RM.o7 ?_|refine RM.o9 ?_|refine RM.p1 ?_|refine RM.p2 ?_|refine RM.p3 ?_|refine RM.p5 ?_) |((with_reducible show force _ _);first|refine RM.f1 rfl ?_|refine RM.f4 rfl ?_|refine RM.f5 rfl ?_) |((with_reducible show wpOne _ _ _ _ _ _ _ _ _ _ _ _);refine RM.o8 rfl ?_) |((with_reducible show wpC _ _ _ _ (.cond _ _ _) _ _);refine RM.e3 rfl rfl ?_) |((with_reducible show wpBin _ _ _ _ _ _ _ _ _);refine RM.b5 rfl rfl ?_) |(refine PureV.call hkn rfl (hdeep rfl) ?_) |fail)
    refine RM.c2s (mu := fun _ => false) ?_
    repeat' (first |(refine ldHO (s := s) (k := k) (row := row) h30 rfl rfl ?_) |with_reducible (first|refine RM.c4 ?_|refine RM.c9 ?_|refine RM.o1 ?_|refine RM.o2 ?_|refine RM.o4 ?_|refine RM.o5 ?_|refine RM.o6 ?_|refine RM.o7 ?_|refine RM.o9 ?_|refine RM.p1 ?_) |((with_reducible show force _ _);first|refine RM.f4 rfl ?_|refine RM.f5 rfl ?_|refine RM.f7 rfl ?_|refine RM.g2 rfl ?_) |((with_reducible show wpOne _ _ _ _ _ _ _ _ _ _ _ _);refine RM.o8 rfl ?_) |(refine And.intro (by kernel_rfl) ?_) |(refine ⟨_, _, rfl, rfl, rfl, rfl, Nat.le_of_ble_eq_true rfl, ?_⟩) |(refine PureV.call hw rfl (hdeep rfl) ?_) |fail)
    refine SemC.weaker (Weaker.giveUp 0 (l := [(7, .pt [I64 d] 0), (10, .pt (eHoldV s k row (.sl ((cntsOf l i).map eCount) false)) 0), (12, .ptr 1 0 0)]) (hp := [.gone, .cells [.sl (L.map eTruth) false] 0 0]) rfl (Nat.le_refl _) (eHold_deep (s := s) (k := k) (row := row) (c := .sl ((cntsOf l i).map eCount) false) rfl) ⟨.same rfl, .ptr, .same rfl, trivial⟩ rfl rfl) ?_
    refine SemC.weaker (Weaker.giveUp 1 (l := [(7, .pt [I64 d] 0), (10, .pt (eHoldV s k row (.sl ((cntsOf l i).map eCount) false)) 0), (12, .pt [.sl (L.map eTruth) false] 0)]) (hp := [.gone, .gone]) rfl (Nat.zero_le _) rfl ⟨.same rfl, .same rfl, .ptr, trivial⟩ rfl rfl) ?_
    by_cases h3 : 300 < r
    · rw [if_pos h3] at hv
      subst hv
      have d1 : decide ((300 : Int) < r) = true := decide_eq_true (by omega)
      refine wpC_sound (mu := fun _ => false) ?_
      repeat' (first |with_reducible (first|refine RM.c2 ?_|refine RM.c4 ?_|refine RM.c7 ?_|refine RM.c9 ?_|refine RM.d1 ?_|refine RM.o1 ?_|refine RM.o2 ?_|refine RM.o4 ?_|refine RM.o5 ?_|refine RM.o7 ?_|refine RM.o9 ?_|refine RM.p1 ?_|refine RM.p2 ?_|refine RM.p3 ?_|refine RM.p5 ?_|refine RM.p7 ?_) |((with_reducible show force _ _);first|refine RM.f1 rfl ?_|refine RM.f3 rfl ?_|refine RM.f4 rfl ?_) |((with_reducible show wpOne _ _ _ _ _ _ _ _ _ _ _ _);refine RM.o8 rfl ?_) |((with_reducible show wpC _ _ _ _ (.cond _ _ _) _ _);refine RM.e2 rfl (by assumption) ?_) |((with_reducible show wpBin _ _ _ _ _ _ _ _ _);refine RM.b8 rfl rfl ?_) |(refine PureV.call hle rfl rfl ?_) |fail)
      exact ⟨[_, _], ⟨Fz.deep rfl, Fz.deep rfl, trivial⟩, rfl⟩
    · rw [if_neg h3] at hv
      subst hv
      have d1 : decide ((300 : Int) < r) = false := decide_eq_false (by omega)
      refine wpC_sound (mu := fun _ => false) ?_
      repeat' (first |with_reducible (first|refine RM.c1 ?_|refine RM.c2 ?_|refine RM.c4 ?_|refine RM.c7 ?_|refine RM.c9 ?_|refine RM.o1 ?_|refine RM.o2 ?_|refine RM.o4 ?_|refine RM.o5 ?_|refine RM.o7 ?_|refine RM.o9 ?_|refine RM.p1 ?_|refine RM.p2 ?_|refine RM.p3 ?_|refine RM.p5 ?_|refine RM.p7 ?_) |((with_reducible show force _ _);first|refine RM.f1 rfl ?_|refine RM.f3 rfl ?_|refine RM.f4 rfl ?_) |((with_reducible show wpOne _ _ _ _ _ _ _ _ _ _ _ _);refine RM.o8 rfl ?_) |((with_reducible show wpC _ _ _ _ (.cond _ _ _) _ _);refine RM.e3 rfl (by assumption) ?_) |((with_reducible show wpBin _ _ _ _ _ _ _ _ _);refine RM.b8 rfl rfl ?_) |(refine PureV.call hle rfl rfl ?_) |fail)
      exact ⟨[_, _], ⟨Fz.deep rfl, Fz.deep rfl, trivial⟩, rfl⟩
  exact fin _ rfl
end Go.Proofs.Ytmkaeohmdcoanaa
open Go Go.RM
namespace Go.Proofs.Ytmkaeohmdcoanaa
set_option maxRecDepth 100000
def worstStep (out : List Truth) (t : Truth) : List Truth := if (out.all fun o => !decide (o.man = t.man) || !decide (o.ship = t.ship)) = true then out ++ [t] else out
def worstR (L : List Truth) : List Truth := L.foldl worstStep []
theorem worstStep_acc {acc : List Truth} {x t : Truth} (h : t ∈ acc) : t ∈ worstStep acc x := by
  unfold worstStep
  split
  · exact List.mem_append_left _ h
  · exact h
theorem worst_acc : ∀ {L : List Truth} {acc : List Truth} {t : Truth}, t ∈ acc → t ∈ L.foldl worstStep acc
  | [], _, _, h => h
  | _ :: L, _, _, h => worst_acc (L := L) (worstStep_acc h)
theorem worst_mem : ∀ {L : List Truth} {acc : List Truth} {t : Truth}, t ∈ L.foldl worstStep acc → t ∈ acc ∨ t ∈ L
  | [], _, _, h => .inl h
  | x :: L, acc, t, h => by
    rcases worst_mem (L := L) h with h | h
    · unfold worstStep at h
      split at h
      · rcases List.mem_append.1 h with h | h
        · exact .inl h
        · exact .inr (by rw [List.mem_singleton.1 h]; exact List.mem_cons_self ..)
      · exact .inl h
    · exact .inr (List.mem_cons_of_mem _ h)
theorem worst_cover : ∀ {L : List Truth} {acc : List Truth}, (∀ a ∈ acc, ∀ b ∈ L, a.first ≤ b.first) → L.Pairwise (fun a b => a.first ≤ b.first) → ∀ u ∈ L, ∃ t ∈ L.foldl worstStep acc, t.man = u.man ∧ t.ship = u.ship ∧ t.first ≤ u.first
  | [], _, _, _, u, hu => by cases hu
  | x :: L, acc, hacc, hs, u, hu => by
    rw [List.pairwise_cons] at hs
    have hx : ∃ t ∈ worstStep acc x, t.man = x.man ∧ t.ship = x.ship ∧ t.first ≤ x.first := by
      unfold worstStep
      split
      · exact ⟨x, by simp, rfl, rfl, Int.le_refl _⟩
      · rename_i hn
        rw [List.all_eq_true] at hn
        apply Classical.byContradiction
        intro hne
        apply hn
        intro o ho
        cases h1 : decide (o.man = x.man) with
        | false => rfl
        | true =>
          cases h2 : decide (o.ship = x.ship) with
          | false => rfl
          | true =>
            rw [decide_eq_true_eq] at h1 h2
            exact absurd ⟨o, ho, h1, h2, hacc o ho x (List.mem_cons_self ..)⟩ hne
    rcases List.mem_cons.1 hu with rfl | hu
    · obtain ⟨t, ht, h⟩ := hx
      exact ⟨t, worst_acc (L := L) ht, h⟩
    · refine worst_cover (L := L) (fun a ha b hb => ?_) hs.2 u hu
      unfold worstStep at ha
      split at ha
      · rcases List.mem_append.1 ha with ha | ha
        · exact hacc a ha b (List.mem_cons_of_mem _ hb)
        · rw [List.mem_singleton.1 ha]; exact hs.1 b hb
      · exact hacc a ha b (List.mem_cons_of_mem _ hb)
/-- What is worse with less at first. -/
def Worse (P : Truth → Bool) : Prop := ∀ t u : Truth, t.man = u.man → t.ship = u.ship → t.first ≤ u.first → P u = true → P t = true
theorem bool_iff {a b : Bool} (h : a = true ↔ b = true) : a = b := by
  cases a <;> cases b <;> simp_all
theorem any_worst {P : Truth → Bool} (hP : Worse P) {L : List Truth} (hs : L.Pairwise (fun a b => a.first ≤ b.first)) : (worstR L).any P = L.any P := by
  apply bool_iff
  rw [List.any_eq_true, List.any_eq_true]
  constructor
  · rintro ⟨t, ht, h⟩
    rcases worst_mem ht with h0 | h0
    · cases h0
    · exact ⟨t, h0, h⟩
  · rintro ⟨u, hu, h⟩
    obtain ⟨t, ht, h1, h2, h3⟩ := worst_cover (acc := []) (fun a ha => by cases ha) hs u hu
    exact ⟨t, ht, hP t u h1 h2 h3 h⟩
theorem all_sorted (men : List Int) (k : Kind) (row : List Int) (l : List Count) (i : Nat) : (allOf men k row l i).Pairwise (fun a b => a.first ≤ b.first) := by
  unfold allOf pastN
  refine List.Pairwise.filter _ ?_
  rw [List.pairwise_map]
  refine List.Pairwise.imp ?_ List.pairwise_lt_range
  intro a b hab
  unfold truthQ
  have h1 : a / spanN k.ship / spanN k.man ≤ b / spanN k.ship / spanN k.man := Nat.div_le_div_right (Nat.div_le_div_right (Nat.le_of_lt hab))
  dsimp only
  omega
theorem any_lows {P : Truth → Bool} (hP : Worse P) {s : Stores} {l : List Count} {i : Nat} {k : Kind} : (lows s l i k).any P = (allS s l i k).any P := by
  apply bool_iff
  rw [List.any_eq_true, List.any_eq_true]
  constructor
  · rintro ⟨t, ht, h⟩
    obtain ⟨y, hy, rfl⟩ := List.mem_map.1 ht
    exact ⟨y.1, (pair_all hy).1, h⟩
  · rintro ⟨u, hu, h⟩
    obtain ⟨y, hy, ⟨h1, _⟩, ⟨h3, h4⟩, _⟩ := all_pair hu
    exact ⟨y.1, List.mem_map.2 ⟨y, hy, rfl⟩, hP y.1 u h3 h4 h1 h⟩
theorem short_worse (men : List Int) (k : Kind) (row : List Int) (down : Int) : Worse (runsShort men k row down) := by
  rintro ⟨a, m, p⟩ ⟨b, m', p'⟩ h1 h2 h3 h
  dsimp only at h1 h2 h3
  subst h1 h2
  unfold runsShort at h ⊢
  rw [decide_eq_true_eq] at h ⊢
  exact Int.lt_of_le_of_lt (short_up h3 down _) h
/-- The two ways to whether a kind lasts. -/
theorem lasts_two (s : Stores) (l : List Count) (i : Nat) (k : Kind) (row : List Int) (down : Int) : (lows s l i k).any (runsShort s.men k row down) = (worstR (allS s l i k)).any (runsShort s.men k row down) := by
  rw [any_lows (short_worse _ _ _ _), any_worst (short_worse _ _ _ _) (all_sorted _ _ _ _ _)]
theorem have_row {men : List Int} {k : Kind} {row row' : List Int} {t : Truth} (h : ∀ i, row.getD i 0 ≤ row'.getD i 0) (down : Int) : ∀ i, haveAt men k row t down i ≤ haveAt men k row' t down i
  | 0 => Int.le_refl _
  | i + 1 => by
    have ih := have_row (men := men) (k := k) (t := t) h down i
    have hi := h i
    show max 0 (rawAt men k row t down i _) ≤ max 0 (rawAt men k row' t down i _)
    unfold rawAt
    generalize haveAt men k row t down i = a at *
    generalize haveAt men k row' t down i = b at *
    generalize row.getD i 0 = c at *
    generalize row'.getD i 0 = d at *
    omega
theorem short_row {men : List Int} {k : Kind} {row row' : List Int} {t : Truth} (h : ∀ i, row.getD i 0 ≤ row'.getD i 0) (down : Int) : ∀ i, shortAt men k row t down i ≤ shortAt men k row' t down i
  | 0 => Int.le_refl _
  | i + 1 => by
    have ih := short_row (men := men) (k := k) (t := t) h down i
    have hh := have_row (men := men) (k := k) (t := t) h down i
    have hi := h i
    have hr : rawAt men k row t down i (haveAt men k row t down i) ≤ rawAt men k row' t down i (haveAt men k row' t down i) := by
      unfold rawAt
      generalize haveAt men k row t down i = a at *
      generalize haveAt men k row' t down i = b at *
      generalize row.getD i 0 = c at *
      generalize row'.getD i 0 = d at *
      omega
    show (if _ < 0 then _ else _) ≤ (if _ < 0 then _ else _)
    split <;> split <;> omega
theorem row_more {row : List Int} {d : Nat} {n n' : Int} (h : n ≤ n') (i : Nat) : (row.set d (row.getD d 0 + n)).getD i 0 ≤ (row.set d (row.getD d 0 + n')).getD i 0 := by
  rw [List.getD_eq_getElem?_getD, List.getD_eq_getElem?_getD (l := row.set d (row.getD d 0 + n')), List.getElem?_set, List.getElem?_set]
  split
  · split
    · dsimp only [Option.getD_some]; omega
    · exact Int.le_refl _
  · exact Int.le_refl _
theorem lastsWith_more {s : Stores} {k : Kind} {row : List Int} {L : List Truth} {d : Nat} {n n' : Int} (h : n ≤ n') (hl : lastsWith s k row L d n = true) : lastsWith s k row L d n' = true := by
  unfold lastsWith at hl ⊢
  rw [Bool.not_eq_true', List.any_eq_false] at hl ⊢
  intro t ht hs
  apply hl t ht
  unfold runsShort at hs ⊢
  rw [decide_eq_true_eq] at hs ⊢
  exact Int.lt_of_le_of_lt (short_row (row_more h) _ _) hs
/-- The least amount, and none below. -/
structure IsLeast (p : Nat → Bool) (n r : Nat) : Prop where
  le : r ≤ n
  below : ∀ a, a < r → p a = false
  here : r < n → p r = true
theorem cargo_least (s : Stores) (l : List Count) (i : Nat) (k : Kind) (row : List Int) (d : Nat) :
    IsLeast (fun n => lastsWith s k row (worstR (allS s l i k)) d n) 301 (bs (fun n => lastsWith s k row (lows s l i k) d n) 0 301) := by
  have he : (fun n : Nat => lastsWith s k row (worstR (allS s l i k)) d n) = fun n : Nat => lastsWith s k row (lows s l i k) d n := by
    funext n
    unfold lastsWith
    rw [lasts_two]
  rw [he]
  have b0 := bs_least (fun n : Nat => lastsWith s k row (lows s l i k) d n) 0 301 (Nat.zero_le _) (fun a b _ h _ hp => lastsWith_more (by omega) hp)
  exact ⟨(bs_in _ 0 301 (Nat.zero_le _)).2, fun a ha => b0.1 a (Nat.zero_le _) ha, b0.2⟩
/-- The greatest number below n that does; below 0: none does. -/
def lastD (q : Nat → Bool) : Nat → Int
  | 0 => -1
  | m + 1 => if q m = true then m else lastD q m
theorem ration_two (s : Stores) (l : List Count) (i : Nat) (k : Kind) (row : List Int) (n : Nat) :
    lastD (fun d => !(lows s l i k).any (runsShort s.men k row d)) n = lastD (fun d => !(worstR (allS s l i k)).any (runsShort s.men k row d)) n := by
  congr 1
  funext d
  rw [lasts_two]
end Go.Proofs.Ytmkaeohmdcoanaa
open Go Go.RM
namespace Go.Proofs.Ytmkaeohmdcoanaa
set_option maxRecDepth 100000
set_option maxHeartbeats 4000000
abbrev wB (L : List Truth) : AB := .cells ((L.map eTruth).flatten) 3 L.length
abbrev wV (L : List Truth) : AV := .osl 0 L.length 0 L.length (L.length + 1)
theorem wB_inb (L : List Truth) : ([wB L] : List AB).all (AB.inb 1) = true := by
  show (inbL 1 ((L.map eTruth).flatten) && true) = true
  rw [show inbL 1 ((L.map eTruth).flatten) = true from deep_inb 1 (.ag _) (low_deep L)]
  rfl
theorem wB_fz (L : List Truth) : Fz [wB L] (wV L) (.sl (L.map eTruth) false) :=
  Fz.row (es := 3) rfl (by rw [low_flen]; omega) (by simp) (fun el he => by obtain ⟨t, _, rfl⟩ := List.mem_map.1 he; rfl) (by rw [List.drop_zero, List.take_of_length_le (by rw [low_flen]; omega)]) (low_deep L) (fun h => Bool.noConfusion h)
theorem wB_snoc (L : List Truth) (t : Truth) : wB (L ++ [t]) = .cells ((L.map eTruth).flatten ++ [eTruth t].flatten) 3 (L.length + 1) := by
  show AB.cells _ _ _ = _
  rw [List.map_append, List.flatten_append, List.length_append]
  rfl
theorem wV_snoc (L : List Truth) (t : Truth) : wV (L ++ [t]) = .osl 0 (L.length + 1) 0 (L.length + 1) (L.length + 1 + 1) := by
  show AV.osl _ _ _ _ _ = _
  rw [List.length_append]
  rfl
theorem low_get : ∀ {L : List Truth} {k j : Nat} (h : k < L.length), j < 3 → ((L.map eTruth).flatten)[k * 3 + j]? = (eTruth L[k])[j]?
  | t :: L, 0, j, h, hj => by
    rw [List.map_cons, List.flatten_cons, Nat.zero_mul, Nat.zero_add, List.getElem?_append_left (by show j < 3; exact hj)]
    rfl
  | t :: L, k + 1, j, h, hj => by
    rw [List.map_cons, List.flatten_cons, List.getElem?_append_right (by show 3 ≤ _; omega), show (k + 1) * 3 + j - (eTruth t).length = k * 3 + j by show (k + 1) * 3 + j - 3 = _; omega]
    exact low_get (L := L) (by simpa using h) hj
def other (t o : Truth) : Bool := !decide (o.man = t.man) || !decide (o.ship = t.ship)
theorem worst_len (L : List Truth) : (worstR L).length ≤ L.length := by
  unfold worstR
  have key : ∀ (L acc : List Truth), (L.foldl worstStep acc).length ≤ acc.length + L.length := by
    intro L
    induction L with
    | nil => intro acc; simp
    | cons x L ih =>
      intro acc
      have h1 := ih (worstStep acc x)
      have h2 : (worstStep acc x).length ≤ acc.length + 1 := by
        unfold worstStep
        split
        · simp
        · omega
      rw [List.foldl_cons, List.length_cons]
      omega
  have := key L []
  simpa using this
theorem rworst_c (one : Bool) (men : List Int) (k : Kind) (row : List Int) (L : List Truth) (hL : L.length ≤ 30000) :
    Pu one 75 [.sl (L.map (ePast men k row)) false] (.sl ((worstR L).map eTruth) false) := by
  have el : ((L.map (ePast men k row)).length : Int) = L.length := by simp
  refine PureV.body (fn := Try.f75) rfl rfl rfl rfl ?_
  refine wpC_sound (mu := fun _ => false) ?_
  repeat' (first |with_reducible (first|refine RM.c2 ?_|refine RM.c3 ?_|refine RM.c4 ?_|refine RM.c9 ?_|refine RM.o1 ?_|refine RM.o2 ?_|refine RM.o4 ?_|refine RM.o5 ?_|refine RM.p3 ?_) |((with_reducible show force _ _);refine RM.f1 rfl ?_) |((with_reducible show wpOne _ _ _ _ _ _ _ _ _ _ _ _);refine RM.o8 rfl ?_) |fail)
  refine SemC.weaker (Weaker.trans (Weaker.addNil 3) (Weaker.toS (l := [(0, .sl (L.map (ePast men k row)) false), (3, wV (worstR (L.take 0))), (4, I64 ((0 : Nat)))]) (hp := [wB (worstR (L.take 0))]) 1 rfl ⟨Soft.refl _, Soft.nilRow, Soft.refl _, trivial⟩ (Nat.zero_le _) rfl (wB_inb _))) ?_
  refine SemC.loop (fun j : Nat => j ≤ L.length) (fun j => ⟨mkFr [(0, .sl (L.map (ePast men k row)) false), (3, wV (worstR (L.take j))), (4, I64 ((j : Nat)))], [wB (worstR (L.take j))], Amb.none, false, 0⟩) (fun j => L.length - j) ?_ 0 (Nat.zero_le _)
  intro j hj
  refine wpC_sound (mu := fun _ => false) ?_
  repeat' (first |with_reducible (first|refine RM.c2 ?_|refine RM.c4 ?_|refine RM.c9 ?_|refine RM.o1 ?_|refine RM.o2 ?_|refine RM.o4 ?_|refine RM.o5 ?_|refine RM.p2 ?_|refine RM.p5 ?_|refine RM.p6 ?_) |((with_reducible show force _ _);first|refine RM.f1 rfl ?_|refine RM.f2 rfl ?_) |((with_reducible show wpOne _ _ _ _ _ _ _ _ _ _ _ _);refine RM.o8 rfl ?_) |((with_reducible show wpBin _ _ _ _ _ _ _ _ _);refine RM.b6 rfl rfl ?_) |((with_reducible show wpLen _ _ _ _ _);refine RM.l1 rfl ?_) |fail)
  refine RM.e1 rfl ⟨fun hc => ?_, fun hc => ?_⟩
  · have hlt : j < L.length := by simpa only [el, decide_eq_true_eq, Int.ofNat_lt] using hc
    have hn : worstR (L.take (j + 1)) = worstStep (worstR (L.take j)) L[j] := take_step (List.getElem?_eq_getElem hlt)
    have hwl := worst_len (L.take j)
    rw [List.length_take] at hwl
    have hat : (L.map (ePast men k row))[((j : Nat) : Int).toNat]? = some (ePast men k row L[j]) := map_at hlt
    generalize worstR (L.take j) = w at *
    generalize hx : L[j] = x at *
    repeat' (first |with_reducible (first|refine RM.c1 ?_|refine RM.c2 ?_|refine RM.c3 ?_|refine RM.c4 ?_|refine RM.c9 ?_|refine RM.o1 ?_|refine RM.o2 ?_|refine RM.o4 ?_|refine RM.o5 ?_|refine RM.p3 ?_) |((with_reducible show force _ _);refine RM.f1 rfl ?_) |((with_reducible show wpOne _ _ _ _ _ _ _ _ _ _ _ _);refine RM.o8 rfl ?_) |fail)
    refine SemC.weaker (Weaker.to (l := [(0, .sl (L.map (ePast men k row)) false), (3, wV (w)), (4, I64 ((j : Nat))), (5, BB ((w.take 0).all (other x))), (6, I64 ((0 : Nat)))]) (hp := [wB w]) 1 rfl ⟨rfl, rfl, rfl, rfl, rfl, trivial⟩ (Nat.zero_le _) rfl (wB_inb _)) ?_
    refine SemC.loop (fun m : Nat => m ≤ w.length) (fun m => ⟨mkFr [(0, .sl (L.map (ePast men k row)) false), (3, wV (w)), (4, I64 ((j : Nat))), (5, BB ((w.take m).all (other x))), (6, I64 ((m : Nat)))], [wB w], Amb.none, false, 0⟩) (fun m => w.length - m) ?_ 0 (Nat.zero_le _)
    intro m hm
    refine wpC_sound (mu := fun _ => false) ?_
    repeat' (first |with_reducible (first|refine RM.c2 ?_|refine RM.c4 ?_|refine RM.c9 ?_|refine RM.o1 ?_|refine RM.o2 ?_|refine RM.o4 ?_|refine RM.o5 ?_|refine RM.p2 ?_|refine RM.p5 ?_|refine RM.p6 ?_) |((with_reducible show force _ _);first|refine RM.f1 rfl ?_|refine RM.f8 rfl ?_) |((with_reducible show wpOne _ _ _ _ _ _ _ _ _ _ _ _);refine RM.o8 rfl ?_) |((with_reducible show wpBin _ _ _ _ _ _ _ _ _);refine RM.b6 rfl rfl ?_) |((with_reducible show wpLen _ _ _ _ _);refine RM.l2 rfl ?_) |fail)
    refine RM.e1 rfl ⟨fun hc2 => ?_, fun hc2 => ?_⟩
    · have hlm : m < w.length := by simpa only [decide_eq_true_eq, Int.ofNat_lt] using hc2
      have hall := all_take (f := other x) hlm
      have hg1 : ((w.map eTruth).flatten)[0 + ((m : Nat) : Int).toNat * 3 + 1]? = some (I64 w[m].man) := by rw [Nat.zero_add]; exact low_get hlm (by decide)
      have hg2 : ((w.map eTruth).flatten)[0 + ((m : Nat) : Int).toNat * 3 + 2]? = some (I64 w[m].ship) := by rw [Nat.zero_add]; exact low_get hlm (by decide)
      have hot : other x w[m] = (!decide (w[m].man = x.man) || !decide (w[m].ship = x.ship)) := rfl
      cases hb : (w.take m).all (other x) with
      | false =>
        rw [hb, Bool.false_and] at hall
        repeat' (first |with_reducible (first|refine RM.c1 ?_|refine RM.c2 ?_|refine RM.c3 ?_|refine RM.c4 ?_|refine RM.c5 ?_|refine RM.c9 ?_|refine RM.d3 ?_|refine RM.o1 ?_|refine RM.o2 ?_|refine RM.o3 ?_|refine RM.o4 ?_|refine RM.o5 ?_|refine RM.p2 ?_|refine RM.p3 ?_|refine RM.p4 ?_|refine RM.p5 ?_) |((with_reducible show force _ _);refine RM.f1 rfl ?_) |((with_reducible show wpOne _ _ _ _ _ _ _ _ _ _ _ _);refine RM.o8 rfl ?_) |((with_reducible show wpDOne _ _ _ _ _ _ _ _ _ _);refine RM.p9 rfl ?_) |((with_reducible show wpGuard _ _ _ _ _);first|refine wpGuard_no rfl rfl rfl ?_|refine wpGuard_skip rfl rfl ?_) |((with_reducible show wpPick _ _ _ _ _);refine RM.k1 rfl ?_) |((with_reducible show wpPickB _ _ _ _ _);refine RM.k3 rfl ?_) |((with_reducible show wpBin _ _ _ _ _ _ _ _ _);refine RM.b1 rfl rfl (by omega) ?_) |(refine ⟨_, rfl, ?_⟩) |(refine And.intro (by kernel_rfl) ?_) |fail)
        exact ⟨m + 1, hlm, (by dsimp only; omega), Weaker.to 1 rfl ⟨rfl, rfl, rfl, bbc hall.symm, i64c (by simp), trivial⟩ (Nat.zero_le _) rfl (wB_inb _)⟩
      | true =>
        rw [hb, Bool.true_and, hot] at hall
        by_cases h1 : w[m].man = x.man
        · have d1 : (!decide (w[m].man = x.man)) = false := by rw [decide_eq_true h1]; rfl
          rw [d1, Bool.false_or] at hall
          repeat' (first |with_reducible (first|refine RM.c1 ?_|refine RM.c2 ?_|refine RM.c3 ?_|refine RM.c4 ?_|refine RM.c5 ?_|refine RM.c9 ?_|refine RM.d3 ?_|refine RM.o1 ?_|refine RM.o2 ?_|refine RM.o3 ?_|refine RM.o4 ?_|refine RM.o5 ?_|refine RM.p2 ?_|refine RM.p3 ?_|refine RM.p4 ?_|refine RM.p5 ?_) |((with_reducible show force _ _);first|refine RM.f1 rfl ?_|refine RM.f2 rfl ?_|refine RM.f3 rfl ?_|refine RM.f7 rfl ?_|refine RM.f8 rfl ?_) |((with_reducible show wpOne _ _ _ _ _ _ _ _ _ _ _ _);refine RM.o8 rfl ?_) |((with_reducible show wpDOne _ _ _ _ _ _ _ _ _ _);refine RM.p9 rfl ?_) |((with_reducible show wpGuard _ _ _ _ _);first|refine wpGuard_yes rfl rfl rfl ?_|refine wpGuard_yes rfl rfl (by assumption) ?_) |((with_reducible show wpPick _ _ _ _ _);refine RM.k1 rfl ?_) |((with_reducible show wpPickB _ _ _ _ _);first|refine RM.k2 rfl ?_|refine RM.k3 (by assumption) ?_) |((with_reducible show wpBin _ _ _ _ _ _ _ _ _);first|refine RM.b5 rfl rfl ?_|refine RM.b1 rfl rfl (by omega) ?_) |(refine ⟨_, rfl, ?_⟩) |(refine ⟨_, _, rfl, by decide, ?_⟩) |(refine And.intro (by omega) ?_) |(refine And.intro (by kernel_rfl) ?_) |(refine ⟨ePast men k row x, ⟨by omega, hat⟩, rfl, ?_⟩) |(refine ⟨_, _, rfl, _, hg1, ?_⟩) |(refine ⟨_, _, rfl, _, hg2, ?_⟩) |fail)
          exact ⟨m + 1, hlm, (by dsimp only; omega), Weaker.to 1 rfl ⟨rfl, rfl, rfl, bbc hall.symm, i64c (by simp), trivial⟩ (Nat.zero_le _) rfl (wB_inb _)⟩
        · have d1 : (!decide (w[m].man = x.man)) = true := by rw [decide_eq_false h1]; rfl
          rw [d1, Bool.true_or] at hall
          repeat' (first |with_reducible (first|refine RM.c1 ?_|refine RM.c2 ?_|refine RM.c3 ?_|refine RM.c4 ?_|refine RM.c5 ?_|refine RM.c9 ?_|refine RM.d3 ?_|refine RM.o1 ?_|refine RM.o2 ?_|refine RM.o3 ?_|refine RM.o4 ?_|refine RM.o5 ?_|refine RM.p2 ?_|refine RM.p3 ?_|refine RM.p4 ?_|refine RM.p5 ?_) |((with_reducible show force _ _);first|refine RM.f1 rfl ?_|refine RM.f2 rfl ?_|refine RM.f3 rfl ?_|refine RM.f7 rfl ?_|refine RM.f8 rfl ?_) |((with_reducible show wpOne _ _ _ _ _ _ _ _ _ _ _ _);refine RM.o8 rfl ?_) |((with_reducible show wpDOne _ _ _ _ _ _ _ _ _ _);refine RM.p9 rfl ?_) |((with_reducible show wpGuard _ _ _ _ _);first|refine wpGuard_yes rfl rfl rfl ?_|refine wpGuard_no rfl rfl (by assumption) ?_) |((with_reducible show wpPick _ _ _ _ _);refine RM.k1 rfl ?_) |((with_reducible show wpPickB _ _ _ _ _);first|refine RM.k2 rfl ?_|refine RM.k2 (by assumption) ?_) |((with_reducible show wpBin _ _ _ _ _ _ _ _ _);first|refine RM.b5 rfl rfl ?_|refine RM.b1 rfl rfl (by omega) ?_) |(refine ⟨_, rfl, ?_⟩) |(refine ⟨_, _, rfl, by decide, ?_⟩) |(refine And.intro (by omega) ?_) |(refine And.intro (by kernel_rfl) ?_) |(refine ⟨ePast men k row x, ⟨by omega, hat⟩, rfl, ?_⟩) |(refine ⟨_, _, rfl, _, hg1, ?_⟩) |fail)
          exact ⟨m + 1, hlm, (by dsimp only; omega), Weaker.to 1 rfl ⟨rfl, rfl, rfl, bbc hall.symm, i64c (by simp), trivial⟩ (Nat.zero_le _) rfl (wB_inb _)⟩
    · have hml : w.take m = w := List.take_of_length_le (by rw [decide_eq_false_iff_not] at hc2; omega)
      rw [hml]
      unfold worstStep at hn
      change worstR (L.take (j + 1)) = if w.all (other x) = true then w ++ [x] else w at hn
      cases hb : w.all (other x) with
      | true =>
        rw [hb, if_pos rfl] at hn
        repeat' (first |with_reducible (first|refine RM.c2 ?_|refine RM.c4 ?_|refine RM.c6 ?_|refine RM.c9 ?_|refine RM.d2 ?_|refine RM.o1 ?_|refine RM.o2 ?_|refine RM.o4 ?_|refine RM.o5 ?_|refine RM.p2 ?_|refine RM.q2 ?_) |((with_reducible show force _ _);first|refine RM.f1 rfl ?_|refine RM.f2 rfl ?_|refine RM.f3 rfl ?_|refine RM.f5 rfl ?_|refine RM.f8 rfl ?_) |((with_reducible show wpOne _ _ _ _ _ _ _ _ _ _ _ _);refine RM.o8 rfl ?_) |((with_reducible show wpC _ _ _ _ (.cond _ _ _) _ _);refine RM.e2 rfl rfl ?_) |((with_reducible show blockK _ _ _ _);refine RM.d5 rfl ?_) |(refine ⟨_, _, rfl, by decide, ?_⟩) |(refine ⟨rfl, rfl, rfl, ?_⟩) |(refine And.intro (Nat.le_of_ble_eq_true rfl) ?_) |(refine ⟨ePast men k row x, ⟨by omega, hat⟩, rfl, ?_⟩) |fail)
        refine ⟨[eTruth x], ⟨fun el hel => by rw [List.mem_singleton.1 hel]; rfl, rfl⟩, rfl, _, rfl, by rw [low_flen], Or.inr rfl, And.intro (by dsimp only [List.length]; omega) (by dsimp only [List.length]; omega), fun hn => absurd hn (by simp), fun _ => ?_⟩
        repeat' (first |with_reducible (first|refine RM.c4 ?_|refine RM.c9 ?_|refine RM.d3 ?_|refine RM.o1 ?_|refine RM.o2 ?_|refine RM.o4 ?_|refine RM.o5 ?_|refine RM.p2 ?_|refine RM.p3 ?_|refine RM.p5 ?_) |((with_reducible show force _ _);first|refine RM.f1 rfl ?_|refine RM.f8 rfl ?_) |((with_reducible show wpOne _ _ _ _ _ _ _ _ _ _ _ _);refine RM.o8 rfl ?_) |((with_reducible show wpBin _ _ _ _ _ _ _ _ _);refine RM.b1 rfl rfl (by omega) ?_) |fail)
        refine ⟨j + 1, hlt, (by dsimp only; omega), ?_⟩
        show Weaker _ ⟨mkFr [(0, .sl (L.map (ePast men k row)) false), (3, wV (worstR (L.take (j + 1)))), (4, I64 ((j + 1 : Nat)))], [wB (worstR (L.take (j + 1)))], Amb.none, false, 0⟩
        rw [hn]
        exact Weaker.to 1 (by rw [wB_snoc]; rfl) ⟨rfl, (by rw [wV_snoc]; rfl), i64c (by simp), trivial⟩ (Nat.zero_le _) rfl (wB_inb _)
      | false =>
        rw [hb, if_neg (by decide)] at hn
        repeat' (first |with_reducible (first|refine RM.c1 ?_|refine RM.c2 ?_|refine RM.c4 ?_|refine RM.c6 ?_|refine RM.c9 ?_|refine RM.d2 ?_|refine RM.d3 ?_|refine RM.o1 ?_|refine RM.o2 ?_|refine RM.o4 ?_|refine RM.o5 ?_|refine RM.p2 ?_|refine RM.p3 ?_|refine RM.p5 ?_|refine RM.q2 ?_) |((with_reducible show force _ _);refine RM.f1 rfl ?_) |((with_reducible show wpOne _ _ _ _ _ _ _ _ _ _ _ _);refine RM.o8 rfl ?_) |((with_reducible show wpC _ _ _ _ (.cond _ _ _) _ _);refine RM.e3 rfl rfl ?_) |((with_reducible show wpBin _ _ _ _ _ _ _ _ _);refine RM.b1 rfl rfl (by omega) ?_) |((with_reducible show blockK _ _ _ _);refine RM.d5 rfl ?_) |fail)
        refine ⟨j + 1, hlt, (by dsimp only; omega), ?_⟩
        show Weaker _ ⟨mkFr [(0, .sl (L.map (ePast men k row)) false), (3, wV (worstR (L.take (j + 1)))), (4, I64 ((j + 1 : Nat)))], [wB (worstR (L.take (j + 1)))], Amb.none, false, 0⟩
        rw [hn]
        exact Weaker.to 1 rfl ⟨rfl, rfl, i64c (by simp), trivial⟩ (Nat.zero_le _) rfl (wB_inb _)
  · have hjl : L.take j = L := List.take_of_length_le (by rw [el, decide_eq_false_iff_not] at hc; omega)
    rw [hjl]
    repeat' (first |with_reducible (first|refine RM.c2 ?_|refine RM.c4 ?_|refine RM.c6 ?_|refine RM.c7 ?_|refine RM.c9 ?_|refine RM.d2 ?_|refine RM.o1 ?_|refine RM.o2 ?_|refine RM.o4 ?_|refine RM.o5 ?_|refine RM.p2 ?_|refine RM.p3 ?_|refine RM.q2 ?_) |((with_reducible show force _ _);refine RM.f8 rfl ?_) |((with_reducible show wpOne _ _ _ _ _ _ _ _ _ _ _ _);refine RM.o8 rfl ?_) |((with_reducible show blockK _ _ _ _);refine RM.d5 rfl ?_) |fail)
    exact ⟨[_], ⟨wB_fz _, trivial⟩, rfl⟩
end Go.Proofs.Ytmkaeohmdcoanaa
open Go Go.RM
namespace Go.Proofs.Ytmkaeohmdcoanaa
set_option maxRecDepth 100000
set_option maxHeartbeats 4000000
theorem any_take {α : Type} {f : α → Bool} {l : List α} {j : Nat} (h : j < l.length) : (l.take (j + 1)).any f = ((l.take j).any f || f l[j]) := by
  rw [List.take_add_one, List.getElem?_eq_getElem h, List.any_append]
  simp
theorem rlast_c (one : Bool) {s : Stores} (hg : Good s) {i : Nat} (hi : i < s.kinds.length) {L : List Truth} {full : Bool} {down : Int} (hrun : ∀ t ∈ L, RunOk s.men s.kinds[i] (cargoRow i s.cargos) t) (hL : L.length ≤ 30000) :
    Pu one 76 [.ag (eStores s), I64 i, .sl (L.map eTruth) full, I64 down] (BB (!L.any (runsShort s.men s.kinds[i] (cargoRow i s.cargos) down))) := by
  have el : ((L.map eTruth).length : Int) = L.length := by simp
  have em : ((s.men.map eI).length : Int) = s.men.length := by simp
  refine PureV.body (fn := Try.f76) rfl rfl rfl rfl ?_
  refine wpC_sound (mu := fun _ => false) ?_
  repeat' (first |with_reducible (first|refine RM.c2 ?_|refine RM.c3 ?_|refine RM.c4 ?_|refine RM.c9 ?_|refine RM.o1 ?_|refine RM.o2 ?_|refine RM.o4 ?_|refine RM.o5 ?_|refine RM.p3 ?_) |((with_reducible show force _ _);first|refine RM.f1 rfl ?_|refine RM.f3 rfl ?_) |((with_reducible show wpOne _ _ _ _ _ _ _ _ _ _ _ _);refine RM.o8 rfl ?_) |(refine ⟨rfl, rfl, rfl, ?_⟩) |fail)
  refine SemC.weaker (Weaker.to (l := [(1, I64 i), (2, .sl (L.map eTruth) full), (3, I64 down), (4, .pt (eStores s) 0), (9, I64 (0 : Nat))]) (hp := []) 0 rfl ⟨rfl, rfl, rfl, rfl, rfl, trivial⟩ (Nat.zero_le _) rfl rfl) ?_
  refine SemC.loop (fun j : Nat => j ≤ L.length ∧ (L.take j).any (runsShort s.men s.kinds[i] (cargoRow i s.cargos) down) = false) (fun j => ⟨mkFr [(1, I64 i), (2, .sl (L.map eTruth) full), (3, I64 down), (4, .pt (eStores s) 0), (9, I64 (j : Nat))], [], Amb.none, false, 0⟩) (fun j => L.length - j) ?_ 0 ⟨Nat.zero_le _, rfl⟩
  rintro j ⟨hj, hno⟩
  refine wpC_sound (mu := fun _ => false) ?_
  repeat' (first |with_reducible (first|refine RM.c2 ?_|refine RM.c4 ?_|refine RM.c9 ?_|refine RM.o1 ?_|refine RM.o2 ?_|refine RM.o4 ?_|refine RM.o5 ?_|refine RM.p2 ?_|refine RM.p5 ?_|refine RM.p6 ?_) |((with_reducible show force _ _);first|refine RM.f1 rfl ?_|refine RM.f2 rfl ?_) |((with_reducible show wpOne _ _ _ _ _ _ _ _ _ _ _ _);refine RM.o8 rfl ?_) |((with_reducible show wpBin _ _ _ _ _ _ _ _ _);refine RM.b6 rfl rfl ?_) |((with_reducible show wpLen _ _ _ _ _);refine RM.l1 rfl ?_) |fail)
  refine RM.e1 rfl ⟨fun hc => ?_, fun hc => ?_⟩
  · have hlt : j < L.length := by simpa only [el, decide_eq_true_eq, Int.ofNat_lt] using hc
    have hat : (L.map eTruth)[((j : Nat) : Int).toNat]? = some (eTruth L[j]) := map_at hlt
    have hr := rrun_c true s hg i hi L[j] down (hrun _ (List.getElem_mem _))
    have hn := any_take (f := runsShort s.men s.kinds[i] (cargoRow i s.cargos) down) hlt
    rw [hno, Bool.false_or] at hn
    cases hb : runsShort s.men s.kinds[i] (cargoRow i s.cargos) down L[j] with
    | true =>
      have hd : decide (shortAt s.men s.kinds[i] (cargoRow i s.cargos) L[j] down s.men.length < s.men.length) = true := hb
      rw [← em] at hd
      have hany : L.any (runsShort s.men s.kinds[i] (cargoRow i s.cargos) down) = true := List.any_eq_true.2 ⟨_, List.getElem_mem hlt, hb⟩
      rw [hany]
      repeat' (first |with_reducible (first|refine RM.c1 ?_|refine RM.c2 ?_|refine RM.c3 ?_|refine RM.c4 ?_|refine RM.c5 ?_|refine RM.c7 ?_|refine RM.c9 ?_|refine RM.d1 ?_|refine RM.d4 ?_|refine RM.o1 ?_|refine RM.o2 ?_|refine RM.o3 ?_|refine RM.o4 ?_|refine RM.o5 ?_|refine RM.o9 ?_|refine RM.p1 ?_|refine RM.p2 ?_|refine RM.p3 ?_|refine RM.p5 ?_|refine RM.p6 ?_|refine RM.n1 ?_|refine RM.q1 ?_) |((with_reducible show force _ _);first|refine RM.f1 rfl ?_|refine RM.f2 rfl ?_|refine RM.f3 rfl ?_|refine RM.f4 rfl ?_|refine RM.f5 rfl ?_|refine RM.f6 rfl ?_) |((with_reducible show wpOne _ _ _ _ _ _ _ _ _ _ _ _);refine RM.o8 rfl ?_) |((with_reducible show wpDOne _ _ _ _ _ _ _ _ _ _);refine RM.p9 rfl ?_) |((with_reducible show wpC _ _ _ _ (.cond _ _ _) _ _);refine RM.e2 rfl (by assumption) ?_) |((with_reducible show wpBin _ _ _ _ _ _ _ _ _);refine RM.b6 rfl rfl ?_) |((with_reducible show wpLen _ _ _ _ _);refine RM.l1 rfl ?_) |(refine ⟨_, rfl, ?_⟩) |(refine ⟨_, _, rfl, by decide, ?_⟩) |(refine ⟨rfl, rfl, ?_⟩) |(refine And.intro (Nat.le_of_ble_eq_true rfl) ?_) |(refine And.intro (by kernel_rfl) ?_) |(refine ⟨eTruth L[j], ⟨by omega, hat⟩, rfl, ?_⟩) |(refine ⟨_, hr, ?_⟩) |fail)
      exact ⟨[_], ⟨Fz.deep rfl, trivial⟩, rfl⟩
    | false =>
      have hd : decide (shortAt s.men s.kinds[i] (cargoRow i s.cargos) L[j] down s.men.length < s.men.length) = false := hb
      rw [← em] at hd
      repeat' (first |with_reducible (first|refine RM.c1 ?_|refine RM.c2 ?_|refine RM.c3 ?_|refine RM.c4 ?_|refine RM.c5 ?_|refine RM.c9 ?_|refine RM.d3 ?_|refine RM.o1 ?_|refine RM.o2 ?_|refine RM.o3 ?_|refine RM.o4 ?_|refine RM.o5 ?_|refine RM.o9 ?_|refine RM.p1 ?_|refine RM.p2 ?_|refine RM.p3 ?_|refine RM.p5 ?_|refine RM.p6 ?_|refine RM.n1 ?_) |((with_reducible show force _ _);first|refine RM.f1 rfl ?_|refine RM.f2 rfl ?_|refine RM.f3 rfl ?_|refine RM.f4 rfl ?_|refine RM.f5 rfl ?_|refine RM.f6 rfl ?_) |((with_reducible show wpOne _ _ _ _ _ _ _ _ _ _ _ _);refine RM.o8 rfl ?_) |((with_reducible show wpDOne _ _ _ _ _ _ _ _ _ _);refine RM.p9 rfl ?_) |((with_reducible show wpC _ _ _ _ (.cond _ _ _) _ _);refine RM.e3 rfl (by assumption) ?_) |((with_reducible show wpBin _ _ _ _ _ _ _ _ _);first|refine RM.b6 rfl rfl ?_|refine RM.b1 rfl rfl (by omega) ?_) |((with_reducible show wpLen _ _ _ _ _);refine RM.l1 rfl ?_) |(refine ⟨_, rfl, ?_⟩) |(refine ⟨_, _, rfl, by decide, ?_⟩) |(refine ⟨rfl, rfl, ?_⟩) |(refine And.intro (Nat.le_of_ble_eq_true rfl) ?_) |(refine And.intro (by kernel_rfl) ?_) |(refine ⟨eTruth L[j], ⟨by omega, hat⟩, rfl, ?_⟩) |(refine ⟨_, hr, ?_⟩) |fail)
      exact ⟨j + 1, ⟨hlt, by rw [hn, hb]⟩, (by dsimp only; omega), Weaker.to 0 rfl ⟨rfl, rfl, rfl, rfl, i64c (by simp), trivial⟩ (Nat.zero_le _) rfl rfl⟩
  · have hjl : L.take j = L := List.take_of_length_le (by rw [el, decide_eq_false_iff_not] at hc; omega)
    rw [hjl] at hno
    rw [hno]
    repeat' (first |with_reducible (first|refine RM.c2 ?_|refine RM.c4 ?_|refine RM.c6 ?_|refine RM.c7 ?_|refine RM.c9 ?_|refine RM.d2 ?_|refine RM.o1 ?_|refine RM.o2 ?_|refine RM.o4 ?_|refine RM.o5 ?_|refine RM.p3 ?_|refine RM.q2 ?_) |((with_reducible show force _ _);refine RM.f1 rfl ?_) |((with_reducible show wpOne _ _ _ _ _ _ _ _ _ _ _ _);refine RM.o8 rfl ?_) |((with_reducible show blockK _ _ _ _);refine RM.d5 rfl ?_) |fail)
    exact ⟨[_], ⟨Fz.deep rfl, trivial⟩, rfl⟩
abbrev withC (s : Stores) (c : Cargo) : Stores := ⟨s.men, s.kinds, s.cargos ++ [c]⟩
theorem cargos_deep : ∀ L : List Cargo, deepL ((L.map eCargo).flatten) = true
  | [] => rfl
  | t :: L => by
    rw [List.map_cons, List.flatten_cons]
    exact deepL_append rfl (cargos_deep L)
theorem cargos_one : ∀ L : List Cargo, ((L.map eCargo).flatten).all AV.one = true
  | [] => rfl
  | t :: L => by
    rw [List.map_cons, List.flatten_cons, List.all_append, cargos_one L]
    rfl
theorem with_c (one : Bool) (s : Stores) (c : Cargo) (h : s.cargos.length ≤ 1000) : Pu one 47 [.ag (eStores s), .ag (eCargo c)] (.ag (eStores (withC s c))) := by
  show Pu one 47 [.ag [.sl (s.men.map eI) false, .sl (s.kinds.map eKind) false, .sl (s.cargos.map eCargo) false], .ag (eCargo c)] (.ag [.sl (s.men.map eI) false, .sl (s.kinds.map eKind) false, .sl ((s.cargos ++ [c]).map eCargo) false])
  have hd : deepL ((s.cargos.map eCargo).flatten) = true := cargos_deep s.cargos
  have ho := cargos_one s.cargos
  have hall : ∀ el ∈ s.cargos.map eCargo, el.length = 3 := fun el hel => by obtain ⟨y, _, rfl⟩ := List.mem_map.1 hel; rfl
  have hfl : (s.cargos.map eCargo).flatten.length = (s.cargos.map eCargo).length * 3 := flatten_len hall
  have hlen : (s.cargos.map eCargo).length ≤ 1000 := by rw [List.length_map]; exact h
  rw [show (s.cargos ++ [c]).map eCargo = s.cargos.map eCargo ++ [eCargo c] by simp]
  generalize s.cargos.map eCargo = cs at *
  have fin : ∀ (v n : Nat) (hp : List AB), n = cs.length → hp[2]? = some (.cells (cs.flatten ++ [eCargo c].flatten) 3 v) → Fz hp (.ag [.sl (s.men.map eI) false, .sl (s.kinds.map eKind) false, .osl 2 v 0 (n + 1) (n + 1 + 1)]) (.ag [.sl (s.men.map eI) false, .sl (s.kinds.map eKind) false, .sl (cs ++ [eCargo c]) false]) := by
    intro v n hp hn hv
    subst hn
    refine Fz.ag rfl ?_
    intro j a b ha hb
    match j, ha, hb with
    | 0, ha, hb => cases ha; cases hb; exact Fz.deep rfl
    | 1, ha, hb => cases ha; cases hb; exact Fz.deep rfl
    | 2, ha, hb =>
      cases ha
      cases hb
      refine Fz.row (es := 3) hv ?_ ?_ ?_ ?_ ?_ (fun h => Bool.noConfusion h)
      · rw [List.length_append, hfl]
        show 0 + (cs.length + 1) * 3 ≤ cs.length * 3 + 3
        omega
      · simp
      · intro el hel
        rcases List.mem_append.1 hel with h1 | h1
        · exact hall el h1
        · rw [List.mem_singleton.1 h1]; rfl
      · rw [List.flatten_append, List.drop_zero, List.take_of_length_le]
        rw [List.length_append, hfl]
        show cs.length * 3 + 3 ≤ _
        omega
      · rw [List.flatten_append]
        exact deepL_append hd rfl
    | j + 3, ha, hb => cases ha
  by_cases hne : cs = []
  · subst hne
    refine PureV.body (fn := Try.f47) rfl rfl rfl rfl ?_
    refine wpC_sound (mu := fun t => Nat.beq t 2 || Nat.beq t 5) ?_
    repeat' (first |with_reducible (first|refine RM.c2 ?_|refine RM.c4 ?_|refine RM.c5 ?_|refine RM.c9 ?_|refine RM.o1 ?_|refine RM.o2 ?_|refine RM.o3 ?_|refine RM.o4 ?_|refine RM.o5 ?_) |((with_reducible show force _ _);first|refine RM.f2 rfl ?_|refine RM.f7 rfl ?_) |((with_reducible show wpOne _ _ _ _ _ _ _ _ _ _ _ _);refine RM.o8 rfl ?_) |((with_reducible show wpDOne _ _ _ _ _ _ _ _ _ _);refine RM.p9 rfl ?_) |(refine ⟨_, rfl, ?_⟩) |(refine ⟨_, _, rfl, by decide, ?_⟩) |(refine ⟨rfl, rfl, rfl, ?_⟩) |(refine ⟨_, _, rfl, _, rfl, ?_⟩) |(refine And.intro (by kernel_rfl) ?_) |fail)
    refine ⟨[], ⟨fun el hel => (by cases hel), rfl⟩, rfl, _, rfl, rfl, Or.inl rfl, And.intro (by decide) (by decide), fun _ => ?_, fun h => absurd rfl h⟩
    repeat' (first |with_reducible (first|refine RM.o3 ?_|refine RM.o4 ?_|refine RM.o5 ?_) |((with_reducible show force _ _);first|refine RM.f2 rfl ?_|refine RM.f5 rfl ?_|refine RM.f8 rfl ?_) |((with_reducible show wpDOne _ _ _ _ _ _ _ _ _ _);refine RM.p9 rfl ?_) |(refine ⟨_, rfl, ?_⟩) |(refine ⟨rfl, rfl, rfl, ?_⟩) |(refine ⟨rfl, rfl, ?_⟩) |(refine And.intro (Nat.le_of_ble_eq_true rfl) ?_) |(refine And.intro (by kernel_rfl) ?_) |fail)
    refine ⟨[eCargo c], ⟨fun el hel => by rw [List.mem_singleton.1 hel]; rfl, rfl⟩, rfl, _, rfl, rfl, Or.inl rfl, And.intro (by show (0 + 1) * 24 ≤ _; decide) (by show 0 + 1 ≤ _; decide), fun hn => absurd hn (by simp), fun _ => ?_⟩
    repeat' (first |with_reducible (first|refine RM.c2 ?_|refine RM.c4 ?_|refine RM.c7 ?_|refine RM.c9 ?_|refine RM.o1 ?_|refine RM.o2 ?_|refine RM.o3 ?_|refine RM.o4 ?_|refine RM.o5 ?_|refine RM.o6 ?_) |((with_reducible show force _ _);first|refine RM.f5 rfl ?_|refine RM.f7 rfl ?_|refine RM.f8 rfl ?_|refine RM.g2 rfl ?_) |((with_reducible show wpOne _ _ _ _ _ _ _ _ _ _ _ _);refine RM.o8 rfl ?_) |((with_reducible show wpDOne _ _ _ _ _ _ _ _ _ _);refine RM.p9 rfl ?_) |(refine ⟨_, rfl, ?_⟩) |(refine ⟨_, _, rfl, by decide, ?_⟩) |(refine And.intro (by kernel_rfl) ?_) |(refine ⟨_, _, rfl, rfl, rfl, rfl, Nat.le_of_ble_eq_true rfl, ?_⟩) |(refine ⟨_, _, rfl, Nat.le_of_ble_eq_true rfl, ?_⟩) |fail)
    exact ⟨[_], ⟨fin 1 0 _ rfl rfl, trivial⟩, rfl⟩
  · refine PureV.body (fn := Try.f47) rfl rfl rfl rfl ?_
    refine wpC_sound (mu := fun t => Nat.beq t 2 || Nat.beq t 5) ?_
    repeat' (first |with_reducible (first|refine RM.c2 ?_|refine RM.c4 ?_|refine RM.c5 ?_|refine RM.c9 ?_|refine RM.o1 ?_|refine RM.o2 ?_|refine RM.o3 ?_|refine RM.o4 ?_|refine RM.o5 ?_) |((with_reducible show force _ _);first|refine RM.f2 rfl ?_|refine RM.f7 rfl ?_) |((with_reducible show wpOne _ _ _ _ _ _ _ _ _ _ _ _);refine RM.o8 rfl ?_) |((with_reducible show wpDOne _ _ _ _ _ _ _ _ _ _);refine RM.p9 rfl ?_) |(refine ⟨_, rfl, ?_⟩) |(refine ⟨_, _, rfl, by decide, ?_⟩) |(refine ⟨rfl, rfl, rfl, ?_⟩) |(refine ⟨_, _, rfl, _, rfl, ?_⟩) |(refine And.intro (by kernel_rfl) ?_) |fail)
    refine ⟨cs, ⟨hall, rfl⟩, ho, _, rfl, rfl, Or.inl rfl, And.intro (by show (0 + cs.length) * 24 ≤ _; omega) (by show 0 + cs.length ≤ _; omega), fun h => absurd h hne, fun _ => ?_⟩
    repeat' (first |with_reducible (first|refine RM.o3 ?_|refine RM.o4 ?_|refine RM.o5 ?_) |((with_reducible show force _ _);first|refine RM.f2 rfl ?_|refine RM.f5 rfl ?_|refine RM.f8 rfl ?_) |((with_reducible show wpDOne _ _ _ _ _ _ _ _ _ _);refine RM.p9 rfl ?_) |(refine ⟨_, rfl, ?_⟩) |(refine ⟨rfl, rfl, rfl, ?_⟩) |(refine ⟨rfl, rfl, ?_⟩) |(refine And.intro (Nat.le_of_ble_eq_true rfl) ?_) |(refine And.intro (by kernel_rfl) ?_) |fail)
    refine ⟨[eCargo c], ⟨fun el hel => by rw [List.mem_singleton.1 hel]; rfl, rfl⟩, rfl, _, rfl, (by show (([] : List AV) ++ cs.flatten).length = (0 + cs.length) * 3; rw [List.nil_append, hfl, Nat.zero_add]), Or.inr rfl, And.intro (by show (0 + cs.length + 1) * 24 ≤ _; omega) (by show 0 + cs.length + 1 ≤ _; omega), fun hn => absurd hn (by simp), fun _ => ?_⟩
    repeat' (first |with_reducible (first|refine RM.c2 ?_|refine RM.c4 ?_|refine RM.c7 ?_|refine RM.c9 ?_|refine RM.o1 ?_|refine RM.o2 ?_|refine RM.o3 ?_|refine RM.o4 ?_|refine RM.o5 ?_|refine RM.o6 ?_) |((with_reducible show force _ _);first|refine RM.f5 rfl ?_|refine RM.f7 rfl ?_|refine RM.f8 rfl ?_|refine RM.g2 rfl ?_) |((with_reducible show wpOne _ _ _ _ _ _ _ _ _ _ _ _);refine RM.o8 rfl ?_) |((with_reducible show wpDOne _ _ _ _ _ _ _ _ _ _);refine RM.p9 rfl ?_) |(refine ⟨_, rfl, ?_⟩) |(refine ⟨_, _, rfl, by decide, ?_⟩) |(refine And.intro (by kernel_rfl) ?_) |(refine ⟨_, _, rfl, rfl, rfl, rfl, Nat.le_of_ble_eq_true rfl, ?_⟩) |(refine ⟨_, _, rfl, Nat.le_of_ble_eq_true rfl, ?_⟩) |fail)
    exact ⟨[_], ⟨fin 2 (0 + cs.length) _ (Nat.zero_add _) rfl, trivial⟩, rfl⟩
end Go.Proofs.Ytmkaeohmdcoanaa
open Go Go.RM
namespace Go.Proofs.Ytmkaeohmdcoanaa
set_option maxRecDepth 100000
theorem truthOk_iff {k : Kind} {t : Truth} : truthOk k t = true ↔ (k.first.lo ≤ t.first ∧ t.first ≤ k.first.hi) ∧ (k.man.lo ≤ t.man ∧ t.man ≤ k.man.hi) ∧ k.ship.lo ≤ t.ship ∧ t.ship ≤ k.ship.hi := by
  unfold truthOk
  simp only [Bool.and_eq_true, inB_iff]
theorem all_iff {men : List Int} {k : Kind} {row : List Int} {l : List Count} {i : Nat} {t : Truth} : t ∈ allOf men k row l i ↔ (truthOk k t = true ∧ agr men k row l i t = true) := by
  unfold allOf pastN
  rw [List.mem_filter, List.mem_map]
  constructor
  · rintro ⟨⟨q, hq, rfl⟩, ha⟩
    rw [List.mem_range] at hq
    refine ⟨?_, ha⟩
    have hP : 0 < spanN k.ship := by
      apply Nat.pos_of_ne_zero
      intro h0
      rw [h0, Nat.mul_zero] at hq
      exact absurd hq (Nat.not_lt_zero _)
    have hM : 0 < spanN k.man := by
      apply Nat.pos_of_ne_zero
      intro h0
      rw [h0, Nat.mul_zero, Nat.zero_mul] at hq
      exact absurd hq (Nat.not_lt_zero _)
    have h1 : q / spanN k.ship % spanN k.man < spanN k.man := Nat.mod_lt _ hM
    have h2 : q % spanN k.ship < spanN k.ship := Nat.mod_lt _ hP
    have h3 : q / spanN k.ship / spanN k.man < spanN k.first := by
      rw [Nat.div_lt_iff_lt_mul hM, Nat.div_lt_iff_lt_mul hP]
      exact hq
    rw [truthOk_iff]
    unfold truthQ
    dsimp only
    generalize q / spanN k.ship % spanN k.man = x at *
    generalize q % spanN k.ship = y at *
    generalize q / spanN k.ship / spanN k.man = z at *
    clear hq hP hM ha
    unfold spanN at *
    omega
  · rintro ⟨ht, ha⟩
    refine ⟨?_, ha⟩
    rw [truthOk_iff] at ht
    obtain ⟨a, b, c⟩ := t
    dsimp only at ht
    obtain ⟨x, rfl⟩ : ∃ x : Nat, a = k.first.lo + x := ⟨(a - k.first.lo).toNat, by omega⟩
    obtain ⟨y, rfl⟩ : ∃ x : Nat, b = k.man.lo + x := ⟨(b - k.man.lo).toNat, by omega⟩
    obtain ⟨z, rfl⟩ : ∃ x : Nat, c = k.ship.lo + x := ⟨(c - k.ship.lo).toNat, by omega⟩
    have hx : x < spanN k.first := by unfold spanN; omega
    have hy : y < spanN k.man := by unfold spanN; omega
    have hz : z < spanN k.ship := by unfold spanN; omega
    refine ⟨(x * spanN k.man + y) * spanN k.ship + z, ?_, truthQ_at k hy hz⟩
    rw [List.mem_range]
    have q1 : (x + 1) * spanN k.man ≤ spanN k.first * spanN k.man := Nat.mul_le_mul_right _ hx
    rw [Nat.add_mul, Nat.one_mul] at q1
    have q2 : (x * spanN k.man + y + 1) * spanN k.ship ≤ spanN k.first * spanN k.man * spanN k.ship := Nat.mul_le_mul_right _ (by omega)
    rw [Nat.add_mul, Nat.one_mul] at q2
    omega
end Go.Proofs.Ytmkaeohmdcoanaa
open Go Go.RM
namespace Go.Proofs.Ytmkaeohmdcoanaa
set_option maxRecDepth 100000
set_option maxHeartbeats 4000000
def rationV (r : Int) : AV := if r < 0 then .tp [I64 0, I64 9] else .tp [I64 r, I64 0]
theorem rationV_deep (r : Int) : (rationV r).deep = true := by
  unfold rationV
  split <;> rfl
theorem ration_err (one : Bool) (s : Stores) (h : s.Ok) (l : List Count) (hl : l.length ≤ maxLen) (kd : Int) (he : askErr s l kd ≠ 0) : Pu one 31 [.ag (eStores s), .sl (l.map eCount) false, I64 kd] (.tp [I64 0, I64 (askErr s l kd)]) := by
  have hen := enter_err one s h l hl kd he
  have d1 : decide (askErr s l kd = 0) = false := by simpa using he
  have d2 : (!decide (askErr s l kd = 0)) = true := by simpa using he
  refine PureV.body (fn := Try.f31) rfl rfl rfl rfl ?_
  refine wpC_sound (mu := fun _ => false) ?_
  repeat' (first |with_reducible (first|refine RM.c1 ?_|refine RM.c2 ?_|refine RM.c4 ?_|refine RM.c7 ?_|refine RM.c9 ?_|refine RM.d1 ?_|refine RM.o1 ?_|refine RM.o2 ?_|refine RM.o4 ?_|refine RM.o5 ?_|refine RM.o6 ?_|refine RM.o7 ?_|refine RM.o9 ?_|refine RM.p1 ?_|refine RM.p2 ?_|refine RM.p3 ?_|refine RM.p5 ?_) |((with_reducible show force _ _);first|refine RM.f1 rfl ?_|refine RM.f2 rfl ?_|refine RM.f3 rfl ?_|refine RM.f4 rfl ?_|refine RM.f5 rfl ?_|refine RM.f6 rfl ?_|refine RM.f7 rfl ?_|refine RM.g2 rfl ?_) |((with_reducible show wpOne _ _ _ _ _ _ _ _ _ _ _ _);refine RM.o8 rfl ?_) |((with_reducible show wpC _ _ _ _ (.cond _ _ _) _ _);first|refine RM.e2 rfl (by assumption) ?_|refine RM.e3 rfl (by assumption) ?_) |((with_reducible show wpBin _ _ _ _ _ _ _ _ _);first|refine RM.b4 rfl rfl ?_|refine RM.b5 rfl rfl ?_) |(refine ⟨_, rfl, ?_⟩) |(refine ⟨_, _, rfl, by decide, ?_⟩) |(refine ⟨rfl, rfl, rfl, ?_⟩) |(refine ⟨rfl, rfl, ?_⟩) |(refine And.intro (Nat.le_of_ble_eq_true rfl) ?_) |(refine And.intro (by kernel_rfl) ?_) |(refine PureV.call hen rfl rfl ?_) |fail)
  exact ⟨[_, _], ⟨Fz.deep rfl, Fz.deep rfl, trivial⟩, rfl⟩
theorem ration_none (one : Bool) (s : Stores) (h : s.Ok) (l : List Count) (h0 : cntsErr s l = 0) (i : Nat) (hi : i < s.kinds.length) (he : truthsL s.men s.kinds[i] (cargoRow i s.cargos) (cntsOf l i) = []) :
    Pu one 31 [.ag (eStores s), .sl (l.map eCount) false, I64 i] (.tp [I64 0, I64 9]) := by
  have hh := holdOk h0 hi
  have hen := enter_ok one s h l h0 i hi
  have h30 := hh.row.len
  have hkn := known_c one hh
  rw [if_pos he] at hkn
  generalize cargoRow i s.cargos = row at *
  generalize s.kinds[i] = k at *
  refine PureV.body (fn := Try.f31) rfl rfl rfl rfl ?_
  refine wpC_sound (mu := fun _ => false) ?_
  repeat' (first |(refine stH h30 rfl rfl rfl rfl ?_) |(refine ldHO h30 rfl rfl ?_) |with_reducible (first|refine RM.c2 ?_|refine RM.c4 ?_|refine RM.c7 ?_|refine RM.c9 ?_|refine RM.d1 ?_|refine RM.o1 ?_|refine RM.o2 ?_|refine RM.o4 ?_|refine RM.o5 ?_|refine RM.o6 ?_|refine RM.o7 ?_|refine RM.o9 ?_|refine RM.p1 ?_|refine RM.p2 ?_|refine RM.p3 ?_|refine RM.p5 ?_) |((with_reducible show force _ _);first|refine RM.f1 rfl ?_|refine RM.f2 rfl ?_|refine RM.f3 rfl ?_|refine RM.f4 rfl ?_|refine RM.f5 rfl ?_|refine RM.f6 rfl ?_|refine RM.f7 rfl ?_|refine RM.g2 rfl ?_) |((with_reducible show wpOne _ _ _ _ _ _ _ _ _ _ _ _);refine RM.o8 rfl ?_) |((with_reducible show wpC _ _ _ _ (.cond _ _ _) _ _);refine RM.e2 rfl rfl ?_) |((with_reducible show wpBin _ _ _ _ _ _ _ _ _);first|refine RM.b4 rfl rfl ?_|refine RM.b5 rfl rfl ?_) |(refine ⟨_, rfl, ?_⟩) |(refine ⟨rfl, rfl, rfl, ?_⟩) |(refine And.intro (Nat.le_of_ble_eq_true rfl) ?_) |(refine And.intro (by kernel_rfl) ?_) |(refine PureV.call hen rfl rfl ?_) |(refine PureV.call hkn rfl (hdeep rfl) ?_) |fail)
  exact ⟨[_, _], ⟨Fz.deep rfl, Fz.deep rfl, trivial⟩, rfl⟩
theorem ration_okT (one : Bool) (s : Stores) (h : s.Ok) (l : List Count) (h0 : cntsErr s l = 0) (i : Nat) (hi : i < s.kinds.length) (he : truthsL s.men s.kinds[i] (cargoRow i s.cargos) (cntsOf l i) ≠ []) (r : Int)
    (hr : lastD (fun d => !(lows s l i s.kinds[i]).any (runsShort s.men s.kinds[i] (cargoRow i s.cargos) d)) (s.men.length + 1) = r) :
    Pu one 31 [.ag (eStores s), .sl (l.map eCount) false, I64 i] (rationV r) := by
  have em : ((s.men.map eI).length : Int) = s.men.length := by simp
  have hh := holdOk h0 hi
  have hen := enter_ok one s h l h0 i hi
  have h30 := hh.row.len
  have hkn := known_c one hh
  rw [if_neg he] at hkn
  have hw := worst_c one hh
  have hlen : (lows s l i s.kinds[i]).length ≤ maxLen := by rw [List.length_map]; have := truthsL_len hh; unfold maxLen; omega
  have hrun : ∀ t ∈ lows s l i s.kinds[i], RunOk s.men s.kinds[i] (cargoRow i s.cargos) t := fun t ht => by
    obtain ⟨y, hy, rfl⟩ := List.mem_map.1 ht
    exact (truthsL_run hh hy).1.1
  have hla := fun d : Nat => lasts_c one (s := s) (k := s.kinds[i]) (row := cargoRow i s.cargos) (cnts := (cntsOf l i).map eCount) (L := lows s l i s.kinds[i]) (full := false) (down := d) hrun hlen
  have hm9 := sizes_9 hh.good.sizes
  unfold lows at hr hla hrun
  clear he hh hrun
  generalize (truthsL s.men s.kinds[i] (cargoRow i s.cargos) (cntsOf l i)).map Prod.fst = L at *
  generalize cargoRow i s.cargos = row at *
  generalize s.kinds[i] = k at *
  refine PureV.body (fn := Try.f31) rfl rfl rfl (rationV_deep r) ?_
  refine wpC_sound (mu := fun _ => false) ?_
  repeat' (first |(refine stH (s := s) (k := k) (row := row) h30 rfl rfl rfl rfl ?_) |(refine ldHO (s := s) (k := k) (row := row) h30 rfl rfl ?_) |with_reducible (first|refine RM.c1 ?_|refine RM.c2 ?_|refine RM.c3 ?_|refine RM.c4 ?_|refine RM.c9 ?_|refine RM.o1 ?_|refine RM.o2 ?_|refine RM.o4 ?_|refine RM.o5 ?_|refine RM.o6 ?_|refine RM.o7 ?_|refine RM.o9 ?_|refine RM.p1 ?_|refine RM.p2 ?_|refine RM.p3 ?_|refine RM.p5 ?_|refine RM.p6 ?_) |((with_reducible show force _ _);first|refine RM.f1 rfl ?_|refine RM.f2 rfl ?_|refine RM.f3 rfl ?_|refine RM.f4 rfl ?_|refine RM.f5 rfl ?_|refine RM.f6 rfl ?_|refine RM.f7 rfl ?_|refine RM.g2 rfl ?_) |((with_reducible show wpOne _ _ _ _ _ _ _ _ _ _ _ _);refine RM.o8 rfl ?_) |((with_reducible show wpC _ _ _ _ (.cond _ _ _) _ _);first|refine RM.e2 rfl rfl ?_|refine RM.e3 rfl rfl ?_) |((with_reducible show wpBin _ _ _ _ _ _ _ _ _);first|refine RM.b4 rfl rfl ?_|refine RM.b5 rfl rfl ?_) |((with_reducible show wpLen _ _ _ _ _);refine RM.l1 rfl ?_) |(refine ⟨_, rfl, ?_⟩) |(refine ⟨_, _, rfl, by decide, ?_⟩) |(refine ⟨rfl, rfl, rfl, ?_⟩) |(refine ⟨_, _, rfl, _, rfl, ?_⟩) |(refine And.intro (Nat.le_of_ble_eq_true rfl) ?_) |(refine And.intro (by kernel_rfl) ?_) |(refine PureV.call hen rfl rfl ?_) |(refine PureV.call hkn rfl (hdeep rfl) ?_) |(refine PureV.call hw rfl (hdeep rfl) ?_) |fail)
  rw [em]
  have hin : ([.cells (eHoldV s k row (.sl ((cntsOf l i).map eCount) false)) 0 0] : List AB).all (AB.inb 1) = true := by
    show (inbL 1 (eHoldV s k row (.sl ((cntsOf l i).map eCount) false)) && true) = true
    rw [show inbL 1 (eHoldV s k row (.sl ((cntsOf l i).map eCount) false)) = true from deep_inb 1 (.ag _) (eHold_deep (s := s) (k := k) (row := row) (c := .sl ((cntsOf l i).map eCount) false) rfl)]
    rfl
  refine SemC.weaker (Weaker.to (l := [(8, .ptr 0 0 0), (10, .sl (L.map eTruth) false), (11, I64 (s.men.length))]) (hp := [.cells (eHoldV s k row (.sl ((cntsOf l i).map eCount) false)) 0 0]) 1 rfl ⟨rfl, rfl, rfl, trivial⟩ (Nat.zero_le _) rfl hin) ?_
  refine SemC.loop (fun x : Int => ∃ m : Nat, x = (m : Int) - 1 ∧ m ≤ s.men.length + 1 ∧ lastD (fun d => !L.any (runsShort s.men k row d)) m = r) (fun x => ⟨mkFr [(8, .ptr 0 0 0), (10, .sl (L.map eTruth) false), (11, I64 (x))], [.cells (eHoldV s k row (.sl ((cntsOf l i).map eCount) false)) 0 0], Amb.none, false, 0⟩) (fun x => (x + 1).toNat) ?_ (s.men.length : Int) ⟨s.men.length + 1, by omega, Nat.le_refl _, hr⟩
  rintro x ⟨m, hx, hm, hq⟩
  refine wpC_sound (mu := fun _ => false) ?_
  repeat' (first |with_reducible (first|refine RM.c2 ?_|refine RM.c4 ?_|refine RM.c9 ?_|refine RM.o1 ?_|refine RM.o2 ?_|refine RM.o4 ?_|refine RM.o5 ?_|refine RM.p2 ?_|refine RM.p5 ?_) |((with_reducible show force _ _);refine RM.f1 rfl ?_) |((with_reducible show wpOne _ _ _ _ _ _ _ _ _ _ _ _);refine RM.o8 rfl ?_) |((with_reducible show wpBin _ _ _ _ _ _ _ _ _);refine RM.b9 rfl rfl ?_) |fail)
  refine RM.e1 rfl ⟨fun hc => ?_, fun hc => ?_⟩
  · rw [decide_eq_true_eq] at hc
    obtain ⟨d, rfl⟩ : ∃ d : Nat, x = d := ⟨x.toNat, by omega⟩
    have hmd : m = d + 1 := by omega
    subst hmd
    have hla := hla d
    unfold lastD at hq
    cases hb : !L.any (runsShort s.men k row (d : Int)) with
    | true =>
      rw [hb] at hla
      rw [hb, if_pos rfl] at hq
      have hv : rationV r = .tp [I64 d, I64 0] := by
        unfold rationV
        rw [if_neg (by omega), hq]
      rw [hv]
      repeat' (first |(refine ldHO (s := s) (k := k) (row := row) h30 rfl rfl ?_) |with_reducible (first|refine RM.c1 ?_|refine RM.c2 ?_|refine RM.c3 ?_|refine RM.c4 ?_|refine RM.c7 ?_|refine RM.c9 ?_|refine RM.d1 ?_|refine RM.d4 ?_|refine RM.o1 ?_|refine RM.o2 ?_|refine RM.o4 ?_|refine RM.o5 ?_|refine RM.o7 ?_|refine RM.o9 ?_|refine RM.p1 ?_|refine RM.p2 ?_|refine RM.p3 ?_|refine RM.q1 ?_) |((with_reducible show force _ _);first|refine RM.f1 rfl ?_|refine RM.f2 rfl ?_|refine RM.f4 rfl ?_|refine RM.f5 rfl ?_) |((with_reducible show wpOne _ _ _ _ _ _ _ _ _ _ _ _);refine RM.o8 rfl ?_) |((with_reducible show wpC _ _ _ _ (.cond _ _ _) _ _);refine RM.e2 rfl rfl ?_) |(refine PureV.call hla rfl (hdeep rfl) ?_) |fail)
      exact ⟨[_, _], ⟨Fz.deep rfl, Fz.deep rfl, trivial⟩, rfl⟩
    | false =>
      rw [hb] at hla
      rw [hb, if_neg (by decide)] at hq
      repeat' (first |(refine ldHO (s := s) (k := k) (row := row) h30 rfl rfl ?_) |with_reducible (first|refine RM.c1 ?_|refine RM.c2 ?_|refine RM.c3 ?_|refine RM.c4 ?_|refine RM.c9 ?_|refine RM.d3 ?_|refine RM.o1 ?_|refine RM.o2 ?_|refine RM.o4 ?_|refine RM.o5 ?_|refine RM.o7 ?_|refine RM.o9 ?_|refine RM.p1 ?_|refine RM.p2 ?_|refine RM.p3 ?_|refine RM.p5 ?_) |((with_reducible show force _ _);first|refine RM.f1 rfl ?_|refine RM.f2 rfl ?_|refine RM.f4 rfl ?_|refine RM.f5 rfl ?_) |((with_reducible show wpOne _ _ _ _ _ _ _ _ _ _ _ _);refine RM.o8 rfl ?_) |((with_reducible show wpC _ _ _ _ (.cond _ _ _) _ _);refine RM.e3 rfl rfl ?_) |((with_reducible show wpBin _ _ _ _ _ _ _ _ _);refine RM.b2 rfl rfl (by omega) ?_) |(refine PureV.call hla rfl (hdeep rfl) ?_) |fail)
      exact ⟨(d : Int) - 1, ⟨d, rfl, by omega, hq⟩, (by dsimp only; omega), Weaker.to 1 rfl ⟨rfl, rfl, rfl, trivial⟩ (Nat.zero_le _) rfl hin⟩
  · rw [decide_eq_false_iff_not] at hc
    have hm0 : m = 0 := by omega
    subst hm0
    have hv : rationV r = .tp [I64 0, I64 9] := by
      unfold rationV
      rw [if_pos (by rw [← hq]; show (-1 : Int) < 0; decide)]
    rw [hv]
    repeat' (first |with_reducible (first|refine RM.c2 ?_|refine RM.c4 ?_|refine RM.c6 ?_|refine RM.c7 ?_|refine RM.c9 ?_|refine RM.d2 ?_|refine RM.o1 ?_|refine RM.o2 ?_|refine RM.o4 ?_|refine RM.o5 ?_|refine RM.p3 ?_|refine RM.q2 ?_) |((with_reducible show force _ _);refine RM.f1 rfl ?_) |((with_reducible show wpOne _ _ _ _ _ _ _ _ _ _ _ _);refine RM.o8 rfl ?_) |((with_reducible show blockK _ _ _ _);refine RM.d5 rfl ?_) |fail)
    exact ⟨[_, _], ⟨Fz.deep rfl, Fz.deep rfl, trivial⟩, rfl⟩
theorem rration_err (one : Bool) (s : Stores) (h : s.Ok) (l : List Count) (hl : l.length ≤ maxLen) (kd : Int) (he : askErr s l kd ≠ 0) : Pu one 32 [.ag (eStores s), .sl (l.map eCount) false, I64 kd] (.tp [I64 0, I64 (askErr s l kd)]) := by
  have ha := asked_c true s h l hl kd
  have hk := rknown_err true s (.sl (l.map eCount) false) kd _ he
  have d1 : (!decide (askErr s l kd = 0)) = true := by simpa using he
  refine PureV.body (fn := Try.f32) rfl rfl rfl rfl ?_
  refine wpC_sound (mu := fun _ => false) ?_
  repeat' (first |with_reducible (first|refine RM.c2 ?_|refine RM.c4 ?_|refine RM.c5 ?_|refine RM.c7 ?_|refine RM.c9 ?_|refine RM.d1 ?_|refine RM.o1 ?_|refine RM.o2 ?_|refine RM.o3 ?_|refine RM.o4 ?_|refine RM.o5 ?_|refine RM.o9 ?_|refine RM.p1 ?_|refine RM.p2 ?_|refine RM.p3 ?_|refine RM.p5 ?_|refine RM.n1 ?_) |((with_reducible show force _ _);first|refine RM.f1 rfl ?_|refine RM.f2 rfl ?_|refine RM.f3 rfl ?_|refine RM.f4 rfl ?_|refine RM.f5 rfl ?_|refine RM.f6 rfl ?_) |((with_reducible show wpOne _ _ _ _ _ _ _ _ _ _ _ _);refine RM.o8 rfl ?_) |((with_reducible show wpDOne _ _ _ _ _ _ _ _ _ _);refine RM.p9 rfl ?_) |((with_reducible show wpC _ _ _ _ (.cond _ _ _) _ _);refine RM.e2 rfl (by assumption) ?_) |((with_reducible show wpBin _ _ _ _ _ _ _ _ _);refine RM.b5 rfl rfl ?_) |(refine ⟨_, rfl, ?_⟩) |(refine ⟨rfl, rfl, rfl, ?_⟩) |(refine ⟨rfl, rfl, ?_⟩) |(refine And.intro (Nat.le_of_ble_eq_true rfl) ?_) |(refine And.intro (by kernel_rfl) ?_) |(refine ⟨_, ha, ?_⟩) |(refine ⟨_, hk, ?_⟩) |fail)
  exact ⟨[_, _], ⟨Fz.deep rfl, Fz.deep rfl, trivial⟩, rfl⟩
theorem rration_ok (one : Bool) (s : Stores) (h : s.Ok) (l : List Count) (h0 : cntsErr s l = 0) (i : Nat) (hi : i < s.kinds.length) (r : Int)
    (hr : lastD (fun d => !(worstR (allS s l i s.kinds[i])).any (runsShort s.men s.kinds[i] (cargoRow i s.cargos) d)) (s.men.length + 1) = r) :
    Pu one 32 [.ag (eStores s), .sl (l.map eCount) false, I64 i] (if allS s l i s.kinds[i] = [] then .tp [I64 0, I64 9] else rationV r) := by
  obtain ⟨hg, hl8, _⟩ := cnts_good h0
  have hh := holdOk h0 hi
  have em : ((s.men.map eI).length : Int) = s.men.length := by simp
  have ha := asked_c true s h l (by unfold maxLen; omega) i
  rw [ask_ok h0 hi] at ha
  have hk := rknown_ok true s l h0 i hi
  have hL := all_len s l h0 i hi
  have hw := rworst_c one s.men s.kinds[i] (cargoRow i s.cargos) (allS s l i s.kinds[i]) hL
  have hwl := worst_len (allS s l i s.kinds[i])
  have hrun : ∀ t ∈ worstR (allS s l i s.kinds[i]), RunOk s.men s.kinds[i] (cargoRow i s.cargos) t := fun t ht => by
    rcases worst_mem ht with h1 | h1
    · cases h1
    · have h2 := truthOk_iff.1 (all_iff.1 h1).1
      exact hh.run h2.1 h2.2.1 h2.2.2
  have hla := fun d : Nat => rlast_c one hg hi (L := worstR (allS s l i s.kinds[i])) (full := false) (down := d) hrun (by omega)
  have hm9 := sizes_9 hg.sizes
  unfold ePastS at hk
  by_cases hz : allS s l i s.kinds[i] = []
  · rw [if_pos hz]
    rw [if_pos hz] at hk
    clear hr hrun hla hw
    generalize allS s l i s.kinds[i] = L at *
    refine PureV.body (fn := Try.f32) rfl rfl rfl rfl ?_
    refine wpC_sound (mu := fun _ => false) ?_
    repeat' (first |with_reducible (first|refine RM.c2 ?_|refine RM.c4 ?_|refine RM.c5 ?_|refine RM.c7 ?_|refine RM.c9 ?_|refine RM.d1 ?_|refine RM.o1 ?_|refine RM.o2 ?_|refine RM.o3 ?_|refine RM.o4 ?_|refine RM.o5 ?_|refine RM.o9 ?_|refine RM.p1 ?_|refine RM.p2 ?_|refine RM.p3 ?_|refine RM.p5 ?_|refine RM.n1 ?_) |((with_reducible show force _ _);first|refine RM.f1 rfl ?_|refine RM.f2 rfl ?_|refine RM.f3 rfl ?_|refine RM.f4 rfl ?_|refine RM.f5 rfl ?_|refine RM.f6 rfl ?_) |((with_reducible show wpOne _ _ _ _ _ _ _ _ _ _ _ _);refine RM.o8 rfl ?_) |((with_reducible show wpDOne _ _ _ _ _ _ _ _ _ _);refine RM.p9 rfl ?_) |((with_reducible show wpC _ _ _ _ (.cond _ _ _) _ _);refine RM.e2 rfl rfl ?_) |((with_reducible show wpBin _ _ _ _ _ _ _ _ _);refine RM.b5 rfl rfl ?_) |(refine ⟨_, rfl, ?_⟩) |(refine ⟨rfl, rfl, rfl, ?_⟩) |(refine ⟨rfl, rfl, ?_⟩) |(refine And.intro (Nat.le_of_ble_eq_true rfl) ?_) |(refine And.intro (by kernel_rfl) ?_) |(refine ⟨_, ha, ?_⟩) |(refine ⟨_, hk, ?_⟩) |fail)
    exact ⟨[_, _], ⟨Fz.deep rfl, Fz.deep rfl, trivial⟩, rfl⟩
  · rw [if_neg hz]
    rw [if_neg hz] at hk
    clear hrun hwl hL hz
    generalize hW : worstR (allS s l i s.kinds[i]) = W at *
    generalize allS s l i s.kinds[i] = L at *
    refine PureV.body (fn := Try.f32) rfl rfl rfl (rationV_deep r) ?_
    refine wpC_sound (mu := fun _ => false) ?_
    repeat' (first |(refine ⟨_, ha, ?_⟩) |(refine ⟨_, hk, ?_⟩) |with_reducible (first|refine RM.c1 ?_|refine RM.c2 ?_|refine RM.c3 ?_|refine RM.c4 ?_|refine RM.c5 ?_|refine RM.c9 ?_|refine RM.o1 ?_|refine RM.o2 ?_|refine RM.o3 ?_|refine RM.o4 ?_|refine RM.o5 ?_|refine RM.o7 ?_|refine RM.o9 ?_|refine RM.p1 ?_|refine RM.p2 ?_|refine RM.p3 ?_|refine RM.p5 ?_|refine RM.p6 ?_|refine RM.n1 ?_) |((with_reducible show force _ _);first|refine RM.f1 rfl ?_|refine RM.f2 rfl ?_|refine RM.f3 rfl ?_|refine RM.f4 rfl ?_|refine RM.f5 rfl ?_|refine RM.f6 rfl ?_) |((with_reducible show wpOne _ _ _ _ _ _ _ _ _ _ _ _);refine RM.o8 rfl ?_) |((with_reducible show wpDOne _ _ _ _ _ _ _ _ _ _);refine RM.p9 rfl ?_) |((with_reducible show wpC _ _ _ _ (.cond _ _ _) _ _);refine RM.e3 rfl rfl ?_) |((with_reducible show wpBin _ _ _ _ _ _ _ _ _);refine RM.b5 rfl rfl ?_) |((with_reducible show wpLen _ _ _ _ _);refine RM.l1 rfl ?_) |(refine ⟨_, rfl, ?_⟩) |(refine ⟨_, _, rfl, by decide, ?_⟩) |(refine ⟨rfl, rfl, rfl, ?_⟩) |(refine ⟨rfl, rfl, ?_⟩) |(refine And.intro (Nat.le_of_ble_eq_true rfl) ?_) |(refine And.intro (by kernel_rfl) ?_) |(refine PureV.call hw rfl rfl ?_) |fail)
    rw [em]
    refine SemC.weaker (Weaker.to (l := [(2, I64 i), (3, .pt (eStores s) 0), (10, .sl (W.map eTruth) false), (11, I64 (s.men.length))]) (hp := []) 0 rfl ⟨rfl, rfl, rfl, rfl, trivial⟩ (Nat.zero_le _) rfl rfl) ?_
    refine SemC.loop (fun x : Int => ∃ m : Nat, x = (m : Int) - 1 ∧ m ≤ s.men.length + 1 ∧ lastD (fun d => !W.any (runsShort s.men s.kinds[i] (cargoRow i s.cargos) d)) m = r) (fun x => ⟨mkFr [(2, I64 i), (3, .pt (eStores s) 0), (10, .sl (W.map eTruth) false), (11, I64 (x))], [], Amb.none, false, 0⟩) (fun x => (x + 1).toNat) ?_ (s.men.length : Int) ⟨s.men.length + 1, by omega, Nat.le_refl _, hr⟩
    rintro x ⟨m, hx, hm, hq⟩
    refine wpC_sound (mu := fun _ => false) ?_
    repeat' (first |with_reducible (first|refine RM.c2 ?_|refine RM.c4 ?_|refine RM.c9 ?_|refine RM.o1 ?_|refine RM.o2 ?_|refine RM.o4 ?_|refine RM.o5 ?_|refine RM.p2 ?_|refine RM.p5 ?_) |((with_reducible show force _ _);refine RM.f1 rfl ?_) |((with_reducible show wpOne _ _ _ _ _ _ _ _ _ _ _ _);refine RM.o8 rfl ?_) |((with_reducible show wpBin _ _ _ _ _ _ _ _ _);refine RM.b9 rfl rfl ?_) |fail)
    refine RM.e1 rfl ⟨fun hc => ?_, fun hc => ?_⟩
    · rw [decide_eq_true_eq] at hc
      obtain ⟨d, rfl⟩ : ∃ d : Nat, x = d := ⟨x.toNat, by omega⟩
      have hmd : m = d + 1 := by omega
      subst hmd
      have hla := hla d
      unfold lastD at hq
      cases hb : !W.any (runsShort s.men s.kinds[i] (cargoRow i s.cargos) (d : Int)) with
      | true =>
        rw [hb] at hla
        rw [hb, if_pos rfl] at hq
        have hv : rationV r = .tp [I64 d, I64 0] := by
          unfold rationV
          rw [if_neg (by omega), hq]
        rw [hv]
        repeat' (first |with_reducible (first|refine RM.c1 ?_|refine RM.c2 ?_|refine RM.c3 ?_|refine RM.c4 ?_|refine RM.c7 ?_|refine RM.c9 ?_|refine RM.d1 ?_|refine RM.d4 ?_|refine RM.o1 ?_|refine RM.o2 ?_|refine RM.o4 ?_|refine RM.o5 ?_|refine RM.o7 ?_|refine RM.o9 ?_|refine RM.p1 ?_|refine RM.p2 ?_|refine RM.p3 ?_|refine RM.q1 ?_) |((with_reducible show force _ _);first|refine RM.f1 rfl ?_|refine RM.f2 rfl ?_|refine RM.f4 rfl ?_|refine RM.f5 rfl ?_) |((with_reducible show wpOne _ _ _ _ _ _ _ _ _ _ _ _);refine RM.o8 rfl ?_) |((with_reducible show wpC _ _ _ _ (.cond _ _ _) _ _);refine RM.e2 rfl rfl ?_) |(refine And.intro (Nat.le_of_ble_eq_true rfl) ?_) |(refine PureV.call hla rfl rfl ?_) |fail)
        exact ⟨[_, _], ⟨Fz.deep rfl, Fz.deep rfl, trivial⟩, rfl⟩
      | false =>
        rw [hb] at hla
        rw [hb, if_neg (by decide)] at hq
        repeat' (first |with_reducible (first|refine RM.c1 ?_|refine RM.c2 ?_|refine RM.c3 ?_|refine RM.c4 ?_|refine RM.c9 ?_|refine RM.d3 ?_|refine RM.o1 ?_|refine RM.o2 ?_|refine RM.o4 ?_|refine RM.o5 ?_|refine RM.o7 ?_|refine RM.o9 ?_|refine RM.p1 ?_|refine RM.p2 ?_|refine RM.p3 ?_|refine RM.p5 ?_) |((with_reducible show force _ _);first|refine RM.f1 rfl ?_|refine RM.f2 rfl ?_|refine RM.f4 rfl ?_|refine RM.f5 rfl ?_) |((with_reducible show wpOne _ _ _ _ _ _ _ _ _ _ _ _);refine RM.o8 rfl ?_) |((with_reducible show wpC _ _ _ _ (.cond _ _ _) _ _);refine RM.e3 rfl rfl ?_) |((with_reducible show wpBin _ _ _ _ _ _ _ _ _);refine RM.b2 rfl rfl (by omega) ?_) |(refine And.intro (Nat.le_of_ble_eq_true rfl) ?_) |(refine PureV.call hla rfl rfl ?_) |fail)
        exact ⟨(d : Int) - 1, ⟨d, rfl, by omega, hq⟩, (by dsimp only; omega), Weaker.to 0 rfl ⟨rfl, rfl, rfl, rfl, trivial⟩ (Nat.zero_le _) rfl rfl⟩
    · rw [decide_eq_false_iff_not] at hc
      have hm0 : m = 0 := by omega
      subst hm0
      have hv : rationV r = .tp [I64 0, I64 9] := by
        unfold rationV
        rw [if_pos (by rw [← hq]; show (-1 : Int) < 0; decide)]
      rw [hv]
      repeat' (first |with_reducible (first|refine RM.c2 ?_|refine RM.c4 ?_|refine RM.c6 ?_|refine RM.c7 ?_|refine RM.c9 ?_|refine RM.d2 ?_|refine RM.o1 ?_|refine RM.o2 ?_|refine RM.o4 ?_|refine RM.o5 ?_|refine RM.p3 ?_|refine RM.q2 ?_) |((with_reducible show force _ _);refine RM.f1 rfl ?_) |((with_reducible show wpOne _ _ _ _ _ _ _ _ _ _ _ _);refine RM.o8 rfl ?_) |((with_reducible show blockK _ _ _ _);refine RM.d5 rfl ?_) |fail)
      exact ⟨[_, _], ⟨Fz.deep rfl, Fz.deep rfl, trivial⟩, rfl⟩
end Go.Proofs.Ytmkaeohmdcoanaa
open Go Go.RM
namespace Go.Proofs.Ytmkaeohmdcoanaa
set_option maxRecDepth 100000
set_option maxHeartbeats 4000000
def cargoV (r : Nat) : AV := if 300 < r then .tp [I64 0, I64 9] else .tp [I64 r, I64 0]
theorem cargoV_deep (r : Nat) : (cargoV r).deep = true := by
  unfold cargoV
  split <;> rfl
theorem rcargo_err (one : Bool) (s : Stores) (h : s.Ok) (l : List Count) (hl : l.length ≤ maxLen) (kd day e : Int) (he : rangedE (askErr s l kd) day 0 ((s.men.length : Int) - 1) = e) (hne : e ≠ 0) : Pu one 30 [.ag (eStores s), .sl (l.map eCount) false, I64 kd, I64 day] (.tp [I64 0, I64 e]) := by
  have em : ((s.men.map eI).length : Int) = s.men.length := by simp
  have hmm := h.men
  unfold maxLen at hmm
  have ha := asked_c true s h l hl kd
  have hr := ranged_c true (askErr s l kd) day 0 (((s.men.map eI).length : Int) - 1)
  rw [em, he, ← em] at hr
  have hk := rknown_err true s (.sl (l.map eCount) false) kd _ hne
  have d1 : (!decide (e = 0)) = true := by simpa using hne
  refine PureV.body (fn := Try.f30) rfl rfl rfl rfl ?_
  refine wpC_sound (mu := fun _ => false) ?_
  repeat' (first |with_reducible (first|refine RM.c2 ?_|refine RM.c4 ?_|refine RM.c5 ?_|refine RM.c7 ?_|refine RM.c9 ?_|refine RM.d1 ?_|refine RM.o1 ?_|refine RM.o2 ?_|refine RM.o3 ?_|refine RM.o4 ?_|refine RM.o5 ?_|refine RM.o9 ?_|refine RM.p1 ?_|refine RM.p2 ?_|refine RM.p3 ?_|refine RM.p5 ?_|refine RM.p6 ?_|refine RM.n1 ?_) |((with_reducible show force _ _);first|refine RM.f1 rfl ?_|refine RM.f2 rfl ?_|refine RM.f3 rfl ?_|refine RM.f4 rfl ?_|refine RM.f5 rfl ?_|refine RM.f6 rfl ?_) |((with_reducible show wpOne _ _ _ _ _ _ _ _ _ _ _ _);refine RM.o8 rfl ?_) |((with_reducible show wpDOne _ _ _ _ _ _ _ _ _ _);refine RM.p9 rfl ?_) |((with_reducible show wpC _ _ _ _ (.cond _ _ _) _ _);refine RM.e2 rfl (by assumption) ?_) |((with_reducible show wpBin _ _ _ _ _ _ _ _ _);first|refine RM.b5 rfl rfl ?_|refine RM.b2 rfl rfl (by omega) ?_) |((with_reducible show wpLen _ _ _ _ _);refine RM.l1 rfl ?_) |(refine ⟨_, rfl, ?_⟩) |(refine ⟨_, _, rfl, by decide, ?_⟩) |(refine ⟨rfl, rfl, rfl, ?_⟩) |(refine ⟨rfl, rfl, ?_⟩) |(refine And.intro (Nat.le_of_ble_eq_true rfl) ?_) |(refine And.intro (by kernel_rfl) ?_) |(refine ⟨_, ha, ?_⟩) |(refine ⟨_, hr, ?_⟩) |(refine ⟨_, hk, ?_⟩) |fail)
  exact ⟨[_, _], ⟨Fz.deep rfl, Fz.deep rfl, trivial⟩, rfl⟩
theorem good_with {s : Stores} (hg : Good s) (h8 : s.cargos.length ≤ 8) {d i : Nat} (hd : d < s.men.length) (hi : i < s.kinds.length) {n : Int} (hn : 0 ≤ n ∧ n ≤ 300) : Good (withC s ⟨d, i, n⟩) := by
  have hz := sizes_9 hg.sizes
  refine ⟨⟨hz.1, hz.2.1, ?_⟩, hg.men, hg.kinds, fun c hc => ?_⟩
  · show (s.cargos ++ [(⟨d, i, n⟩ : Cargo)]).length ≤ 9
    rw [List.length_append]
    show s.cargos.length + 1 ≤ 9
    omega
  · rcases List.mem_append.1 hc with hc | hc
    · exact hg.cargos c hc
    · rw [List.mem_singleton.1 hc]
      dsimp only
      omega
theorem row_with (s : Stores) (i d : Nat) (n : Int) : cargoRow i (withC s ⟨d, i, n⟩).cargos = (cargoRow i s.cargos).set d ((cargoRow i s.cargos).getD d 0 + n) := by
  show cargoRow i (s.cargos ++ [_]) = _
  rw [cargoRow_snoc]
  unfold addCargo
  rw [if_pos rfl]
  rfl
theorem rcargo_ok (one : Bool) (s : Stores) (h : s.Ok) (l : List Count) (h0 : cntsErr s l = 0) (i : Nat) (hi : i < s.kinds.length) (d : Nat) (hd : d < s.men.length) (r : Nat)
    (hr : IsLeast (fun n => lastsWith s s.kinds[i] (cargoRow i s.cargos) (worstR (allS s l i s.kinds[i])) d n) 301 r) :
    Pu one 30 [.ag (eStores s), .sl (l.map eCount) false, I64 i, I64 d] (if allS s l i s.kinds[i] = [] then .tp [I64 0, I64 9] else cargoV r) := by
  obtain ⟨hg, hl8, _⟩ := cnts_good h0
  have hh := holdOk h0 hi
  have hr8 := row8 h0 i
  have h8 := sizes8 h0
  have hm9 := sizes_9 hg.sizes
  have em : ((s.men.map eI).length : Int) = s.men.length := by simp
  have ha := asked_c true s h l (by unfold maxLen; omega) i
  rw [ask_ok h0 hi] at ha
  have hrg := ranged_c true 0 d 0 (((s.men.map eI).length : Int) - 1)
  rw [show rangedE 0 d 0 (((s.men.map eI).length : Int) - 1) = 0 by unfold rangedE; rw [if_pos rfl, inB_iff.2 (by rw [em]; omega)]; rfl] at hrg
  have hk := rknown_ok true s l h0 i hi
  have hL := all_len s l h0 i hi
  have hw := rworst_c one s.men s.kinds[i] (cargoRow i s.cargos) (allS s l i s.kinds[i]) hL
  have hwl := worst_len (allS s l i s.kinds[i])
  have hrun : ∀ t ∈ worstR (allS s l i s.kinds[i]), RunOk s.men s.kinds[i] (cargoRow i s.cargos) t := fun t ht => by
    rcases worst_mem ht with h1 | h1
    · cases h1
    · have h2 := truthOk_iff.1 (all_iff.1 h1).1
      exact hh.run h2.1 h2.2.1 h2.2.2
  have hla : ∀ n : Nat, n ≤ 300 → Pu true 76 [.ag (eStores (withC s ⟨d, i, n⟩)), I64 i, .sl ((worstR (allS s l i s.kinds[i])).map eTruth) false, I64 s.men.length] (BB (lastsWith s s.kinds[i] (cargoRow i s.cargos) (worstR (allS s l i s.kinds[i])) d n)) := fun n hn => by
    have key := rlast_c true (s := withC s ⟨d, i, n⟩) (good_with hg h8 hd hi (n := n) (by omega)) (i := i) hi (L := worstR (allS s l i s.kinds[i])) (full := false) (down := s.men.length)
      (fun t ht => by rw [row_with]; exact (hrun t ht).more hr8 (by omega) (by omega)) (by omega)
    rw [row_with] at key
    exact key
  have hwi := fun n : Nat => with_c true s ⟨d, i, n⟩ (by omega)
  unfold ePastS at hk
  rw [← em] at hla
  by_cases hz : allS s l i s.kinds[i] = []
  · rw [if_pos hz]
    rw [if_pos hz] at hk
    clear hr hrun hla hw
    generalize allS s l i s.kinds[i] = L at *
    refine PureV.body (fn := Try.f30) rfl rfl rfl rfl ?_
    refine wpC_sound (mu := fun _ => false) ?_
    repeat' (first |with_reducible (first|refine RM.c2 ?_|refine RM.c4 ?_|refine RM.c5 ?_|refine RM.c7 ?_|refine RM.c9 ?_|refine RM.d1 ?_|refine RM.o1 ?_|refine RM.o2 ?_|refine RM.o3 ?_|refine RM.o4 ?_|refine RM.o5 ?_|refine RM.o9 ?_|refine RM.p1 ?_|refine RM.p2 ?_|refine RM.p3 ?_|refine RM.p5 ?_|refine RM.p6 ?_|refine RM.n1 ?_) |((with_reducible show force _ _);first|refine RM.f1 rfl ?_|refine RM.f2 rfl ?_|refine RM.f3 rfl ?_|refine RM.f4 rfl ?_|refine RM.f5 rfl ?_|refine RM.f6 rfl ?_) |((with_reducible show wpOne _ _ _ _ _ _ _ _ _ _ _ _);refine RM.o8 rfl ?_) |((with_reducible show wpDOne _ _ _ _ _ _ _ _ _ _);refine RM.p9 rfl ?_) |((with_reducible show wpC _ _ _ _ (.cond _ _ _) _ _);refine RM.e2 rfl rfl ?_) |((with_reducible show wpBin _ _ _ _ _ _ _ _ _);first|refine RM.b5 rfl rfl ?_|refine RM.b2 rfl rfl (by omega) ?_) |((with_reducible show wpLen _ _ _ _ _);refine RM.l1 rfl ?_) |(refine ⟨_, rfl, ?_⟩) |(refine ⟨_, _, rfl, by decide, ?_⟩) |(refine ⟨rfl, rfl, rfl, ?_⟩) |(refine ⟨rfl, rfl, ?_⟩) |(refine And.intro (Nat.le_of_ble_eq_true rfl) ?_) |(refine And.intro (by kernel_rfl) ?_) |(refine ⟨_, ha, ?_⟩) |(refine ⟨_, hrg, ?_⟩) |(refine ⟨_, hk, ?_⟩) |fail)
    exact ⟨[_, _], ⟨Fz.deep rfl, Fz.deep rfl, trivial⟩, rfl⟩
  · rw [if_neg hz]
    rw [if_neg hz] at hk
    clear hrun hwl hL hz
    generalize hW : worstR (allS s l i s.kinds[i]) = W at *
    generalize allS s l i s.kinds[i] = L at *
    refine PureV.body (fn := Try.f30) rfl rfl rfl (cargoV_deep r) ?_
    refine wpC_sound (mu := fun _ => false) ?_
    repeat' (first |(refine ⟨_, ha, ?_⟩) |(refine ⟨_, hrg, ?_⟩) |(refine ⟨_, hk, ?_⟩) |with_reducible (first|refine RM.c1 ?_|refine RM.c2 ?_|refine RM.c3 ?_|refine RM.c4 ?_|refine RM.c5 ?_|refine RM.c9 ?_|refine RM.o1 ?_|refine RM.o2 ?_|refine RM.o3 ?_|refine RM.o4 ?_|refine RM.o5 ?_|refine RM.o7 ?_|refine RM.o9 ?_|refine RM.p1 ?_|refine RM.p2 ?_|refine RM.p3 ?_|refine RM.p5 ?_|refine RM.p6 ?_|refine RM.n1 ?_) |((with_reducible show force _ _);first|refine RM.f1 rfl ?_|refine RM.f2 rfl ?_|refine RM.f3 rfl ?_|refine RM.f4 rfl ?_|refine RM.f5 rfl ?_|refine RM.f6 rfl ?_) |((with_reducible show wpOne _ _ _ _ _ _ _ _ _ _ _ _);refine RM.o8 rfl ?_) |((with_reducible show wpDOne _ _ _ _ _ _ _ _ _ _);refine RM.p9 rfl ?_) |((with_reducible show wpC _ _ _ _ (.cond _ _ _) _ _);refine RM.e3 rfl rfl ?_) |((with_reducible show wpBin _ _ _ _ _ _ _ _ _);first|refine RM.b5 rfl rfl ?_|refine RM.b2 rfl rfl (by omega) ?_) |((with_reducible show wpLen _ _ _ _ _);refine RM.l1 rfl ?_) |(refine ⟨_, rfl, ?_⟩) |(refine ⟨_, _, rfl, by decide, ?_⟩) |(refine ⟨rfl, rfl, rfl, ?_⟩) |(refine ⟨rfl, rfl, ?_⟩) |(refine And.intro (Nat.le_of_ble_eq_true rfl) ?_) |(refine And.intro (by kernel_rfl) ?_) |(refine PureV.call hw rfl rfl ?_) |fail)
    refine SemC.weaker (Weaker.to (l := [(2, I64 i), (3, I64 d), (4, .pt (eStores s) 0), (12, .sl (W.map eTruth) false), (13, I64 (0 : Nat))]) (hp := []) 0 rfl ⟨rfl, rfl, rfl, rfl, rfl, trivial⟩ (Nat.zero_le _) rfl rfl) ?_
    refine SemC.loop (fun n : Nat => n ≤ 301 ∧ ∀ a, a < n → lastsWith s s.kinds[i] (cargoRow i s.cargos) W d a = false) (fun n => ⟨mkFr [(2, I64 i), (3, I64 d), (4, .pt (eStores s) 0), (12, .sl (W.map eTruth) false), (13, I64 (n : Nat))], [], Amb.none, false, 0⟩) (fun n => 301 - n) ?_ 0 ⟨Nat.zero_le _, fun a ha => absurd ha (Nat.not_lt_zero _)⟩
    rintro n ⟨hn, hno⟩
    refine wpC_sound (mu := fun _ => false) ?_
    repeat' (first |with_reducible (first|refine RM.c2 ?_|refine RM.c4 ?_|refine RM.c9 ?_|refine RM.o1 ?_|refine RM.o2 ?_|refine RM.o4 ?_|refine RM.o5 ?_|refine RM.p2 ?_|refine RM.p5 ?_) |((with_reducible show force _ _);refine RM.f1 rfl ?_) |((with_reducible show wpOne _ _ _ _ _ _ _ _ _ _ _ _);refine RM.o8 rfl ?_) |((with_reducible show wpBin _ _ _ _ _ _ _ _ _);refine RM.b7 rfl rfl ?_) |fail)
    refine RM.e1 rfl ⟨fun hc => ?_, fun hc => ?_⟩
    · rw [decide_eq_true_eq] at hc
      have hla := hla n (by omega)
      have hwi := hwi n
      cases hb : lastsWith s s.kinds[i] (cargoRow i s.cargos) W d n with
      | true =>
        rw [hb] at hla
        have hrn : r = n := by
          apply Nat.le_antisymm
          · apply Nat.le_of_not_lt
            intro hlt
            have h1 : lastsWith s s.kinds[i] (cargoRow i s.cargos) W d n = false := hr.below n hlt
            rw [hb] at h1; cases h1
          · apply Nat.le_of_not_lt
            intro hlt
            have h1 : lastsWith s s.kinds[i] (cargoRow i s.cargos) W d r = true := hr.here (by omega)
            rw [hno r hlt] at h1; cases h1
        have hv : cargoV r = .tp [I64 n, I64 0] := by
          unfold cargoV
          rw [if_neg (by omega), hrn]
        rw [hv]
        repeat' (first |with_reducible (first|refine RM.c1 ?_|refine RM.c2 ?_|refine RM.c3 ?_|refine RM.c4 ?_|refine RM.c5 ?_|refine RM.c7 ?_|refine RM.c9 ?_|refine RM.d1 ?_|refine RM.d4 ?_|refine RM.o1 ?_|refine RM.o2 ?_|refine RM.o3 ?_|refine RM.o4 ?_|refine RM.o5 ?_|refine RM.o9 ?_|refine RM.p1 ?_|refine RM.p2 ?_|refine RM.p3 ?_|refine RM.p6 ?_|refine RM.n1 ?_|refine RM.q1 ?_) |((with_reducible show force _ _);first|refine RM.f1 rfl ?_|refine RM.f2 rfl ?_|refine RM.f3 rfl ?_|refine RM.f4 rfl ?_|refine RM.f5 rfl ?_) |((with_reducible show wpOne _ _ _ _ _ _ _ _ _ _ _ _);refine RM.o8 rfl ?_) |((with_reducible show wpDOne _ _ _ _ _ _ _ _ _ _);refine RM.p9 rfl ?_) |((with_reducible show wpC _ _ _ _ (.cond _ _ _) _ _);refine RM.e2 rfl rfl ?_) |((with_reducible show wpLen _ _ _ _ _);refine RM.l1 rfl ?_) |(refine ⟨_, rfl, ?_⟩) |(refine ⟨_, _, rfl, by decide, ?_⟩) |(refine ⟨rfl, rfl, ?_⟩) |(refine And.intro (Nat.le_of_ble_eq_true rfl) ?_) |(refine And.intro (by kernel_rfl) ?_) |(refine ⟨_, hwi, ?_⟩) |(refine ⟨_, hla, ?_⟩) |fail)
        exact ⟨[_, _], ⟨Fz.deep rfl, Fz.deep rfl, trivial⟩, rfl⟩
      | false =>
        rw [hb] at hla
        repeat' (first |with_reducible (first|refine RM.c1 ?_|refine RM.c2 ?_|refine RM.c3 ?_|refine RM.c4 ?_|refine RM.c5 ?_|refine RM.c9 ?_|refine RM.d3 ?_|refine RM.o1 ?_|refine RM.o2 ?_|refine RM.o3 ?_|refine RM.o4 ?_|refine RM.o5 ?_|refine RM.o9 ?_|refine RM.p1 ?_|refine RM.p2 ?_|refine RM.p3 ?_|refine RM.p5 ?_|refine RM.p6 ?_|refine RM.n1 ?_) |((with_reducible show force _ _);first|refine RM.f1 rfl ?_|refine RM.f2 rfl ?_|refine RM.f3 rfl ?_|refine RM.f4 rfl ?_|refine RM.f5 rfl ?_) |((with_reducible show wpOne _ _ _ _ _ _ _ _ _ _ _ _);refine RM.o8 rfl ?_) |((with_reducible show wpDOne _ _ _ _ _ _ _ _ _ _);refine RM.p9 rfl ?_) |((with_reducible show wpC _ _ _ _ (.cond _ _ _) _ _);refine RM.e3 rfl rfl ?_) |((with_reducible show wpBin _ _ _ _ _ _ _ _ _);refine RM.b1 rfl rfl (by omega) ?_) |((with_reducible show wpLen _ _ _ _ _);refine RM.l1 rfl ?_) |(refine ⟨_, rfl, ?_⟩) |(refine ⟨_, _, rfl, by decide, ?_⟩) |(refine ⟨rfl, rfl, ?_⟩) |(refine And.intro (Nat.le_of_ble_eq_true rfl) ?_) |(refine And.intro (by kernel_rfl) ?_) |(refine ⟨_, hwi, ?_⟩) |(refine ⟨_, hla, ?_⟩) |fail)
        exact ⟨n + 1, ⟨by omega, fun a ha => by
          by_cases hae : a = n
          · rw [hae]; exact hb
          · exact hno a (by omega)⟩, (by dsimp only; omega), Weaker.to 0 rfl ⟨rfl, rfl, rfl, rfl, i64c (by simp), trivial⟩ (Nat.zero_le _) rfl rfl⟩
    · rw [decide_eq_false_iff_not] at hc
      have hv : cargoV r = .tp [I64 0, I64 9] := by
        unfold cargoV
        have hrl := hr.le
        rw [if_pos]
        apply Nat.lt_of_not_le
        intro hlt
        have h1 : lastsWith s s.kinds[i] (cargoRow i s.cargos) W d r = true := hr.here (by omega)
        rw [hno r (by omega)] at h1; cases h1
      rw [hv]
      repeat' (first |with_reducible (first|refine RM.c2 ?_|refine RM.c4 ?_|refine RM.c6 ?_|refine RM.c7 ?_|refine RM.c9 ?_|refine RM.d2 ?_|refine RM.o1 ?_|refine RM.o2 ?_|refine RM.o4 ?_|refine RM.o5 ?_|refine RM.p3 ?_|refine RM.q2 ?_) |((with_reducible show force _ _);refine RM.f1 rfl ?_) |((with_reducible show wpOne _ _ _ _ _ _ _ _ _ _ _ _);refine RM.o8 rfl ?_) |((with_reducible show blockK _ _ _ _);refine RM.d5 rfl ?_) |fail)
      exact ⟨[_, _], ⟨Fz.deep rfl, Fz.deep rfl, trivial⟩, rfl⟩
theorem law5 (s : Stores) (l : List Count) (kd day n e1 m e2 : Int)
    (h1 : Pu true 29 [.ag (eStores s), .sl (l.map eCount) false, I64 kd, I64 day] (.tp [I64 n, I64 e1]))
    (h2 : Pu true 30 [.ag (eStores s), .sl (l.map eCount) false, I64 kd, I64 day] (.tp [I64 n, I64 e1]))
    (h3 : Pu true 31 [.ag (eStores s), .sl (l.map eCount) false, I64 kd] (.tp [I64 m, I64 e2]))
    (h4 : Pu true 32 [.ag (eStores s), .sl (l.map eCount) false, I64 kd] (.tp [I64 m, I64 e2])) :
    Pu true 5 [.ag (eStores s), .sl (l.map eCount) false, .ag [I64 kd, I64 day]] (BB true) := by
  have a1 : (!decide (n = n)) = false := by simp
  have a2 : (!decide (e1 = e1)) = false := by simp
  have a3 : decide (m = m) = true := by simp
  have a4 : decide (e2 = e2) = true := by simp
  have aw := aw_c true
  refine PureV.body (fn := Try.f5) rfl rfl rfl rfl ?_
  refine wpC_sound (mu := fun _ => false) ?_
  repeat' (first |with_reducible (first|refine RM.c1 ?_|refine RM.c2 ?_|refine RM.c4 ?_|refine RM.c7 ?_|refine RM.c9 ?_|refine RM.o1 ?_|refine RM.o2 ?_|refine RM.o4 ?_|refine RM.o5 ?_|refine RM.o7 ?_|refine RM.o9 ?_|refine RM.p1 ?_|refine RM.p2 ?_|refine RM.p3 ?_|refine RM.p4 ?_|refine RM.p5 ?_) |((with_reducible show force _ _);first|refine RM.f1 rfl ?_|refine RM.f2 rfl ?_|refine RM.f3 rfl ?_|refine RM.f4 rfl ?_|refine RM.f5 rfl ?_|refine RM.f6 rfl ?_) |((with_reducible show wpOne _ _ _ _ _ _ _ _ _ _ _ _);refine RM.o8 rfl ?_) |((with_reducible show wpGuard _ _ _ _ _);refine wpGuard_yes rfl rfl (by assumption) ?_) |((with_reducible show wpC _ _ _ _ (.cond _ _ _) _ _);refine RM.e3 rfl (by assumption) ?_) |((with_reducible show wpPick _ _ _ _ _);refine RM.k1 rfl ?_) |((with_reducible show wpPickB _ _ _ _ _);first|refine RM.k2 (by assumption) ?_|refine RM.k3 (by assumption) ?_) |((with_reducible show wpBin _ _ _ _ _ _ _ _ _);first|refine RM.b4 rfl rfl ?_|refine RM.b5 rfl rfl ?_) |(refine ⟨_, rfl, ?_⟩) |(refine ⟨rfl, rfl, rfl, ?_⟩) |(refine And.intro (Nat.le_of_ble_eq_true rfl) ?_) |(refine And.intro (by omega) ?_) |(refine PureV.call h1 rfl rfl ?_) |(refine PureV.call h2 rfl rfl ?_) |(refine PureV.call h3 rfl rfl ?_) |(refine PureV.call h4 rfl rfl ?_) |(refine PureV.call aw rfl rfl ?_) |fail)
  exact ⟨[_], ⟨Fz.deep rfl, trivial⟩, rfl⟩
theorem cargoV_pair (r : Nat) : ∃ n e, cargoV r = .tp [I64 n, I64 e] := by
  unfold cargoV
  split <;> exact ⟨_, _, rfl⟩
theorem rationV_pair (r : Int) : ∃ n e, rationV r = .tp [I64 n, I64 e] := by
  unfold rationV
  split <;> exact ⟨_, _, rfl⟩
theorem cargos_c (s : Stores) (hs : s.Ok) (l : List Count) (hl : l.length ≤ maxLen) (kd day : Int) :
    Pu true 5 [.ag (eStores s), .sl (l.map eCount) false, .ag [I64 kd, I64 day]] (BB true) := by
  by_cases he : askErr s l kd = 0
  · have h0 : cntsErr s l = 0 := by
      unfold askErr at he
      split at he
      · exact he
      · next h => exact Decidable.not_not.1 h
    have hk : inB kd 0 ((s.kinds.length : Int) - 1) = true := by
      unfold askErr at he
      rw [if_neg (by rw [h0]; exact fun h => h rfl)] at he
      cases hb : inB kd 0 ((s.kinds.length : Int) - 1) with
      | true => rfl
      | false => rw [hb, if_pos rfl] at he; cases he
    have hk := inB_iff.1 hk
    obtain ⟨i, rfl⟩ : ∃ i : Nat, kd = (i : Int) := ⟨kd.toNat, by omega⟩
    have hi : i < s.kinds.length := by omega
    -- Ration
    obtain ⟨m, e2, h3, h4⟩ : ∃ m e2, Pu true 31 [.ag (eStores s), .sl (l.map eCount) false, I64 i] (.tp [I64 m, I64 e2]) ∧ Pu true 32 [.ag (eStores s), .sl (l.map eCount) false, I64 i] (.tp [I64 m, I64 e2]) := by
      have h4 := rration_ok true s hs l h0 i hi _ rfl
      by_cases hz : allS s l i s.kinds[i] = []
      · rw [if_pos hz] at h4
        exact ⟨_, _, ration_none true s hs l h0 i hi (nil_iff.2 hz), h4⟩
      · rw [if_neg hz] at h4
        have h3 := ration_okT true s hs l h0 i hi (fun h => hz (nil_iff.1 h)) _ rfl
        rw [ration_two] at h3
        obtain ⟨n, e, hv⟩ := rationV_pair (lastD (fun d => !(worstR (allS s l i s.kinds[i])).any (runsShort s.men s.kinds[i] (cargoRow i s.cargos) d)) (s.men.length + 1))
        rw [hv] at h3 h4
        exact ⟨_, _, h3, h4⟩
    -- Cargo
    obtain ⟨n, e1, h1, h2⟩ : ∃ n e1, Pu true 29 [.ag (eStores s), .sl (l.map eCount) false, I64 i, I64 day] (.tp [I64 n, I64 e1]) ∧ Pu true 30 [.ag (eStores s), .sl (l.map eCount) false, I64 i, I64 day] (.tp [I64 n, I64 e1]) := by
      cases hd : inB day 0 ((s.men.length : Int) - 1) with
      | false => exact ⟨_, _, cargo_day true s hs l h0 i hi day hd, rcargo_err true s hs l hl i day 7 (by unfold rangedE; rw [if_pos he, if_pos hd]) (by decide)⟩
      | true =>
        have hd := inB_iff.1 hd
        obtain ⟨d, rfl⟩ : ∃ d : Nat, day = (d : Int) := ⟨day.toNat, by omega⟩
        have hdn : d < s.men.length := by omega
        have h2 := rcargo_ok true s hs l h0 i hi d hdn _ (cargo_least s l i s.kinds[i] (cargoRow i s.cargos) d)
        by_cases hz : allS s l i s.kinds[i] = []
        · rw [if_pos hz] at h2
          exact ⟨_, _, cargo_none true s hs l h0 i hi d hdn (nil_iff.2 hz), h2⟩
        · rw [if_neg hz] at h2
          have h1 := cargo_okT true s hs l h0 i hi d hdn (fun h => hz (nil_iff.1 h)) _ rfl
          change Pu true 29 _ (cargoV _) at h1
          obtain ⟨n, e, hv⟩ := cargoV_pair (bs (fun n => lastsWith s s.kinds[i] (cargoRow i s.cargos) (lows s l i s.kinds[i]) d n) 0 301)
          rw [hv] at h1 h2
          exact ⟨_, _, h1, h2⟩
    exact law5 s l i day n e1 m e2 h1 h2 h3 h4
  · exact law5 s l kd day _ _ _ _ (cargo_err true s hs l hl kd day he) (rcargo_err true s hs l hl kd day _ (by unfold rangedE; rw [if_neg he]) he) (ration_err true s hs l hl kd he) (rration_err true s hs l hl kd he)
end Go.Proofs.Ytmkaeohmdcoanaa
namespace Go.Proofs.Ytmkaeohmdcoanaa
open Go.RM
set_option maxRecDepth 1000000
noncomputable def tabA : List XE := [x_a1, x_a2, x_a3, x_a4, x_a5, x_a6, x_a7, x_a8]
theorem xs_tabA : ∀ e ∈ tabA, XSound TT e := by
  unfold tabA
  simp only [List.mem_cons, List.not_mem_nil, or_false]
  rintro e (rfl | rfl | rfl | rfl | rfl | rfl | rfl | rfl)
  · exact xs_a1
  · exact xs_a2
  · exact xs_a3
  · exact xs_a4
  · exact xs_a5
  · exact xs_a6
  · exact xs_a7
  · exact xs_a8
theorem xs_aw : XSound TT x_aw := xe_add tt_ok tt_mixed xs_tabA 1000 (by kernel_rfl)
theorem xs_TB : ∀ e ∈ TB, XSound TT e := fun e he => by
  obtain rfl := List.mem_singleton.1 he
  exact xs_aw
end Go.Proofs.Ytmkaeohmdcoanaa
open Go Go.RM
namespace Go.Proofs.Ytmkaeohmdcoanaa
open Go.ChangeShapes Go.WideShapes Go.ChangeAt Go.RowKit
theorem try_own : ownKnob Try.prog.godebug = none := by kernel_rfl
theorem try_laid : laidOutB Try.prog = true := by kernel_rfl
end Go.Proofs.Ytmkaeohmdcoanaa
