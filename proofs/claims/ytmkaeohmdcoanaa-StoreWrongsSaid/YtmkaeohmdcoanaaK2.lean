/-
  Contracts of the program's functions and of the document's. Lemmas alone; their conditions stand in them.
-/
import Derived.Test.YtmkaeohmdcoanaaA1
import Derived.Test.YtmkaeohmdcoanaaA2
import Derived.Test.YtmkaeohmdcoanaaX1
import Derived.Test.YtmkaeohmdcoanaaK1
import Derived.Test.YtmkaeohmdcoanaaRows
open Go Go.RM
namespace Go.Proofs.Ytmkaeohmdcoanaa
set_option maxRecDepth 100000
set_option maxHeartbeats 4000000
def lenT (n : Nat) : Int := ([0, 1, 2, 2, 3, 3, 3, 3, 4, 4, 4, 4, 4] : List Int).getD n 0
theorem len64_c (one : Bool) (n : Nat) (hn : n ≤ 12) : Pu one 129 [.fl (.int .u64 n)] (I64 (lenT n)) := by
  match n, hn with
  | 0, _ | 1, _ | 2, _ | 3, _ | 4, _ | 5, _ | 6, _ | 7, _ | 8, _ | 9, _ | 10, _ | 11, _ | 12, _ =>
    refine PureV.body (fn := Try.f129) rfl rfl rfl rfl ?_
    refine wpC_sound (mu := fun _ => false) ?_
    repeat' (first |(refine RM.b1 rfl rfl (of_decide_eq_true (by kernel_rfl)) ?_) |with_reducible (first|refine RM.c1 ?_|refine RM.c2 ?_|refine RM.c4 ?_|refine RM.c7 ?_|refine RM.c9 ?_|refine RM.o1 ?_|refine RM.o2 ?_|refine RM.o4 ?_|refine RM.o5 ?_|refine RM.p2 ?_|refine RM.p3 ?_|refine RM.p5 ?_) |((with_reducible show force _ _);refine RM.f1 rfl ?_) |((with_reducible show wpOne _ _ _ _ _ _ _ _ _ _ _ _);refine RM.o8 rfl ?_) |((with_reducible show wpC _ _ _ _ (.cond _ _ _) _ _);refine RM.e3 rfl rfl ?_) |(refine ⟨_, rfl, ?_⟩) |(refine ⟨_, _, rfl, rfl, _, rfl, rfl, ?_⟩) |(refine And.intro (by kernel_rfl) ?_) |fail)
    exact ⟨[_], ⟨Fz.deep rfl, trivial⟩, by kernel_rfl⟩
theorem len_c (one : Bool) (n : Nat) (hn : n ≤ 12) : Pu one 111 [.fl (.int .u64 n)] (I64 (lenT n)) := by
  have hv := len64_c one n hn
  refine PureV.body (fn := Try.f111) rfl rfl rfl rfl ?_
  refine wpC_sound (mu := fun _ => false) ?_
  repeat' (first |with_reducible (first|refine RM.c1 ?_|refine RM.c2 ?_|refine RM.c4 ?_|refine RM.c7 ?_|refine RM.c9 ?_|refine RM.o1 ?_|refine RM.o2 ?_|refine RM.o4 ?_|refine RM.o5 ?_|refine RM.o7 ?_|refine RM.o9 ?_|refine RM.p1 ?_|refine RM.p2 ?_|refine RM.p3 ?_) |((with_reducible show force _ _);first|refine RM.f1 rfl ?_|refine RM.f4 rfl ?_) |((with_reducible show wpOne _ _ _ _ _ _ _ _ _ _ _ _);refine RM.o8 rfl ?_) |((with_reducible show wpC _ _ _ _ (.cond _ _ _) _ _);refine RM.e3 rfl rfl ?_) |(refine PureV.call hv rfl rfl ?_) |fail)
  exact ⟨[_], ⟨Fz.deep rfl, trivial⟩, rfl⟩
def SortedTo (S : List Int) (m : Nat) : Prop := ∀ p q : Nat, p < q → q < m → S.getD p 0 ≤ S.getD q 0
def swapAt (S : List Int) (j : Nat) : List Int := (S.set j (S.getD (j - 1) 0)).set (j - 1) (S.getD j 0)
theorem swap_perm (S : List Int) {j : Nat} (hj : j < S.length) : (swapAt S j).Perm S := by
  unfold swapAt
  have h1 : j - 1 < S.length := by omega
  rw [List.getD_eq_getElem?_getD, List.getD_eq_getElem?_getD (i := j), List.getElem?_eq_getElem h1, List.getElem?_eq_getElem hj]
  exact List.set_set_perm hj h1
theorem swap_get (S : List Int) {j : Nat} (hj : j < S.length) (h0 : 0 < j) (q : Nat) : (swapAt S j).getD q 0 = if q = j - 1 then S.getD j 0 else if q = j then S.getD (j - 1) 0 else S.getD q 0 := by
  unfold swapAt
  rw [List.getD_eq_getElem?_getD, List.getElem?_set, List.getElem?_set]
  by_cases h1 : j - 1 = q
  · subst h1
    rw [if_pos rfl, if_pos (by rw [List.length_set]; omega), if_pos rfl]
    rfl
  · rw [if_neg h1, if_neg (show ¬ q = j - 1 from fun h => h1 h.symm)]
    by_cases h2 : j = q
    · subst h2
      rw [if_pos rfl, if_pos hj, if_pos rfl]
      rfl
    · rw [if_neg h2, if_neg (show ¬ q = j from fun h => h2 h.symm), List.getD_eq_getElem?_getD]
/-- While an element sinks to its place. -/
structure Sinks (S : List Int) (i j : Nat) : Prop where
  others : ∀ p q : Nat, p < q → q ≤ i → p ≠ j → q ≠ j → S.getD p 0 ≤ S.getD q 0
  above : ∀ q : Nat, j < q → q ≤ i → S.getD j 0 ≤ S.getD q 0
theorem Sinks.start {S : List Int} {i : Nat} (h : SortedTo S i) : Sinks S i i := ⟨fun p q h1 h2 h3 h4 => h p q h1 (by omega), fun q h1 h2 => by omega⟩
theorem Sinks.swap {S : List Int} {i j : Nat} (h : Sinks S i j) (hi : i < S.length) (hj : j ≤ i) (h0 : 0 < j) (hl : S.getD j 0 < S.getD (j - 1) 0) : Sinks (swapAt S j) i (j - 1) := by
  have hg := fun q => swap_get S (j := j) (by omega) h0 q
  constructor
  · intro p q h1 h2 h3 h4
    rw [hg p, hg q, if_neg h3, if_neg h4]
    by_cases hp : p = j
    · rw [if_pos hp, if_neg (by omega)]
      exact h.others (j - 1) q (by omega) h2 (by omega) (by omega)
    · rw [if_neg hp]
      by_cases hq : q = j
      · rw [if_pos hq]
        by_cases hpj : p = j - 1
        · exact absurd hpj h3
        · exact h.others p (j - 1) (by omega) (by omega) hp (by omega)
      · rw [if_neg hq]
        exact h.others p q h1 h2 hp hq
  · intro q h1 h2
    rw [hg (j - 1), hg q, if_pos rfl, if_neg (by omega)]
    by_cases hq : q = j
    · rw [if_pos hq]; omega
    · rw [if_neg hq]
      exact h.above q (by omega) h2
theorem Sinks.done {S : List Int} {i j : Nat} (h : Sinks S i j) (hd : j = 0 ∨ S.getD (j - 1) 0 ≤ S.getD j 0) : SortedTo S (i + 1) := by
  intro p q h1 h2
  by_cases hp : p = j
  · rw [hp]; exact h.above q (by omega) (by omega)
  · by_cases hq : q = j
    · rcases hd with hd | hd
      · omega
      · rw [hq]
        by_cases hpj : p = j - 1
        · rw [hpj]; exact hd
        · exact Int.le_trans (h.others p (j - 1) (by omega) (by omega) hp (by omega)) hd
    · exact h.others p q h1 (by omega) hp hq
abbrev rowB (S : List Int) (ver : Nat) : AB := .cells (S.map I64) 1 ver
theorem rowB_inb (S : List Int) (ver : Nat) : ([rowB S ver] : List AB).all (AB.inb 1) = true := by
  simp only [List.all_cons, List.all_nil, Bool.and_true, AB.inb]
  exact inbL_map (fun _ => rfl) _
theorem row_get {S : List Int} {q : Nat} (h : q < S.length) : (S.map I64)[0 + ((q : Nat) : Int).toNat * 1]? = some (I64 (S.getD q 0)) := by
  rw [Int.toNat_natCast, Nat.zero_add, Nat.mul_one, List.getElem?_map, List.getD_eq_getElem?_getD, List.getElem?_eq_getElem h]
  rfl
theorem row_set {S : List Int} {k : Nat} (h : k < S.length) (x : Int) : spliceV (S.map I64) [I64 x] (0 + ((k : Nat) : Int).toNat * 1) = (S.set k x).map I64 := by
  rw [Int.toNat_natCast, Nat.zero_add, Nat.mul_one, List.map_set, List.set_eq_take_append_cons_drop, if_pos (by rw [List.length_map]; exact h)]
  unfold spliceV
  simp
theorem insertion_c (one : Bool) (L : List Int) (N : Nat) (hN : L.length = N) (h12 : N ≤ 12) {ver c : Nat} {amb : Amb} {Q : AV → List AB → Amb → Prop} (hQ : ∀ S : List Int, SortedTo S N → S.Perm L → Q (.tp []) [rowB S ver] amb) :
    CallV TT TB one (.fn 119 [] []) [.osl 0 ver 0 N c, I64 0, I64 (N : Nat)] [rowB L ver] amb Q := by
  refine CallV.body (fn := Try.f119) rfl rfl rfl ?_
  refine wpC_sound (mu := fun _ => false) ?_
  repeat' (first |with_reducible (first|refine RM.c2 ?_|refine RM.c3 ?_|refine RM.c4 ?_|refine RM.c9 ?_|refine RM.o1 ?_|refine RM.o2 ?_|refine RM.o4 ?_|refine RM.o5 ?_|refine RM.p2 ?_|refine RM.p3 ?_|refine RM.p5 ?_) |((with_reducible show force _ _);refine RM.f1 rfl ?_) |((with_reducible show wpOne _ _ _ _ _ _ _ _ _ _ _ _);refine RM.o8 rfl ?_) |((with_reducible show wpBin _ _ _ _ _ _ _ _ _);refine RM.b1 rfl rfl (by omega) ?_) |fail)
  refine SemC.weaker (Weaker.to (l := [(0, .osl 0 ver 0 N c), (1, I64 0), (2, I64 (N : Nat)), (6, I64 (1 : Nat))]) (hp := [rowB L ver]) 1 rfl ⟨rfl, rfl, rfl, rfl, trivial⟩ (Nat.le_refl _) rfl (rowB_inb _ _)) ?_
  refine SemC.loop (fun x : Nat × List Int => (1 ≤ x.1 ∧ (x.1 ≤ N ∨ x.1 = 1)) ∧ SortedTo x.2 x.1 ∧ x.2.Perm L) (fun x => ⟨mkFr [(0, .osl 0 ver 0 N c), (1, I64 0), (2, I64 (N : Nat)), (6, I64 (x.1 : Nat))], [rowB x.2 ver], amb, false, 1⟩) (fun x => N - x.1) ?_ (1, L) ⟨⟨Nat.le_refl _, .inr rfl⟩, (fun p q h1 h2 => by dsimp only at h2; omega), List.Perm.refl _⟩
  rintro ⟨i, S⟩ ⟨⟨hi1, hi⟩, hso, hpe⟩
  dsimp only at hi1 hi hso hpe
  have hSl : S.length = N := by rw [hpe.length_eq, hN]
  refine wpC_sound (mu := fun _ => false) ?_
  repeat' (first |with_reducible (first|refine RM.c2 ?_|refine RM.c4 ?_|refine RM.c9 ?_|refine RM.o1 ?_|refine RM.o2 ?_|refine RM.o4 ?_|refine RM.o5 ?_|refine RM.p2 ?_|refine RM.p5 ?_) |((with_reducible show force _ _);refine RM.f1 rfl ?_) |((with_reducible show wpOne _ _ _ _ _ _ _ _ _ _ _ _);refine RM.o8 rfl ?_) |((with_reducible show wpBin _ _ _ _ _ _ _ _ _);refine RM.b6 rfl rfl ?_) |fail)
  refine RM.e1 rfl ⟨fun hc => ?_, fun hc => ?_⟩
  · rw [decide_eq_true_eq] at hc
    repeat' (first |with_reducible (first|refine RM.c1 ?_|refine RM.c2 ?_|refine RM.c3 ?_|refine RM.c4 ?_|refine RM.c9 ?_|refine RM.o1 ?_|refine RM.o2 ?_|refine RM.o4 ?_|refine RM.o5 ?_|refine RM.p2 ?_|refine RM.p3 ?_) |((with_reducible show force _ _);refine RM.f1 rfl ?_) |((with_reducible show wpOne _ _ _ _ _ _ _ _ _ _ _ _);refine RM.o8 rfl ?_) |fail)
    refine SemC.weaker (Weaker.to (l := [(0, .osl 0 ver 0 N c), (1, I64 0), (2, I64 (N : Nat)), (6, I64 (i : Nat)), (7, I64 (i : Nat))]) (hp := [rowB S ver]) 1 rfl ⟨rfl, rfl, rfl, rfl, rfl, trivial⟩ (Nat.le_refl _) rfl (rowB_inb _ _)) ?_
    refine SemC.loop (fun x : Nat × List Int => (x.1 ≤ i) ∧ Sinks x.2 i x.1 ∧ x.2.Perm L) (fun x => ⟨mkFr [(0, .osl 0 ver 0 N c), (1, I64 0), (2, I64 (N : Nat)), (6, I64 (i : Nat)), (7, I64 (x.1 : Nat))], [rowB x.2 ver], amb, false, 1⟩) (fun x => x.1) ?_ (i, S) ⟨Nat.le_refl _, Sinks.start hso, hpe⟩
    rintro ⟨j, R⟩ ⟨hj, hsi, hpr⟩
    dsimp only at hj hsi hpr
    have hRl : R.length = N := by rw [hpr.length_eq, hN]
    refine wpC_sound (mu := fun _ => false) ?_
    by_cases h0 : j = 0
    · subst h0
      repeat' (first |with_reducible (first|refine RM.c2 ?_|refine RM.c4 ?_|refine RM.c5 ?_|refine RM.c6 ?_|refine RM.c9 ?_|refine RM.d2 ?_|refine RM.d3 ?_|refine RM.o1 ?_|refine RM.o2 ?_|refine RM.o3 ?_|refine RM.o4 ?_|refine RM.o5 ?_|refine RM.p2 ?_|refine RM.p3 ?_|refine RM.p4 ?_|refine RM.p5 ?_|refine RM.q2 ?_) |((with_reducible show force _ _);refine RM.f1 rfl ?_) |((with_reducible show wpOne _ _ _ _ _ _ _ _ _ _ _ _);refine RM.o8 rfl ?_) |((with_reducible show wpDOne _ _ _ _ _ _ _ _ _ _);refine RM.p9 rfl ?_) |((with_reducible show wpGuard _ _ _ _ _);refine wpGuard_no rfl rfl rfl ?_) |((with_reducible show wpC _ _ _ _ (.cond _ _ _) _ _);refine RM.e3 rfl rfl ?_) |((with_reducible show wpPick _ _ _ _ _);refine RM.k1 rfl ?_) |((with_reducible show wpPickB _ _ _ _ _);refine RM.k3 rfl ?_) |((with_reducible show wpBin _ _ _ _ _ _ _ _ _);first|refine RM.b8 rfl rfl ?_|refine RM.b1 rfl rfl (by omega) ?_) |((with_reducible show blockK _ _ _ _);refine RM.d5 rfl ?_) |(refine ⟨_, rfl, ?_⟩) |(refine And.intro (by kernel_rfl) ?_) |fail)
      refine ⟨(i + 1, R), ⟨⟨by omega, .inl (by dsimp only; omega)⟩, hsi.done (.inl rfl), hpr⟩, (by dsimp only; omega), ?_⟩
      exact Weaker.to 1 rfl ⟨rfl, rfl, rfl, i64c (by simp), trivial⟩ (Nat.le_refl _) rfl (rowB_inb _ _)
    · have d1 : decide ((0 : Int) < (j : Int)) = true := decide_eq_true (by omega)
      have hgj := row_get (S := R) (q := j) (by omega)
      have hgk := row_get (S := R) (q := j - 1) (by omega)
      rw [show (((j - 1 : Nat) : Int)) = (j : Int) - 1 by omega] at hgk
      have hle := less_c true (R.getD j 0) (R.getD (j - 1) 0)
      by_cases hl : R.getD j 0 < R.getD (j - 1) 0
      · rw [decide_eq_true hl] at hle
        have hb1 : 0 + ((j : Nat) : Int).toNat * 1 + 1 ≤ (R.map I64).length := by rw [List.length_map]; omega
        have he1 := row_set (S := R) (k := j) (by omega) (R.getD (j - 1) 0)
        have hb2 : 0 + (((j : Nat) : Int) - 1).toNat * 1 + 1 ≤ (spliceV (R.map I64) [I64 (R.getD (j - 1) 0)] (0 + ((j : Nat) : Int).toNat * 1)).length := by rw [he1, List.length_map, List.length_set]; omega
        have he2 := row_set (S := R.set j (R.getD (j - 1) 0)) (k := j - 1) (by rw [List.length_set]; omega) (R.getD j 0)
        rw [show (((j - 1 : Nat) : Int)) = (j : Int) - 1 by omega, ← he1] at he2
        repeat' (first |(refine ⟨_, hle, ?_⟩) |with_reducible (first|refine RM.c1 ?_|refine RM.c2 ?_|refine RM.c3 ?_|refine RM.c4 ?_|refine RM.c5 ?_|refine RM.c9 ?_|refine RM.d3 ?_|refine RM.o1 ?_|refine RM.o2 ?_|refine RM.o3 ?_|refine RM.o4 ?_|refine RM.o5 ?_|refine RM.o6 ?_|refine RM.o9 ?_|refine RM.p1 ?_|refine RM.p2 ?_|refine RM.p3 ?_|refine RM.p4 ?_|refine RM.p5 ?_|refine RM.n1 ?_) |((with_reducible show force _ _);first|refine RM.f1 rfl ?_|refine RM.f4 rfl ?_|refine RM.f7 rfl ?_|refine RM.f8 rfl ?_|refine RM.g2 rfl ?_) |((with_reducible show wpOne _ _ _ _ _ _ _ _ _ _ _ _);refine RM.o8 rfl ?_) |((with_reducible show wpDOne _ _ _ _ _ _ _ _ _ _);refine RM.p9 rfl ?_) |((with_reducible show wpGuard _ _ _ _ _);refine wpGuard_yes rfl rfl (by assumption) ?_) |((with_reducible show wpC _ _ _ _ (.cond _ _ _) _ _);refine RM.e2 rfl rfl ?_) |((with_reducible show wpPick _ _ _ _ _);refine RM.k1 rfl ?_) |((with_reducible show wpPickB _ _ _ _ _);refine RM.k2 (by assumption) ?_) |((with_reducible show wpBin _ _ _ _ _ _ _ _ _);first|refine RM.b8 rfl rfl ?_|refine RM.b2 rfl rfl (by omega) ?_) |(refine ⟨_, rfl, ?_⟩) |(refine ⟨rfl, rfl, ?_⟩) |(refine And.intro (by omega) ?_) |(refine And.intro (by kernel_rfl) ?_) |(refine ⟨_, _, rfl, _, hgj, ?_⟩) |(refine ⟨_, _, rfl, _, hgk, ?_⟩) |(refine ⟨_, _, rfl, rfl, rfl, rfl, hb1, ?_⟩) |(refine ⟨_, _, rfl, rfl, rfl, rfl, hb2, ?_⟩) |fail)
        refine ⟨(j - 1, swapAt R j), ⟨by dsimp only; omega, hsi.swap (by omega) hj (by omega) hl, (swap_perm R (by omega)).trans hpr⟩, (by dsimp only; omega), ?_⟩
        refine Weaker.to 1 ?_ ⟨rfl, rfl, rfl, rfl, i64c (by dsimp only; omega), trivial⟩ (Nat.le_refl _) rfl (rowB_inb _ _)
        show [AB.cells (spliceV (spliceV (R.map I64) [I64 (R.getD (j - 1) 0)] (0 + ((j : Nat) : Int).toNat * 1)) [I64 (R.getD j 0)] (0 + (((j : Nat) : Int) - 1).toNat * 1)) 1 ver] = [rowB (swapAt R j) ver]
        rw [he2]
        rfl
      · rw [decide_eq_false hl] at hle
        repeat' (first |(refine ⟨_, hle, ?_⟩) |with_reducible (first|refine RM.c2 ?_|refine RM.c4 ?_|refine RM.c5 ?_|refine RM.c6 ?_|refine RM.c9 ?_|refine RM.d2 ?_|refine RM.d3 ?_|refine RM.o1 ?_|refine RM.o2 ?_|refine RM.o3 ?_|refine RM.o4 ?_|refine RM.o5 ?_|refine RM.o9 ?_|refine RM.p1 ?_|refine RM.p2 ?_|refine RM.p3 ?_|refine RM.p4 ?_|refine RM.p5 ?_|refine RM.n1 ?_|refine RM.q2 ?_) |((with_reducible show force _ _);first|refine RM.f1 rfl ?_|refine RM.f4 rfl ?_|refine RM.f7 rfl ?_|refine RM.f8 rfl ?_) |((with_reducible show wpOne _ _ _ _ _ _ _ _ _ _ _ _);refine RM.o8 rfl ?_) |((with_reducible show wpDOne _ _ _ _ _ _ _ _ _ _);refine RM.p9 rfl ?_) |((with_reducible show wpGuard _ _ _ _ _);refine wpGuard_yes rfl rfl (by assumption) ?_) |((with_reducible show wpC _ _ _ _ (.cond _ _ _) _ _);refine RM.e3 rfl rfl ?_) |((with_reducible show wpPick _ _ _ _ _);refine RM.k1 rfl ?_) |((with_reducible show wpPickB _ _ _ _ _);refine RM.k2 (by assumption) ?_) |((with_reducible show wpBin _ _ _ _ _ _ _ _ _);first|refine RM.b8 rfl rfl ?_|refine RM.b1 rfl rfl (by omega) ?_|refine RM.b2 rfl rfl (by omega) ?_) |((with_reducible show blockK _ _ _ _);refine RM.d5 rfl ?_) |(refine ⟨_, rfl, ?_⟩) |(refine ⟨rfl, rfl, ?_⟩) |(refine And.intro (by omega) ?_) |(refine And.intro (by kernel_rfl) ?_) |(refine ⟨_, _, rfl, _, hgj, ?_⟩) |(refine ⟨_, _, rfl, _, hgk, ?_⟩) |fail)
        refine ⟨(i + 1, R), ⟨⟨by omega, .inl (by dsimp only; omega)⟩, hsi.done (.inr (by omega)), hpr⟩, (by dsimp only; omega), ?_⟩
        exact Weaker.to 1 rfl ⟨rfl, rfl, rfl, i64c (by simp), trivial⟩ (Nat.le_refl _) rfl (rowB_inb _ _)
  · rw [decide_eq_false_iff_not] at hc
    repeat' (first |with_reducible (first|refine RM.c6 ?_|refine RM.d2 ?_|refine RM.q2 ?_) |((with_reducible show blockK _ _ _ _);refine RM.d5 rfl ?_) |fail)
    refine hQ S (fun p q h1 h2 => hso p q h1 (by omega)) hpe
end Go.Proofs.Ytmkaeohmdcoanaa
open Go Go.RM
namespace Go.Proofs.Ytmkaeohmdcoanaa
set_option maxRecDepth 100000
set_option maxHeartbeats 4000000
theorem pdq_c (one : Bool) (L : List Int) (N : Nat) (hN : L.length = N) (h12 : N ≤ 12) (lim : Int) {ver c : Nat} {amb : Amb} {Q : AV → List AB → Amb → Prop} (hQ : ∀ S : List Int, SortedTo S N → S.Perm L → Q (.tp []) [rowB S ver] amb) :
    CallV TT TB one (.fn 110 [] []) [.osl 0 ver 0 N c, I64 0, I64 (N : Nat), I64 lim] [rowB L ver] amb Q := by
  refine CallV.body (fn := Try.f110) rfl rfl rfl ?_
  refine wpC_sound (mu := fun _ => false) ?_
  repeat' (first |with_reducible (first|refine RM.c2 ?_|refine RM.c3 ?_|refine RM.c4 ?_|refine RM.c9 ?_|refine RM.o1 ?_|refine RM.o2 ?_|refine RM.o4 ?_|refine RM.o5 ?_|refine RM.p3 ?_) |((with_reducible show force _ _);refine RM.f1 rfl ?_) |((with_reducible show wpOne _ _ _ _ _ _ _ _ _ _ _ _);refine RM.o8 rfl ?_) |fail)
  refine SemC.weaker (Weaker.to (l := [(0, .osl 0 ver 0 N c), (1, I64 0), (2, I64 (N : Nat)), (3, I64 lim), (8, .fl (.bool true)), (9, .fl (.bool true))]) (hp := [rowB L ver]) 1 rfl ⟨rfl, rfl, rfl, rfl, rfl, rfl, trivial⟩ (Nat.le_refl _) rfl (rowB_inb _ _)) ?_
  refine SemC.loop (fun _ : Unit => True) (fun _ => ⟨mkFr [(0, .osl 0 ver 0 N c), (1, I64 0), (2, I64 (N : Nat)), (3, I64 lim), (8, .fl (.bool true)), (9, .fl (.bool true))], [rowB L ver], amb, false, 1⟩) (fun _ => 0) ?_ () trivial
  intro _ _
  refine wpC_sound (mu := fun _ => false) ?_
  have d1 : decide ((N : Int) - 0 ≤ 12) = true := decide_eq_true (by omega)
  repeat' (first |(refine insertion_c _ L N hN h12 (fun S hso hpe => ?_)) |with_reducible (first|refine RM.c2 ?_|refine RM.c3 ?_|refine RM.c4 ?_|refine RM.c7 ?_|refine RM.c9 ?_|refine RM.d1 ?_|refine RM.d4 ?_|refine RM.o1 ?_|refine RM.o2 ?_|refine RM.o4 ?_|refine RM.o5 ?_|refine RM.p2 ?_|refine RM.p3 ?_|refine RM.p5 ?_|refine RM.q1 ?_) |((with_reducible show force _ _);refine RM.f1 rfl ?_) |((with_reducible show wpOne _ _ _ _ _ _ _ _ _ _ _ _);refine RM.o8 rfl ?_) |((with_reducible show wpC _ _ _ _ (.cond _ _ _) _ _);refine RM.e2 rfl (by assumption) ?_) |((with_reducible show wpBin _ _ _ _ _ _ _ _ _);first|refine RM.b7 rfl rfl ?_|refine RM.b2 rfl rfl (by omega) ?_) |fail)
  exact hQ S hso hpe
theorem wrap_short : ∀ {N : Nat}, N ≤ 12 → IntKind.u64.wrap (N : Int) = (N : Int)
  | 0, _ | 1, _ | 2, _ | 3, _ | 4, _ | 5, _ | 6, _ | 7, _ | 8, _ | 9, _ | 10, _ | 11, _ | 12, _ => rfl
theorem sort_c (one : Bool) (L : List Int) (N : Nat) (hN : L.length = N) (h12 : N ≤ 12) {ver c : Nat} {amb : Amb} {Q : AV → List AB → Amb → Prop} (hQ : ∀ S : List Int, SortedTo S N → S.Perm L → Q (.tp []) [rowB S ver] amb) :
    CallV TT TB one (.fn 79 [] []) [.osl 0 ver 0 N c] [rowB L ver] amb Q := by
  refine CallV.body (fn := Try.f79) rfl rfl rfl ?_
  refine wpC_sound (mu := fun _ => false) ?_
  have hw : IntKind.u64.wrap (N : Int) = (N : Int) := wrap_short h12
  have hv : Pu one 111 [.fl (.int .u64 (IntKind.u64.wrap (N : Int)))] (I64 (lenT N)) := by rw [hw]; exact len_c one N h12
  repeat' (first |(refine PureV.call hv rfl rfl ?_) |(refine pdq_c _ L N hN h12 _ (fun S hso hpe => ?_)) |with_reducible (first|refine RM.c2 ?_|refine RM.c4 ?_|refine RM.c9 ?_|refine RM.o1 ?_|refine RM.o2 ?_|refine RM.o4 ?_|refine RM.o5 ?_|refine RM.p2 ?_|refine RM.p3 ?_|refine RM.p6 ?_) |((with_reducible show force _ _);first|refine RM.f1 rfl ?_|refine RM.f8 rfl ?_) |((with_reducible show wpOne _ _ _ _ _ _ _ _ _ _ _ _);refine RM.o8 rfl ?_) |((with_reducible show wpLen _ _ _ _ _);refine RM.l2 rfl ?_) |(refine ⟨_, rfl, ?_⟩) |(refine And.intro (by kernel_rfl) ?_) |fail)
  exact hQ S hso hpe
end Go.Proofs.Ytmkaeohmdcoanaa
open Go Go.RM
namespace Go.Proofs.Ytmkaeohmdcoanaa
set_option maxRecDepth 100000
theorem cmpL_zero : ∀ {x y : List Int}, cmpL x y = 0 → x = y
  | [], [], _ => rfl
  | [], _ :: _, h => by rw [cmpL_nc] at h; omega
  | _ :: _, [], h => by rw [cmpL_cn] at h; omega
  | a :: l, b :: m, h => by
    rw [cmpL_cc] at h
    unfold cmpI at h
    by_cases h1 : a < b
    · simp only [h1, if_true] at h
      omega
    · by_cases h2 : b < a
      · simp only [h1, h2, if_true, if_false] at h
        omega
      · simp only [h1, h2, if_false, if_true] at h
        rw [cmpL_zero h, show a = b by omega]
theorem cmpL_flip : ∀ (x y : List Int), cmpL y x = - cmpL x y
  | [], [] => by rw [cmpL_nn]; rfl
  | [], _ :: _ => by rw [cmpL_nc, cmpL_cn]; rfl
  | _ :: _, [] => by rw [cmpL_nc, cmpL_cn]
  | a :: l, b :: m => by
    rw [cmpL_cc, cmpL_cc]
    have ih := cmpL_flip l m
    unfold cmpI
    by_cases h1 : a < b
    · have h2 : ¬ b < a := by omega
      simp [h1, h2]
    · by_cases h2 : b < a
      · simp [h1, h2]
      · simp [h1, h2, ih]
theorem cmpL_trans : ∀ {x y z : List Int}, cmpL x y < 0 → cmpL y z < 0 → cmpL x z < 0
  | [], [], z, h, _ => by rw [cmpL_nn] at h; omega
  | [], _ :: _, [], _, h => by rw [cmpL_cn] at h; omega
  | [], _ :: _, _ :: _, _, _ => by rw [cmpL_nc]; omega
  | _ :: _, [], z, h, _ => by rw [cmpL_cn] at h; omega
  | _ :: _, _ :: _, [], _, h => by rw [cmpL_cn] at h; omega
  | a :: l, b :: m, c :: n, h, k => by
    rw [cmpL_cc] at h k ⊢
    have ih := @cmpL_trans l m n
    unfold cmpI at *
    by_cases h1 : a < b
    · by_cases h2 : b < c
      · have : a < c := by omega
        simp [this]
      · by_cases h3 : c < b
        · simp [h2, h3] at k
        · have : a < c := by omega
          simp [this]
    · by_cases h2 : b < a
      · simp [h1, h2] at h
      · obtain rfl : a = b := by omega
        simp only [h1, if_false, if_true] at h
        by_cases h2 : a < c
        · simp [h2]
        · by_cases h3 : c < a
          · simp [h2, h3] at k
          · simp only [h2, h3, if_false, if_true] at k ⊢
            exact ih h k
/-- A list is shorter than another one, or as long and before it. -/
def bef (x y : List Int) : Prop := x.length < y.length ∨ x.length = y.length ∧ cmpL x y < 0
instance (x y : List Int) : Decidable (bef x y) := by unfold bef; infer_instance
theorem bef_tri {x y : List Int} (h : ¬ bef x y) (k : ¬ bef y x) : x = y := by
  unfold bef at h k
  have hf := cmpL_flip x y
  apply cmpL_zero
  omega
theorem bef_trans {x y z : List Int} (h : bef x y) (k : bef y z) : bef x z := by
  unfold bef at *
  rcases h with h | ⟨h1, h2⟩
  · left; omega
  · rcases k with k | ⟨k1, k2⟩
    · left; omega
    · exact .inr ⟨by omega, cmpL_trans h2 k2⟩
theorem bef_irr {x : List Int} : ¬ bef x x := by
  intro h
  unfold bef at h
  have := cmpL_flip x x
  omega
theorem bef_least {α : Type} (f : α → List Int) : ∀ (L : List α), L ≠ [] → ∃ t ∈ L, ∀ u ∈ L, ¬ bef (f u) (f t)
  | [], h => absurd rfl h
  | [a], _ => ⟨a, List.mem_cons_self .., fun u hu => by rw [List.mem_singleton.1 hu]; exact bef_irr⟩
  | a :: b :: L, _ => by
    obtain ⟨t, ht, hm⟩ := bef_least f (b :: L) (by simp)
    by_cases hb : bef (f a) (f t)
    · refine ⟨a, List.mem_cons_self .., fun u hu => ?_⟩
      rcases List.mem_cons.1 hu with rfl | hu
      · exact bef_irr
      · exact fun h => hm u hu (bef_trans h hb)
    · refine ⟨t, List.mem_cons_of_mem _ ht, fun u hu => ?_⟩
      rcases List.mem_cons.1 hu with rfl | hu
      · exact hb
      · exact hm u hu
/-- The numbers of a set, from a on, of m. -/
def lst (p : Nat → Bool) (a m : Nat) : List Int := ((List.range' a m).filter p).map fun (i : Nat) => (i : Int)
theorem lst_t {p : Nat → Bool} {a m : Nat} (h : p a = true) : lst p a (m + 1) = (a : Int) :: lst p (a + 1) m := by
  unfold lst
  rw [List.range'_succ, List.filter_cons, if_pos h, List.map_cons]
theorem lst_f {p : Nat → Bool} {a m : Nat} (h : p a = false) : lst p a (m + 1) = lst p (a + 1) m := by
  unfold lst
  rw [List.range'_succ, List.filter_cons, if_neg (by rw [h]; exact Bool.false_ne_true)]
theorem mem_lst {p : Nat → Bool} {a m : Nat} {x : Int} : x ∈ lst p a m ↔ ∃ i : Nat, x = (i : Int) ∧ a ≤ i ∧ i < a + m ∧ p i = true := by
  unfold lst
  rw [List.mem_map]
  constructor
  · rintro ⟨i, hi, rfl⟩
    rw [List.mem_filter, List.mem_range'_1] at hi
    exact ⟨i, rfl, hi.1.1, hi.1.2, hi.2⟩
  · rintro ⟨i, rfl, h1, h2, h3⟩
    exact ⟨i, by rw [List.mem_filter, List.mem_range'_1]; exact ⟨⟨h1, h2⟩, h3⟩, rfl⟩
theorem lst_len_le (p : Nat → Bool) (a m : Nat) : (lst p a m).length ≤ m := by
  unfold lst
  rw [List.length_map]
  exact Nat.le_trans (List.length_filter_le ..) (by rw [List.length_range']; exact Nat.le_refl _)
theorem lst_congr {p q : Nat → Bool} {n : Nat} (h : ∀ i, i < n → p i = q i) : lst p 0 n = lst q 0 n := by
  unfold lst
  congr 1
  apply List.filter_congr
  intro i hi
  rw [List.mem_range'_1] at hi
  exact h i (by omega)
theorem lst_cmp {p q : Nat → Bool} : ∀ (m a : Nat), (lst p a m).length = (lst q a m).length →
    (cmpL (lst p a m) (lst q a m) < 0 ↔ ∃ i, a ≤ i ∧ i < a + m ∧ p i = true ∧ q i = false ∧ ∀ j, a ≤ j → j < i → p j = q j)
  | 0, a, _ => by
    refine ⟨fun h => ?_, fun ⟨i, h1, h2, _⟩ => absurd h1 (by omega)⟩
    change cmpL [] [] < 0 at h
    rw [cmpL_nn] at h
    omega
  | m + 1, a, h => by
    cases hp : p a with
    | false =>
      cases hq : q a with
      | false =>
        rw [lst_f hp, lst_f hq] at h ⊢
        rw [lst_cmp m (a + 1) h]
        constructor
        · rintro ⟨i, h1, h2, h3, h4, h5⟩
          refine ⟨i, by omega, by omega, h3, h4, fun j hj hji => ?_⟩
          by_cases hja : j = a
          · rw [hja, hp, hq]
          · exact h5 j (by omega) hji
        · rintro ⟨i, h1, h2, h3, h4, h5⟩
          have : i ≠ a := by rintro rfl; rw [hp] at h3; cases h3
          exact ⟨i, by omega, by omega, h3, h4, fun j hj hji => h5 j (by omega) hji⟩
      | true =>
        rw [lst_f hp, lst_t hq] at h ⊢
        constructor
        · intro hc
          cases hL : lst p (a + 1) m with
          | nil => rw [hL] at h; simp at h
          | cons b L =>
            have hb : b ∈ lst p (a + 1) m := by rw [hL]; exact List.mem_cons_self ..
            obtain ⟨i, rfl, h1, _⟩ := mem_lst.1 hb
            rw [hL, cmpL_cc] at hc
            unfold cmpI at hc
            have h2 : ¬ ((i : Int) < (a : Int)) := by omega
            have h3 : ((a : Int) < (i : Int)) := by omega
            simp [h2, h3] at hc
        · rintro ⟨i, h1, h2, h3, h4, h5⟩
          have : i ≠ a := by rintro rfl; rw [hp] at h3; cases h3
          have := h5 a (Nat.le_refl _) (by omega)
          rw [hp, hq] at this
          cases this
    | true =>
      cases hq : q a with
      | false =>
        rw [lst_t hp, lst_f hq] at h ⊢
        refine ⟨fun _ => ⟨a, Nat.le_refl _, by omega, hp, hq, fun j hj hja => absurd hj (by omega)⟩, fun _ => ?_⟩
        cases hL : lst q (a + 1) m with
        | nil => rw [hL] at h; simp at h
        | cons b L =>
          have hb : b ∈ lst q (a + 1) m := by rw [hL]; exact List.mem_cons_self ..
          obtain ⟨i, rfl, h1, _⟩ := mem_lst.1 hb
          rw [cmpL_cc]
          unfold cmpI
          have h3 : ((a : Int) < (i : Int)) := by omega
          simp [h3]
      | true =>
        rw [lst_t hp, lst_t hq] at h ⊢
        rw [cmpL_cc, show cmpI (a : Int) (a : Int) = 0 by unfold cmpI; simp, if_pos rfl]
        rw [lst_cmp m (a + 1) (by simpa using h)]
        constructor
        · rintro ⟨i, h1, h2, h3, h4, h5⟩
          refine ⟨i, by omega, by omega, h3, h4, fun j hj hji => ?_⟩
          by_cases hja : j = a
          · rw [hja, hp, hq]
          · exact h5 j (by omega) hji
        · rintro ⟨i, h1, h2, h3, h4, h5⟩
          have : i ≠ a := by rintro rfl; rw [hq] at h4; cases h4
          exact ⟨i, by omega, by omega, h3, h4, fun j hj hji => h5 j (by omega) hji⟩
theorem lst_sub {p q : Nat → Bool} : ∀ (m a : Nat), (∀ i, a ≤ i → i < a + m → p i = true → q i = true) →
    (lst p a m).length ≤ (lst q a m).length ∧ ((lst p a m).length = (lst q a m).length → ∀ i, a ≤ i → i < a + m → p i = q i)
  | 0, a, _ => ⟨Nat.le_refl _, fun _ i h1 h2 => absurd h1 (by omega)⟩
  | m + 1, a, h => by
    obtain ⟨h1, h2⟩ := lst_sub m (a + 1) (fun i x y => h i (by omega) (by omega))
    have hf : p a = q a → (∀ i, a + 1 ≤ i → i < a + 1 + m → p i = q i) → ∀ i, a ≤ i → i < a + (m + 1) → p i = q i := by
      intro ha hr i x y
      by_cases hia : i = a
      · rw [hia]; exact ha
      · exact hr i (by omega) (by omega)
    cases hp : p a with
    | false =>
      cases hq : q a with
      | false =>
        rw [lst_f hp, lst_f hq]
        exact ⟨h1, fun e => hf (by rw [hp, hq]) (h2 e)⟩
      | true =>
        rw [lst_f hp, lst_t hq, List.length_cons]
        exact ⟨by omega, fun e => absurd e (by omega)⟩
    | true =>
      have hq := h a (Nat.le_refl _) (by omega) hp
      rw [lst_t hp, lst_t hq, List.length_cons, List.length_cons]
      exact ⟨by omega, fun e => hf (by rw [hp, hq]) (h2 (by omega))⟩
theorem filter_or {α : Type} {p q : α → Bool} (hd : ∀ i, p i = true → q i = true → False) : ∀ (L : List α), (L.filter fun i => p i || q i).Perm (L.filter p ++ L.filter q)
  | [] => .refl _
  | a :: L => by
    have ih := filter_or hd L
    cases hp : p a with
    | true =>
      have hq : q a = false := by cases hq : q a with | false => rfl | true => exact (hd a hp hq).elim
      simp only [List.filter_cons, hp, hq, Bool.or_false, if_true, Bool.false_eq_true, if_false, List.cons_append]
      exact ih.cons a
    | false =>
      cases hq : q a with
      | true =>
        simp only [List.filter_cons, hp, hq, Bool.or_true, if_true, Bool.false_eq_true, if_false]
        exact (ih.cons a).trans List.perm_middle.symm
      | false =>
        simp only [List.filter_cons, hp, hq, Bool.or_false, Bool.false_eq_true, if_false]
        exact ih
theorem lst_or {p q : Nat → Bool} (hd : ∀ i, p i = true → q i = true → False) (a m : Nat) : (lst (fun i => p i || q i) a m).Perm (lst p a m ++ lst q a m) := by
  unfold lst
  rw [← List.map_append]
  exact (filter_or hd _).map _
theorem lst_sorted (p : Nat → Bool) : ∀ (m a : Nat), (lst p a m).Pairwise (· < ·)
  | 0, a => .nil
  | m + 1, a => by
    cases hp : p a with
    | false => rw [lst_f hp]; exact lst_sorted p m (a + 1)
    | true =>
      rw [lst_t hp]
      refine .cons (fun x hx => ?_) (lst_sorted p m (a + 1))
      obtain ⟨i, rfl, h1, _⟩ := mem_lst.1 hx
      omega
theorem sorted_eq {S : List Int} {N : Nat} (hN : S.length = N) (hs : SortedTo S N) {p : Nat → Bool} {a m : Nat} (hp : S.Perm (lst p a m)) : S = lst p a m := by
  refine List.Perm.eq_of_pairwise (le := (· ≤ ·)) (fun x y _ _ h1 h2 => by omega) ?_ ((lst_sorted p m a).imp (fun h => by omega)) hp
  rw [List.pairwise_iff_getElem]
  intro i j hi hj hij
  have := hs i j hij (by omega)
  rw [List.getD_eq_getElem?_getD, List.getD_eq_getElem?_getD, List.getElem?_eq_getElem hi, List.getElem?_eq_getElem hj] at this
  exact this
section
variable {τ : Type} (K n : Nat) (A : Nat → List τ) (M : Nat → τ → Nat → Bool)
/-- Each kind has a truth that misses just counts of a set. -/
def Feas (q : Nat → Bool) : Prop := ∀ k, k < K → ∃ t ∈ A k, ∀ i, i < n → M k t i = true → q i = true
def Disj : Prop := ∀ k k' t t' i, M k t i = true → M k' t' i = true → k = k'
def Best (T : Nat → τ) : Prop := ∀ k, k < K → T k ∈ A k ∧ ∀ t ∈ A k, ¬ bef (lst (M k t) 0 n) (lst (M k (T k)) 0 n)
/-- What the first m kinds miss. -/
def unTo (T : Nat → τ) (m : Nat) (i : Nat) : Bool := (List.range m).any fun k => M k (T k) i
variable {K n A M}
theorem unTo_iff {T : Nat → τ} {m i : Nat} : unTo M T m i = true ↔ ∃ k, k < m ∧ M k (T k) i = true := by
  unfold unTo
  simp [List.any_eq_true, List.mem_range]
theorem unTo_succ (T : Nat → τ) (m : Nat) : unTo M T (m + 1) = fun i => unTo M T m i || M m (T m) i := by
  funext i
  unfold unTo
  rw [List.range_succ, List.any_append]
  simp
theorem un_perm (hd : Disj M) (T : Nat → τ) (m : Nat) : (lst (unTo M T (m + 1)) 0 n).Perm (lst (unTo M T m) 0 n ++ lst (M m (T m)) 0 n) := by
  rw [unTo_succ]
  refine lst_or (fun i h1 h2 => ?_) _ _
  obtain ⟨k, hk, h3⟩ := unTo_iff.1 h1
  have := hd _ _ _ _ _ h3 h2
  omega
theorem un_cnt (hd : Disj M) (T : Nat → τ) (m : Nat) : (lst (unTo M T (m + 1)) 0 n).length = (lst (unTo M T m) 0 n).length + (lst (M m (T m)) 0 n).length := by
  rw [(un_perm hd T m).length_eq, List.length_append]
theorem un_le (hd : Disj M) {T T' : Nat → τ} : ∀ (m : Nat), (∀ k, k < m → (lst (M k (T k)) 0 n).length ≤ (lst (M k (T' k)) 0 n).length) →
    (lst (unTo M T m) 0 n).length ≤ (lst (unTo M T' m) 0 n).length ∧ ((lst (unTo M T m) 0 n).length = (lst (unTo M T' m) 0 n).length → ∀ k, k < m → (lst (M k (T k)) 0 n).length = (lst (M k (T' k)) 0 n).length)
  | 0, _ => ⟨Nat.le_refl _, fun _ k hk => absurd hk (by omega)⟩
  | m + 1, h => by
    obtain ⟨h1, h2⟩ := un_le hd m fun k hk => h k (by omega)
    have h3 := h m (by omega)
    rw [un_cnt hd, un_cnt hd]
    refine ⟨by omega, fun e k hk => ?_⟩
    by_cases hkm : k = m
    · subst hkm; omega
    · exact h2 (by omega) k (by omega)
theorem un_feas {T : Nat → τ} (hb : Best K n A M T) : Feas K n A M (unTo M T K) := fun k hk =>
  ⟨T k, (hb k hk).1, fun _ _ h => unTo_iff.2 ⟨k, hk, h⟩⟩
/-- THE LEAST OF ALL KINDS: what the least of each kind are together. -/
theorem un_least (hd : Disj M) {T : Nat → τ} (hb : Best K n A M T) {q : Nat → Bool} (hq : Feas K n A M q) :
    lst (unTo M T K) 0 n = lst q 0 n ∨ bef (lst (unTo M T K) 0 n) (lst q 0 n) := by
  obtain ⟨T', hT⟩ : ∃ T' : Nat → τ, ∀ k, k < K → T' k ∈ A k ∧ ∀ i, i < n → M k (T' k) i = true → q i = true := by
    refine ⟨fun k => if h : k < K then (hq k h).choose else T k, fun k hk => ?_⟩
    simp only [hk, dif_pos]
    exact (hq k hk).choose_spec
  have hle : ∀ k, k < K → (lst (M k (T k)) 0 n).length ≤ (lst (M k (T' k)) 0 n).length := by
    intro k hk
    have := (hb k hk).2 _ (hT k hk).1
    unfold bef at this
    omega
  obtain ⟨c1, c2⟩ := un_le hd (n := n) K hle
  obtain ⟨d1, d2⟩ := lst_sub (p := unTo M T' K) (q := q) n 0 (fun i _ hi h => by
    obtain ⟨k, hk, h1⟩ := unTo_iff.1 h
    exact (hT k hk).2 i (by omega) h1)
  by_cases hlt : (lst (unTo M T K) 0 n).length < (lst q 0 n).length
  · exact .inr (.inl hlt)
  · have e1 := c2 (by omega)
    have e2 := d2 (by omega)
    have e3 : (lst q 0 n).length = (lst (unTo M T K) 0 n).length := by omega
    by_cases hbq : bef (lst q 0 n) (lst (unTo M T K) 0 n)
    · exfalso
      rcases hbq with h | ⟨_, h⟩
      · omega
      · obtain ⟨i, _, h2, h3, h4, h5⟩ := (lst_cmp n 0 e3).1 h
        have hin : i < n := by omega
        rw [← e2 i (Nat.zero_le _) (by omega)] at h3
        obtain ⟨k, hk, h6⟩ := unTo_iff.1 h3
        have h7 : M k (T k) i = false := by
          cases hm : M k (T k) i with
          | false => rfl
          | true => rw [unTo_iff.2 ⟨k, hk, hm⟩] at h4; cases h4
        refine (hb k hk).2 _ (hT k hk).1 (.inr ⟨(e1 k hk).symm, (lst_cmp n 0 (e1 k hk).symm).2 ⟨i, Nat.zero_le _, by omega, h6, h7, fun j _ hji => ?_⟩⟩)
        have h8 := h5 j (Nat.zero_le _) hji
        have h9 := e2 j (Nat.zero_le _) (by omega)
        rw [Bool.eq_iff_iff]
        constructor
        · intro hm
          have : unTo M T' K j = true := unTo_iff.2 ⟨k, hk, hm⟩
          rw [h9, h8] at this
          obtain ⟨k', hk', hm'⟩ := unTo_iff.1 this
          rw [hd _ _ _ _ _ hm hm']
          exact hm'
        · intro hm
          have : unTo M T K j = true := unTo_iff.2 ⟨k, hk, hm⟩
          rw [← h8, ← h9] at this
          obtain ⟨k', hk', hm'⟩ := unTo_iff.1 this
          rw [hd _ _ _ _ _ hm hm']
          exact hm'
    · by_cases hbu : bef (lst (unTo M T K) 0 n) (lst q 0 n)
      · exact .inr hbu
      · exact .inl (bef_tri hbu hbq)
theorem best_ex (hA : ∀ k, k < K → A k ≠ []) (t0 : τ) : ∃ T, Best K n A M T := by
  refine ⟨fun k => if h : k < K then (bef_least (fun t => lst (M k t) 0 n) (A k) (hA k h)).choose else t0, fun k hk => ?_⟩
  simp only [hk, dif_pos]
  exact (bef_least (fun t => lst (M k t) 0 n) (A k) (hA k hk)).choose_spec
end
def bitsN (p : Nat → Bool) : Nat → Nat
  | 0 => 0
  | m + 1 => bitsN p m + if p m = true then 2 ^ m else 0
theorem bitsN_lt (p : Nat → Bool) : ∀ m, bitsN p m < 2 ^ m
  | 0 => by unfold bitsN; exact Nat.one_pos
  | m + 1 => by
    have := bitsN_lt p m
    unfold bitsN
    rw [Nat.pow_succ]
    split <;> omega
theorem bitsN_bit (p : Nat → Bool) : ∀ (m i : Nat), (bitsN p m).testBit i = (decide (i < m) && p i)
  | 0, i => by unfold bitsN; simp
  | m + 1, i => by
    have ih := bitsN_bit p m i
    have hl := bitsN_lt p m
    unfold bitsN
    cases hp : p m with
    | false =>
      simp only [Bool.false_eq_true, if_false, Nat.add_zero]
      rw [ih]
      by_cases him : i = m
      · subst him; simp [hp]
      · rw [show decide (i < m + 1) = decide (i < m) from decide_eq_decide.2 (by omega)]
    | true =>
      simp only [if_true]
      have h2 := Nat.two_pow_add_eq_or_of_lt hl 1
      rw [Nat.mul_one] at h2
      rw [Nat.add_comm, h2, Nat.testBit_or, ih, Nat.testBit_two_pow]
      by_cases him : i = m
      · subst him; simp [hp]
      · rw [show decide (i < m + 1) = decide (i < m) from decide_eq_decide.2 (by omega), show decide (m = i) = false from decide_eq_false (by omega), Bool.false_or]
theorem full_bit (n i : Nat) : (2 ^ n - 1).testBit i = decide (i < n) := Nat.testBit_two_pow_sub_one n i
/-- One of two sets has all numbers. -/
theorem or_full {a b n : Nat} (ha : a < 2 ^ n) (hb : b < 2 ^ n) : a ||| b = 2 ^ n - 1 ↔ ∀ i, i < n → (a.testBit i || b.testBit i) = true := by
  constructor
  · intro h i hi
    rw [← Nat.testBit_or, h, full_bit, decide_eq_true hi]
  · intro h
    apply Nat.eq_of_testBit_eq
    intro i
    rw [Nat.testBit_or, full_bit]
    by_cases hi : i < n
    · rw [h i hi, decide_eq_true hi]
    · have h1 : a.testBit i = false := Nat.testBit_lt_two_pow (Nat.lt_of_lt_of_le ha (Nat.pow_le_pow_right (by omega) (by omega)))
      have h2 : b.testBit i = false := Nat.testBit_lt_two_pow (Nat.lt_of_lt_of_le hb (Nat.pow_le_pow_right (by omega) (by omega)))
      rw [h1, h2, decide_eq_false hi]
      rfl
theorem lst_snoc_t {p : Nat → Bool} {c : Nat} (h : p c = true) : lst p 0 (c + 1) = lst p 0 c ++ [(c : Int)] := by
  unfold lst
  rw [List.range'_concat, List.filter_append, List.map_append]
  simp [h]
theorem lst_snoc_f {p : Nat → Bool} {c : Nat} (h : p c = false) : lst p 0 (c + 1) = lst p 0 c := by
  unfold lst
  rw [List.range'_concat, List.filter_append, List.map_append]
  simp [h]
theorem lst_mono (p : Nat → Bool) {c d : Nat} (h : c ≤ d) : (lst p 0 c).length ≤ (lst p 0 d).length := by
  induction d with
  | zero => rw [Nat.le_zero.1 h]; exact Nat.le_refl _
  | succ d ih =>
    by_cases hcd : c = d + 1
    · rw [hcd]; exact Nat.le_refl _
    · refine Nat.le_trans (ih (by omega)) ?_
      cases hp : p d with
      | true => rw [lst_snoc_t hp, List.length_append]; omega
      | false => rw [lst_snoc_f hp]; exact Nat.le_refl _
end Go.Proofs.Ytmkaeohmdcoanaa
open Go Go.RM
namespace Go.Proofs.Ytmkaeohmdcoanaa
set_option maxRecDepth 100000
set_option maxHeartbeats 4000000
theorem two_pow8 {j : Nat} (h : j ≤ 8) : 1 ≤ 2 ^ j ∧ 2 ^ j ≤ 256 := by
  match j, h with
  | 0, _ | 1, _ | 2, _ | 3, _ | 4, _ | 5, _ | 6, _ | 7, _ | 8, _ => decide
theorem bit_c (one : Bool) (n : Nat) (hn : n ≤ 8) : Pu one 82 [I64 (n : Nat)] (I64 ((2 ^ n : Nat) : Int)) := by
  refine PureV.body (fn := Try.f82) rfl rfl rfl rfl ?_
  refine wpC_sound (mu := fun _ => false) ?_
  repeat' (first |with_reducible (first|refine RM.c2 ?_|refine RM.c3 ?_|refine RM.c4 ?_|refine RM.c9 ?_|refine RM.o1 ?_|refine RM.o2 ?_|refine RM.o4 ?_|refine RM.o5 ?_|refine RM.p3 ?_) |((with_reducible show force _ _);refine RM.f1 rfl ?_) |((with_reducible show wpOne _ _ _ _ _ _ _ _ _ _ _ _);refine RM.o8 rfl ?_) |fail)
  refine SemC.weaker (Weaker.to (l := [(0, I64 (n : Nat)), (3, I64 ((2 ^ 0) : Nat)), (4, I64 (0 : Nat))]) (hp := []) 0 rfl ⟨rfl, rfl, rfl, trivial⟩ (Nat.le_refl _) rfl rfl) ?_
  refine SemC.loop (fun j : Nat => j ≤ n) (fun j => ⟨mkFr [(0, I64 (n : Nat)), (3, I64 ((2 ^ j) : Nat)), (4, I64 (j : Nat))], [], Amb.none, false, 0⟩) (fun j => n - j) ?_ 0 (Nat.zero_le _)
  intro j hj
  have hp := two_pow8 (j := j) (by omega)
  have hs : 2 ^ (j + 1) = 2 ^ j * 2 := Nat.pow_succ ..
  refine wpC_sound (mu := fun _ => false) ?_
  by_cases hlt : j < n
  · have d1 : decide ((j : Int) < (n : Int)) = true := decide_eq_true (by omega)
    generalize 2 ^ j = x at *
    repeat' (first |with_reducible (first|refine RM.c1 ?_|refine RM.c2 ?_|refine RM.c3 ?_|refine RM.c4 ?_|refine RM.c9 ?_|refine RM.d3 ?_|refine RM.o1 ?_|refine RM.o2 ?_|refine RM.o4 ?_|refine RM.o5 ?_|refine RM.p2 ?_|refine RM.p3 ?_|refine RM.p5 ?_) |((with_reducible show force _ _);refine RM.f1 rfl ?_) |((with_reducible show wpOne _ _ _ _ _ _ _ _ _ _ _ _);refine RM.o8 rfl ?_) |((with_reducible show wpC _ _ _ _ (.cond _ _ _) _ _);refine RM.e2 rfl (by assumption) ?_) |((with_reducible show wpBin _ _ _ _ _ _ _ _ _);first|refine RM.b6 rfl rfl ?_|refine RM.b1 rfl rfl (by omega) ?_|refine RM.b3 rfl rfl (by omega) ?_) |fail)
    refine ⟨j + 1, hlt, (by dsimp only; omega), ?_⟩
    show Weaker _ ⟨mkFr [(0, I64 (n : Nat)), (3, I64 ((2 ^ (j + 1)) : Nat)), (4, I64 ((j + 1) : Nat))], [], Amb.none, false, 0⟩
    rw [hs]
    exact Weaker.to 0 rfl ⟨rfl, i64c (by omega), i64c (by simp), trivial⟩ (Nat.le_refl _) rfl rfl
  · have d1 : decide ((j : Int) < (n : Int)) = false := decide_eq_false (by omega)
    have hjn : j = n := by omega
    subst hjn
    generalize 2 ^ j = x at *
    repeat' (first |with_reducible (first|refine RM.c2 ?_|refine RM.c4 ?_|refine RM.c6 ?_|refine RM.c7 ?_|refine RM.c9 ?_|refine RM.d2 ?_|refine RM.o1 ?_|refine RM.o2 ?_|refine RM.o4 ?_|refine RM.o5 ?_|refine RM.p2 ?_|refine RM.p3 ?_|refine RM.p5 ?_|refine RM.q2 ?_) |((with_reducible show force _ _);refine RM.f1 rfl ?_) |((with_reducible show wpOne _ _ _ _ _ _ _ _ _ _ _ _);refine RM.o8 rfl ?_) |((with_reducible show wpC _ _ _ _ (.cond _ _ _) _ _);refine RM.e3 rfl (by assumption) ?_) |((with_reducible show wpBin _ _ _ _ _ _ _ _ _);refine RM.b6 rfl rfl ?_) |((with_reducible show blockK _ _ _ _);refine RM.d5 rfl ?_) |fail)
    exact ⟨[_], ⟨Fz.deep rfl, trivial⟩, rfl⟩
theorem bit_div {S j : Nat} : decide (((S : Int) / ((2 ^ j : Nat) : Int)) % 2 = 1) = S.testBit j := by
  rw [Nat.testBit_eq_decide_div_mod_eq]
  apply decide_eq_decide.2
  rw [← Int.natCast_ediv]
  omega
theorem row_fz1 (L : List Int) (v c : Nat) : Fz [rowB L v] (.osl 0 v 0 L.length c) (.sl (L.map eI) false) :=
  Fz.row (es := 1) rfl (by simp) (by simp) (fun el hel => by obtain ⟨x, _, rfl⟩ := List.mem_map.1 hel; rfl) (by rw [flat_map1 (f := I64), List.drop_zero, List.take_of_length_le (by simp)]) (by rw [flat_map1 (f := I64)]; exact deepL_map (fun _ => rfl) _) (fun h => Bool.noConfusion h)
abbrev rowV (L : List Int) : AV := .osl 0 L.length 0 L.length (L.length + 1)
theorem rowV_snoc (L : List Int) (a : Int) : rowV (L ++ [a]) = .osl 0 (L.length + 1) 0 (L.length + 1) (L.length + 1 + 1) := by
  show AV.osl _ _ _ _ _ = _
  rw [List.length_append]
  rfl
theorem rowI_snoc (L : List Int) (a : Int) : rowB (L ++ [a]) (L ++ [a]).length = .cells (L.map I64 ++ [[I64 a]].flatten) 1 (L.length + 1) := by
  show AB.cells _ _ _ = _
  rw [List.map_append, List.length_append]
  rfl
theorem list_c (one : Bool) (S m : Nat) (hm : m ≤ 8) (hS : S < 256) : Pu one 81 [I64 (S : Nat), I64 (m : Nat)] (.sl ((lst S.testBit 0 m).map eI) false) := by
  have hlen : ∀ j, (lst S.testBit 0 j).length ≤ j := fun j => lst_len_le _ _ _
  have hst : ∀ j, S.testBit j = true → lst S.testBit 0 (j + 1) = lst S.testBit 0 j ++ [(j : Int)] := fun j h => lst_snoc_t h
  have hsf : ∀ j, S.testBit j = false → lst S.testBit 0 (j + 1) = lst S.testBit 0 j := fun j h => lst_snoc_f h
  have hz : lst S.testBit 0 0 = [] := rfl
  generalize lst S.testBit 0 = R at *
  refine PureV.body (fn := Try.f81) rfl rfl rfl rfl ?_
  refine wpC_sound (mu := fun t => Nat.beq t 21) ?_
  repeat' (first |with_reducible (first|refine RM.c2 ?_|refine RM.c3 ?_|refine RM.c4 ?_|refine RM.c9 ?_|refine RM.o1 ?_|refine RM.o2 ?_|refine RM.o4 ?_|refine RM.o5 ?_|refine RM.p3 ?_) |((with_reducible show force _ _);refine RM.f1 rfl ?_) |((with_reducible show wpOne _ _ _ _ _ _ _ _ _ _ _ _);refine RM.o8 rfl ?_) |fail)
  refine SemC.weaker (Weaker.trans (Weaker.addNil 1) (Weaker.toS (l := [(0, I64 (S : Nat)), (1, I64 (m : Nat)), (5, rowV (R 0)), (6, I64 (0 : Nat))]) (hp := [rowB (R 0) (R 0).length]) 1 (by rw [hz]; rfl) ⟨Soft.refl _, Soft.refl _, (by rw [hz]; exact Soft.nilRow), Soft.refl _, trivial⟩ (Nat.zero_le _) rfl (rowB_inb _ _))) ?_
  refine SemC.loop (fun j : Nat => j ≤ m) (fun j => ⟨mkFr [(0, I64 (S : Nat)), (1, I64 (m : Nat)), (5, rowV (R j)), (6, I64 (j : Nat))], [rowB (R j) (R j).length], Amb.none, false, 0⟩) (fun j => m - j) ?_ 0 (Nat.zero_le _)
  intro j hj
  refine wpC_sound (mu := fun t => Nat.beq t 21) ?_
  by_cases hlt : j < m
  · have d1 : decide ((j : Int) < (m : Int)) = true := decide_eq_true (by omega)
    have hb := bit_c one j (by omega)
    have hp := two_pow8 (j := j) (by omega)
    have hq0 : 0 ≤ (S : Int) / ((2 ^ j : Nat) : Int) := Int.ediv_nonneg (by omega) (by omega)
    have hbd := bit_div (S := S) (j := j)
    have hl := hlen j
    have hst := hst j
    have hsf := hsf j
    generalize 2 ^ j = x at *
    cases ht : S.testBit j with
    | true =>
      rw [ht] at hbd
      have hst := hst ht
      generalize hL : R j = L at *
      have hq : (L.length + 1) * 8 ≤ 140737488355328 ∧ L.length + 1 ≤ 9223372036854775807 := by omega
      repeat' (first |with_reducible (first|refine RM.c1 ?_|refine RM.c2 ?_|refine RM.c3 ?_|refine RM.c4 ?_|refine RM.c9 ?_|refine RM.o1 ?_|refine RM.o2 ?_|refine RM.o4 ?_|refine RM.o5 ?_|refine RM.o7 ?_|refine RM.o9 ?_|refine RM.p1 ?_|refine RM.p2 ?_|refine RM.p5 ?_) |((with_reducible show force _ _);first|refine RM.f1 rfl ?_|refine RM.f4 rfl ?_|refine RM.f8 rfl ?_) |((with_reducible show wpOne _ _ _ _ _ _ _ _ _ _ _ _);refine RM.o8 rfl ?_) |((with_reducible show wpC _ _ _ _ (.cond _ _ _) _ _);refine RM.e2 rfl (by assumption) ?_) |((with_reducible show wpBin _ _ _ _ _ _ _ _ _);first|refine RM.b4 rfl rfl ?_|refine RM.b6 rfl rfl ?_|refine RM.r1 rfl rfl (by omega) ?_|refine RM.r2 rfl rfl (by omega) ?_) |(refine ⟨rfl, rfl, rfl, ?_⟩) |(refine PureV.call hb rfl rfl ?_) |fail)
      refine ⟨[eI (j : Int)], ⟨(fun el hel => by rw [List.mem_singleton.1 hel]; rfl), rfl⟩, rfl, _, rfl, (by rw [List.length_map, Nat.mul_one]), Or.inr rfl, hq, fun hn => absurd hn (by simp), fun _ => ?_⟩
      repeat' (first |with_reducible (first|refine RM.c4 ?_|refine RM.c9 ?_|refine RM.d3 ?_|refine RM.o1 ?_|refine RM.o2 ?_|refine RM.o4 ?_|refine RM.o5 ?_|refine RM.p2 ?_|refine RM.p3 ?_|refine RM.p5 ?_) |((with_reducible show force _ _);first|refine RM.f1 rfl ?_|refine RM.f8 rfl ?_) |((with_reducible show wpOne _ _ _ _ _ _ _ _ _ _ _ _);refine RM.o8 rfl ?_) |((with_reducible show wpBin _ _ _ _ _ _ _ _ _);refine RM.b1 rfl rfl (by omega) ?_) |fail)
      refine ⟨j + 1, hlt, (by dsimp only; omega), ?_⟩
      show Weaker _ ⟨mkFr [(0, I64 (S : Nat)), (1, I64 (m : Nat)), (5, rowV (R (j + 1))), (6, I64 ((j + 1) : Nat))], [rowB (R (j + 1)) (R (j + 1)).length], Amb.none, false, 0⟩
      rw [hst]
      exact Weaker.to 1 (by rw [rowI_snoc]; rfl) ⟨rfl, rfl, (by rw [rowV_snoc]; rfl), i64c (by simp), trivial⟩ (Nat.zero_le _) rfl (rowB_inb _ _)
    | false =>
      rw [ht] at hbd
      have hsf := hsf ht
      repeat' (first |with_reducible (first|refine RM.c1 ?_|refine RM.c2 ?_|refine RM.c3 ?_|refine RM.c4 ?_|refine RM.c9 ?_|refine RM.d3 ?_|refine RM.o1 ?_|refine RM.o2 ?_|refine RM.o4 ?_|refine RM.o5 ?_|refine RM.o7 ?_|refine RM.o9 ?_|refine RM.p1 ?_|refine RM.p2 ?_|refine RM.p3 ?_|refine RM.p5 ?_) |((with_reducible show force _ _);first|refine RM.f1 rfl ?_|refine RM.f4 rfl ?_) |((with_reducible show wpOne _ _ _ _ _ _ _ _ _ _ _ _);refine RM.o8 rfl ?_) |((with_reducible show wpC _ _ _ _ (.cond _ _ _) _ _);first|refine RM.e2 rfl (by assumption) ?_|refine RM.e3 rfl (by assumption) ?_) |((with_reducible show wpBin _ _ _ _ _ _ _ _ _);first|refine RM.b4 rfl rfl ?_|refine RM.b6 rfl rfl ?_|refine RM.b1 rfl rfl (by omega) ?_|refine RM.r1 rfl rfl (by omega) ?_|refine RM.r2 rfl rfl (by omega) ?_) |(refine PureV.call hb rfl rfl ?_) |fail)
      refine ⟨j + 1, hlt, (by dsimp only; omega), ?_⟩
      show Weaker _ ⟨mkFr [(0, I64 (S : Nat)), (1, I64 (m : Nat)), (5, rowV (R (j + 1))), (6, I64 ((j + 1) : Nat))], [rowB (R (j + 1)) (R (j + 1)).length], Amb.none, false, 0⟩
      rw [hsf]
      exact Weaker.to 1 rfl ⟨rfl, rfl, rfl, i64c (by simp), trivial⟩ (Nat.zero_le _) rfl (rowB_inb _ _)
  · have hjm : j = m := by omega
    subst hjm
    have d1 : decide ((j : Int) < (j : Int)) = false := decide_eq_false (by omega)
    repeat' (first |with_reducible (first|refine RM.c2 ?_|refine RM.c4 ?_|refine RM.c6 ?_|refine RM.c7 ?_|refine RM.c9 ?_|refine RM.d2 ?_|refine RM.o1 ?_|refine RM.o2 ?_|refine RM.o4 ?_|refine RM.o5 ?_|refine RM.p2 ?_|refine RM.p3 ?_|refine RM.p5 ?_|refine RM.q2 ?_) |((with_reducible show force _ _);first|refine RM.f1 rfl ?_|refine RM.f8 rfl ?_) |((with_reducible show wpOne _ _ _ _ _ _ _ _ _ _ _ _);refine RM.o8 rfl ?_) |((with_reducible show wpC _ _ _ _ (.cond _ _ _) _ _);refine RM.e3 rfl (by assumption) ?_) |((with_reducible show wpBin _ _ _ _ _ _ _ _ _);refine RM.b6 rfl rfl ?_) |((with_reducible show blockK _ _ _ _);refine RM.d5 rfl ?_) |fail)
    exact ⟨[_], ⟨row_fz1 _ _ _, trivial⟩, rfl⟩
end Go.Proofs.Ytmkaeohmdcoanaa
open Go Go.RM
namespace Go.Proofs.Ytmkaeohmdcoanaa
set_option maxRecDepth 100000
set_option maxHeartbeats 4000000
theorem before_c (one : Bool) (a b : List Int) (f g : Bool) (_ : a.length ≤ 1000) : Pu one 83 [.sl (a.map eI) f, .sl (b.map eI) g] (BB (decide (bef a b))) := by
  have ea : ((a.map eI).length : Int) = a.length := by simp
  have eb : ((b.map eI).length : Int) = b.length := by simp
  by_cases hl : a.length = b.length
  · have d1 : (!decide (((a.map eI).length : Int) = ((b.map eI).length : Int))) = false := by rw [ea, eb, hl]; simp
    refine PureV.body (fn := Try.f83) rfl rfl rfl rfl ?_
    refine wpC_sound (mu := fun _ => false) ?_
    repeat' (first |with_reducible (first|refine RM.c1 ?_|refine RM.c2 ?_|refine RM.c3 ?_|refine RM.c4 ?_|refine RM.c9 ?_|refine RM.o1 ?_|refine RM.o2 ?_|refine RM.o4 ?_|refine RM.o5 ?_|refine RM.p2 ?_|refine RM.p3 ?_|refine RM.p5 ?_|refine RM.p6 ?_) |((with_reducible show force _ _);first|refine RM.f1 rfl ?_|refine RM.f2 rfl ?_) |((with_reducible show wpOne _ _ _ _ _ _ _ _ _ _ _ _);refine RM.o8 rfl ?_) |((with_reducible show wpC _ _ _ _ (.cond _ _ _) _ _);refine RM.e3 rfl (by assumption) ?_) |((with_reducible show wpBin _ _ _ _ _ _ _ _ _);refine RM.b5 rfl rfl ?_) |((with_reducible show wpLen _ _ _ _ _);refine RM.l1 rfl ?_) |fail)
    refine SemC.weaker (Weaker.to (l := [(0, .sl (a.map eI) f), (1, .sl (b.map eI) g), (5, I64 (0 : Nat))]) (hp := []) 0 rfl ⟨rfl, rfl, rfl, trivial⟩ (Nat.zero_le _) rfl rfl) ?_
    refine SemC.loop (fun j : Nat => j ≤ a.length ∧ cmpL a b = cmpL (a.drop j) (b.drop j)) (fun j => ⟨mkFr [(0, .sl (a.map eI) f), (1, .sl (b.map eI) g), (5, I64 (j : Nat))], [], Amb.none, false, 0⟩) (fun j => a.length - j) ?_ 0 ⟨Nat.zero_le _, rfl⟩
    rintro j ⟨hj, hcm⟩
    refine wpC_sound (mu := fun _ => false) ?_
    by_cases hlt : j < a.length
    · have hltb : j < b.length := by omega
      have d2 : decide ((j : Int) < ((a.map eI).length : Int)) = true := decide_eq_true (by omega)
      have hda := List.drop_eq_getElem_cons hlt
      have hdb := List.drop_eq_getElem_cons hltb
      rw [hda, hdb, cmpL_cc] at hcm
      have hata : (a.map eI)[((j : Nat) : Int).toNat]? = some (eI a[j]) := map_at hlt
      have hatb : (b.map eI)[((j : Nat) : Int).toNat]? = some (eI b[j]) := map_at hltb
      unfold cmpI at hcm
      generalize a[j] = x at *
      generalize b[j] = y at *
      by_cases hxy : x = y
      · have d3 : (!decide (x = y)) = false := by rw [hxy]; simp
        have h1 : ¬ x < y := by omega
        have h2 : ¬ y < x := by omega
        simp only [h1, h2, if_false, if_true] at hcm
        repeat' (first |with_reducible (first|refine RM.c1 ?_|refine RM.c2 ?_|refine RM.c3 ?_|refine RM.c4 ?_|refine RM.c5 ?_|refine RM.c9 ?_|refine RM.d3 ?_|refine RM.o1 ?_|refine RM.o2 ?_|refine RM.o3 ?_|refine RM.o4 ?_|refine RM.o5 ?_|refine RM.p2 ?_|refine RM.p3 ?_|refine RM.p5 ?_|refine RM.p6 ?_) |((with_reducible show force _ _);first|refine RM.f1 rfl ?_|refine RM.f2 rfl ?_|refine RM.f3 rfl ?_) |((with_reducible show wpOne _ _ _ _ _ _ _ _ _ _ _ _);refine RM.o8 rfl ?_) |((with_reducible show wpDOne _ _ _ _ _ _ _ _ _ _);refine RM.p9 rfl ?_) |((with_reducible show wpC _ _ _ _ (.cond _ _ _) _ _);first|refine RM.e2 rfl (by assumption) ?_|refine RM.e3 rfl (by assumption) ?_) |((with_reducible show wpBin _ _ _ _ _ _ _ _ _);first|refine RM.b5 rfl rfl ?_|refine RM.b6 rfl rfl ?_|refine RM.b1 rfl rfl (by omega) ?_) |((with_reducible show wpLen _ _ _ _ _);refine RM.l1 rfl ?_) |(refine ⟨_, rfl, ?_⟩) |(refine And.intro (by kernel_rfl) ?_) |(refine ⟨eI x, ⟨by omega, hata⟩, rfl, ?_⟩) |(refine ⟨eI y, ⟨by omega, hatb⟩, rfl, ?_⟩) |fail)
        exact ⟨j + 1, ⟨hlt, hcm⟩, (by dsimp only; omega), Weaker.to 0 rfl ⟨rfl, rfl, i64c (by simp), trivial⟩ (Nat.zero_le _) rfl rfl⟩
      · have d3 : (!decide (x = y)) = true := by rw [decide_eq_false hxy]; rfl
        have d4 : decide (x < y) = decide (bef a b) := by
          apply decide_eq_decide.2
          unfold bef
          by_cases h1 : x < y
          · simp only [h1, if_true] at hcm
            simp at hcm
            omega
          · have h2 : y < x := by omega
            simp only [h1, h2, if_true, if_false] at hcm
            simp at hcm
            omega
        repeat' (first |with_reducible (first|refine RM.c1 ?_|refine RM.c2 ?_|refine RM.c3 ?_|refine RM.c4 ?_|refine RM.c5 ?_|refine RM.c7 ?_|refine RM.c9 ?_|refine RM.d1 ?_|refine RM.d4 ?_|refine RM.o1 ?_|refine RM.o2 ?_|refine RM.o3 ?_|refine RM.o4 ?_|refine RM.o5 ?_|refine RM.p2 ?_|refine RM.p3 ?_|refine RM.p5 ?_|refine RM.p6 ?_|refine RM.q1 ?_) |((with_reducible show force _ _);first|refine RM.f1 rfl ?_|refine RM.f2 rfl ?_|refine RM.f3 rfl ?_) |((with_reducible show wpOne _ _ _ _ _ _ _ _ _ _ _ _);refine RM.o8 rfl ?_) |((with_reducible show wpDOne _ _ _ _ _ _ _ _ _ _);refine RM.p9 rfl ?_) |((with_reducible show wpC _ _ _ _ (.cond _ _ _) _ _);refine RM.e2 rfl (by assumption) ?_) |((with_reducible show wpBin _ _ _ _ _ _ _ _ _);first|refine RM.b5 rfl rfl ?_|refine RM.b6 rfl rfl ?_) |((with_reducible show wpLen _ _ _ _ _);refine RM.l1 rfl ?_) |(refine ⟨_, rfl, ?_⟩) |(refine And.intro (by kernel_rfl) ?_) |(refine ⟨eI x, ⟨by omega, hata⟩, rfl, ?_⟩) |(refine ⟨eI y, ⟨by omega, hatb⟩, rfl, ?_⟩) |fail)
        exact ⟨[_], ⟨Fz.deep rfl, trivial⟩, bbc d4⟩
    · have d2 : decide ((j : Int) < ((a.map eI).length : Int)) = false := decide_eq_false (by omega)
      have d4 : false = decide (bef a b) := by
        rw [List.drop_eq_nil_of_le (by omega), List.drop_eq_nil_of_le (by omega), cmpL_nn] at hcm
        symm
        apply decide_eq_false
        unfold bef
        omega
      repeat' (first |with_reducible (first|refine RM.c2 ?_|refine RM.c4 ?_|refine RM.c6 ?_|refine RM.c7 ?_|refine RM.c9 ?_|refine RM.d2 ?_|refine RM.o1 ?_|refine RM.o2 ?_|refine RM.o4 ?_|refine RM.o5 ?_|refine RM.p2 ?_|refine RM.p3 ?_|refine RM.p5 ?_|refine RM.p6 ?_|refine RM.q2 ?_) |((with_reducible show force _ _);first|refine RM.f1 rfl ?_|refine RM.f2 rfl ?_) |((with_reducible show wpOne _ _ _ _ _ _ _ _ _ _ _ _);refine RM.o8 rfl ?_) |((with_reducible show wpC _ _ _ _ (.cond _ _ _) _ _);refine RM.e3 rfl (by assumption) ?_) |((with_reducible show wpBin _ _ _ _ _ _ _ _ _);refine RM.b6 rfl rfl ?_) |((with_reducible show wpLen _ _ _ _ _);refine RM.l1 rfl ?_) |((with_reducible show blockK _ _ _ _);refine RM.d5 rfl ?_) |fail)
      exact ⟨[_], ⟨Fz.deep rfl, trivial⟩, bbc d4⟩
  · have d1 : (!decide (((a.map eI).length : Int) = ((b.map eI).length : Int))) = true := by
      rw [ea, eb, decide_eq_false (by omega)]
      rfl
    have d4 : decide (((a.map eI).length : Int) < ((b.map eI).length : Int)) = decide (bef a b) := by
      apply decide_eq_decide.2
      unfold bef
      omega
    refine PureV.body (fn := Try.f83) rfl rfl rfl rfl ?_
    refine wpC_sound (mu := fun _ => false) ?_
    repeat' (first |with_reducible (first|refine RM.c2 ?_|refine RM.c4 ?_|refine RM.c7 ?_|refine RM.c9 ?_|refine RM.d1 ?_|refine RM.o1 ?_|refine RM.o2 ?_|refine RM.o4 ?_|refine RM.o5 ?_|refine RM.p2 ?_|refine RM.p3 ?_|refine RM.p5 ?_|refine RM.p6 ?_) |((with_reducible show force _ _);first|refine RM.f1 rfl ?_|refine RM.f2 rfl ?_) |((with_reducible show wpOne _ _ _ _ _ _ _ _ _ _ _ _);refine RM.o8 rfl ?_) |((with_reducible show wpC _ _ _ _ (.cond _ _ _) _ _);refine RM.e2 rfl (by assumption) ?_) |((with_reducible show wpBin _ _ _ _ _ _ _ _ _);first|refine RM.b5 rfl rfl ?_|refine RM.b6 rfl rfl ?_) |((with_reducible show wpLen _ _ _ _ _);refine RM.l1 rfl ?_) |fail)
    exact ⟨[_], ⟨Fz.deep rfl, trivial⟩, bbc d4⟩
abbrev eB (b : Bool) : List AV := [BB b]
abbrev eRow (r : List Bool) : List AV := [.sl (r.map eB) false]
/-- A set is left out, and all others agree with a truth. -/
def hitN (r : List Bool) (o n : Nat) : Bool := (List.range n).any fun set => r.getD set false && decide (((set ||| o : Nat) : Int) = ((r.map eB).length : Int) - 1)
theorem hitN_succ (r : List Bool) (o n : Nat) : hitN r o (n + 1) = (hitN r o n || (r.getD n false && decide (((n ||| o : Nat) : Int) = ((r.map eB).length : Int) - 1))) := by
  unfold hitN
  rw [List.range_succ, List.any_append]
  simp
def leftL (L : List (List Bool)) (o : Nat) : Bool := L.all fun r => hitN r o r.length
theorem getB {r : List Bool} {j : Nat} (h : j < r.length) : (r.map eB)[((j : Nat) : Int).toNat]? = some (eB (r.getD j false)) := by
  show (r.map eB)[j]? = _
  rw [List.getElem?_map, List.getD_eq_getElem?_getD, List.getElem?_eq_getElem h]
  rfl
theorem left_c (one : Bool) (L : List (List Bool)) (o : Nat) (hL : L.length ≤ 4) (hr : ∀ r ∈ L, r.length ≤ 256) (ho : o < 256) : Pu one 84 [.sl (L.map eRow) false, I64 (o : Nat)] (BB (leftL L o)) := by
  have eL : ((L.map eRow).length : Int) = L.length := by simp
  refine PureV.body (fn := Try.f84) rfl rfl rfl rfl ?_
  refine wpC_sound (mu := fun _ => false) ?_
  repeat' (first |with_reducible (first|refine RM.c2 ?_|refine RM.c3 ?_|refine RM.c4 ?_|refine RM.c9 ?_|refine RM.o1 ?_|refine RM.o2 ?_|refine RM.o4 ?_|refine RM.o5 ?_|refine RM.p3 ?_) |((with_reducible show force _ _);refine RM.f1 rfl ?_) |((with_reducible show wpOne _ _ _ _ _ _ _ _ _ _ _ _);refine RM.o8 rfl ?_) |fail)
  refine SemC.weaker (Weaker.to (l := [(0, .sl (L.map eRow) false), (1, I64 (o : Nat)), (5, I64 (0 : Nat))]) (hp := []) 0 rfl ⟨rfl, rfl, rfl, trivial⟩ (Nat.zero_le _) rfl rfl) ?_
  refine SemC.loop (fun k : Nat => k ≤ L.length ∧ (L.take k).all (fun r => hitN r o r.length) = true) (fun k => ⟨mkFr [(0, .sl (L.map eRow) false), (1, I64 (o : Nat)), (5, I64 (k : Nat))], [], Amb.none, false, 0⟩) (fun k => L.length - k) ?_ 0 ⟨Nat.zero_le _, rfl⟩
  rintro k ⟨hk, hall⟩
  refine wpC_sound (mu := fun _ => false) ?_
  by_cases hlt : k < L.length
  · have d1 : decide ((k : Int) < ((L.map eRow).length : Int)) = true := decide_eq_true (by omega)
    have hat : (L.map eRow)[((k : Nat) : Int).toNat]? = some (eRow L[k]) := map_at hlt
    have hrl := hr _ (List.getElem_mem hlt)
    have hsu := all_take (f := fun r => hitN r o r.length) hlt
    rw [hall, Bool.true_and] at hsu
    have hno : hitN L[k] o L[k].length = false → leftL L o = false := fun h => by
      unfold leftL
      apply Bool.eq_false_iff.2
      intro ha
      have := List.all_eq_true.1 ha _ (List.getElem_mem hlt)
      rw [h] at this
      cases this
    generalize L[k] = r at *
    have er : ((r.map eB).length : Int) = r.length := by simp
    repeat' (first |with_reducible (first|refine RM.c1 ?_|refine RM.c2 ?_|refine RM.c3 ?_|refine RM.c4 ?_|refine RM.c9 ?_|refine RM.o1 ?_|refine RM.o2 ?_|refine RM.o4 ?_|refine RM.o5 ?_|refine RM.p2 ?_|refine RM.p3 ?_|refine RM.p5 ?_|refine RM.p6 ?_) |((with_reducible show force _ _);first|refine RM.f1 rfl ?_|refine RM.f2 rfl ?_) |((with_reducible show wpOne _ _ _ _ _ _ _ _ _ _ _ _);refine RM.o8 rfl ?_) |((with_reducible show wpC _ _ _ _ (.cond _ _ _) _ _);refine RM.e2 rfl (by assumption) ?_) |((with_reducible show wpBin _ _ _ _ _ _ _ _ _);refine RM.b6 rfl rfl ?_) |((with_reducible show wpLen _ _ _ _ _);refine RM.l1 rfl ?_) |fail)
    refine SemC.weaker (Weaker.to (l := [(0, .sl (L.map eRow) false), (1, I64 (o : Nat)), (5, I64 (k : Nat)), (6, BB (hitN r o 0)), (7, I64 (0 : Nat))]) (hp := []) 0 rfl ⟨rfl, rfl, rfl, rfl, rfl, trivial⟩ (Nat.zero_le _) rfl rfl) ?_
    refine SemC.loop (fun j : Nat => j ≤ r.length) (fun j => ⟨mkFr [(0, .sl (L.map eRow) false), (1, I64 (o : Nat)), (5, I64 (k : Nat)), (6, BB (hitN r o j)), (7, I64 (j : Nat))], [], Amb.none, false, 0⟩) (fun j => r.length - j) ?_ 0 (Nat.zero_le _)
    intro j hj
    refine wpC_sound (mu := fun _ => false) ?_
    by_cases hlj : j < r.length
    · have d2 : decide ((j : Int) < ((r.map eB).length : Int)) = true := decide_eq_true (by omega)
      have hb := getB hlj
      have hsj := hitN_succ r o j
      have hend : ∀ st : ASt, Weaker st ⟨mkFr [(0, .sl (L.map eRow) false), (1, I64 (o : Nat)), (5, I64 (k : Nat)), (6, BB ((hitN r o j || (r.getD j false && decide (((j ||| o : Nat) : Int) = ((r.map eB).length : Int) - 1))))), (7, I64 ((j + 1) : Nat))], [], Amb.none, false, 0⟩ → ∃ y : Nat, y ≤ r.length ∧ r.length - y < r.length - j ∧ Weaker st ⟨mkFr [(0, .sl (L.map eRow) false), (1, I64 (o : Nat)), (5, I64 (k : Nat)), (6, BB (hitN r o y)), (7, I64 (y : Nat))], [], Amb.none, false, 0⟩ := fun st hw => ⟨j + 1, hlj, by omega, by rw [hsj]; exact hw⟩
      have hj4 : j < 4611686018427387904 := by omega
      have ho4 : o < 4611686018427387904 := by omega
      generalize hitN r o j = b at *
      generalize r.getD j false = c at *
      cases b <;> cases c
      all_goals
        repeat' (first |(refine RM.bor rfl rfl hj4 ho4 ?_) |with_reducible (first|refine RM.c1 ?_|refine RM.c2 ?_|refine RM.c3 ?_|refine RM.c4 ?_|refine RM.c9 ?_|refine RM.d3 ?_|refine RM.o1 ?_|refine RM.o2 ?_|refine RM.o4 ?_|refine RM.o5 ?_|refine RM.p2 ?_|refine RM.p3 ?_|refine RM.p4 ?_|refine RM.p5 ?_|refine RM.p6 ?_) |((with_reducible show force _ _);first|refine RM.f1 rfl ?_|refine RM.f2 rfl ?_|refine RM.f3 rfl ?_) |((with_reducible show wpOne _ _ _ _ _ _ _ _ _ _ _ _);refine RM.o8 rfl ?_) |((with_reducible show wpGuard _ _ _ _ _);first|refine wpGuard_yes rfl rfl rfl ?_|refine wpGuard_no rfl rfl rfl ?_|refine wpGuard_skip rfl rfl ?_) |((with_reducible show wpC _ _ _ _ (.cond _ _ _) _ _);refine RM.e2 rfl (by assumption) ?_) |((with_reducible show wpPick _ _ _ _ _);refine RM.k1 rfl ?_) |((with_reducible show wpPickB _ _ _ _ _);first|refine RM.k2 rfl ?_|refine RM.k3 rfl ?_) |((with_reducible show wpBin _ _ _ _ _ _ _ _ _);first|refine RM.b4 rfl rfl ?_|refine RM.b6 rfl rfl ?_|refine RM.b1 rfl rfl (by omega) ?_|refine RM.b2 rfl rfl (by omega) ?_) |((with_reducible show wpLen _ _ _ _ _);refine RM.l1 rfl ?_) |(refine ⟨_, rfl, ?_⟩) |(refine ⟨eRow r, ⟨by omega, hat⟩, rfl, ?_⟩) |(refine ⟨eB _, ⟨by omega, hb⟩, rfl, ?_⟩) |fail)
        exact hend _ (Weaker.to 0 rfl ⟨rfl, rfl, rfl, rfl, i64c (by simp), trivial⟩ (Nat.zero_le _) rfl rfl)
    · have d2 : decide ((j : Int) < ((r.map eB).length : Int)) = false := decide_eq_false (by omega)
      have hjr : j = r.length := by omega
      subst hjr
      cases hh : hitN r o r.length with
      | true =>
        rw [hh] at hsu
        repeat' (first |with_reducible (first|refine RM.c1 ?_|refine RM.c2 ?_|refine RM.c4 ?_|refine RM.c6 ?_|refine RM.c9 ?_|refine RM.d2 ?_|refine RM.d3 ?_|refine RM.o1 ?_|refine RM.o2 ?_|refine RM.o4 ?_|refine RM.o5 ?_|refine RM.p2 ?_|refine RM.p3 ?_|refine RM.p5 ?_|refine RM.p6 ?_|refine RM.q2 ?_) |((with_reducible show force _ _);first|refine RM.f1 rfl ?_|refine RM.f2 rfl ?_|refine RM.f3 rfl ?_) |((with_reducible show wpOne _ _ _ _ _ _ _ _ _ _ _ _);refine RM.o8 rfl ?_) |((with_reducible show wpC _ _ _ _ (.cond _ _ _) _ _);first|refine RM.e3 rfl rfl ?_|refine RM.e3 rfl (by assumption) ?_) |((with_reducible show wpBin _ _ _ _ _ _ _ _ _);first|refine RM.b6 rfl rfl ?_|refine RM.b1 rfl rfl (by omega) ?_) |((with_reducible show wpLen _ _ _ _ _);refine RM.l1 rfl ?_) |((with_reducible show blockK _ _ _ _);refine RM.d5 rfl ?_) |((with_reducible show RM.wpOp _ _ _ _ _ _);refine RM.n3 rfl ?_) |(refine ⟨_, rfl, ?_⟩) |(refine ⟨eRow r, ⟨by omega, hat⟩, rfl, ?_⟩) |fail)
        exact ⟨k + 1, ⟨hlt, hsu⟩, (by dsimp only; omega), Weaker.to 0 rfl ⟨rfl, rfl, i64c (by simp), trivial⟩ (Nat.zero_le _) rfl rfl⟩
      | false =>
        rw [hno hh]
        repeat' (first |with_reducible (first|refine RM.c2 ?_|refine RM.c4 ?_|refine RM.c6 ?_|refine RM.c7 ?_|refine RM.c9 ?_|refine RM.d1 ?_|refine RM.d2 ?_|refine RM.d4 ?_|refine RM.o1 ?_|refine RM.o2 ?_|refine RM.o4 ?_|refine RM.o5 ?_|refine RM.p2 ?_|refine RM.p3 ?_|refine RM.p5 ?_|refine RM.p6 ?_|refine RM.q1 ?_|refine RM.q2 ?_) |((with_reducible show force _ _);first|refine RM.f1 rfl ?_|refine RM.f2 rfl ?_|refine RM.f3 rfl ?_) |((with_reducible show wpOne _ _ _ _ _ _ _ _ _ _ _ _);refine RM.o8 rfl ?_) |((with_reducible show wpC _ _ _ _ (.cond _ _ _) _ _);first|refine RM.e2 rfl rfl ?_|refine RM.e3 rfl (by assumption) ?_) |((with_reducible show wpBin _ _ _ _ _ _ _ _ _);refine RM.b6 rfl rfl ?_) |((with_reducible show wpLen _ _ _ _ _);refine RM.l1 rfl ?_) |((with_reducible show blockK _ _ _ _);refine RM.d5 rfl ?_) |((with_reducible show RM.wpOp _ _ _ _ _ _);refine RM.n3 rfl ?_) |(refine ⟨_, rfl, ?_⟩) |(refine ⟨eRow r, ⟨by omega, hat⟩, rfl, ?_⟩) |fail)
        exact ⟨[_], ⟨Fz.deep rfl, trivial⟩, rfl⟩
  · have d1 : decide ((k : Int) < ((L.map eRow).length : Int)) = false := decide_eq_false (by omega)
    have hkl : L.take k = L := List.take_of_length_le (by omega)
    rw [hkl] at hall
    have hll : leftL L o = true := hall
    rw [hll]
    repeat' (first |with_reducible (first|refine RM.c2 ?_|refine RM.c4 ?_|refine RM.c6 ?_|refine RM.c7 ?_|refine RM.c9 ?_|refine RM.d2 ?_|refine RM.o1 ?_|refine RM.o2 ?_|refine RM.o4 ?_|refine RM.o5 ?_|refine RM.p2 ?_|refine RM.p3 ?_|refine RM.p5 ?_|refine RM.p6 ?_|refine RM.q2 ?_) |((with_reducible show force _ _);first|refine RM.f1 rfl ?_|refine RM.f2 rfl ?_) |((with_reducible show wpOne _ _ _ _ _ _ _ _ _ _ _ _);refine RM.o8 rfl ?_) |((with_reducible show wpC _ _ _ _ (.cond _ _ _) _ _);refine RM.e3 rfl (by assumption) ?_) |((with_reducible show wpBin _ _ _ _ _ _ _ _ _);refine RM.b6 rfl rfl ?_) |((with_reducible show wpLen _ _ _ _ _);refine RM.l1 rfl ?_) |((with_reducible show blockK _ _ _ _);refine RM.d5 rfl ?_) |fail)
    exact ⟨[_], ⟨Fz.deep rfl, trivial⟩, rfl⟩
end Go.Proofs.Ytmkaeohmdcoanaa
open Go Go.RM
namespace Go.Proofs.Ytmkaeohmdcoanaa
set_option maxRecDepth 100000
set_option maxHeartbeats 4000000
theorem und165 : pureRun TT.P (underlying 165) = some (.array 8 3) := by kernel_rfl
theorem arr_step {d : Nat} {P : Program} {xs ys : Array Value} {e : TypeId} {n : Nat} : ∀ (L : List Nat) (bs : List Bool), L.length = bs.length →
    (∀ (j : Nat) (i : Nat) (b : Bool), L[j]? = some i → bs[j]? = some b → ∃ x y, pureRun P (part e xs (i * n)) = some x ∧ pureRun P (part e ys (i * n)) = some y ∧ pureRun P (Op.equalIn d e x y) = some b) →
    ((pureRun P (forIn L ((none, ()) : Option Bool × PUnit) fun i _ => do
        let a ← part e xs (i * n)
        let b ← part e ys (i * n)
        let r ← Op.equalIn d e a b
        if (!r) = true then pure (.done (some false, ())) else pure (.yield (none, ())))).bind fun a => pureRun P (match a.fst with
        | some r => pure r
        | none => pure true)) = some (bs.all id)
  | [], [], _, _ => rfl
  | [], b :: bs, h, _ => by cases h
  | i :: L, [], h, _ => by cases h
  | i :: L, b :: bs, h, hh => by
    obtain ⟨x, y, h1, h2, h3⟩ := hh 0 i b rfl rfl
    have ih := arr_step L bs (by simpa using h) (fun j i b a c => hh (j + 1) i b (by simpa using a) (by simpa using c))
    simp only [List.forIn_cons, pr_bind, h1, h2, h3, Option.bind_some]
    cases b with
    | false => rfl
    | true =>
      simp only [Bool.not_true, Bool.false_eq_true, if_false, List.all_cons, id, Bool.true_and]
      rw [← ih]
      rfl
theorem pr_arr {P : Program} (d : Nat) (t e : TypeId) (len n : Nat) (xs ys : Array Value) (bs : List Bool) (ht : pureRun P (underlying t) = some (.array len e)) (hs : pureRun P (sizeOf e) = some n) (hl : bs.length = len)
    (h : ∀ (i : Nat) (b : Bool), bs[i]? = some b → ∃ x y, pureRun P (part e xs (i * n)) = some x ∧ pureRun P (part e ys (i * n)) = some y ∧ pureRun P (Op.equalIn d e x y) = some b) :
    pureRun P (Op.equalIn (d + 1) t (.agg xs) (.agg ys)) = some (bs.all id) := by
  have key := arr_step (P := P) (d := d) (xs := xs) (ys := ys) (e := e) (n := n) (List.range' 0 len 1) bs (by simp [hl]) (fun j i b hj hb => by
    have : i = j := by
      rw [List.getElem?_range' (by
        have := (List.getElem?_eq_some_iff.1 hj).1
        simpa using this)] at hj
      simp only [Option.some.injEq] at hj
      omega
    subst this
    exact h i b hb)
  simp only [Op.equalIn, pr_bind, ht, hs, Option.bind_some, Std.Legacy.Range.forIn_eq_forIn_range']
  have hsz : ([:len] : Std.Legacy.Range).size = len := by simp [Std.Legacy.Range.size]
  rw [hsz]
  refine Eq.trans ?_ key
  congr 1
  funext a
  cases a.fst <;> rfl
theorem eq_arr (xs ys : List Int) (hx : xs.length = 8) (hy : ys.length = 8) : pureRun TT.P (Op.equalIn 10000 165 (.agg (xs.map vI).toArray) (.agg (ys.map vI).toArray)) = some (decide (xs = ys)) := by
  have hz : ∀ i : Nat, i < 8 → ∀ (l : List Int), l.length = 8 → pureRun TT.P (part 3 (l.map vI).toArray (i * 1)) = some (vI (l.getD i 0)) := by
    intro i hi l hl
    obtain ⟨l0, l1, l2, l3, l4, l5, l6, l7, rfl⟩ : ∃ a b c d e f g h, l = [a, b, c, d, e, f, g, h] := by
      match l, hl with
      | [a, b, c, d, e, f, g, h], _ => exact ⟨a, b, c, d, e, f, g, h, rfl⟩
    match i, hi with
    | 0, _ | 1, _ | 2, _ | 3, _ | 4, _ | 5, _ | 6, _ | 7, _ => rfl
  rw [pr_arr 9999 165 3 8 1 _ _ ((List.range 8).map fun i => xs.getD i 0 == ys.getD i 0) (by kernel_rfl) (by kernel_rfl) rfl]
  · congr 1
    obtain ⟨x0, x1, x2, x3, x4, x5, x6, x7, rfl⟩ : ∃ a b c d e f g h, xs = [a, b, c, d, e, f, g, h] := by
      match xs, hx with
      | [a, b, c, d, e, f, g, h], _ => exact ⟨a, b, c, d, e, f, g, h, rfl⟩
    obtain ⟨y0, y1, y2, y3, y4, y5, y6, y7, rfl⟩ : ∃ a b c d e f g h, ys = [a, b, c, d, e, f, g, h] := by
      match ys, hy with
      | [a, b, c, d, e, f, g, h], _ => exact ⟨a, b, c, d, e, f, g, h, rfl⟩
    show ((x0 == y0) && ((x1 == y1) && ((x2 == y2) && ((x3 == y3) && ((x4 == y4) && ((x5 == y5) && ((x6 == y6) && ((x7 == y7) && true)))))))) = _
    rw [Bool.eq_iff_iff]
    simp
  · intro i b hb
    have hi : i < 8 := by simpa using (List.getElem?_eq_some_iff.1 hb).1
    rw [List.getElem?_map, List.getElem?_range hi] at hb
    cases hb
    exact ⟨_, _, hz i hi xs hx, hz i hi ys hy, rfl⟩
def eKey (x : List Int) : Value := .agg (x.map vI).toArray
theorem findAsk (k : List Int) (hk : k.length = 8) : ∀ (ks : List (List Int)) (es : List MapEntry) (j : Nat), es.map (·.key) = ks.map eKey → (∀ x ∈ ks, x.length = 8) →
    (pureRun TT.P (Instr.findAsking 165 (eKey k) es j)).map (fun r => r.map (·.1)) = some ((ks.findIdx? (fun x => decide (k = x))).map (· + j))
  | [], [], j, _, _ => rfl
  | [], e :: es, j, h, _ => by cases h
  | x :: ks, [], j, h, _ => by cases h
  | x :: ks, e :: es, j, h, h8 => by
    rw [List.map_cons, List.map_cons, List.cons.injEq] at h
    have ih := findAsk k hk ks es (j + 1) h.2 fun y hy => h8 y (List.mem_cons_of_mem _ hy)
    have he : pureRun TT.P (Op.equal 165 (eKey k) e.key) = some (decide (k = x)) := by
      rw [h.1]
      exact eq_arr k x hk (h8 x (List.mem_cons_self ..))
    unfold Instr.findAsking
    rw [pr_bind, he, Option.bind_some, List.findIdx?_cons]
    by_cases hx : k = x
    · rw [decide_eq_true hx]
      simp [pr_pure]
    · rw [decide_eq_false hx]
      simp only [Bool.false_eq_true, if_false]
      rw [ih]
      cases ks.findIdx? fun x => decide (k = x) with
      | none => rfl
      | some a => simp; omega
theorem check165 (b : Bool) (k : List Int) (hk : k.length = 8) : pureRun TT.P (Instr.checkKey b 10000 165 (eKey k)) = some () := by
  obtain ⟨x0, x1, x2, x3, x4, x5, x6, x7, rfl⟩ : ∃ a b c d e f g h, k = [a, b, c, d, e, f, g, h] := by
    match k, hk with
    | [a, b, c, d, e, f, g, h], _ => exact ⟨a, b, c, d, e, f, g, h, rfl⟩
  cases b <;> kernel_rfl
theorem flat_key {k : List Int} : flat (eKey k) = true := by
  show (k.map vI).toArray.toList.all flat1 = true
  rw [List.all_eq_true]
  intro x hx
  obtain ⟨n, _, rfl⟩ := List.mem_map.1 (by simpa using hx)
  rfl
theorem find_key (b : Bool) (k : List Int) (hk : k.length = 8) (ks : List (List Int)) (h8 : ∀ x ∈ ks, x.length = 8) : Finds TT b 165 (eKey k) (ks.map eKey) (ks.findIdx? fun x => decide (k = x)) := by
  intro es he
  have hall : (es.all fun e => flat e.key) = true := by
    rw [List.all_eq_true]
    intro e hm
    have : e.key ∈ ks.map eKey := by rw [← he]; exact List.mem_map.2 ⟨e, hm, rfl⟩
    obtain ⟨x, _, hx⟩ := List.mem_map.1 this
    rw [← hx]
    exact flat_key
  unfold findA
  rw [flat_key, hall, check165 b k hk]
  simp only [Bool.and_self, cond_true]
  have hf := findAsk k hk ks (es.map fun e => { e with val := .nilIface }) 0 (by rw [List.map_map]; exact he) h8
  rw [show pureRun TT.P (Instr.findKey 165 (eKey k) (es.map fun e => { e with val := .nilIface })) = pureRun TT.P (Instr.findAsking 165 (eKey k) (es.map fun e => { e with val := .nilIface }) 0) by
    unfold Instr.findKey
    rw [pr_bind, und165, Option.bind_some]
    have hn : ∀ (es : List MapEntry) (n : Nat), es ≠ [] → Instr.findNow (.array 8 3) (eKey k) es n = none := by
      intro es n hne
      cases es with
      | nil => exact absurd rfl hne
      | cons e es => rfl
    cases hes : es.map fun e => { e with val := Value.nilIface } with
    | nil => rfl
    | cons e l => rw [hn (e :: l) 0 (by simp)]]
  rw [hf]
  cases ks.findIdx? fun x => decide (k = x) <;> rfl
theorem same_key (k : List Int) : Instr.sameBits 10000 (eKey k) (eKey k) = true := by
  show ((k.map vI).toArray.size == (k.map vI).toArray.size && (((k.map vI).toArray.toList.zip (k.map vI).toArray.toList).all fun (x, y) => Instr.sameBits 9999 x y)) = true
  rw [beq_self_eq_true, Bool.true_and, List.all_eq_true]
  rintro ⟨x, y⟩ hxy
  have : ∀ (l : List Value), (x, y) ∈ l.zip l → x = y ∧ x ∈ l := by
    intro l
    induction l with
    | nil => intro h; cases h
    | cons a l ih =>
      intro h
      rw [List.zip_cons_cons] at h
      rcases List.mem_cons.1 h with h | h
      · cases h; exact ⟨rfl, List.mem_cons_self ..⟩
      · exact ⟨(ih h).1, List.mem_cons_of_mem _ (ih h).2⟩
  obtain ⟨rfl, hx⟩ := this _ hxy
  obtain ⟨n, _, rfl⟩ := List.mem_map.1 (by simpa using hx)
  show (IntKind.i64 == IntKind.i64 && n == n) = true
  simp
end Go.Proofs.Ytmkaeohmdcoanaa
open Go Go.RM
namespace Go.Proofs.Ytmkaeohmdcoanaa
set_option maxRecDepth 100000
set_option maxHeartbeats 4000000
abbrev Met := List (List Int × Int)
def metAt (k : List Int) (E : Met) : Option Nat := E.findIdx? fun x => decide (k = x.1)
def metVal (k : List Int) (E : Met) : Int := match metAt k E with
  | some i => match E[i]? with | some x => x.2 | none => 0
  | none => 0
def metTouch (k : List Int) (E : Met) : Met := match metAt k E with
  | some _ => E
  | none => E ++ [(k, 0)]
def metIdx (k : List Int) (E : Met) : Nat := match metAt k E with
  | some i => i
  | none => E.length
def bump (k : List Int) (E : Met) : Met := (metTouch k E).set (metIdx k E) (k, metVal k E + 1)
def entsF : Nat → Met → List (AV × AV × Nat)
  | _, [] => []
  | b, (k, c) :: E => (.ag (k.map I64), I64 c, b) :: entsF (b + 1) E
theorem ents_get : ∀ (b : Nat) (E : Met) (i : Nat) (x : List Int × Int), E[i]? = some x → (entsF b E)[i]? = some (.ag (x.1.map I64), I64 x.2, b + i)
  | _, [], i, x, h => by cases h
  | b, (k, c) :: E, 0, x, h => by cases h; rfl
  | b, (k, c) :: E, i + 1, x, h => by
    unfold entsF
    rw [List.getElem?_cons_succ] at h ⊢
    rw [ents_get (b + 1) E i x h, show b + 1 + i = b + (i + 1) by omega]
theorem ents_set : ∀ (b : Nat) (E : Met) (i : Nat) (k : List Int) (c : Int), (entsF b E).set i (.ag (k.map I64), I64 c, b + i) = entsF b (E.set i (k, c))
  | _, [], i, k, c => rfl
  | b, (k', c') :: E, 0, k, c => rfl
  | b, (k', c') :: E, i + 1, k, c => by
    show (AV.ag (k'.map I64), I64 c', b) :: (entsF (b + 1) E).set i _ = (AV.ag (k'.map I64), I64 c', b) :: entsF (b + 1) (E.set i (k, c))
    rw [← ents_set (b + 1) E i k c, show b + 1 + i = b + (i + 1) by omega]
theorem ents_app : ∀ (b : Nat) (E : Met) (k : List Int) (c : Int), entsF b E ++ [(AV.ag (k.map I64), I64 c, b + E.length)] = entsF b (E ++ [(k, c)])
  | _, [], k, c => rfl
  | b, (k', c') :: E, k, c => by
    show (AV.ag (k'.map I64), I64 c', b) :: (entsF (b + 1) E ++ _) = (AV.ag (k'.map I64), I64 c', b) :: entsF (b + 1) (E ++ [(k, c)])
    rw [← ents_app (b + 1) E k c, List.length_cons, show b + 1 + E.length = b + (E.length + 1) by omega]
theorem ents_borns : ∀ (b : Nat) (E : Met), (entsF b E).map (fun p => ((p.2.2 : Nat) : Int)) = (List.range' b E.length).map fun (i : Nat) => (i : Int)
  | _, [] => rfl
  | b, (k, c) :: E => by
    unfold entsF
    rw [List.map_cons, ents_borns (b + 1) E, List.length_cons, List.range'_succ, List.map_cons]
theorem range_find : ∀ (n b i : Nat), i < n → ((List.range' b n).map fun (i : Nat) => (i : Int)).findIdx? (· == ((b + i : Nat) : Int)) = some i
  | 0, _, i, h => absurd h (Nat.not_lt_zero _)
  | n + 1, b, 0, _ => by
    rw [List.range'_succ, List.map_cons, List.findIdx?_cons]
    simp
  | n + 1, b, i + 1, h => by
    rw [List.range'_succ, List.map_cons, List.findIdx?_cons]
    have hne : ((b : Int) == ((b + (i + 1) : Nat) : Int)) = false := by
      rw [beq_eq_false_iff_ne]; omega
    rw [hne]
    have := range_find n (b + 1) i (by omega)
    rw [show b + 1 + i = b + (i + 1) by omega] at this
    simp only [Bool.false_eq_true, if_false, this, Option.map_some]
theorem flat_ints : ∀ l : List Int, flVs (l.map I64) = some (l.map vI)
  | [] => rfl
  | a :: l => by
    show (flVs (l.map I64)).map (vI a :: ·) = _
    rw [flat_ints l]; rfl
theorem flatv_key {k : List Int} : (AV.ag (k.map I64)).flatV = some (eKey k) := by
  show (flVs (k.map I64)).map _ = _
  rw [flat_ints]; rfl
theorem keys_ents : ∀ (b : Nat) (E : Met), keysOf (entsF b E) = some ((E.map (·.1)).map eKey)
  | _, [] => rfl
  | b, (k, c) :: E => by
    unfold entsF keysOf
    rw [flatv_key, keys_ents (b + 1) E]; rfl
theorem met_find (b : Bool) {k : List Int} (hk : k.length = 8) {E : Met} (h8 : ∀ x ∈ E, x.1.length = 8) : Finds TT b 165 (eKey k) ((E.map (·.1)).map eKey) (metAt k E) := by
  have := find_key b k hk (E.map (·.1)) (fun x hx => by obtain ⟨y, hy, rfl⟩ := List.mem_map.1 hx; exact h8 y hy)
  rw [List.findIdx?_map] at this
  exact this
section
variable {own : Bool} {fr : Nat → AV} {hp : List AB} {K : AV → List AB → Prop} {m k : Operand} {j : Nat} {key : List Int} {E : Met}
theorem met_some {i : Nat} (h : metAt key E = some i) : ∃ x, E[i]? = some x ∧ x.1 = key := by
  unfold metAt at h
  rw [List.findIdx?_eq_some_iff_getElem] at h
  obtain ⟨hi, h1, _⟩ := h
  exact ⟨E[i], List.getElem?_eq_getElem hi, (of_decide_eq_true h1).symm⟩
theorem lookMet (hm : evA fr m = .om j) (hk : evA fr k = .ag (key.map I64)) (hj : hp[j]? = some (.map (entsF 0 E) E.length)) (h8 : key.length = 8) (hE : ∀ x ∈ E, x.1.length = 8) (hK : K (I64 (metVal key E)) hp) :
    RM.wpOp TT own (.lookup 164 m k false) fr hp K := by
  show wpLookup TT 164 (evA fr m) (evA fr k) false hp K
  rw [hm, hk]
  refine ⟨_, _, _, eKey key, 165, vI 0, metAt key E, hj, keys_ents 0 E, flatv_key, by kernel_rfl, met_find _ h8 hE, ?_⟩
  cases h : metAt key E with
  | none =>
    refine ⟨rfl, ?_⟩
    unfold metVal at hK
    rw [h] at hK
    exact hK
  | some i =>
    obtain ⟨x, hx, _⟩ := met_some h
    refine ⟨_, ents_get 0 E i x hx, ?_⟩
    unfold metVal at hK
    simp only [h, hx] at hK
    exact hK
theorem entryMet (hm : evA fr m = .om j) (hk : evA fr k = .ag (key.map I64)) (hj : hp[j]? = some (.map (entsF 0 E) E.length)) (h8 : key.length = 8) (hE : ∀ x ∈ E, x.1.length = 8)
    (hK : K (.tp [I64 (metVal key E), I64 (metIdx key E : Nat)]) (hp.set j (.map (entsF 0 (metTouch key E)) (metTouch key E).length))) :
    RM.wpOp TT own (.mapEntry 164 m k) fr hp K := by
  show wpMapEntry TT 164 (evA fr m) (evA fr k) hp K
  rw [hm, hk]
  refine ⟨_, _, _, eKey key, 165, vI 0, metAt key E, hj, keys_ents 0 E, flatv_key, by kernel_rfl, met_find _ h8 hE, ?_⟩
  cases h : metAt key E with
  | none =>
    refine ⟨rfl, ?_⟩
    unfold metVal metIdx metTouch at hK
    simp only [h] at hK
    rw [← ents_app 0 E key 0, Nat.zero_add, List.length_append] at hK
    exact hK
  | some i =>
    obtain ⟨x, hx, hxk⟩ := met_some h
    have hg := ents_get 0 E i x hx
    refine ⟨_, hg, ⟨eKey x.1, flatv_key, by rw [hxk]; exact same_key key⟩, ?_⟩
    unfold metVal metIdx metTouch at hK
    simp only [h, hx] at hK
    rw [← hxk, set_same hg, Nat.zero_add]
    exact hK
theorem storeMet {s v : Operand} {n : Int} {t : TypeId} (hm : evA fr m = .om j) (hs : evA fr s = I64 (metIdx key E : Nat)) (hv : evA fr v = I64 n) (hj : hp[j]? = some (.map (entsF 0 (metTouch key E)) (metTouch key E).length)) (hn : n = metVal key E + 1)
    (hK : K .junk (hp.set j (.map (entsF 0 (bump key E)) (bump key E).length))) : RM.wpOp TT own (.entryStore t m s v) fr hp K := by
  show wpEntryStore (evA fr m) (evA fr s) (evA fr v) hp K
  rw [hm, hs, hv]
  obtain ⟨c, hx⟩ : ∃ c, (metTouch key E)[metIdx key E]? = some (key, c) := by
    unfold metTouch metIdx
    cases h : metAt key E with
    | none => exact ⟨0, by simp⟩
    | some i =>
      obtain ⟨x, hx, hxk⟩ := met_some h
      exact ⟨x.2, by dsimp only; rw [hx, ← hxk]⟩
  have hlt := (List.getElem?_eq_some_iff.1 hx).1
  have hf := range_find (metTouch key E).length 0 (metIdx key E) hlt
  rw [← ents_borns, Nat.zero_add] at hf
  have hst := ents_set 0 (metTouch key E) (metIdx key E) key (metVal key E + 1)
  refine ⟨_, _, _, _, _, hj, rfl, hf, ents_get 0 _ _ _ hx, ?_⟩
  rw [hn, hst]
  unfold bump at hK
  rw [List.length_set] at hK
  exact hK
end
theorem bump_mem {k : List Int} {E : Met} {x : List Int × Int} (hx : x ∈ bump k E) : x ∈ E ∨ x.1 = k ∧ x.2 = metVal k E + 1 := by
  unfold bump at hx
  rcases List.mem_or_eq_of_mem_set hx with h | rfl
  · unfold metTouch metIdx at *
    cases ha : metAt k E with
    | some i => rw [ha] at h; exact .inl h
    | none =>
      rw [ha] at h hx
      simp only at h hx
      rw [List.set_append_right _ _ (Nat.le_refl _)] at hx
      rcases List.mem_append.1 hx with h1 | h1
      · exact .inl h1
      · simp only [Nat.sub_self, List.set_cons_zero, List.mem_singleton] at h1
        subst h1
        exact .inr ⟨rfl, rfl⟩
  · exact .inr ⟨rfl, rfl⟩
theorem bump_has (k : List Int) (E : Met) : ∃ x ∈ bump k E, x.1 = k := by
  have hlt : metIdx k E < (metTouch k E).length := by
    unfold metTouch metIdx
    cases h : metAt k E with
    | none => simp
    | some i =>
      obtain ⟨x, hx, _⟩ := met_some h
      exact (List.getElem?_eq_some_iff.1 hx).1
  exact ⟨_, List.mem_set hlt _, rfl⟩
theorem bump_keeps {k : List Int} {E : Met} {x : List Int × Int} (hx : x ∈ E) : ∃ y ∈ bump k E, y.1 = x.1 := by
  obtain ⟨i, hi⟩ := List.getElem?_of_mem hx
  have hil := (List.getElem?_eq_some_iff.1 hi).1
  have hg : (metTouch k E)[i]? = some x := by
    unfold metTouch
    cases h : metAt k E with
    | none => dsimp only; rw [List.getElem?_append_left hil]; exact hi
    | some _ => exact hi
  have hlt := (List.getElem?_eq_some_iff.1 hg).1
  by_cases hik : metIdx k E = i
  · have hlt' : metIdx k E < (metTouch k E).length := by rw [hik]; exact hlt
    refine ⟨_, List.mem_set hlt' _, ?_⟩
    unfold metIdx at hik
    cases h : metAt k E with
    | none => simp only [h] at hik; omega
    | some j =>
      obtain ⟨z, hz, hzk⟩ := met_some h
      simp only [h] at hik
      subst hik
      rw [hi] at hz
      rw [Option.some.inj hz, hzk]
  · refine ⟨x, ?_, rfl⟩
    have : (bump k E)[i]? = some x := by
      unfold bump
      rw [List.getElem?_set_ne hik]; exact hg
    exact List.mem_of_getElem? this
section
variable {τ : Type} (key : τ → List Int)
def tally (T : List τ) : Met := T.foldl (fun E t => bump (key t) E) []
variable {key}
structure MetInv (T : List τ) (E : Met) : Prop where
  all : ∀ t ∈ T, ∃ x ∈ E, x.1 = key t
  some : ∀ x ∈ E, ∃ t ∈ T, x.1 = key t
  cnt : ∀ x ∈ E, 0 ≤ x.2 ∧ x.2 ≤ T.length
theorem metVal_le {T : List τ} {E : Met} (h : MetInv (key := key) T E) (k : List Int) : 0 ≤ metVal k E ∧ metVal k E ≤ T.length := by
  unfold metVal
  cases ha : metAt k E with
  | none => dsimp only; omega
  | some i =>
    obtain ⟨x, hx, _⟩ := met_some ha
    simp only [hx]
    exact h.cnt x (List.mem_of_getElem? hx)
theorem tally_inv : ∀ (T : List τ), MetInv (key := key) T (tally key T) := by
  have step : ∀ (T : List τ) (E : Met) (t : τ), MetInv (key := key) T E → MetInv (key := key) (T ++ [t]) (bump (key t) E) := by
    intro T E t h
    have hv := metVal_le h (key t)
    refine ⟨fun u hu => ?_, fun x hx => ?_, fun x hx => ?_⟩
    · rcases List.mem_append.1 hu with hu | hu
      · obtain ⟨x, hx, e⟩ := h.all u hu
        obtain ⟨y, hy, e'⟩ := bump_keeps (k := key t) hx
        exact ⟨y, hy, e'.trans e⟩
      · rw [List.mem_singleton.1 hu]; exact bump_has _ _
    · rcases bump_mem hx with hx | ⟨e, _⟩
      · obtain ⟨u, hu, e⟩ := h.some x hx
        exact ⟨u, List.mem_append_left _ hu, e⟩
      · exact ⟨t, by simp, e⟩
    · rw [List.length_append, List.length_singleton]
      rcases bump_mem hx with hx | ⟨_, e⟩
      · have := h.cnt x hx
        omega
      · omega
  have go : ∀ (L T : List τ) (E : Met), MetInv (key := key) T E → MetInv (key := key) (T ++ L) (L.foldl (fun E t => bump (key t) E) E) := by
    intro L
    induction L with
    | nil => intro T E h; rw [List.append_nil]; exact h
    | cons t L ih =>
      intro T E h
      have := ih (T ++ [t]) (bump (key t) E) (step T E t h)
      rw [List.append_assoc] at this
      exact this
  intro T
  exact go T [] [] ⟨fun t ht => absurd ht (by simp), fun x hx => absurd hx (by simp), fun x hx => absurd hx (by simp)⟩
theorem tally_app (T U : List τ) : tally key (T ++ U) = U.foldl (fun E t => bump (key t) E) (tally key T) := by
  unfold tally
  rw [List.foldl_append]
theorem tally_one (T : List τ) (t : τ) : tally key (T ++ [t]) = bump (key t) (tally key T) := by
  rw [tally_app]; rfl
end
end Go.Proofs.Ytmkaeohmdcoanaa
open Go Go.RM
namespace Go.Proofs.Ytmkaeohmdcoanaa
set_option maxRecDepth 100000
set_option maxHeartbeats 4000000
/-- A truth misses a count of the kind. -/
def missAt (men : List Int) (k : Kind) (row : List Int) (l : List Count) (ki : Nat) (t : Truth) (i : Nat) : Bool := match l[i]? with
  | some c => decide (c.kind = (ki : Int)) && !cntIn (lvl men k row t) c
  | none => false
def b2 (b : Bool) : Int := if b = true then 1 else 0
def keyOf (p : Nat → Bool) : List Int := [b2 (p 0), b2 (p 1), b2 (p 2), b2 (p 3), b2 (p 4), b2 (p 5), b2 (p 6), b2 (p 7)]
def upto (p : Nat → Bool) (j : Nat) (i : Nat) : Bool := decide (i < j) && p i
theorem upto_zero (p : Nat → Bool) : keyOf (upto p 0) = [0, 0, 0, 0, 0, 0, 0, 0] := by
  unfold keyOf upto
  simp [b2]
theorem upto_skip {p : Nat → Bool} {j : Nat} (h : p j = false) : upto p (j + 1) = upto p j := by
  funext i
  unfold upto
  by_cases hij : i = j
  · subst hij; rw [h]; simp
  · rw [show decide (i < j + 1) = decide (i < j) from decide_eq_decide.2 (by omega)]
theorem upto_all {p : Nat → Bool} {n : Nat} (h : ∀ i, n ≤ i → p i = false) : upto p n = p := by
  funext i
  unfold upto
  by_cases hij : i < n
  · simp [hij]
  · rw [h i (by omega)]; simp
theorem upto_set {p : Nat → Bool} {j : Nat} (h : p j = true) (hj : j < 8) : (keyOf (upto p j)).set j 1 = keyOf (upto p (j + 1)) := by
  have hne : ∀ i, i ≠ j → upto p (j + 1) i = upto p j i := by
    intro i hi
    unfold upto
    rw [show decide (i < j + 1) = decide (i < j) from decide_eq_decide.2 (by omega)]
  have hyes : upto p (j + 1) j = true := by unfold upto; simp [h]
  match j, hj with
  | 0, _ | 1, _ | 2, _ | 3, _ | 4, _ | 5, _ | 6, _ | 7, _ =>
    unfold keyOf
    simp only [hyes]
    repeat rw [hne _ (by omega)]
    rfl
theorem upto_splice {p : Nat → Bool} {j : Nat} (h : p j = true) (hj : j < 8) : spliceV ((keyOf (upto p j)).map I64) [I64 1] (0 + j * 1) = (keyOf (upto p (j + 1))).map I64 := by
  rw [← upto_set h hj]
  match j, hj with
  | 0, _ | 1, _ | 2, _ | 3, _ | 4, _ | 5, _ | 6, _ | 7, _ => rfl
theorem key_at {p : Nat → Bool} {i : Nat} (h : i < 8) : (keyOf p)[i]? = some (b2 (p i)) := by
  match i, h with
  | 0, _ | 1, _ | 2, _ | 3, _ | 4, _ | 5, _ | 6, _ | 7, _ => rfl
/-- The numbers that are not 0. -/
def nzs (key : List Int) : List Int := lst (fun i => !decide (key.getD i 0 = 0)) 0 8
theorem key_lst (p : Nat → Bool) : nzs (keyOf p) = lst p 0 8 := by
  unfold nzs
  apply lst_congr
  intro i hi
  rw [List.getD_eq_getElem?_getD, key_at hi]
  unfold b2
  cases p i <;> rfl
theorem miss_none {men : List Int} {k : Kind} {row : List Int} {l : List Count} {ki : Nat} {t : Truth} {i : Nat} (h : l.length ≤ i) : missAt men k row l ki t i = false := by
  unfold missAt
  rw [List.getElem?_eq_none h]
theorem miss_at {men : List Int} {k : Kind} {row : List Int} {l : List Count} {ki : Nat} {t : Truth} {i : Nat} (h : i < l.length) : missAt men k row l ki t i = (decide (l[i].kind = (ki : Int)) && !cntIn (lvl men k row t) l[i]) := by
  unfold missAt
  rw [List.getElem?_eq_getElem h]
theorem outB1 (lo hi n : Int) : outB lo hi [n] = !inB n lo hi := by
  rw [outB_one]
def spanT (x : Truth × Truth) : List Truth := (List.range (x.2.first - x.1.first + 1).toNat).map fun (i : Nat) => ⟨x.1.first + (i : Int), x.1.man, x.1.ship⟩
def metT (L : List (Truth × Truth)) : List Truth := (L.map spanT).flatten
theorem metT_take {L : List (Truth × Truth)} {i : Nat} {y : Truth × Truth} (h : L[i]? = some y) : metT (L.take (i + 1)) = metT (L.take i) ++ spanT y := by
  unfold metT
  rw [List.take_add_one, h, List.map_append, List.flatten_append]
  simp
theorem metT_len : ∀ (L : List (Truth × Truth)), (∀ y ∈ L, 0 ≤ y.1.first ∧ y.2.first ≤ 300) → (metT L).length ≤ L.length * 301
  | [], _ => Nat.le_refl _
  | y :: L, h => by
    have ih := metT_len L fun z hz => h z (List.mem_cons_of_mem _ hz)
    have h1 := h y (List.mem_cons_self ..)
    have : metT (y :: L) = spanT y ++ metT L := rfl
    have hs : (spanT y).length = (y.2.first - y.1.first + 1).toNat := by unfold spanT; simp
    rw [this, List.length_append, List.length_cons, hs]
    omega
theorem bs_true (n : Nat) : bs (fun _ => true) 0 n = 0 := by
  obtain ⟨h1, h2⟩ := bs_least (fun _ => true) 0 n (Nat.zero_le _) (fun _ _ _ _ _ _ => rfl)
  apply Nat.eq_zero_of_not_pos
  intro h
  exact absurd (h1 0 (Nat.le_refl _) h) (by decide)
theorem bs_false (n : Nat) : bs (fun _ => false) 0 n = n := by
  have h0 := (bs_in (fun _ => false) 0 n (Nat.zero_le _)).2
  obtain ⟨h1, h2⟩ := bs_least (fun _ => false) 0 n (Nat.zero_le _) (fun _ _ _ _ _ h => absurd h (by decide))
  by_cases h : bs (fun _ => false) 0 n < n
  · exact absurd (h2 h) (by decide)
  · omega
theorem mem_met {men : List Int} {k : Kind} {row : List Int} {t : Truth} (hk : k.first.lo ≤ k.first.hi) : t ∈ metT (truthsL men k row []) ↔ truthOk k t = true := by
  have hlo : ∀ m p, lowF men k row [] m p = k.first.lo := by
    intro m p
    unfold lowF
    rw [show (fun i : Nat => enough men k row [] false ⟨k.first.lo + (i : Int), m, p⟩) = fun _ => true from rfl, bs_true]
    simp
  have hhi : ∀ m p, highF men k row [] m p = k.first.hi := by
    intro m p
    unfold highF
    rw [show (fun i : Nat => enough men k row [] true ⟨k.first.lo + (i : Int), m, p⟩) = fun _ => false from rfl, bs_false]
    unfold spanN
    omega
  rw [truthOk_iff]
  unfold metT
  simp only [List.mem_flatten, List.mem_map]
  constructor
  · rintro ⟨_, ⟨y, hy, rfl⟩, ht⟩
    unfold truthsL pairs at hy
    rw [List.mem_filterMap] at hy
    obtain ⟨q, hq, hy⟩ := hy
    rw [List.mem_range] at hq
    unfold useAt pairAt at hy
    rw [hlo, hhi, if_pos hk] at hy
    cases hy
    unfold spanT at ht
    rw [List.mem_map] at ht
    obtain ⟨i, hi, rfl⟩ := ht
    rw [List.mem_range] at hi
    have hpos : 0 < spanN k.ship := by
      apply Nat.pos_of_ne_zero
      intro h0
      rw [h0, Nat.mul_zero] at hq
      exact absurd hq (Nat.not_lt_zero _)
    have h1 : q / spanN k.ship < spanN k.man := Nat.div_lt_of_lt_mul (by rw [Nat.mul_comm]; exact hq)
    have h2 := Nat.mod_lt q hpos
    generalize q / spanN k.ship = m at *
    generalize q % spanN k.ship = p at *
    clear hq
    unfold spanN at *
    dsimp only at *
    omega
  · rintro ⟨h1, h2, h3⟩
    obtain ⟨a, b, c⟩ := t
    dsimp only at h1 h2 h3
    obtain ⟨x, rfl⟩ : ∃ x : Nat, a = k.first.lo + x := ⟨(a - k.first.lo).toNat, by omega⟩
    obtain ⟨y, rfl⟩ : ∃ x : Nat, b = k.man.lo + x := ⟨(b - k.man.lo).toNat, by omega⟩
    obtain ⟨z, rfl⟩ : ∃ x : Nat, c = k.ship.lo + x := ⟨(c - k.ship.lo).toNat, by omega⟩
    have hy : y < spanN k.man := by unfold spanN; omega
    have hz : z < spanN k.ship := by unfold spanN; omega
    refine ⟨_, ⟨(⟨k.first.lo, k.man.lo + y, k.ship.lo + z⟩, ⟨k.first.hi, k.man.lo + y, k.ship.lo + z⟩), ?_, rfl⟩, ?_⟩
    · unfold truthsL pairs
      rw [List.mem_filterMap]
      refine ⟨y * spanN k.ship + z, ?_, ?_⟩
      · rw [List.mem_range]
        have : (y + 1) * spanN k.ship ≤ spanN k.man * spanN k.ship := Nat.mul_le_mul_right _ hy
        rw [Nat.add_mul, Nat.one_mul] at this
        omega
      · rw [use_at men k row [] hz]
        unfold pairAt
        rw [hlo, hhi, if_pos hk]
    · unfold spanT
      rw [List.mem_map]
      exact ⟨x, by rw [List.mem_range]; dsimp only; omega, rfl⟩
end Go.Proofs.Ytmkaeohmdcoanaa
open Go Go.RM
namespace Go.Proofs.Ytmkaeohmdcoanaa
set_option maxRecDepth 100000
set_option maxHeartbeats 4000000
def sndC : Code → Code
  | .seq _ b => b
  | c => c
def inC : Code → Code
  | .scope c => c
  | c => c
noncomputable def tail78 : Code := sndC (sndC (sndC (inC (sndC (Try.f78.body.getD .skip)))))
def unseen (n : Nat) (seen : List Nat) : Nat := ((List.range n).filter fun i => !decide (i ∈ seen)).length
theorem unseen_less {n i : Nat} {seen : List Nat} (hi : i < n) (h : i ∉ seen) : unseen n (seen ++ [i]) < unseen n seen := by
  unfold unseen
  have e : (List.range n).filter (fun j => !decide (j ∈ seen ++ [i])) = ((List.range n).filter fun j => !decide (j ∈ seen)).filter fun j => !decide (j = i) := by
    rw [List.filter_filter]
    congr 1
    funext j
    rw [Bool.eq_iff_iff]
    simp only [Bool.not_eq_true', decide_eq_false_iff_not, Bool.and_eq_true, List.mem_append, List.mem_singleton]
    constructor
    · intro h; exact ⟨fun e => h (.inr e), fun e => h (.inl e)⟩
    · rintro ⟨h1, h2⟩ (h | h)
      · exact h2 h
      · exact h1 h
  rw [e, List.length_filter_lt_length_iff_exists]
  exact ⟨i, by rw [List.mem_filter, List.mem_range]; exact ⟨hi, by simpa using h⟩, by simp⟩
theorem ents_mem : ∀ {E : Met} {b : Nat} {e : AV × AV × Nat}, e ∈ entsF b E → ∃ (i : Nat) (x : List Int × Int), E[i]? = some x ∧ e = (.ag (x.1.map I64), I64 x.2, b + i)
  | [], _, _, h => absurd h (List.not_mem_nil)
  | (k, c) :: E, b, e, h => by
    unfold entsF at h
    rcases List.mem_cons.1 h with rfl | h
    · exact ⟨0, (k, c), rfl, rfl⟩
    · obtain ⟨i, x, h1, h2⟩ := ents_mem h
      exact ⟨i + 1, x, h1, by rw [h2, show b + 1 + i = b + (i + 1) by omega]⟩
theorem ents_find : ∀ {E : Met} {b i : Nat} {x : List Int × Int}, E[i]? = some x → ((entsF b E).find? fun p => p.2.2 == b + i) = some (.ag (x.1.map I64), I64 x.2, b + i)
  | [], _, _, _, h => by cases h
  | (k, c) :: E, b, 0, x, h => by
    cases h
    unfold entsF
    rw [List.find?_cons]
    simp
  | (k, c) :: E, b, i + 1, x, h => by
    unfold entsF
    have hne : (b == b + (i + 1)) = false := by rw [beq_eq_false_iff_ne]; omega
    rw [List.find?_cons]
    simp only [hne]
    have := ents_find (b := b + 1) (by simpa using h : E[i]? = some x)
    rw [show b + 1 + i = b + (i + 1) by omega] at this
    exact this
section
variable {own : Bool} {fr : Nat → AV} {hp : List AB} {K : AV → List AB → Prop}
theorem entMet {it : Operand} {q j since i : Nat} {seen : List Nat} {E : Met} {x : List Int × Int} (hi : evA fr it = .ptr q 0 0) (hq : hp[q]? = some (.iter j since (seen ++ [i]) E.length)) (hj : hp[j]? = some (.map (entsF 0 E) E.length)) (hx : E[i]? = some x)
    (hK : K (.tp [.ag (x.1.map I64), I64 x.2]) hp) : RM.wpOp TT own (.entry it) fr hp K := by
  show wpEntry (evA fr it) hp K
  rw [hi]
  have hf := ents_find (b := 0) hx
  rw [Nat.zero_add] at hf
  exact ⟨_, _, _, _, _, _, _, _, hq, hj, rfl, List.getLast?_concat, hf, hK⟩
theorem idxMet {a x : Operand} {p : Nat → Bool} {c : Nat} (ha : evA fr a = .ag ((keyOf p).map I64)) (hx : evA fr x = I64 (c : Nat)) (hc : c < 8) (hK : K (I64 (b2 (p c))) hp) : RM.wpOp TT own (.index 165 a x) fr hp K := by
  show wpIndex TT 165 (evA fr a) (evA fr x) hp K
  rw [ha, hx]
  refine ⟨_, _, flatv_key, rfl, ?_⟩
  match c, hc with
  | 0, _ | 1, _ | 2, _ | 3, _ | 4, _ | 5, _ | 6, _ | 7, _ =>
    exact ⟨vI (b2 (p _)), rfl, rfl, hK⟩
theorem idx0 {a x : Operand} {p : Nat → Bool} {c : Nat} (ha : evA fr a = .ag ((keyOf p).map I64)) (hx : evA fr x = I64 (c : Nat)) (hc : c < 8) (hq : p c = false) (hK : K (I64 0) hp) : RM.wpOp TT own (.index 165 a x) fr hp K := idxMet ha hx hc (by rw [hq]; exact hK)
theorem idx1 {a x : Operand} {p : Nat → Bool} {c : Nat} (ha : evA fr a = .ag ((keyOf p).map I64)) (hx : evA fr x = I64 (c : Nat)) (hc : c < 8) (hq : p c = true) (hK : K (I64 1) hp) : RM.wpOp TT own (.index 165 a x) fr hp K := idxMet ha hx hc (by rw [hq]; exact hK)
end
end Go.Proofs.Ytmkaeohmdcoanaa
open Go Go.RM
namespace Go.Proofs.Ytmkaeohmdcoanaa
set_option maxRecDepth 100000
set_option maxHeartbeats 4000000
theorem key_deep {key : List Int} : (AV.ag (key.map I64)).deep = true := by
  show deepL (key.map I64) = true
  induction key with
  | nil => rfl
  | cons a l ih => exact ih
theorem ents_inb (n : Nat) : ∀ (E : Met) (b : Nat), ((entsF b E).all fun p => p.1.inb n && p.2.1.inb n) = true
  | [], _ => rfl
  | (k, c) :: E, b => by
    unfold entsF
    rw [List.all_cons, ents_inb n E (b + 1), deep_inb n _ key_deep]
    rfl
theorem ents_noj (n : Nat) : ∀ (E : Met) (b : Nat), ((entsF b E).all fun p => p.1.noj n && p.2.1.noj n) = true
  | [], _ => rfl
  | (k, c) :: E, b => by
    unfold entsF
    rw [List.all_cons, ents_noj n E (b + 1), deep_noj n _ key_deep]
    rfl
abbrev mB (E : Met) : AB := .map (entsF 0 E) E.length
abbrev mC : AB := .cells [.om 1] 0 0
abbrev rowV5 (L : List Int) : AV := .osl 5 L.length 0 L.length (L.length + 1)
theorem rowV5_snoc (L : List Int) (a : Int) : rowV5 (L ++ [a]) = .osl 5 (L.length + 1) 0 (L.length + 1) (L.length + 1 + 1) := by
  show AV.osl _ _ _ _ _ = _
  rw [List.length_append]
  rfl
theorem rowB_snoc (L : List Int) (a : Int) : rowB (L ++ [a]) (L ++ [a]).length = .cells (L.map I64 ++ [[I64 a]].flatten) 1 (L.length + 1) := by
  show AB.cells _ _ _ = _
  rw [List.map_append, List.length_append]
  rfl
theorem outer_inb {H : AB} (hH : ∀ n, H.inb n = true) (E : Met) (seen : List Nat) : ([H, mB E, mC, .iter 1 E.length (seen) E.length] : List AB).all (AB.inb 4) = true :=
  allInb (hH 4) (allInb (ents_inb 4 E 0) rfl)
theorem inner_inb {H : AB} (hH : ∀ n, H.inb n = true) (E : Met) (seen : List Nat) (p : Nat → Bool) (L : List Int) : ([H, mB E, mC, .iter 1 E.length (seen) E.length, .cells ((keyOf p).map I64) 0 0, rowB (L) (L).length] : List AB).all (AB.inb 6) = true :=
  allInb (hH 6) (allInb (ents_inb 6 E 0) (allInb rfl (allInb rfl (allInb (deep_inb 6 _ key_deep) (by
    rw [List.all_cons, List.all_nil, Bool.and_true]
    exact inbL_map (fun _ => rfl) _)))))
theorem nojCons {j i : Nat} {b : AB} {l : List AB} (h : b.noj j = true) (k : nojAll j (i + 1) l = true) : nojAll j i (b :: l) = true := by
  unfold nojAll
  rw [h, k, Bool.or_true]
  rfl
theorem inner_noj {H : AB} (hN : ∀ n, H.noj n = true) (E : Met) (seen : List Nat) (p : Nat → Bool) (L : List Int) : nojAll 5 0 ([H, mB E, mC, .iter 1 E.length (seen) E.length, .cells ((keyOf p).map I64) 0 0, rowB (L) (L).length] : List AB) = true :=
  nojCons (hN 5) (nojCons (ents_noj 5 E 0) (nojCons rfl (nojCons rfl (nojCons (deep_noj 5 (.ag _) key_deep) rfl))))
theorem bef_lens {x y : List Int} (h : y.length < x.length) : ¬ bef x y := by
  unfold bef
  omega
/-- What is known of what was seen. -/
def SeenOk (E : Met) (x : List Nat × Bool × List Int) : Prop := (x.2.1 = false → x.1 = [] ∧ x.2.2 = []) ∧ (x.2.1 = true → (∃ y ∈ E, nzs y.1 = x.2.2) ∧ ∀ i ∈ x.1, ∀ y, E[i]? = some y → ¬ bef (nzs y.1) x.2.2)
theorem SeenOk.taken {E : Met} {seen : List Nat} {f : Bool} {bb : List Int} (h : SeenOk E (seen, f, bb)) {i : Nat} {y : List Int × Int} (hy : E[i]? = some y) (hb : f = true → bef (nzs y.1) bb) : SeenOk E (seen ++ [i], true, nzs y.1) := by
  refine ⟨fun h => (by cases h), fun _ => ⟨⟨y, List.mem_of_getElem? hy, rfl⟩, fun j hj z hz => ?_⟩⟩
  rcases List.mem_append.1 hj with hj | hj
  · cases f with
    | false =>
      have := (h.1 rfl).1
      dsimp only at this
      rw [this] at hj
      cases hj
    | true => exact fun hc => (h.2 rfl).2 j hj z hz (bef_trans hc (hb rfl))
  · rw [List.mem_singleton.1 hj, hy] at hz
    cases hz
    exact bef_irr
theorem SeenOk.kept {E : Met} {seen : List Nat} {bb : List Int} (h : SeenOk E (seen, true, bb)) {i : Nat} {y : List Int × Int} (hy : E[i]? = some y) (hb : ¬ bef (nzs y.1) bb) : SeenOk E (seen ++ [i], true, bb) := by
  refine ⟨fun h => (by cases h), fun _ => ⟨(h.2 rfl).1, fun j hj z hz => ?_⟩⟩
  rcases List.mem_append.1 hj with hj | hj
  · exact (h.2 rfl).2 j hj z hz
  · rw [List.mem_singleton.1 hj, hy] at hz
    cases hz
    exact hb
theorem fewest_tail {H : AB} {E : Met} {best : List Int} (hH : ∀ n, H.inb n = true) (hN : ∀ n, H.noj n = true) (hkey : ∀ x ∈ E, ∃ p, x.1 = keyOf p) (hex : ∃ x ∈ E, nzs x.1 = best) (hmin : ∀ x ∈ E, ¬ bef (nzs x.1) best) :
    SemC TT TB false tail78 ⟨mkFr [(6, .sl [] false), (8, .ptr 2 0 0)], [H, mB E, mC], Amb.none, false, 0⟩ (scopeQ (RetQ TT Try.f78.results.toList (.sl (best.map eI) false))) := by
  have hb8 : best.length ≤ 8 := by
    obtain ⟨x, _, rfl⟩ := hex
    exact lst_len_le _ _ _
  refine RM.c2s (mu := fun _ => false) ?_
  repeat' (first |with_reducible (first|refine RM.c4 ?_|refine RM.c9 ?_|refine RM.o1 ?_|refine RM.o2 ?_|refine RM.o4 ?_|refine RM.o5 ?_|refine RM.p3 ?_) |((with_reducible show force _ _);refine RM.f1 rfl ?_) |((with_reducible show wpOne _ _ _ _ _ _ _ _ _ _ _ _);refine RM.o8 rfl ?_) |fail)
  refine RM.c2s (mu := fun _ => false) ?_
  skip
  refine SemC.seq ?_
  refine RM.c2s (mu := fun _ => false) ?_
  repeat' (first |with_reducible (first|refine RM.c4 ?_|refine RM.c9 ?_|refine RM.o1 ?_|refine RM.o2 ?_|refine RM.o4 ?_|refine RM.o5 ?_) |((with_reducible show force _ _);first|refine RM.f7 rfl ?_|refine RM.f9 rfl ?_) |((with_reducible show wpOne _ _ _ _ _ _ _ _ _ _ _ _);refine RM.o8 rfl ?_) |(refine ⟨_, _, rfl, _, rfl, ?_⟩) |(refine ⟨_, _, rfl, ?_⟩) |fail)
  refine SemC.block ?_
  refine SemC.weaker (Weaker.to (l := [(6, .sl ((([] : List Int)).map eI) false), (8, .ptr 2 0 0), (17, BB false), (87, .ptr 3 0 0)]) (hp := [H, mB E, mC, .iter 1 E.length (([] : List Nat)) E.length]) 4 rfl ⟨rfl, rfl, rfl, rfl, trivial⟩ (Nat.zero_le _) rfl (outer_inb hH E [])) ?_
  refine SemC.loop (fun x : List Nat × Bool × List Int => SeenOk E x) (fun x => ⟨mkFr [(6, .sl ((x.2.2).map eI) false), (8, .ptr 2 0 0), (17, BB x.2.1), (87, .ptr 3 0 0)], [H, mB E, mC, .iter 1 E.length (x.1) E.length], Amb.none, false, 0⟩) (fun x => unseen E.length x.1) ?_ ([], false, []) ⟨fun _ => ⟨rfl, rfl⟩, fun h => (by cases h)⟩
  rintro ⟨seen, f, bb⟩ hso
  have hbb : bb.length ≤ 8 := by
    cases f with
    | false =>
      have := (hso.1 rfl).2
      dsimp only at this
      rw [this]
      exact Nat.zero_le _
    | true =>
      obtain ⟨y, _, hy⟩ := (hso.2 rfl).1
      dsimp only at hy
      rw [← hy]
      exact lst_len_le _ _ _
  have eb : ((bb.map eI).length : Int) = bb.length := by simp
  refine RM.c2s (mu := fun _ => false) ?_
  repeat' (first |with_reducible (first|refine RM.c4 ?_|refine RM.o2 ?_|refine RM.o4 ?_) |((with_reducible show force _ _);refine RM.f7 rfl ?_) |(refine And.intro (by kernel_rfl) ?_) |fail)
  refine ⟨1, E.length, seen, E.length, entsF 0 E, E.length, rfl, rfl, fun e he => ?_, fun e he hns => ?_, fun hall => ?_⟩
  · obtain ⟨i, x, hx, rfl⟩ := ents_mem he
    have := (List.getElem?_eq_some_iff.1 hx).1
    dsimp only
    omega
  · obtain ⟨i, x, hx, rfl⟩ := ents_mem he
    rw [Nat.zero_add] at hns ⊢
    have hi := (List.getElem?_eq_some_iff.1 hx).1
    have hless := unseen_less hi hns
    obtain ⟨p, hp⟩ := hkey x (List.mem_of_getElem? hx)
    obtain ⟨key, cnt⟩ := x
    dsimp only at hp
    subst hp
    have hnz := key_lst p
    repeat' (first |with_reducible (first|refine RM.c9 ?_|refine RM.o1 ?_|refine RM.o2 ?_|refine RM.o4 ?_|refine RM.o5 ?_) |((with_reducible show force _ _);refine RM.f1 rfl ?_) |((with_reducible show wpOne _ _ _ _ _ _ _ _ _ _ _ _);refine RM.o8 rfl ?_) |(refine ⟨_, rfl, ?_⟩) |fail)
    refine RM.c2s (mu := fun _ => false) ?_
    repeat' (first |with_reducible (first|refine RM.c1 ?_|refine RM.c9 ?_) |((with_reducible show wpC _ _ _ _ (.cond _ _ _) _ _);refine RM.e2 rfl rfl ?_) |fail)
    refine SemC.block ?_
    refine RM.c2s (mu := fun _ => false) ?_
    repeat' (first |(refine entMet rfl rfl rfl hx ?_) |with_reducible (first|refine RM.c4 ?_|refine RM.c9 ?_|refine RM.o1 ?_|refine RM.o2 ?_|refine RM.o4 ?_|refine RM.o5 ?_|refine RM.o6 ?_) |((with_reducible show force _ _);first|refine RM.f5 rfl ?_|refine RM.f6 rfl ?_|refine RM.f7 rfl ?_|refine RM.g2 rfl ?_) |((with_reducible show wpOne _ _ _ _ _ _ _ _ _ _ _ _);refine RM.o8 rfl ?_) |(refine ⟨_, rfl, ?_⟩) |(refine And.intro (by kernel_rfl) ?_) |(refine ⟨_, _, rfl, rfl, rfl, rfl, Nat.le_of_ble_eq_true rfl, ?_⟩) |fail)
    refine RM.c2s (mu := fun _ => false) ?_
    repeat' (first |with_reducible (first|refine RM.c4 ?_|refine RM.c9 ?_|refine RM.o1 ?_|refine RM.o2 ?_|refine RM.o4 ?_|refine RM.o5 ?_|refine RM.p3 ?_) |((with_reducible show force _ _);refine RM.f1 rfl ?_) |((with_reducible show wpOne _ _ _ _ _ _ _ _ _ _ _ _);refine RM.o8 rfl ?_) |fail)
    refine SemC.seq ?_
    refine RM.c2s (mu := fun _ => false) ?_
    repeat' (first |with_reducible (first|refine RM.c4 ?_|refine RM.c9 ?_|refine RM.o1 ?_|refine RM.o2 ?_|refine RM.o4 ?_|refine RM.o5 ?_|refine RM.p2 ?_) |((with_reducible show force _ _);first|refine RM.f1 rfl ?_|refine RM.f5 rfl ?_) |((with_reducible show wpOne _ _ _ _ _ _ _ _ _ _ _ _);refine RM.o8 rfl ?_) |(refine ⟨_, _, rfl, Nat.le_of_ble_eq_true rfl, ?_⟩) |fail)
    refine SemC.block ?_
    refine SemC.weaker (Weaker.trans (Weaker.addNil 1) (Weaker.toS (l := [(6, .sl ((bb).map eI) false), (8, .ptr 2 0 0), (17, BB f), (19, rowV5 (lst p 0 0)), (87, .ptr 3 0 0), (92, .ag ((keyOf p).map I64)), (93, I64 (0 : Nat))]) (hp := [H, mB E, mC, .iter 1 E.length ((seen ++ [i])) E.length, .cells ((keyOf p).map I64) 0 0, rowB (lst p 0 0) (lst p 0 0).length]) 6 rfl ⟨Soft.refl _, Soft.refl _, Soft.refl _, Soft.nilRow, Soft.refl _, Soft.refl _, Soft.refl _, trivial⟩ (Nat.zero_le _) rfl (inner_inb hH _ _ _ _))) ?_
    refine SemC.loop (fun c : Nat => c ≤ 8 ∧ (f = true → (lst p 0 c).length ≤ bb.length)) (fun c => ⟨mkFr [(6, .sl ((bb).map eI) false), (8, .ptr 2 0 0), (17, BB f), (19, rowV5 (lst p 0 c)), (87, .ptr 3 0 0), (92, .ag ((keyOf p).map I64)), (93, I64 (c : Nat))], [H, mB E, mC, .iter 1 E.length ((seen ++ [i])) E.length, .cells ((keyOf p).map I64) 0 0, rowB (lst p 0 c) (lst p 0 c).length], Amb.none, false, 0⟩) (fun c => 8 - c) ?_ 0 ⟨Nat.zero_le _, fun _ => Nat.zero_le _⟩
    rintro c ⟨hc8, hcl⟩
    by_cases hlt : c < 8
    · have d1 : decide ((c : Int) < 8) = true := decide_eq_true (by omega)
      refine wpC_sound (mu := fun t => Nat.beq t 102) ?_
      cases hpc : p c with
      | false =>
        have hsn := lst_snoc_f hpc
        repeat' (first |(refine idx0 rfl rfl hlt hpc ?_) |with_reducible (first|refine RM.c1 ?_|refine RM.c2 ?_|refine RM.c3 ?_|refine RM.c4 ?_|refine RM.c6 ?_|refine RM.c9 ?_|refine RM.d2 ?_|refine RM.o1 ?_|refine RM.o2 ?_|refine RM.o4 ?_|refine RM.o5 ?_|refine RM.p2 ?_|refine RM.p3 ?_|refine RM.p5 ?_) |((with_reducible show force _ _);refine RM.f1 rfl ?_) |((with_reducible show wpOne _ _ _ _ _ _ _ _ _ _ _ _);refine RM.o8 rfl ?_) |((with_reducible show wpC _ _ _ _ (.cond _ _ _) _ _);first|refine RM.e2 rfl rfl ?_|refine RM.e2 rfl (by assumption) ?_) |((with_reducible show wpBin _ _ _ _ _ _ _ _ _);first|refine RM.b4 rfl rfl ?_|refine RM.b6 rfl rfl ?_|refine RM.b1 rfl rfl (by omega) ?_) |((with_reducible show blockK _ _ _ _);refine RM.d5 rfl ?_) |fail)
        refine ⟨c + 1, ⟨hlt, fun h => (by rw [hsn]; exact hcl h)⟩, (by dsimp only; omega), ?_⟩
        show Weaker _ ⟨mkFr [(6, .sl ((bb).map eI) false), (8, .ptr 2 0 0), (17, BB f), (19, rowV5 (lst p 0 (c + 1))), (87, .ptr 3 0 0), (92, .ag ((keyOf p).map I64)), (93, I64 ((c + 1) : Nat))], [H, mB E, mC, .iter 1 E.length ((seen ++ [i])) E.length, .cells ((keyOf p).map I64) 0 0, rowB (lst p 0 (c + 1)) (lst p 0 (c + 1)).length], Amb.none, false, 0⟩
        rw [hsn]
        exact Weaker.to 6 rfl ⟨rfl, rfl, rfl, rfl, rfl, rfl, i64c (by simp), trivial⟩ (Nat.zero_le _) rfl (inner_inb hH _ _ _ _)
      | true =>
        have hsn := lst_snoc_t hpc
        have hll := lst_len_le p 0 c
        have hmo := lst_mono p (c := c + 1) (d := 8) (by omega)
        rw [hsn, List.length_append, List.length_singleton] at hmo
        have hq : ((lst p 0 c).length + 1) * 8 ≤ 140737488355328 ∧ (lst p 0 c).length + 1 ≤ 9223372036854775807 := by omega
        repeat' (first |(refine idx1 rfl rfl hlt hpc ?_) |with_reducible (first|refine RM.c1 ?_|refine RM.c2 ?_|refine RM.c3 ?_|refine RM.c4 ?_|refine RM.c9 ?_|refine RM.o1 ?_|refine RM.o2 ?_|refine RM.o4 ?_|refine RM.o5 ?_|refine RM.p2 ?_|refine RM.p3 ?_|refine RM.p5 ?_) |((with_reducible show force _ _);first|refine RM.f1 rfl ?_|refine RM.f8 rfl ?_) |((with_reducible show wpOne _ _ _ _ _ _ _ _ _ _ _ _);refine RM.o8 rfl ?_) |((with_reducible show wpC _ _ _ _ (.cond _ _ _) _ _);first|refine RM.e3 rfl rfl ?_|refine RM.e2 rfl (by assumption) ?_) |((with_reducible show wpBin _ _ _ _ _ _ _ _ _);first|refine RM.b4 rfl rfl ?_|refine RM.b6 rfl rfl ?_) |(refine ⟨rfl, rfl, rfl, ?_⟩) |fail)
        refine ⟨[eI (c : Int)], ⟨(fun el hel => by rw [List.mem_singleton.1 hel]; rfl), rfl⟩, rfl, _, rfl, (by rw [List.length_map, Nat.mul_one]), Or.inr rfl, hq, fun hn => absurd hn (by simp), fun _ => ?_⟩
        cases f with
        | false =>
          repeat' (first |with_reducible (first|refine RM.c1 ?_|refine RM.c2 ?_|refine RM.c4 ?_|refine RM.c9 ?_|refine RM.d3 ?_|refine RM.o1 ?_|refine RM.o2 ?_|refine RM.o4 ?_|refine RM.o5 ?_|refine RM.p2 ?_|refine RM.p3 ?_|refine RM.p4 ?_|refine RM.p5 ?_) |((with_reducible show force _ _);first|refine RM.f1 rfl ?_|refine RM.f8 rfl ?_) |((with_reducible show wpOne _ _ _ _ _ _ _ _ _ _ _ _);refine RM.o8 rfl ?_) |((with_reducible show wpGuard _ _ _ _ _);refine wpGuard_no rfl rfl rfl ?_) |((with_reducible show wpC _ _ _ _ (.cond _ _ _) _ _);refine RM.e3 rfl rfl ?_) |((with_reducible show wpPick _ _ _ _ _);refine RM.k1 rfl ?_) |((with_reducible show wpPickB _ _ _ _ _);refine RM.k3 rfl ?_) |((with_reducible show wpBin _ _ _ _ _ _ _ _ _);refine RM.b1 rfl rfl (by omega) ?_) |fail)
          refine ⟨c + 1, ⟨hlt, fun h => (by cases h)⟩, (by dsimp only; omega), ?_⟩
          show Weaker _ ⟨mkFr [(6, .sl ((bb).map eI) false), (8, .ptr 2 0 0), (17, BB false), (19, rowV5 (lst p 0 (c + 1))), (87, .ptr 3 0 0), (92, .ag ((keyOf p).map I64)), (93, I64 ((c + 1) : Nat))], [H, mB E, mC, .iter 1 E.length ((seen ++ [i])) E.length, .cells ((keyOf p).map I64) 0 0, rowB (lst p 0 (c + 1)) (lst p 0 (c + 1)).length], Amb.none, false, 0⟩
          rw [hsn]
          exact Weaker.to 6 (by rw [rowB_snoc]; rfl) ⟨rfl, rfl, rfl, (by rw [rowV5_snoc]; rfl), rfl, rfl, i64c (by simp), trivial⟩ (Nat.zero_le _) rfl (inner_inb hH _ _ _ _)
        | true =>
          by_cases hgt : bb.length < (lst p 0 c).length + 1
          · have d2 : decide (((bb.map eI).length : Int) < (((lst p 0 c).length + [eI (c : Int)].length : Nat) : Int)) = true := decide_eq_true (by rw [eb]; simp; omega)
            repeat' (first |with_reducible (first|refine RM.c2 ?_|refine RM.c4 ?_|refine RM.c6 ?_|refine RM.c9 ?_|refine RM.d2 ?_|refine RM.o1 ?_|refine RM.o2 ?_|refine RM.o4 ?_|refine RM.o5 ?_|refine RM.p2 ?_|refine RM.p3 ?_|refine RM.p4 ?_|refine RM.p5 ?_|refine RM.p6 ?_|refine RM.q2 ?_) |((with_reducible show force _ _);first|refine RM.f1 rfl ?_|refine RM.f2 rfl ?_|refine RM.f8 rfl ?_) |((with_reducible show wpOne _ _ _ _ _ _ _ _ _ _ _ _);refine RM.o8 rfl ?_) |((with_reducible show wpGuard _ _ _ _ _);refine wpGuard_yes rfl rfl rfl ?_) |((with_reducible show wpC _ _ _ _ (.cond _ _ _) _ _);refine RM.e2 rfl (by assumption) ?_) |((with_reducible show wpPick _ _ _ _ _);refine RM.k1 rfl ?_) |((with_reducible show wpPickB _ _ _ _ _);refine RM.k2 rfl ?_) |((with_reducible show wpBin _ _ _ _ _ _ _ _ _);refine RM.b8 rfl rfl ?_) |((with_reducible show wpLen _ _ _ _ _);first|refine RM.l1 rfl ?_|refine RM.l2 rfl ?_) |((with_reducible show blockK _ _ _ _);first|refine RM.d5 rfl ?_|refine RM.d6 rfl ?_) |fail)
            refine ⟨(seen ++ [i], true, bb), hso.kept hx (by dsimp only; rw [hnz]; exact bef_lens (by omega)), hless, ?_⟩
            exact Weaker.to 4 rfl ⟨rfl, rfl, rfl, rfl, trivial⟩ (Nat.zero_le _) rfl (outer_inb hH _ _)
          · have d2 : decide (((bb.map eI).length : Int) < (((lst p 0 c).length + [eI (c : Int)].length : Nat) : Int)) = false := decide_eq_false (by rw [eb]; simp; omega)
            repeat' (first |with_reducible (first|refine RM.c1 ?_|refine RM.c2 ?_|refine RM.c4 ?_|refine RM.c9 ?_|refine RM.d3 ?_|refine RM.o1 ?_|refine RM.o2 ?_|refine RM.o4 ?_|refine RM.o5 ?_|refine RM.p2 ?_|refine RM.p3 ?_|refine RM.p4 ?_|refine RM.p5 ?_|refine RM.p6 ?_) |((with_reducible show force _ _);first|refine RM.f1 rfl ?_|refine RM.f2 rfl ?_|refine RM.f8 rfl ?_) |((with_reducible show wpOne _ _ _ _ _ _ _ _ _ _ _ _);refine RM.o8 rfl ?_) |((with_reducible show wpGuard _ _ _ _ _);refine wpGuard_yes rfl rfl rfl ?_) |((with_reducible show wpC _ _ _ _ (.cond _ _ _) _ _);refine RM.e3 rfl (by assumption) ?_) |((with_reducible show wpPick _ _ _ _ _);refine RM.k1 rfl ?_) |((with_reducible show wpPickB _ _ _ _ _);refine RM.k2 rfl ?_) |((with_reducible show wpBin _ _ _ _ _ _ _ _ _);first|refine RM.b8 rfl rfl ?_|refine RM.b1 rfl rfl (by omega) ?_) |((with_reducible show wpLen _ _ _ _ _);first|refine RM.l1 rfl ?_|refine RM.l2 rfl ?_) |fail)
            refine ⟨c + 1, ⟨hlt, fun _ => (by rw [hsn, List.length_append, List.length_singleton]; omega)⟩, (by dsimp only; omega), ?_⟩
            show Weaker _ ⟨mkFr [(6, .sl ((bb).map eI) false), (8, .ptr 2 0 0), (17, BB true), (19, rowV5 (lst p 0 (c + 1))), (87, .ptr 3 0 0), (92, .ag ((keyOf p).map I64)), (93, I64 ((c + 1) : Nat))], [H, mB E, mC, .iter 1 E.length ((seen ++ [i])) E.length, .cells ((keyOf p).map I64) 0 0, rowB (lst p 0 (c + 1)) (lst p 0 (c + 1)).length], Amb.none, false, 0⟩
            rw [hsn]
            exact Weaker.to 6 (by rw [rowB_snoc]; rfl) ⟨rfl, rfl, rfl, (by rw [rowV5_snoc]; rfl), rfl, rfl, i64c (by simp), trivial⟩ (Nat.zero_le _) rfl (inner_inb hH _ _ _ _)
    · have hc : c = 8 := by omega
      subst hc
      have d1 : decide (((8 : Nat) : Int) < 8) = false := rfl
      refine wpC_sound (mu := fun _ => false) ?_
      repeat' (first |with_reducible (first|refine RM.c2 ?_|refine RM.c4 ?_|refine RM.c6 ?_|refine RM.c9 ?_|refine RM.d2 ?_|refine RM.o1 ?_|refine RM.o2 ?_|refine RM.o4 ?_|refine RM.o5 ?_|refine RM.p5 ?_|refine RM.q2 ?_) |((with_reducible show force _ _);refine RM.f1 rfl ?_) |((with_reducible show wpOne _ _ _ _ _ _ _ _ _ _ _ _);refine RM.o8 rfl ?_) |((with_reducible show wpC _ _ _ _ (.cond _ _ _) _ _);refine RM.e3 rfl rfl ?_) |((with_reducible show wpBin _ _ _ _ _ _ _ _ _);refine RM.b6 rfl rfl ?_) |((with_reducible show blockK _ _ _ _);refine RM.d5 rfl ?_) |fail)
      refine SemC.weaker (Weaker.giveUp 5 (l := [(6, .sl ((bb).map eI) false), (8, .ptr 2 0 0), (17, BB f), (87, .ptr 3 0 0), (19, .sl ((lst p 0 8).map eI) false)]) (hp := [H, mB E, mC, .iter 1 E.length ((seen ++ [i])) E.length, .cells ((keyOf p).map I64) 0 0, .gone]) rfl (Nat.zero_le _) (deepL_map (fun _ => rfl) _) ⟨.same rfl, .same rfl, .same rfl, .same rfl, .row 1 (by simp) (by simp) (fun el hel => by obtain ⟨x, _, rfl⟩ := List.mem_map.1 hel; rfl) (by rw [flat_map1 (f := I64), List.drop_zero, List.take_of_length_le (by simp)]) (fun h => Bool.noConfusion h), trivial⟩ (inner_noj hN _ _ _ _) rfl) ?_
      have hBl := lst_len_le p 0 8
      generalize lst p 0 8 = B at *
      have hcmp := compare_c false B bb false false (by omega) (by omega)
      have eB : ((B.map eI).length : Int) = B.length := by simp
      have hend : ∀ (f' : Bool) (b' : List Int) (st : ASt), SeenOk E (seen ++ [i], f', b') → Weaker st ⟨mkFr [(6, .sl ((b').map eI) false), (8, .ptr 2 0 0), (17, BB f'), (87, .ptr 3 0 0)], [H, mB E, mC, .iter 1 E.length ((seen ++ [i])) E.length], Amb.none, false, 0⟩ → ∃ y : List Nat × Bool × List Int, SeenOk E y ∧ unseen E.length y.1 < unseen E.length seen ∧ Weaker st ⟨mkFr [(6, .sl ((y.2.2).map eI) false), (8, .ptr 2 0 0), (17, BB y.2.1), (87, .ptr 3 0 0)], [H, mB E, mC, .iter 1 E.length (y.1) E.length], Amb.none, false, 0⟩ := fun f' b' st h1 h2 => ⟨(seen ++ [i], f', b'), h1, hless, h2⟩
      refine wpC_sound (mu := fun _ => false) ?_
      cases f with
      | false =>
        repeat' (first |with_reducible (first|refine RM.c2 ?_|refine RM.c4 ?_|refine RM.c9 ?_|refine RM.d3 ?_|refine RM.o1 ?_|refine RM.o2 ?_|refine RM.o4 ?_|refine RM.o5 ?_|refine RM.p2 ?_|refine RM.p3 ?_|refine RM.p4 ?_) |((with_reducible show force _ _);first|refine RM.f1 rfl ?_|refine RM.f2 rfl ?_) |((with_reducible show wpOne _ _ _ _ _ _ _ _ _ _ _ _);refine RM.o8 rfl ?_) |((with_reducible show wpGuard _ _ _ _ _);refine wpGuard_no rfl rfl rfl ?_) |((with_reducible show wpC _ _ _ _ (.cond _ _ _) _ _);refine RM.e2 rfl rfl ?_) |((with_reducible show wpPick _ _ _ _ _);refine RM.k1 rfl ?_) |((with_reducible show wpPickB _ _ _ _ _);refine RM.k2 rfl ?_) |((with_reducible show RM.wpOp _ _ _ _ _ _);refine RM.n3 rfl ?_) |fail)
        exact hend true B _ (by rw [← hnz]; exact hso.taken hx (fun h => (by cases h))) (Weaker.to 4 rfl ⟨rfl, rfl, rfl, rfl, trivial⟩ (Nat.zero_le _) rfl (outer_inb hH _ _))
      | true =>
        have hBb := hcl rfl
        by_cases h1 : B.length < bb.length
        · have d2 : decide (((B.map eI).length : Int) < ((bb.map eI).length : Int)) = true := decide_eq_true (by omega)
          repeat' (first |with_reducible (first|refine RM.c2 ?_|refine RM.c4 ?_|refine RM.c9 ?_|refine RM.d3 ?_|refine RM.o1 ?_|refine RM.o2 ?_|refine RM.o4 ?_|refine RM.o5 ?_|refine RM.p2 ?_|refine RM.p3 ?_|refine RM.p4 ?_|refine RM.p5 ?_|refine RM.p6 ?_) |((with_reducible show force _ _);first|refine RM.f1 rfl ?_|refine RM.f2 rfl ?_) |((with_reducible show wpOne _ _ _ _ _ _ _ _ _ _ _ _);refine RM.o8 rfl ?_) |((with_reducible show wpGuard _ _ _ _ _);first|refine wpGuard_yes rfl rfl rfl ?_|refine wpGuard_no rfl rfl (by assumption) ?_) |((with_reducible show wpC _ _ _ _ (.cond _ _ _) _ _);refine RM.e2 rfl rfl ?_) |((with_reducible show wpPick _ _ _ _ _);refine RM.k1 rfl ?_) |((with_reducible show wpPickB _ _ _ _ _);first|refine RM.k3 rfl ?_|refine RM.k2 (by assumption) ?_) |((with_reducible show wpBin _ _ _ _ _ _ _ _ _);refine RM.b6 rfl rfl ?_) |((with_reducible show wpLen _ _ _ _ _);refine RM.l1 rfl ?_) |((with_reducible show RM.wpOp _ _ _ _ _ _);refine RM.n3 rfl ?_) |fail)
          exact hend true B _ (by rw [← hnz]; exact hso.taken hx (fun _ => (by dsimp only; rw [hnz]; exact .inl h1))) (Weaker.to 4 rfl ⟨rfl, rfl, rfl, rfl, trivial⟩ (Nat.zero_le _) rfl (outer_inb hH _ _))
        · have d2 : decide (((B.map eI).length : Int) < ((bb.map eI).length : Int)) = false := decide_eq_false (by omega)
          by_cases h2 : cmpL B bb < 0
          · have d3 := decide_eq_true h2
            repeat' (first |with_reducible (first|refine RM.c2 ?_|refine RM.c4 ?_|refine RM.c9 ?_|refine RM.d3 ?_|refine RM.o1 ?_|refine RM.o2 ?_|refine RM.o4 ?_|refine RM.o5 ?_|refine RM.o7 ?_|refine RM.o9 ?_|refine RM.p1 ?_|refine RM.p2 ?_|refine RM.p3 ?_|refine RM.p4 ?_|refine RM.p5 ?_|refine RM.p6 ?_) |((with_reducible show force _ _);first|refine RM.f1 rfl ?_|refine RM.f2 rfl ?_|refine RM.f4 rfl ?_) |((with_reducible show wpOne _ _ _ _ _ _ _ _ _ _ _ _);refine RM.o8 rfl ?_) |((with_reducible show wpGuard _ _ _ _ _);first|refine wpGuard_yes rfl rfl rfl ?_|refine wpGuard_yes rfl rfl (by assumption) ?_) |((with_reducible show wpC _ _ _ _ (.cond _ _ _) _ _);refine RM.e2 rfl (by assumption) ?_) |((with_reducible show wpPick _ _ _ _ _);refine RM.k1 rfl ?_) |((with_reducible show wpPickB _ _ _ _ _);first|refine RM.k3 rfl ?_|refine RM.k3 (by assumption) ?_) |((with_reducible show wpBin _ _ _ _ _ _ _ _ _);refine RM.b6 rfl rfl ?_) |((with_reducible show wpLen _ _ _ _ _);refine RM.l1 rfl ?_) |((with_reducible show RM.wpOp _ _ _ _ _ _);refine RM.n3 rfl ?_) |(refine PureV.call hcmp rfl rfl ?_) |fail)
            exact hend true B _ (by rw [← hnz]; exact hso.taken hx (fun _ => (by dsimp only; rw [hnz]; exact .inr ⟨by omega, h2⟩))) (Weaker.to 4 rfl ⟨rfl, rfl, rfl, rfl, trivial⟩ (Nat.zero_le _) rfl (outer_inb hH _ _))
          · have d3 := decide_eq_false h2
            repeat' (first |with_reducible (first|refine RM.c1 ?_|refine RM.c2 ?_|refine RM.c4 ?_|refine RM.c9 ?_|refine RM.d3 ?_|refine RM.o1 ?_|refine RM.o2 ?_|refine RM.o4 ?_|refine RM.o5 ?_|refine RM.o7 ?_|refine RM.o9 ?_|refine RM.p1 ?_|refine RM.p2 ?_|refine RM.p4 ?_|refine RM.p5 ?_|refine RM.p6 ?_) |((with_reducible show force _ _);first|refine RM.f1 rfl ?_|refine RM.f2 rfl ?_|refine RM.f4 rfl ?_) |((with_reducible show wpOne _ _ _ _ _ _ _ _ _ _ _ _);refine RM.o8 rfl ?_) |((with_reducible show wpGuard _ _ _ _ _);first|refine wpGuard_yes rfl rfl rfl ?_|refine wpGuard_yes rfl rfl (by assumption) ?_) |((with_reducible show wpC _ _ _ _ (.cond _ _ _) _ _);refine RM.e3 rfl (by assumption) ?_) |((with_reducible show wpPick _ _ _ _ _);refine RM.k1 rfl ?_) |((with_reducible show wpPickB _ _ _ _ _);first|refine RM.k3 rfl ?_|refine RM.k3 (by assumption) ?_) |((with_reducible show wpBin _ _ _ _ _ _ _ _ _);refine RM.b6 rfl rfl ?_) |((with_reducible show wpLen _ _ _ _ _);refine RM.l1 rfl ?_) |((with_reducible show RM.wpOp _ _ _ _ _ _);refine RM.n3 rfl ?_) |(refine PureV.call hcmp rfl rfl ?_) |fail)
            exact hend true bb _ (hso.kept hx (by dsimp only; rw [hnz]; unfold bef; omega)) (Weaker.to 4 rfl ⟨rfl, rfl, rfl, rfl, trivial⟩ (Nat.zero_le _) rfl (outer_inb hH _ _))
  · repeat' (first |with_reducible (first|refine RM.c9 ?_|refine RM.o1 ?_|refine RM.o2 ?_|refine RM.o4 ?_|refine RM.o5 ?_) |((with_reducible show force _ _);refine RM.f1 rfl ?_) |((with_reducible show wpOne _ _ _ _ _ _ _ _ _ _ _ _);refine RM.o8 rfl ?_) |(refine ⟨_, rfl, ?_⟩) |fail)
    refine wpC_sound (mu := fun _ => false) ?_
    repeat' (first |with_reducible (first|refine RM.c2 ?_|refine RM.c6 ?_|refine RM.c9 ?_|refine RM.d2 ?_|refine RM.q2 ?_) |((with_reducible show wpC _ _ _ _ (.cond _ _ _) _ _);refine RM.e3 rfl rfl ?_) |((with_reducible show blockK _ _ _ _);refine RM.d5 rfl ?_) |fail)
    refine wpC_sound (mu := fun _ => false) ?_
    repeat' (first |with_reducible (first|refine RM.c2 ?_|refine RM.c4 ?_|refine RM.c7 ?_|refine RM.c9 ?_|refine RM.d8 ?_|refine RM.o1 ?_|refine RM.o2 ?_|refine RM.o4 ?_|refine RM.o5 ?_|refine RM.p2 ?_|refine RM.p3 ?_) |((with_reducible show force _ _);refine RM.f2 rfl ?_) |((with_reducible show wpOne _ _ _ _ _ _ _ _ _ _ _ _);refine RM.o8 rfl ?_) |fail)
    have hin : ∀ i x, E[i]? = some x → i ∈ seen := fun i x hx => by
      have := hall _ (List.mem_of_getElem? (ents_get 0 E i x hx))
      rwa [Nat.zero_add] at this
    obtain ⟨z, hz, hzb⟩ := hex
    obtain ⟨iz, hiz⟩ := List.getElem?_of_mem hz
    cases f with
    | false =>
      have h1 := hin iz z hiz
      have h2 := (hso.1 rfl).1
      dsimp only at h2
      rw [h2] at h1
      cases h1
    | true =>
      obtain ⟨y, hy, hyb⟩ := (hso.2 rfl).1
      have h3 := (hso.2 rfl).2 iz (hin iz z hiz) z hiz
      have h4 := hmin y hy
      dsimp only at hyb h3
      rw [hyb] at h4
      rw [hzb] at h3
      rw [← bef_tri h4 h3]
      exact ⟨[_], ⟨Fz.deep rfl, trivial⟩, rfl⟩
end Go.Proofs.Ytmkaeohmdcoanaa
open Go Go.RM
namespace Go.Proofs.Ytmkaeohmdcoanaa
set_option maxRecDepth 100000
set_option maxHeartbeats 4000000
theorem hold_in (s : Stores) (k : Kind) (row : List Int) (n : Nat) : AB.inb n (.cells (eHoldV s k row (.sl [] false)) 0 0) = true := by
  exact deep_inb n (.ag _) (eHold_deep rfl)
theorem hold_noj (s : Stores) (k : Kind) (row : List Int) (n : Nat) : AB.noj n (.cells (eHoldV s k row (.sl [] false)) 0 0) = true := by
  exact deep_noj n (.ag _) (eHold_deep rfl)
theorem hb_inb (s : Stores) (k : Kind) (row : List Int) (y : Truth × Truth) (E : Met) (m : Nat) (p : Nat → Bool) (j : Nat) : ([.cells (eHoldV s k row (.sl [] false)) 0 0, mB (E), mC, .cells (eTruth y.1) 0 0, .cells (eTruth y.2) 0 0, .cells (eTruth ⟨y.1.first + (m : Nat), y.1.man, y.1.ship⟩) 0 0, .cells ((keyOf (upto p j)).map I64) 0 0] : List AB).all (AB.inb 7) = true :=
  allInb (hold_in s k row 7) (allInb (ents_inb 7 _ 0) (allInb rfl (allInb rfl (allInb rfl (allInb rfl (allInb (deep_inb 7 _ key_deep) rfl))))))
theorem touch_len {k : List Int} {E : Met} (hk : k.length = 8) (h : ∀ x ∈ E, x.1.length = 8) : ∀ x ∈ metTouch k E, x.1.length = 8 := by
  intro x hx
  unfold metTouch at hx
  split at hx
  · exact h x hx
  · rcases List.mem_append.1 hx with hx | hx
    · exact h x hx
    · rw [List.mem_singleton.1 hx]
      exact hk
theorem metVal_touch (k : List Int) (E : Met) : metVal k (metTouch k E) = metVal k E := by
  cases h : metAt k E with
  | some i =>
    have : metTouch k E = E := by unfold metTouch; rw [h]
    rw [this]
  | none =>
    have h1 : metTouch k E = E ++ [(k, 0)] := by unfold metTouch; rw [h]
    have h2 : metAt k (E ++ [(k, 0)]) = some E.length := by
      unfold metAt at h ⊢
      rw [List.findIdx?_append, h]
      simp
    rw [h1]
    unfold metVal
    rw [h2, h]
    simp
theorem out_inb (s : Stores) (k : Kind) (row : List Int) (E : Met) : ([.cells (eHoldV s k row (.sl [] false)) 0 0, mB E, mC] : List AB).all (AB.inb 3) = true :=
  allInb (hold_in s k row 3) (allInb (ents_inb 3 _ 0) rfl)
theorem noj2Cons {a b i : Nat} {z : AB} {l : List AB} (h : z.noj a = true) (h' : z.noj b = true) (k : nojAll2 a b (i + 1) l = true) : nojAll2 a b i (z :: l) = true := by
  unfold nojAll2
  rw [h, h', k]
  cases Nat.beq i a <;> rfl
theorem round_noj (s : Stores) (k : Kind) (row : List Int) (y : Truth × Truth) (E : Met) (n n' : Int) (p : Nat → Bool) : nojAll2 5 7 0 ([.cells (eHoldV s k row (.sl [] false)) 0 0, mB (E), mC, .cells (eTruth y.1) 0 0, .cells (eTruth y.2) 0 0, .cells (eTruth ⟨n, y.1.man, y.1.ship⟩) 0 0, .cells ((keyOf p).map I64) 0 0, .cells (eTruth ⟨n', y.1.man, y.1.ship⟩) 0 0] : List AB) = true :=
  noj2Cons (hold_noj s k row 5) (hold_noj s k row 7) (noj2Cons (ents_noj 5 E 0) (ents_noj 7 E 0) (noj2Cons rfl rfl (noj2Cons rfl rfl (noj2Cons rfl rfl (noj2Cons rfl rfl (noj2Cons (deep_noj 5 (.ag _) key_deep) (deep_noj 7 (.ag _) key_deep) rfl))))))
theorem fewest_c (s : Stores) (_h : s.Ok) (l : List Count) (h0 : cntsErr s l = 0) (i : Nat) (hi : i < s.kinds.length) (ts : Truth) (hts : truthOk s.kinds[i] ts = true)
    (hmin : ∀ u, truthOk s.kinds[i] u = true → ¬ bef (lst (missAt s.men s.kinds[i] (cargoRow i s.cargos) l i u) 0 8) (lst (missAt s.men s.kinds[i] (cargoRow i s.cargos) l i ts) 0 8)) :
    Pu false 78 [.ag (eStores s), .sl (l.map eCount) false, I64 i] (.sl ((lst (missAt s.men s.kinds[i] (cargoRow i s.cargos) l i ts) 0 8).map eI) false) := by
  obtain ⟨hg, hl8, hlc⟩ := cnts_good h0
  have h8 := sizes_9 hg.sizes
  have em : ((s.men.map eI).length : Int) = s.men.length := by simp
  have el : ((l.map eCount).length : Int) = l.length := by simp
  have hop := open_c false s [] false i hi (fun c hc => by have := hg.cargos c hc; omega) h8.2.2 (by simp)
  have hkg := hg.kinds _ (List.getElem_mem hi)
  have hrow := hg.row i
  have hh : HoldOk s s.kinds[i] (cargoRow i s.cargos) [] := ⟨hg, hkg, hrow, fun c hc => (by cases hc), Nat.zero_le _⟩
  generalize s.kinds[i] = k at *
  generalize cargoRow i s.cargos = row at *
  have hop : Pu false 60 [.ag (eStores s), .fl (.slice none 0 0), I64 i] (.ag (eHoldV s k row (.sl [] false))) := hop.soft (args' := [.ag (eStores s), .fl (.slice none 0 0), I64 i]) ⟨DSoft.refl _, DSoft.nil _, DSoft.refl _, trivial⟩
  have h30 := hh.row.len
  have htr := truths_c false (s := s) (k := k) (row := row) (f := [])
  have hgn := truths_g false hh
  have hmm := fun t => mem_met (men := s.men) (k := k) (row := row) (t := t) (by have := hkg.first; omega)
  have hru := fun (y : Truth × Truth) (hy : y ∈ truthsL s.men k row []) => (truthsL_run hh hy)
  have hLl : (truthsL s.men k row []).length ≤ 91 := by
    have h1 := hkg.man
    have h2 := hkg.ship
    have hn : spanN k.man * spanN k.ship ≤ 7 * 13 := Nat.mul_le_mul (by unfold spanN; omega) (by unfold spanN; omega)
    unfold truthsL pairs
    have := List.length_filterMap_le (useAt s.men k row []) (List.range (spanN k.man * spanN k.ship))
    rw [List.length_range] at this
    omega
  generalize truthsL s.men k row [] = L at *
  refine PureV.body (fn := Try.f78) rfl rfl rfl rfl ?_
  refine RM.c2s (mu := fun _ => false) ?_
  repeat' (first |with_reducible (first|refine RM.c4 ?_|refine RM.c9 ?_|refine RM.o1 ?_|refine RM.o2 ?_|refine RM.o4 ?_|refine RM.o5 ?_|refine RM.p3 ?_) |((with_reducible show force _ _);first|refine RM.f1 rfl ?_|refine RM.f3 rfl ?_) |((with_reducible show wpOne _ _ _ _ _ _ _ _ _ _ _ _);refine RM.o8 rfl ?_) |(refine ⟨rfl, rfl, rfl, ?_⟩) |fail)
  refine SemC.scope ?_
  refine RM.c2s (mu := fun _ => false) ?_
  repeat' (first |(refine stH (s := s) (k := k) (row := row) h30 rfl rfl rfl rfl ?_) |with_reducible (first|refine RM.c4 ?_|refine RM.c9 ?_|refine RM.o1 ?_|refine RM.o2 ?_|refine RM.o4 ?_|refine RM.o5 ?_|refine RM.o6 ?_|refine RM.o7 ?_|refine RM.o9 ?_|refine RM.p1 ?_) |((with_reducible show force _ _);first|refine RM.f1 rfl ?_|refine RM.f4 rfl ?_|refine RM.f5 rfl ?_|refine RM.f7 rfl ?_|refine RM.g2 rfl ?_) |((with_reducible show wpOne _ _ _ _ _ _ _ _ _ _ _ _);refine RM.o8 rfl ?_) |(refine ⟨_, rfl, ?_⟩) |(refine And.intro (Nat.le_of_ble_eq_true rfl) ?_) |(refine And.intro (by kernel_rfl) ?_) |(refine PureV.call hop rfl rfl ?_) |fail)
  refine RM.c2s (mu := fun _ => false) ?_
  repeat' (first |with_reducible (first|refine RM.c4 ?_|refine RM.c9 ?_|refine RM.o1 ?_|refine RM.o2 ?_|refine RM.o4 ?_|refine RM.o5 ?_|refine RM.o6 ?_) |((with_reducible show force _ _);first|refine RM.f7 rfl ?_|refine RM.g2 rfl ?_) |((with_reducible show wpOne _ _ _ _ _ _ _ _ _ _ _ _);refine RM.o8 rfl ?_) |(refine And.intro (by kernel_rfl) ?_) |(refine ⟨_, _, rfl, rfl, rfl, rfl, Nat.le_of_ble_eq_true rfl, ?_⟩) |fail)
  refine SemC.seq ?_
  refine RM.c2s (mu := fun _ => false) ?_
  repeat' (first |(refine ldHO (s := s) (k := k) (row := row) h30 rfl rfl ?_) |with_reducible (first|refine RM.c4 ?_|refine RM.c9 ?_|refine RM.o1 ?_|refine RM.o2 ?_|refine RM.o4 ?_|refine RM.o5 ?_|refine RM.o7 ?_|refine RM.o9 ?_|refine RM.p1 ?_) |((with_reducible show force _ _);first|refine RM.f4 rfl ?_|refine RM.f5 rfl ?_) |((with_reducible show wpOne _ _ _ _ _ _ _ _ _ _ _ _);refine RM.o8 rfl ?_) |(refine PureV.call htr rfl (hdeep rfl) ?_) |fail)
  refine SemC.block ?_
  generalize hkf : (fun t => keyOf (missAt s.men k row l i t)) = kf
  have hkf' : ∀ t, kf t = keyOf (missAt s.men k row l i t) := fun t => by rw [← hkf]
  refine SemC.range (fun n => [.cells (eHoldV s k row (.sl [] false)) 0 0, mB (tally kf (metT (L.take n))), mC]) (fun _ => Amb.none) (fun _ => True) rfl hgn rfl rfl trivial (fun n x hx _ => ?_) (fun _ => ?_)
  · obtain ⟨y, hy, rfl⟩ := pair_of hx
    have hyr := hru y (List.mem_of_getElem? hy)
    have htk := metT_take hy
    refine ⟨rfl, ?_⟩
    refine wpC_sound (mu := fun _ => false) ?_
    repeat' (first |with_reducible (first|refine RM.c2 ?_|refine RM.c4 ?_|refine RM.c9 ?_|refine RM.o1 ?_|refine RM.o2 ?_|refine RM.o4 ?_|refine RM.o5 ?_|refine RM.o6 ?_) |((with_reducible show force _ _);first|refine RM.f7 rfl ?_|refine RM.g2 rfl ?_) |((with_reducible show wpOne _ _ _ _ _ _ _ _ _ _ _ _);refine RM.o8 rfl ?_) |(refine And.intro (by kernel_rfl) ?_) |(refine ⟨_, _, rfl, rfl, rfl, rfl, Nat.le_of_ble_eq_true rfl, ?_⟩) |fail)
    refine SemC.block ?_
    refine RM.c2s (mu := fun _ => false) ?_
    repeat' (first |with_reducible (first|refine RM.c4 ?_|refine RM.c9 ?_|refine RM.o1 ?_|refine RM.o2 ?_|refine RM.o4 ?_|refine RM.o5 ?_|refine RM.o6 ?_) |((with_reducible show force _ _);first|refine RM.f5 rfl ?_|refine RM.f7 rfl ?_|refine RM.g2 rfl ?_) |((with_reducible show wpOne _ _ _ _ _ _ _ _ _ _ _ _);refine RM.o8 rfl ?_) |(refine And.intro (by kernel_rfl) ?_) |(refine ⟨_, _, rfl, rfl, rfl, rfl, Nat.le_of_ble_eq_true rfl, ?_⟩) |(refine ⟨_, _, rfl, Nat.le_of_ble_eq_true rfl, ?_⟩) |fail)
    refine SemC.block ?_
    have hfl : (metT (L.take n)).length ≤ 91 * 301 := by
      refine Nat.le_trans (metT_len _ fun z hz => ?_) (Nat.mul_le_mul_right _ (by rw [List.length_take]; omega))
      have := hru z (List.mem_of_mem_take hz)
      have h1 := hkg.first
      omega
    have hsl : (spanT y).length = (y.2.first - y.1.first + 1).toNat := by unfold spanT; simp
    have hf := hkg.first
    have h00 : y.1.first + ((0 : Nat) : Int) = y.1.first := by simp
    have h01 : tally kf (metT (L.take n) ++ (spanT y).take 0) = tally kf (metT (L.take n)) := by rw [List.take_zero, List.append_nil]
    refine SemC.weaker (Weaker.to (l := [(4, .pt [.sl (l.map eCount) false] 0), (5, .pt [I64 i] 0), (7, .ptr 0 0 0), (8, .ptr 2 0 0), (10, .ptr 4 0 0), (11, .ptr 5 0 0)]) (hp := [.cells (eHoldV s k row (.sl [] false)) 0 0, mB ((tally kf (metT (L.take n) ++ (spanT y).take 0))), mC, .cells (eTruth y.1) 0 0, .cells (eTruth y.2) 0 0, .cells (eTruth ⟨y.1.first + (0 : Nat), y.1.man, y.1.ship⟩) 0 0]) 6 (by rw [h01, h00]; rfl) ⟨rfl, rfl, rfl, rfl, rfl, rfl, trivial⟩ (Nat.le_of_ble_eq_true rfl) rfl (allInb (hold_in s k row 6) (allInb (ents_inb 6 _ 0) rfl))) ?_
    refine SemC.loop (fun m : Nat => m ≤ (spanT y).length) (fun m => ⟨mkFr [(4, .pt [.sl (l.map eCount) false] 0), (5, .pt [I64 i] 0), (7, .ptr 0 0 0), (8, .ptr 2 0 0), (10, .ptr 4 0 0), (11, .ptr 5 0 0)], [.cells (eHoldV s k row (.sl [] false)) 0 0, mB ((tally kf (metT (L.take n) ++ (spanT y).take m))), mC, .cells (eTruth y.1) 0 0, .cells (eTruth y.2) 0 0, .cells (eTruth ⟨y.1.first + (m : Nat), y.1.man, y.1.ship⟩) 0 0], Amb.none, true, 3⟩) (fun m => (spanT y).length - m) ?_ 0 (Nat.zero_le _)
    intro m hm
    refine RM.c2s (mu := fun _ => false) ?_
    by_cases hlt : m < (spanT y).length
    · have d1 : decide (y.1.first + (m : Int) ≤ y.2.first) = true := decide_eq_true (by omega)
      repeat' (first |with_reducible (first|refine RM.c1 ?_|refine RM.c2 ?_|refine RM.c4 ?_|refine RM.c9 ?_|refine RM.o1 ?_|refine RM.o2 ?_|refine RM.o4 ?_|refine RM.o5 ?_|refine RM.p5 ?_) |((with_reducible show force _ _);first|refine RM.f1 rfl ?_|refine RM.f7 rfl ?_) |((with_reducible show wpOne _ _ _ _ _ _ _ _ _ _ _ _);refine RM.o8 rfl ?_) |((with_reducible show wpC _ _ _ _ (.cond _ _ _) _ _);refine RM.e2 rfl (by assumption) ?_) |((with_reducible show wpBin _ _ _ _ _ _ _ _ _);refine RM.b7 rfl rfl ?_) |(refine ⟨_, _, rfl, by decide, ?_⟩) |(refine ⟨_, _, rfl, _, rfl, ?_⟩) |fail)
      refine SemC.seq ?_
      refine SemC.block ?_
      have hrm : RunOk s.men k row ⟨y.1.first + (m : Int), y.1.man, y.1.ship⟩ := hh.run (by omega) (by omega) (by omega)
      have hrl := run_l (one := false) (cnts := []) hrm
      rw [← em] at hrl
      have hsm : (spanT y).take (m + 1) = (spanT y).take m ++ [⟨y.1.first + (m : Int), y.1.man, y.1.ship⟩] := by
        have hgm : (spanT y)[m]? = some ⟨y.1.first + (m : Int), y.1.man, y.1.ship⟩ := by
          unfold spanT
          rw [List.getElem?_map, List.getElem?_range (by omega)]
          rfl
        rw [List.take_add_one, hgm]
        rfl
      have hmE := metVal_le (tally_inv (key := kf) (metT (L.take n) ++ (spanT y).take m)) (kf ⟨y.1.first + (m : Int), y.1.man, y.1.ship⟩)
      have hE8 : ∀ x ∈ tally kf (metT (L.take n) ++ (spanT y).take m), x.1.length = 8 := fun x hx => by
        obtain ⟨t, _, ht⟩ := (tally_inv (key := kf) (metT (L.take n) ++ (spanT y).take m)).some x hx
        rw [ht, hkf']
        rfl
      have hnext : tally kf (metT (L.take n) ++ (spanT y).take (m + 1)) = bump (kf ⟨y.1.first + (m : Int), y.1.man, y.1.ship⟩) (tally kf (metT (L.take n) ++ (spanT y).take m)) := by
        rw [hsm, ← List.append_assoc, tally_one]
      rw [List.length_append, List.length_take] at hmE
      have hkt : kf ⟨y.1.first + (m : Int), y.1.man, y.1.ship⟩ = keyOf (missAt s.men k row l i ⟨y.1.first + (m : Int), y.1.man, y.1.ship⟩) := hkf' _
      generalize tally kf (metT (L.take n) ++ (spanT y).take m) = E at *
      have hml := lvl_len s.men k row ⟨y.1.first + (m : Int), y.1.man, y.1.ship⟩
      have hmiss := fun j (hj : j < l.length) => miss_at (men := s.men) (k := k) (row := row) (ki := i) (t := ⟨y.1.first + (m : Int), y.1.man, y.1.ship⟩) hj
      have hmall := upto_all (p := missAt s.men k row l i ⟨y.1.first + (m : Int), y.1.man, y.1.ship⟩) (n := l.length) fun j hj => miss_none hj
      generalize missAt s.men k row l i ⟨y.1.first + (m : Int), y.1.man, y.1.ship⟩ = p at *
      generalize lvl s.men k row ⟨y.1.first + (m : Int), y.1.man, y.1.ship⟩ = lv at *
      refine RM.c2s (mu := fun _ => false) ?_
      repeat' (first |(refine ldHO (s := s) (k := k) (row := row) h30 rfl rfl ?_) |with_reducible (first|refine RM.c4 ?_|refine RM.c9 ?_|refine RM.o1 ?_|refine RM.o2 ?_|refine RM.o4 ?_|refine RM.o5 ?_|refine RM.o7 ?_|refine RM.o9 ?_|refine RM.p1 ?_|refine RM.p2 ?_|refine RM.p3 ?_|refine RM.p6 ?_) |((with_reducible show force _ _);first|refine RM.f1 rfl ?_|refine RM.f2 rfl ?_|refine RM.f4 rfl ?_|refine RM.f5 rfl ?_|refine RM.f6 rfl ?_|refine RM.f7 rfl ?_) |((with_reducible show wpOne _ _ _ _ _ _ _ _ _ _ _ _);refine RM.o8 rfl ?_) |((with_reducible show wpLen _ _ _ _ _);refine RM.l1 rfl ?_) |(refine ⟨_, rfl, ?_⟩) |(refine ⟨_, _, rfl, by decide, ?_⟩) |(refine ⟨_, _, rfl, _, rfl, ?_⟩) |(refine ⟨_, _, rfl, Nat.le_of_ble_eq_true rfl, ?_⟩) |(refine PureV.call hrl rfl (hdeep rfl) ?_) |fail)
      refine RM.c2s (mu := fun _ => false) ?_
      repeat' (first |with_reducible (first|refine RM.c4 ?_|refine RM.c9 ?_|refine RM.o1 ?_|refine RM.o2 ?_|refine RM.o4 ?_|refine RM.o5 ?_) |((with_reducible show force _ _);refine RM.f7 rfl ?_) |((with_reducible show wpOne _ _ _ _ _ _ _ _ _ _ _ _);refine RM.o8 rfl ?_) |(refine And.intro (by kernel_rfl) ?_) |fail)
      refine SemC.seq ?_
      refine RM.c2s (mu := fun _ => false) ?_
      repeat' (first |with_reducible (first|refine RM.c4 ?_|refine RM.c9 ?_|refine RM.o1 ?_|refine RM.o2 ?_|refine RM.o4 ?_|refine RM.o5 ?_|refine RM.p2 ?_|refine RM.p6 ?_) |((with_reducible show force _ _);first|refine RM.f1 rfl ?_|refine RM.f2 rfl ?_) |((with_reducible show wpOne _ _ _ _ _ _ _ _ _ _ _ _);refine RM.o8 rfl ?_) |((with_reducible show wpLen _ _ _ _ _);refine RM.l1 rfl ?_) |(refine ⟨_, rfl, ?_⟩) |fail)
      refine SemC.block ?_
      refine SemC.weaker (Weaker.to (l := [(4, .pt [.sl (l.map eCount) false] 0), (5, .pt [I64 i] 0), (7, .ptr 0 0 0), (8, .ptr 2 0 0), (10, .ptr 4 0 0), (11, .ptr 5 0 0), (12, .sl (lv.map eI) false), (14, .ptr 6 0 0), (50, .sl (l.map eCount) false), (51, I64 l.length), (52, I64 (0 : Nat))]) (hp := [.cells (eHoldV s k row (.sl [] false)) 0 0, mB (E), mC, .cells (eTruth y.1) 0 0, .cells (eTruth y.2) 0 0, .cells (eTruth ⟨y.1.first + (m : Nat), y.1.man, y.1.ship⟩) 0 0, .cells ((keyOf (upto p 0)).map I64) 0 0]) 7 (by rw [upto_zero]; rfl) ⟨rfl, rfl, rfl, rfl, rfl, rfl, rfl, rfl, rfl, i64c el, rfl, trivial⟩ (Nat.le_of_ble_eq_true rfl) rfl (hb_inb _ _ _ _ _ _ _ _)) ?_
      refine SemC.loop (fun j : Nat => j ≤ l.length) (fun j => ⟨mkFr [(4, .pt [.sl (l.map eCount) false] 0), (5, .pt [I64 i] 0), (7, .ptr 0 0 0), (8, .ptr 2 0 0), (10, .ptr 4 0 0), (11, .ptr 5 0 0), (12, .sl (lv.map eI) false), (14, .ptr 6 0 0), (50, .sl (l.map eCount) false), (51, I64 l.length), (52, I64 (j : Nat))], [.cells (eHoldV s k row (.sl [] false)) 0 0, mB (E), mC, .cells (eTruth y.1) 0 0, .cells (eTruth y.2) 0 0, .cells (eTruth ⟨y.1.first + (m : Nat), y.1.man, y.1.ship⟩) 0 0, .cells ((keyOf (upto p j)).map I64) 0 0], Amb.none, true, 3⟩) (fun j => l.length - j) ?_ 0 (Nat.zero_le _)
      intro j hj
      refine wpC_sound (mu := fun _ => false) ?_
      by_cases hjl : j < l.length
      · have d2 : decide ((j : Int) < (l.length : Int)) = true := decide_eq_true (by omega)
        have hms := hmiss j hjl
        have hcj := hlc _ (List.getElem_mem hjl)
        have hgd := getD_at (L := lv) (d := l[j].day) (by omega)
        have hat : (l.map eCount)[((j : Nat) : Int).toNat]? = some (eCount l[j]) := map_at hjl
        have hst : 0 + ((j : Nat) : Int).toNat * 1 + 1 ≤ ((keyOf (upto p j)).map I64).length := by
          show _ ≤ 8
          omega
        generalize l[j] = cj at *
        by_cases hk : cj.kind = (i : Int)
        · have d3 := decide_eq_true hk
          have hou := outside_c true cj.amount.lo cj.amount.hi [eI (lv.getD cj.day.toNat 0)] true rfl (Nat.le_of_ble_eq_true rfl)
          rw [show outB cj.amount.lo cj.amount.hi ([eI (lv.getD cj.day.toNat 0)].map unI) = !cntIn lv cj from outB1 _ _ _] at hou
          rw [d3, Bool.true_and] at hms
          cases hb : cntIn lv cj with
          | true =>
            rw [hb] at hms hou
            have hsk := upto_skip (p := p) (j := j) hms
            repeat' (first |(refine ⟨_, hou, ?_⟩) |with_reducible (first|refine RM.c1 ?_|refine RM.c2 ?_|refine RM.c3 ?_|refine RM.c4 ?_|refine RM.c5 ?_|refine RM.c9 ?_|refine RM.d3 ?_|refine RM.o1 ?_|refine RM.o2 ?_|refine RM.o3 ?_|refine RM.o4 ?_|refine RM.o5 ?_|refine RM.o6 ?_|refine RM.o9 ?_|refine RM.p1 ?_|refine RM.p2 ?_|refine RM.p3 ?_|refine RM.p4 ?_|refine RM.p5 ?_|refine RM.n1 ?_) |((with_reducible show force _ _);first|refine RM.f1 rfl ?_|refine RM.f2 rfl ?_|refine RM.f3 rfl ?_|refine RM.f4 rfl ?_|refine RM.f5 rfl ?_|refine RM.f7 rfl ?_|refine RM.g2 rfl ?_) |((with_reducible show wpOne _ _ _ _ _ _ _ _ _ _ _ _);refine RM.o8 rfl ?_) |((with_reducible show wpDOne _ _ _ _ _ _ _ _ _ _);refine RM.p9 rfl ?_) |((with_reducible show wpGuard _ _ _ _ _);refine wpGuard_yes rfl rfl (by assumption) ?_) |((with_reducible show wpC _ _ _ _ (.cond _ _ _) _ _);first|refine RM.e3 rfl rfl ?_|refine RM.e2 rfl (by assumption) ?_) |((with_reducible show wpPick _ _ _ _ _);refine RM.k1 rfl ?_) |((with_reducible show wpPickB _ _ _ _ _);refine RM.k2 (by assumption) ?_) |((with_reducible show wpBin _ _ _ _ _ _ _ _ _);first|refine RM.b4 rfl rfl ?_|refine RM.b6 rfl rfl ?_|refine RM.b1 rfl rfl (by omega) ?_) |(refine ⟨_, rfl, ?_⟩) |(refine ⟨_, _, rfl, by decide, ?_⟩) |(refine ⟨rfl, rfl, rfl, ?_⟩) |(refine ⟨rfl, rfl, ?_⟩) |(refine ⟨_, _, rfl, _, rfl, ?_⟩) |(refine And.intro (Nat.le_of_ble_eq_true rfl) ?_) |(refine And.intro (by kernel_rfl) ?_) |(refine ⟨_, _, rfl, rfl, rfl, rfl, Nat.le_of_ble_eq_true rfl, ?_⟩) |(refine ⟨eCount cj, ⟨by omega, hat⟩, rfl, ?_⟩) |(refine ⟨eI _, ⟨by omega, hgd⟩, rfl, ?_⟩) |fail)
            refine ⟨j + 1, hjl, (by dsimp only; omega), ?_⟩
            show Weaker _ ⟨mkFr [(4, .pt [.sl (l.map eCount) false] 0), (5, .pt [I64 i] 0), (7, .ptr 0 0 0), (8, .ptr 2 0 0), (10, .ptr 4 0 0), (11, .ptr 5 0 0), (12, .sl (lv.map eI) false), (14, .ptr 6 0 0), (50, .sl (l.map eCount) false), (51, I64 l.length), (52, I64 ((j + 1) : Nat))], [.cells (eHoldV s k row (.sl [] false)) 0 0, mB (E), mC, .cells (eTruth y.1) 0 0, .cells (eTruth y.2) 0 0, .cells (eTruth ⟨y.1.first + (m : Nat), y.1.man, y.1.ship⟩) 0 0, .cells ((keyOf (upto p (j + 1))).map I64) 0 0], Amb.none, true, 3⟩
            rw [hsk]
            exact Weaker.to 7 rfl ⟨rfl, rfl, rfl, rfl, rfl, rfl, rfl, rfl, rfl, rfl, i64c (by simp), trivial⟩ (Nat.le_of_ble_eq_true rfl) rfl (hb_inb _ _ _ _ _ _ _ _)
          | false =>
            rw [hb] at hms hou
            have hsp := upto_splice (p := p) (j := j) hms (by omega)
            repeat' (first |(refine ⟨_, hou, ?_⟩) |with_reducible (first|refine RM.c1 ?_|refine RM.c2 ?_|refine RM.c3 ?_|refine RM.c4 ?_|refine RM.c5 ?_|refine RM.c9 ?_|refine RM.d3 ?_|refine RM.o1 ?_|refine RM.o2 ?_|refine RM.o3 ?_|refine RM.o4 ?_|refine RM.o5 ?_|refine RM.o6 ?_|refine RM.o9 ?_|refine RM.p1 ?_|refine RM.p2 ?_|refine RM.p3 ?_|refine RM.p4 ?_|refine RM.p5 ?_|refine RM.n1 ?_) |((with_reducible show force _ _);first|refine RM.f1 rfl ?_|refine RM.f2 rfl ?_|refine RM.f3 rfl ?_|refine RM.f4 rfl ?_|refine RM.f5 rfl ?_|refine RM.f7 rfl ?_|refine RM.g2 rfl ?_) |((with_reducible show wpOne _ _ _ _ _ _ _ _ _ _ _ _);refine RM.o8 rfl ?_) |((with_reducible show wpDOne _ _ _ _ _ _ _ _ _ _);refine RM.p9 rfl ?_) |((with_reducible show wpGuard _ _ _ _ _);refine wpGuard_yes rfl rfl (by assumption) ?_) |((with_reducible show wpC _ _ _ _ (.cond _ _ _) _ _);first|refine RM.e2 rfl rfl ?_|refine RM.e2 rfl (by assumption) ?_) |((with_reducible show wpPick _ _ _ _ _);refine RM.k1 rfl ?_) |((with_reducible show wpPickB _ _ _ _ _);refine RM.k2 (by assumption) ?_) |((with_reducible show wpBin _ _ _ _ _ _ _ _ _);first|refine RM.b4 rfl rfl ?_|refine RM.b6 rfl rfl ?_|refine RM.b1 rfl rfl (by omega) ?_) |(refine ⟨_, rfl, ?_⟩) |(refine ⟨_, _, rfl, by decide, ?_⟩) |(refine ⟨rfl, rfl, rfl, ?_⟩) |(refine ⟨rfl, rfl, ?_⟩) |(refine ⟨_, _, rfl, _, rfl, ?_⟩) |(refine And.intro (Nat.le_of_ble_eq_true rfl) ?_) |(refine And.intro (by omega) ?_) |(refine And.intro (by kernel_rfl) ?_) |(refine ⟨_, _, rfl, rfl, rfl, rfl, Nat.le_of_ble_eq_true rfl, ?_⟩) |(refine ⟨eCount cj, ⟨by omega, hat⟩, rfl, ?_⟩) |(refine ⟨eI _, ⟨by omega, hgd⟩, rfl, ?_⟩) |fail)
            refine ⟨j + 1, hjl, (by dsimp only; omega), ?_⟩
            show Weaker _ ⟨mkFr [(4, .pt [.sl (l.map eCount) false] 0), (5, .pt [I64 i] 0), (7, .ptr 0 0 0), (8, .ptr 2 0 0), (10, .ptr 4 0 0), (11, .ptr 5 0 0), (12, .sl (lv.map eI) false), (14, .ptr 6 0 0), (50, .sl (l.map eCount) false), (51, I64 l.length), (52, I64 ((j + 1) : Nat))], [.cells (eHoldV s k row (.sl [] false)) 0 0, mB (E), mC, .cells (eTruth y.1) 0 0, .cells (eTruth y.2) 0 0, .cells (eTruth ⟨y.1.first + (m : Nat), y.1.man, y.1.ship⟩) 0 0, .cells ((keyOf (upto p (j + 1))).map I64) 0 0], Amb.none, true, 3⟩
            exact Weaker.to 7 (by rw [← hsp]; rfl) ⟨rfl, rfl, rfl, rfl, rfl, rfl, rfl, rfl, rfl, rfl, i64c (by simp), trivial⟩ (Nat.le_of_ble_eq_true rfl) rfl (hb_inb _ _ _ _ _ _ _ _)
        · have d3 := decide_eq_false hk
          rw [d3, Bool.false_and] at hms
          have hsk := upto_skip (p := p) (j := j) hms
          repeat' (first |(refine ⟨eCount cj, ⟨by omega, hat⟩, rfl, ?_⟩) |with_reducible (first|refine RM.c1 ?_|refine RM.c2 ?_|refine RM.c4 ?_|refine RM.c5 ?_|refine RM.c9 ?_|refine RM.d3 ?_|refine RM.o1 ?_|refine RM.o2 ?_|refine RM.o3 ?_|refine RM.o4 ?_|refine RM.o5 ?_|refine RM.o6 ?_|refine RM.p2 ?_|refine RM.p3 ?_|refine RM.p4 ?_|refine RM.p5 ?_) |((with_reducible show force _ _);first|refine RM.f1 rfl ?_|refine RM.f3 rfl ?_|refine RM.f5 rfl ?_|refine RM.f7 rfl ?_|refine RM.g2 rfl ?_) |((with_reducible show wpOne _ _ _ _ _ _ _ _ _ _ _ _);refine RM.o8 rfl ?_) |((with_reducible show wpDOne _ _ _ _ _ _ _ _ _ _);refine RM.p9 rfl ?_) |((with_reducible show wpGuard _ _ _ _ _);refine wpGuard_no rfl rfl (by assumption) ?_) |((with_reducible show wpC _ _ _ _ (.cond _ _ _) _ _);first|refine RM.e3 rfl rfl ?_|refine RM.e2 rfl (by assumption) ?_) |((with_reducible show wpPick _ _ _ _ _);refine RM.k1 rfl ?_) |((with_reducible show wpPickB _ _ _ _ _);refine RM.k3 (by assumption) ?_) |((with_reducible show wpBin _ _ _ _ _ _ _ _ _);first|refine RM.b4 rfl rfl ?_|refine RM.b6 rfl rfl ?_|refine RM.b1 rfl rfl (by omega) ?_) |(refine ⟨_, rfl, ?_⟩) |(refine ⟨_, _, rfl, by decide, ?_⟩) |(refine ⟨_, _, rfl, _, rfl, ?_⟩) |(refine And.intro (Nat.le_of_ble_eq_true rfl) ?_) |(refine And.intro (by kernel_rfl) ?_) |(refine ⟨_, _, rfl, rfl, rfl, rfl, Nat.le_of_ble_eq_true rfl, ?_⟩) |fail)
          refine ⟨j + 1, hjl, (by dsimp only; omega), ?_⟩
          show Weaker _ ⟨mkFr [(4, .pt [.sl (l.map eCount) false] 0), (5, .pt [I64 i] 0), (7, .ptr 0 0 0), (8, .ptr 2 0 0), (10, .ptr 4 0 0), (11, .ptr 5 0 0), (12, .sl (lv.map eI) false), (14, .ptr 6 0 0), (50, .sl (l.map eCount) false), (51, I64 l.length), (52, I64 ((j + 1) : Nat))], [.cells (eHoldV s k row (.sl [] false)) 0 0, mB (E), mC, .cells (eTruth y.1) 0 0, .cells (eTruth y.2) 0 0, .cells (eTruth ⟨y.1.first + (m : Nat), y.1.man, y.1.ship⟩) 0 0, .cells ((keyOf (upto p (j + 1))).map I64) 0 0], Amb.none, true, 3⟩
          rw [hsk]
          exact Weaker.to 7 rfl ⟨rfl, rfl, rfl, rfl, rfl, rfl, rfl, rfl, rfl, rfl, i64c (by simp), trivial⟩ (Nat.le_of_ble_eq_true rfl) rfl (hb_inb _ _ _ _ _ _ _ _)
      · have d2 : decide ((j : Int) < (l.length : Int)) = false := decide_eq_false (by omega)
        have hjj : j = l.length := by omega
        subst hjj
        rw [hmall]
        repeat' (first |with_reducible (first|refine RM.c2 ?_|refine RM.c4 ?_|refine RM.c6 ?_|refine RM.c9 ?_|refine RM.d2 ?_|refine RM.o1 ?_|refine RM.o2 ?_|refine RM.o4 ?_|refine RM.o5 ?_|refine RM.p5 ?_|refine RM.q2 ?_) |((with_reducible show force _ _);refine RM.f1 rfl ?_) |((with_reducible show wpOne _ _ _ _ _ _ _ _ _ _ _ _);refine RM.o8 rfl ?_) |((with_reducible show wpC _ _ _ _ (.cond _ _ _) _ _);refine RM.e3 rfl (by assumption) ?_) |((with_reducible show wpBin _ _ _ _ _ _ _ _ _);refine RM.b6 rfl rfl ?_) |((with_reducible show blockK _ _ _ _);refine RM.d5 rfl ?_) |fail)
        rw [hkt] at hmE hnext
        have h8p : (keyOf p).length = 8 := rfl
        have ht8 := touch_len h8p hE8
        refine SemC.opAssign rfl (by kernel_rfl) ?_
        unfold opAsg
        repeat' (first |(refine lookMet (E := E) rfl rfl rfl h8p hE8 ?_) |(refine entryMet (E := E) rfl rfl rfl h8p hE8 ?_) |with_reducible (first|refine RM.o5 ?_|refine RM.p5 ?_) |((with_reducible show force _ _);first|refine RM.f1 rfl ?_|refine RM.f5 rfl ?_|refine RM.f9 rfl ?_) |((with_reducible show wpBin _ _ _ _ _ _ _ _ _);refine RM.b1 rfl rfl (by omega) ?_) |(refine ⟨_, rfl, ?_⟩) |(refine ⟨_, _, rfl, _, rfl, ?_⟩) |(refine ⟨_, _, rfl, Nat.le_of_ble_eq_true rfl, ?_⟩) |fail)
        refine And.intro (lookMet (E := metTouch (keyOf p) E) rfl rfl rfl h8p ht8 (by rw [metVal_touch])) ?_
        repeat' (first |(refine storeMet (E := E) (key := keyOf p) rfl rfl rfl rfl rfl ?_) |with_reducible (first|refine RM.c9 ?_|refine RM.d3 ?_|refine RM.o5 ?_) |((with_reducible show force _ _);first|refine RM.f1 rfl ?_|refine RM.f6 rfl ?_) |(refine ⟨_, rfl, ?_⟩) |fail)
        have hbnd : -9223372036854775808 ≤ y.1.first + (m : Int) + 1 ∧ y.1.first + (m : Int) + 1 ≤ 9223372036854775807 := by omega
        refine wpC_sound (mu := fun _ => false) ?_
        repeat' (first |(refine RM.b1 rfl rfl hbnd ?_) |with_reducible (first|refine RM.c2 ?_|refine RM.c4 ?_|refine RM.c9 ?_|refine RM.o1 ?_|refine RM.o2 ?_|refine RM.o4 ?_|refine RM.o5 ?_|refine RM.o6 ?_|refine RM.p5 ?_) |((with_reducible show force _ _);first|refine RM.f1 rfl ?_|refine RM.f5 rfl ?_|refine RM.f7 rfl ?_|refine RM.g2 rfl ?_) |((with_reducible show wpOne _ _ _ _ _ _ _ _ _ _ _ _);refine RM.o8 rfl ?_) |(refine ⟨_, _, rfl, by decide, ?_⟩) |(refine ⟨_, _, rfl, _, rfl, ?_⟩) |(refine And.intro (by kernel_rfl) ?_) |(refine ⟨_, _, rfl, rfl, rfl, rfl, Nat.le_of_ble_eq_true rfl, ?_⟩) |(refine ⟨_, _, rfl, Nat.le_of_ble_eq_true rfl, ?_⟩) |fail)
        refine ⟨m + 1, hlt, (by dsimp only; omega), ?_⟩
        show Weaker _ ⟨mkFr [(4, .pt [.sl (l.map eCount) false] 0), (5, .pt [I64 i] 0), (7, .ptr 0 0 0), (8, .ptr 2 0 0), (10, .ptr 4 0 0), (11, .ptr 5 0 0)], [.cells (eHoldV s k row (.sl [] false)) 0 0, mB ((tally kf (metT (L.take n) ++ (spanT y).take (m + 1)))), mC, .cells (eTruth y.1) 0 0, .cells (eTruth y.2) 0 0, .cells (eTruth ⟨y.1.first + ((m + 1) : Nat), y.1.man, y.1.ship⟩) 0 0], Amb.none, true, 3⟩
        rw [hnext, show y.1.first + ((m + 1 : Nat) : Int) = y.1.first + (m : Int) + 1 by omega]
        refine Weaker.trans (Weaker.moveTo 5 7 (l := [(4, .pt [.sl (l.map eCount) false] 0), (5, .pt [I64 i] 0), (7, .ptr 0 0 0), (8, .ptr 2 0 0), (10, .ptr 4 0 0), (11, .ptr 5 0 0)]) (hp := [.cells (eHoldV s k row (.sl [] false)) 0 0, mB ((bump (keyOf p) E)), mC, .cells (eTruth y.1) 0 0, .cells (eTruth y.2) 0 0, .cells (eTruth ⟨y.1.first + (m : Int) + 1, y.1.man, y.1.ship⟩) 0 0, .cells ((keyOf p).map I64) 0 0, .gone]) (by decide) rfl rfl (Nat.le_of_ble_eq_true rfl) (Nat.le_of_ble_eq_true rfl) ⟨.same rfl rfl, .same rfl rfl, .same rfl rfl, .same rfl rfl, .same rfl rfl, .ptr, trivial⟩ (round_noj s k row y (bump (keyOf p) E) (y.1.first + (m : Int)) (y.1.first + (m : Int) + 1) p) rfl) ?_
        exact Weaker.to 6 rfl ⟨rfl, rfl, rfl, rfl, rfl, rfl, trivial⟩ (Nat.le_of_ble_eq_true rfl) rfl (allInb (hold_in s k row 6) (allInb (ents_inb 6 _ 0) rfl))
    · have d1 : decide (y.1.first + (m : Int) ≤ y.2.first) = false := decide_eq_false (by omega)
      have hmm2 : (spanT y).take m = spanT y := List.take_of_length_le (by omega)
      rw [hmm2, ← htk]
      repeat' (first |with_reducible (first|refine RM.c2 ?_|refine RM.c4 ?_|refine RM.c6 ?_|refine RM.c9 ?_|refine RM.d2 ?_|refine RM.d3 ?_|refine RM.o1 ?_|refine RM.o2 ?_|refine RM.o4 ?_|refine RM.o5 ?_|refine RM.p5 ?_|refine RM.q2 ?_) |((with_reducible show force _ _);first|refine RM.f1 rfl ?_|refine RM.f7 rfl ?_) |((with_reducible show wpOne _ _ _ _ _ _ _ _ _ _ _ _);refine RM.o8 rfl ?_) |((with_reducible show wpC _ _ _ _ (.cond _ _ _) _ _);refine RM.e3 rfl (by assumption) ?_) |((with_reducible show wpBin _ _ _ _ _ _ _ _ _);refine RM.b7 rfl rfl ?_) |((with_reducible show blockK _ _ _ _);refine RM.d5 rfl ?_) |(refine ⟨_, _, rfl, by decide, ?_⟩) |(refine ⟨_, _, rfl, _, rfl, ?_⟩) |(refine And.intro (by omega) ?_) |fail)
      exact ⟨_, Weaker.to (l := []) 3 rfl trivial (Nat.le_refl _) rfl (out_inb s k row _)⟩
  · rw [show L.take (L.map ePair).length = L from List.take_of_length_le (by simp)]
    repeat' (first |with_reducible (first|refine RM.c9 ?_|refine RM.d3 ?_) |fail)
    refine SemC.weaker (Weaker.toS (l := [(6, .sl [] false), (8, .ptr 2 0 0)]) (hp := [.cells (eHoldV s k row (.sl [] false)) 0 0, mB (tally kf (metT L)), mC]) 3 rfl ⟨Soft.nil _, Soft.refl _, trivial⟩ (Nat.zero_le _) rfl (allInb (hold_in s k row 3) (allInb (ents_inb 3 _ 0) rfl))) ?_
    have hti := tally_inv (key := kf) (metT L)
    refine fewest_tail (hold_in s k row) (hold_noj s k row) (fun x hx => ?_) ?_ (fun x hx => ?_)
    · obtain ⟨t, _, ht⟩ := hti.some x hx
      exact ⟨_, ht.trans (hkf' t)⟩
    · obtain ⟨x, hx, he⟩ := hti.all ts ((hmm ts).2 hts)
      exact ⟨x, hx, by rw [he, hkf', key_lst]⟩
    · obtain ⟨t, h1, ht⟩ := hti.some x hx
      rw [ht, hkf', key_lst]
      exact hmin t ((hmm t).1 h1)
end Go.Proofs.Ytmkaeohmdcoanaa
open Go Go.RM
namespace Go.Proofs.Ytmkaeohmdcoanaa
set_option maxRecDepth 100000
theorem cnts_zero {s : Stores} {l : List Count} : cntsErr s l = 0 ↔ ((chk s).2.2 = 0 ∧ l.length ≤ 8 ∧ ∀ c ∈ l, cntErr s c = 0) := by
  unfold cntsErr
  by_cases h1 : (chk s).2.2 = 0
  · rw [if_neg (by simpa using h1)]
    by_cases h2 : 8 < (l.length : Int)
    · rw [if_pos h2]
      exact ⟨fun h => absurd h (by decide), fun h => by omega⟩
    · rw [if_neg h2]
      constructor
      · intro h
        refine ⟨h1, by omega, fun c hc => ?_⟩
        obtain ⟨i, hi, rfl⟩ := List.getElem_of_mem hc
        have := firstN_zero h i hi
        unfold cntE at this
        simpa only [List.getElem?_eq_getElem hi] using this
      · rintro ⟨_, _, h⟩
        rw [firstN_none]
        intro i hi
        unfold cntE
        simp only [List.getElem?_eq_getElem hi]
        exact h _ (List.getElem_mem hi)
  · rw [if_pos h1]
    exact ⟨fun h => absurd h h1, fun h => absurd h.1 h1⟩
end Go.Proofs.Ytmkaeohmdcoanaa
open Go Go.RM
namespace Go.Proofs.Ytmkaeohmdcoanaa
set_option maxRecDepth 100000
set_option maxHeartbeats 4000000
theorem mkS {own : Bool} {fr : Nat → AV} {hp : List AB} {K : AV → List AB → Prop} {t : TypeId} {l c : Operand} {inf : TyR} {n : Nat} {cs : List AV} (hl : evA fr l = I64 (n : Nat)) (hc : evA fr c = I64 (n : Nat)) (hi : elem? TT t = some inf) (hz : zeroFits inf = true)
    (hb : inf.bytes * n ≤ 140737488355328 ∧ n ≤ 9223372036854775807) (hcs : (fillZero (zeroCells inf) (n * inf.size)).map AV.fl = cs) (h : K (.osl hp.length 0 0 n n) (hp ++ [.cells cs inf.size 0])) : RM.wpOp TT own (.makeSlice t l c) fr hp K := by
  show wpMake TT t (evA fr l) (evA fr c) hp K
  rw [hl, hc]
  unfold wpMake
  rw [hi]
  refine ⟨n, n, rfl, rfl, ⟨Nat.le_refl _, hb.1, hb.2⟩, hz, ?_⟩
  rw [hcs, Nat.beq_refl]
  exact h
theorem fill_b (n : Nat) : (fillZero [.bool false] (n * 1)).map AV.fl = (List.replicate n false).map BB := by
  apply List.ext_getElem?
  intro i
  unfold fillZero
  rw [Nat.mul_one]
  by_cases h : i < n
  · rw [List.getElem?_map, List.getElem?_map, List.getElem?_map, List.getElem?_range h, List.getElem?_replicate, if_pos h]
    simp [Nat.mod_one]
  · rw [List.getElem?_eq_none (by simp; omega), List.getElem?_eq_none (by simp; omega)]
/-- What is met, by numbers below n. -/
def metRow {α : Type} (n : Nat) (f : α → Nat) (L : List α) : List Bool := (List.range n).map fun x => L.any fun t => decide (f t = x)
theorem metRow_len {α : Type} (n : Nat) (f : α → Nat) (L : List α) : (metRow n f L).length = n := by unfold metRow; simp
theorem metRow_nil {α : Type} (n : Nat) (f : α → Nat) : metRow n f [] = List.replicate n false := by
  unfold metRow
  apply List.ext_getElem?
  intro i
  rw [List.getElem?_map, List.getElem?_replicate]
  by_cases h : i < n
  · rw [List.getElem?_range h, if_pos h]; rfl
  · rw [List.getElem?_eq_none (by simp; omega), if_neg h]; rfl
theorem metRow_set {α : Type} {n : Nat} {f : α → Nat} {L : List α} {t : α} : (metRow n f L).set (f t) true = metRow n f (L ++ [t]) := by
  unfold metRow
  apply List.ext_getElem?
  intro i
  rw [List.getElem?_set, List.length_map, List.length_range, List.getElem?_map, List.getElem?_map]
  by_cases h : i < n
  · rw [List.getElem?_range h]
    simp only [Option.map_some, List.any_append, List.any_cons, List.any_nil, Bool.or_false]
    by_cases hi : f t = i
    · rw [if_pos hi, if_pos (by omega), decide_eq_true hi, Bool.or_true]
    · rw [if_neg hi, decide_eq_false hi, Bool.or_false]
  · rw [List.getElem?_eq_none (by simp; omega)]
    by_cases hi : f t = i
    · rw [if_pos hi, if_neg (by omega)]; rfl
    · rw [if_neg hi]; rfl
theorem rowb_set {S : List Bool} {k : Nat} (h : k < S.length) (x : Bool) : spliceV (S.map BB) [BB x] (0 + ((k : Nat) : Int).toNat * 1) = (S.set k x).map BB := by
  rw [Int.toNat_natCast, Nat.zero_add, Nat.mul_one, List.map_set, List.set_eq_take_append_cons_drop, if_pos (by rw [List.length_map]; exact h)]
  unfold spliceV
  simp
/-- The set of a truth: the counts with which it agrees, as a number. -/
def setN (men : List Int) (x : Kind) (row : List Int) (l : List Count) (k : Nat) (t : Truth) : Nat := bitsN (fun j => !missAt men x row l k t j) l.length
def rowS (s : Stores) (l : List Count) (k : Nat) : List Bool := match s.kinds[k]? with
  | some x => metRow (2 ^ l.length) (setN s.men x (cargoRow k s.cargos) l k) (allS s [] k x)
  | none => []
def rowsS (s : Stores) (l : List Count) (n : Nat) : List (List Bool) := (List.range n).map (rowS s l)
theorem rowsS_succ (s : Stores) (l : List Count) (n : Nat) : rowsS s l (n + 1) = rowsS s l n ++ [rowS s l n] := by
  unfold rowsS
  rw [List.range_succ, List.map_append]
  rfl
theorem rowsS_len (s : Stores) (l : List Count) (n : Nat) : (rowsS s l n).length = n := by unfold rowsS; simp
abbrev sB (L : List (List Bool)) (n : Nat) : AB := .cells ((L.map eRow).flatten) 1 n
abbrev sV (n : Nat) : AV := .osl 0 n 0 n (n + 1)
theorem eRow_deep : ∀ (L : List (List Bool)), deepL ((L.map eRow).flatten) = true
  | [] => rfl
  | t :: L => by
    rw [List.map_cons, List.flatten_cons]
    exact deepL_append rfl (eRow_deep L)
theorem eRow_flen (L : List (List Bool)) : ((L.map eRow).flatten).length = L.length := by
  rw [flatten_len (es := 1) fun el he => by obtain ⟨t, _, rfl⟩ := List.mem_map.1 he; rfl, List.length_map, Nat.mul_one]
theorem sB_inb {L : List (List Bool)} {n m : Nat} : AB.inb m (sB L n) = true := deep_inb m (.ag _) (eRow_deep L)
theorem cellsB_inb (r : List Bool) (v m : Nat) : AB.inb m (.cells (r.map BB) 1 v) = true := by
  simp only [AB.inb]
  exact inbL_map (fun _ => rfl) _
theorem sB_snoc (L : List (List Bool)) (r : List Bool) (n : Nat) : sB (L ++ [r]) (n + 1) = .cells ((L.map eRow).flatten ++ [eRow r].flatten) 1 (n + 1) := by
  show AB.cells _ _ _ = _
  rw [List.map_append, List.flatten_append]
  rfl
theorem sB_fz {L : List (List Bool)} {n : Nat} (hn : L.length = n) : Fz [sB L n] (sV n) (.sl (L.map eRow) false) := by
  subst hn
  exact Fz.row (es := 1) rfl (by rw [eRow_flen]; omega) (by simp) (fun el hel => by obtain ⟨x, _, rfl⟩ := List.mem_map.1 hel; rfl) (by rw [List.drop_zero, List.take_of_length_le (by rw [eRow_flen]; omega)]) (eRow_deep L) (fun h => Bool.noConfusion h)
theorem sets_c (one : Bool) (s : Stores) (l : List Count) (h0 : cntsErr s l = 0) : Pu one 80 [.ag (eStores s), .sl (l.map eCount) false] (.sl ((rowsS s l s.kinds.length).map eRow) false) := by
  obtain ⟨hg, hl8, hlc⟩ := cnts_good h0
  have hK := sizes_9 hg.sizes
  have ek : ((s.kinds.map eKind).length : Int) = s.kinds.length := by simp
  have el : ((l.map eCount).length : Int) = l.length := by simp
  have h00 : cntsErr s [] = 0 := by
    rw [cnts_zero] at h0 ⊢
    exact ⟨h0.1, by simp, fun c hc => by cases hc⟩
  refine PureV.body (fn := Try.f80) rfl rfl rfl rfl ?_
  refine wpC_sound (mu := fun _ => false) ?_
  repeat' (first |with_reducible (first|refine RM.c2 ?_|refine RM.c3 ?_|refine RM.c4 ?_|refine RM.c9 ?_|refine RM.o1 ?_|refine RM.o2 ?_|refine RM.o4 ?_|refine RM.o5 ?_|refine RM.p3 ?_) |((with_reducible show force _ _);first|refine RM.f1 rfl ?_|refine RM.f3 rfl ?_) |((with_reducible show wpOne _ _ _ _ _ _ _ _ _ _ _ _);refine RM.o8 rfl ?_) |(refine ⟨rfl, rfl, rfl, ?_⟩) |fail)
  refine SemC.weaker (Weaker.trans (Weaker.addNil 1) (Weaker.toS (l := [(1, .sl (l.map eCount) false), (2, .pt (eStores s) 0), (5, sV (0)), (6, I64 (0 : Nat))]) (hp := [sB (rowsS s l (0)) (0)]) 1 rfl ⟨Soft.refl _, Soft.refl _, Soft.nilRow, Soft.refl _, trivial⟩ (Nat.zero_le _) rfl (by rw [List.all_cons, sB_inb]; rfl))) ?_
  refine SemC.loop (fun k : Nat => k ≤ s.kinds.length) (fun k => ⟨mkFr [(1, .sl (l.map eCount) false), (2, .pt (eStores s) 0), (5, sV (k)), (6, I64 (k : Nat))], [sB (rowsS s l (k)) (k)], Amb.none, false, 0⟩) (fun k => s.kinds.length - k) ?_ 0 (Nat.zero_le _)
  intro k hk
  have hsuc := rowsS_succ s l k
  by_cases hlt : k < s.kinds.length
  · have d1 : decide ((k : Int) < ((s.kinds.map eKind).length : Int)) = true := decide_eq_true (by omega)
    have hbn : Pu one 82 [I64 ((l.map eCount).length : Nat)] (I64 ((2 ^ l.length : Nat) : Int)) := by
      have := bit_c one (l.map eCount).length (by rw [List.length_map]; exact hl8)
      rw [show 2 ^ (l.map eCount).length = 2 ^ l.length by rw [List.length_map]] at this
      exact this
    have hrt : Pu one 101 [.ag (eStores s), .fl (.slice none 0 0), I64 k] _ := (rtruths_c one s [] h00 k hlt).soft ⟨DSoft.refl _, DSoft.nil _, DSoft.refl _, trivial⟩
    have hTl := all_len s [] h00 k hlt
    have hrow : rowS s l k = metRow (2 ^ l.length) (setN s.men s.kinds[k] (cargoRow k s.cargos) l k) (allS s [] k s.kinds[k]) := by
      unfold rowS
      rw [List.getElem?_eq_getElem hlt]
    rw [hrow] at hsuc
    have hms := fun t j (hj : j < l.length) => miss_at (men := s.men) (k := s.kinds[k]) (row := cargoRow k s.cargos) (l := l) (ki := k) (t := t) hj
    have hsl := fun t => lvl_len s.men s.kinds[k] (cargoRow k s.cargos) t
    have hfd : ∀ t, setN s.men s.kinds[k] (cargoRow k s.cargos) l k t = bitsN (fun j => !missAt s.men s.kinds[k] (cargoRow k s.cargos) l k t j) l.length := fun _ => rfl
    have hp8 := two_pow8 hl8
    have hfl : ∀ t, setN s.men s.kinds[k] (cargoRow k s.cargos) l k t < 2 ^ l.length := fun t => bitsN_lt _ _
    have hrl : ∀ L, (metRow (2 ^ l.length) (setN s.men s.kinds[k] (cargoRow k s.cargos) l k) L).length = 2 ^ l.length := fun L => metRow_len _ _ _
    have hrs : ∀ L t, (metRow (2 ^ l.length) (setN s.men s.kinds[k] (cargoRow k s.cargos) l k) L).set (setN s.men s.kinds[k] (cargoRow k s.cargos) l k t) true = metRow (2 ^ l.length) (setN s.men s.kinds[k] (cargoRow k s.cargos) l k) (L ++ [t]) := fun L t => metRow_set
    have hr0 := metRow_nil (2 ^ l.length) (setN s.men s.kinds[k] (cargoRow k s.cargos) l k)
    unfold allS at hsuc hTl
    generalize setN s.men s.kinds[k] (cargoRow k s.cargos) l k = f at *
    generalize allOf s.men s.kinds[k] (cargoRow k s.cargos) [] k = TL at *
    generalize cargoRow k s.cargos = row at *
    generalize s.kinds[k] = x at *
    generalize 2 ^ l.length = N at *
    have eT : ((TL.map (ePast s.men x row)).length : Int) = TL.length := by simp
    have hrsl := rowsS_len s l k
    refine RM.c2s (mu := fun _ => false) ?_
    repeat' (first |with_reducible (first|refine RM.c1 ?_|refine RM.c2 ?_|refine RM.c4 ?_|refine RM.c9 ?_|refine RM.o1 ?_|refine RM.o2 ?_|refine RM.o4 ?_|refine RM.o5 ?_|refine RM.p2 ?_|refine RM.p5 ?_|refine RM.p6 ?_) |((with_reducible show force _ _);first|refine RM.f1 rfl ?_|refine RM.f2 rfl ?_|refine RM.f3 rfl ?_) |((with_reducible show wpOne _ _ _ _ _ _ _ _ _ _ _ _);refine RM.o8 rfl ?_) |((with_reducible show wpC _ _ _ _ (.cond _ _ _) _ _);refine RM.e2 rfl (by assumption) ?_) |((with_reducible show wpBin _ _ _ _ _ _ _ _ _);refine RM.b6 rfl rfl ?_) |((with_reducible show wpLen _ _ _ _ _);refine RM.l1 rfl ?_) |(refine ⟨_, rfl, ?_⟩) |(refine ⟨_, _, rfl, by decide, ?_⟩) |fail)
    refine SemC.seq ?_
    refine SemC.block ?_
    refine RM.c2s (mu := fun _ => false) ?_
    repeat' (first |(refine mkS (n := N) rfl rfl rfl rfl (And.intro (by show 1 * N ≤ _; omega) (by omega)) (fill_b N) ?_) |with_reducible (first|refine RM.c4 ?_|refine RM.c9 ?_|refine RM.o1 ?_|refine RM.o2 ?_|refine RM.o4 ?_|refine RM.o5 ?_|refine RM.o7 ?_|refine RM.o9 ?_|refine RM.p1 ?_|refine RM.p2 ?_|refine RM.p3 ?_|refine RM.p6 ?_) |((with_reducible show force _ _);first|refine RM.f1 rfl ?_|refine RM.f2 rfl ?_|refine RM.f4 rfl ?_|refine RM.f8 rfl ?_) |((with_reducible show wpOne _ _ _ _ _ _ _ _ _ _ _ _);refine RM.o8 rfl ?_) |((with_reducible show wpLen _ _ _ _ _);refine RM.l1 rfl ?_) |(refine PureV.call hbn rfl rfl ?_) |fail)
    refine RM.c2s (mu := fun _ => false) ?_
    repeat' (first |with_reducible (first|refine RM.c4 ?_|refine RM.c9 ?_|refine RM.o1 ?_|refine RM.o2 ?_|refine RM.o4 ?_|refine RM.o5 ?_|refine RM.o7 ?_|refine RM.o9 ?_|refine RM.p1 ?_|refine RM.p2 ?_|refine RM.p3 ?_) |((with_reducible show force _ _);first|refine RM.f1 rfl ?_|refine RM.f2 rfl ?_|refine RM.f4 rfl ?_|refine RM.f5 rfl ?_) |((with_reducible show wpOne _ _ _ _ _ _ _ _ _ _ _ _);refine RM.o8 rfl ?_) |(refine And.intro (Nat.le_of_ble_eq_true rfl) ?_) |(refine PureV.call hrt rfl rfl ?_) |fail)
    refine SemC.seq ?_
    refine wpC_sound (mu := fun _ => false) ?_
    repeat' (first |with_reducible (first|refine RM.c2 ?_|refine RM.c3 ?_|refine RM.c4 ?_|refine RM.c9 ?_|refine RM.o1 ?_|refine RM.o2 ?_|refine RM.o4 ?_|refine RM.o5 ?_|refine RM.p3 ?_) |((with_reducible show force _ _);refine RM.f1 rfl ?_) |((with_reducible show wpOne _ _ _ _ _ _ _ _ _ _ _ _);refine RM.o8 rfl ?_) |fail)
    refine SemC.weaker (Weaker.to (l := [(1, .sl (l.map eCount) false), (2, .pt (eStores s) 0), (5, sV (k)), (6, I64 (k : Nat)), (7, .osl 1 0 0 N N), (8, .sl (TL.map (ePast s.men x row)) false), (9, I64 (0 : Nat))]) (hp := [sB (rowsS s l (k)) (k), .cells ((metRow N f (TL.take (0))).map BB) 1 0]) 2 (by rw [List.take_zero, hr0]; rfl) ⟨rfl, rfl, rfl, rfl, rfl, rfl, rfl, trivial⟩ (Nat.zero_le _) rfl (by rw [List.all_cons, sB_inb, List.all_cons, cellsB_inb]; rfl)) ?_
    refine SemC.loop (fun i : Nat => i ≤ TL.length) (fun i => ⟨mkFr [(1, .sl (l.map eCount) false), (2, .pt (eStores s) 0), (5, sV (k)), (6, I64 (k : Nat)), (7, .osl 1 0 0 N N), (8, .sl (TL.map (ePast s.men x row)) false), (9, I64 (i : Nat))], [sB (rowsS s l (k)) (k), .cells ((metRow N f (TL.take (i))).map BB) 1 0], Amb.none, false, 0⟩) (fun i => TL.length - i) ?_ 0 (Nat.zero_le _)
    intro i hi
    by_cases hit : i < TL.length
    · have d2 : decide ((i : Int) < ((TL.map (ePast s.men x row)).length : Int)) = true := decide_eq_true (by omega)
      have hat : (TL.map (ePast s.men x row))[((i : Nat) : Int).toNat]? = some (ePast s.men x row TL[i]) := map_at hit
      have htk : TL.take (i + 1) = TL.take i ++ [TL[i]] := by rw [List.take_add_one, List.getElem?_eq_getElem hit]; rfl
      have hrs := hrs (TL.take i) TL[i]
      have hrl := hrl (TL.take i)
      rw [← htk] at hrs
      have hfd := hfd TL[i]
      have hfl := hfl TL[i]
      have hms := hms TL[i]
      have hsl := hsl TL[i]
      generalize TL[i] = t at *
      generalize hR : metRow N f (TL.take i) = R at *
      refine wpC_sound (mu := fun _ => false) ?_
      repeat' (first |with_reducible (first|refine RM.c1 ?_|refine RM.c2 ?_|refine RM.c3 ?_|refine RM.c4 ?_|refine RM.c9 ?_|refine RM.o1 ?_|refine RM.o2 ?_|refine RM.o4 ?_|refine RM.o5 ?_|refine RM.p2 ?_|refine RM.p3 ?_|refine RM.p5 ?_|refine RM.p6 ?_) |((with_reducible show force _ _);first|refine RM.f1 rfl ?_|refine RM.f2 rfl ?_) |((with_reducible show wpOne _ _ _ _ _ _ _ _ _ _ _ _);refine RM.o8 rfl ?_) |((with_reducible show wpC _ _ _ _ (.cond _ _ _) _ _);refine RM.e2 rfl (by assumption) ?_) |((with_reducible show wpBin _ _ _ _ _ _ _ _ _);refine RM.b6 rfl rfl ?_) |((with_reducible show wpLen _ _ _ _ _);refine RM.l1 rfl ?_) |fail)
      generalize hP : (fun j => !missAt s.men x row l k t j) = p at *
      have hpj : ∀ j, p j = !missAt s.men x row l k t j := fun j => by rw [← hP]
      refine SemC.weaker (Weaker.to (l := [(1, .sl (l.map eCount) false), (2, .pt (eStores s) 0), (5, sV (k)), (6, I64 (k : Nat)), (7, .osl 1 0 0 N N), (8, .sl (TL.map (ePast s.men x row)) false), (9, I64 (i : Nat)), (10, I64 (bitsN p 0 : Nat)), (11, I64 (0 : Nat))]) (hp := [sB (rowsS s l (k)) (k), .cells (R.map BB) 1 0]) 2 rfl ⟨rfl, rfl, rfl, rfl, rfl, rfl, rfl, rfl, rfl, trivial⟩ (Nat.zero_le _) rfl (by rw [List.all_cons, sB_inb, List.all_cons, cellsB_inb]; rfl)) ?_
      refine SemC.loop (fun j : Nat => j ≤ l.length) (fun j => ⟨mkFr [(1, .sl (l.map eCount) false), (2, .pt (eStores s) 0), (5, sV (k)), (6, I64 (k : Nat)), (7, .osl 1 0 0 N N), (8, .sl (TL.map (ePast s.men x row)) false), (9, I64 (i : Nat)), (10, I64 (bitsN p j : Nat)), (11, I64 (j : Nat))], [sB (rowsS s l (k)) (k), .cells (R.map BB) 1 0], Amb.none, false, 0⟩) (fun j => l.length - j) ?_ 0 (Nat.zero_le _)
      intro j hj
      refine wpC_sound (mu := fun _ => false) ?_
      by_cases hjl : j < l.length
      · have d3 : decide ((j : Int) < ((l.map eCount).length : Int)) = true := decide_eq_true (by omega)
        have hbj := bit_c one j (by omega)
        have hb2 := two_pow8 (j := j) (by omega)
        have hlt2 := bitsN_lt p j
        have hsn : bitsN p (j + 1) = bitsN p j + if p j = true then 2 ^ j else 0 := rfl
        have hm : p j = !(decide (l[j].kind = (k : Int)) && !cntIn (lvl s.men x row t) l[j]) := by rw [hpj, hms j hjl]
        have hc := hlc _ (List.getElem_mem hjl)
        have hag := agrees_c true l[j] (lvl s.men x row t) (by omega)
        have hatj : (l.map eCount)[((j : Nat) : Int).toNat]? = some (eCount l[j]) := map_at hjl
        generalize l[j] = c at *
        generalize bitsN p j = S at *
        generalize 2 ^ j = X at *
        have hend : ∀ st : ASt, Weaker st ⟨mkFr [(1, .sl (l.map eCount) false), (2, .pt (eStores s) 0), (5, sV (k)), (6, I64 (k : Nat)), (7, .osl 1 0 0 N N), (8, .sl (TL.map (ePast s.men x row)) false), (9, I64 (i : Nat)), (10, I64 (bitsN p (j + 1) : Nat)), (11, I64 ((j + 1 : Nat) : Int))], [sB (rowsS s l (k)) (k), .cells (R.map BB) 1 0], Amb.none, false, 0⟩ → ∃ y : Nat, y ≤ l.length ∧ l.length - y < l.length - j ∧ Weaker st ⟨mkFr [(1, .sl (l.map eCount) false), (2, .pt (eStores s) 0), (5, sV (k)), (6, I64 (k : Nat)), (7, .osl 1 0 0 N N), (8, .sl (TL.map (ePast s.men x row)) false), (9, I64 (i : Nat)), (10, I64 (bitsN p y : Nat)), (11, I64 (y : Nat))], [sB (rowsS s l (k)) (k), .cells (R.map BB) 1 0], Amb.none, false, 0⟩ := fun st hw => ⟨j + 1, hjl, by omega, hw⟩
        by_cases hk2 : c.kind = (k : Int)
        · have d4 : (!decide (c.kind = (k : Int))) = false := by rw [decide_eq_true hk2]; rfl
          rw [decide_eq_true hk2, Bool.true_and, Bool.not_not] at hm
          cases hin : cntIn (lvl s.men x row t) c with
          | true =>
            rw [hin] at hag hm
            rw [hm, if_pos rfl] at hsn
            repeat' (first |(refine ⟨_, hag, ?_⟩) |with_reducible (first|refine RM.c1 ?_|refine RM.c2 ?_|refine RM.c3 ?_|refine RM.c4 ?_|refine RM.c5 ?_|refine RM.c9 ?_|refine RM.d3 ?_|refine RM.o1 ?_|refine RM.o2 ?_|refine RM.o3 ?_|refine RM.o4 ?_|refine RM.o5 ?_|refine RM.o7 ?_|refine RM.o9 ?_|refine RM.p1 ?_|refine RM.p2 ?_|refine RM.p3 ?_|refine RM.p4 ?_|refine RM.p5 ?_|refine RM.p6 ?_|refine RM.n1 ?_) |((with_reducible show force _ _);first|refine RM.f1 rfl ?_|refine RM.f2 rfl ?_|refine RM.f3 rfl ?_|refine RM.f4 rfl ?_|refine RM.f5 rfl ?_) |((with_reducible show wpOne _ _ _ _ _ _ _ _ _ _ _ _);refine RM.o8 rfl ?_) |((with_reducible show wpDOne _ _ _ _ _ _ _ _ _ _);refine RM.p9 rfl ?_) |((with_reducible show wpGuard _ _ _ _ _);refine wpGuard_yes rfl rfl (by assumption) ?_) |((with_reducible show wpC _ _ _ _ (.cond _ _ _) _ _);first|refine RM.e2 rfl rfl ?_|refine RM.e2 rfl (by assumption) ?_) |((with_reducible show wpPick _ _ _ _ _);refine RM.k1 rfl ?_) |((with_reducible show wpPickB _ _ _ _ _);refine RM.k3 (by assumption) ?_) |((with_reducible show wpBin _ _ _ _ _ _ _ _ _);first|refine RM.b5 rfl rfl ?_|refine RM.b6 rfl rfl ?_|refine RM.b1 rfl rfl (by omega) ?_) |((with_reducible show wpLen _ _ _ _ _);refine RM.l1 rfl ?_) |(refine ⟨_, rfl, ?_⟩) |(refine ⟨_, _, rfl, by decide, ?_⟩) |(refine ⟨rfl, rfl, ?_⟩) |(refine And.intro (Nat.le_of_ble_eq_true rfl) ?_) |(refine And.intro (by kernel_rfl) ?_) |(refine ⟨eCount c, ⟨by omega, hatj⟩, rfl, ?_⟩) |(refine ⟨ePast s.men x row t, ⟨by omega, hat⟩, rfl, ?_⟩) |(refine PureV.call hbj rfl rfl ?_) |fail)
            refine hend _ ?_
            exact Weaker.to 2 rfl ⟨rfl, rfl, rfl, rfl, rfl, rfl, rfl, i64c (by rw [hsn]; simp), i64c (by simp), trivial⟩ (Nat.zero_le _) rfl (by rw [List.all_cons, sB_inb, List.all_cons, cellsB_inb]; rfl)
          | false =>
            rw [hin] at hag hm
            rw [hm] at hsn
            repeat' (first |(refine ⟨_, hag, ?_⟩) |with_reducible (first|refine RM.c1 ?_|refine RM.c2 ?_|refine RM.c3 ?_|refine RM.c4 ?_|refine RM.c5 ?_|refine RM.c9 ?_|refine RM.d3 ?_|refine RM.o1 ?_|refine RM.o2 ?_|refine RM.o3 ?_|refine RM.o4 ?_|refine RM.o5 ?_|refine RM.o9 ?_|refine RM.p1 ?_|refine RM.p2 ?_|refine RM.p3 ?_|refine RM.p4 ?_|refine RM.p5 ?_|refine RM.p6 ?_|refine RM.n1 ?_) |((with_reducible show force _ _);first|refine RM.f1 rfl ?_|refine RM.f2 rfl ?_|refine RM.f3 rfl ?_|refine RM.f4 rfl ?_|refine RM.f5 rfl ?_) |((with_reducible show wpOne _ _ _ _ _ _ _ _ _ _ _ _);refine RM.o8 rfl ?_) |((with_reducible show wpDOne _ _ _ _ _ _ _ _ _ _);refine RM.p9 rfl ?_) |((with_reducible show wpGuard _ _ _ _ _);refine wpGuard_yes rfl rfl (by assumption) ?_) |((with_reducible show wpC _ _ _ _ (.cond _ _ _) _ _);first|refine RM.e3 rfl rfl ?_|refine RM.e2 rfl (by assumption) ?_) |((with_reducible show wpPick _ _ _ _ _);refine RM.k1 rfl ?_) |((with_reducible show wpPickB _ _ _ _ _);refine RM.k3 (by assumption) ?_) |((with_reducible show wpBin _ _ _ _ _ _ _ _ _);first|refine RM.b5 rfl rfl ?_|refine RM.b6 rfl rfl ?_|refine RM.b1 rfl rfl (by omega) ?_) |((with_reducible show wpLen _ _ _ _ _);refine RM.l1 rfl ?_) |(refine ⟨_, rfl, ?_⟩) |(refine ⟨_, _, rfl, by decide, ?_⟩) |(refine ⟨rfl, rfl, ?_⟩) |(refine And.intro (Nat.le_of_ble_eq_true rfl) ?_) |(refine And.intro (by kernel_rfl) ?_) |(refine ⟨eCount c, ⟨by omega, hatj⟩, rfl, ?_⟩) |(refine ⟨ePast s.men x row t, ⟨by omega, hat⟩, rfl, ?_⟩) |fail)
            refine hend _ ?_
            exact Weaker.to 2 rfl ⟨rfl, rfl, rfl, rfl, rfl, rfl, rfl, i64c (by rw [hsn]; simp), i64c (by simp), trivial⟩ (Nat.zero_le _) rfl (by rw [List.all_cons, sB_inb, List.all_cons, cellsB_inb]; rfl)
        · have d4 : (!decide (c.kind = (k : Int))) = true := by rw [decide_eq_false hk2]; rfl
          rw [decide_eq_false hk2, Bool.false_and, Bool.not_false] at hm
          rw [hm, if_pos rfl] at hsn
          repeat' (first |with_reducible (first|refine RM.c1 ?_|refine RM.c2 ?_|refine RM.c3 ?_|refine RM.c4 ?_|refine RM.c5 ?_|refine RM.c9 ?_|refine RM.d3 ?_|refine RM.o1 ?_|refine RM.o2 ?_|refine RM.o3 ?_|refine RM.o4 ?_|refine RM.o5 ?_|refine RM.o7 ?_|refine RM.o9 ?_|refine RM.p1 ?_|refine RM.p2 ?_|refine RM.p3 ?_|refine RM.p4 ?_|refine RM.p5 ?_|refine RM.p6 ?_) |((with_reducible show force _ _);first|refine RM.f1 rfl ?_|refine RM.f2 rfl ?_|refine RM.f3 rfl ?_|refine RM.f4 rfl ?_) |((with_reducible show wpOne _ _ _ _ _ _ _ _ _ _ _ _);refine RM.o8 rfl ?_) |((with_reducible show wpDOne _ _ _ _ _ _ _ _ _ _);refine RM.p9 rfl ?_) |((with_reducible show wpGuard _ _ _ _ _);refine wpGuard_no rfl rfl (by assumption) ?_) |((with_reducible show wpC _ _ _ _ (.cond _ _ _) _ _);first|refine RM.e2 rfl rfl ?_|refine RM.e2 rfl (by assumption) ?_) |((with_reducible show wpPick _ _ _ _ _);refine RM.k1 rfl ?_) |((with_reducible show wpPickB _ _ _ _ _);refine RM.k2 (by assumption) ?_) |((with_reducible show wpBin _ _ _ _ _ _ _ _ _);first|refine RM.b5 rfl rfl ?_|refine RM.b6 rfl rfl ?_|refine RM.b1 rfl rfl (by omega) ?_) |((with_reducible show wpLen _ _ _ _ _);refine RM.l1 rfl ?_) |(refine ⟨_, rfl, ?_⟩) |(refine ⟨_, _, rfl, by decide, ?_⟩) |(refine And.intro (by kernel_rfl) ?_) |(refine ⟨eCount c, ⟨by omega, hatj⟩, rfl, ?_⟩) |(refine PureV.call hbj rfl rfl ?_) |fail)
          refine hend _ ?_
          exact Weaker.to 2 rfl ⟨rfl, rfl, rfl, rfl, rfl, rfl, rfl, i64c (by rw [hsn]; simp), i64c (by simp), trivial⟩ (Nat.zero_le _) rfl (by rw [List.all_cons, sB_inb, List.all_cons, cellsB_inb]; rfl)
      · have d3 : decide ((j : Int) < ((l.map eCount).length : Int)) = false := decide_eq_false (by omega)
        have hjn : j = l.length := by omega
        subst hjn
        rw [← hfd]
        have hb1 : 0 + ((f t : Nat) : Int).toNat * 1 + 1 ≤ (R.map BB).length := by rw [List.length_map]; omega
        have he1 := rowb_set (S := R) (k := f t) (by omega) true
        rw [hrs] at he1
        repeat' (first |with_reducible (first|refine RM.c2 ?_|refine RM.c4 ?_|refine RM.c6 ?_|refine RM.c9 ?_|refine RM.d2 ?_|refine RM.d3 ?_|refine RM.o1 ?_|refine RM.o2 ?_|refine RM.o4 ?_|refine RM.o5 ?_|refine RM.o6 ?_|refine RM.p2 ?_|refine RM.p3 ?_|refine RM.p5 ?_|refine RM.p6 ?_|refine RM.q2 ?_) |((with_reducible show force _ _);first|refine RM.f1 rfl ?_|refine RM.f2 rfl ?_|refine RM.f7 rfl ?_|refine RM.f8 rfl ?_|refine RM.g2 rfl ?_) |((with_reducible show wpOne _ _ _ _ _ _ _ _ _ _ _ _);refine RM.o8 rfl ?_) |((with_reducible show wpC _ _ _ _ (.cond _ _ _) _ _);refine RM.e3 rfl (by assumption) ?_) |((with_reducible show wpBin _ _ _ _ _ _ _ _ _);first|refine RM.b6 rfl rfl ?_|refine RM.b1 rfl rfl (by omega) ?_) |((with_reducible show wpLen _ _ _ _ _);refine RM.l1 rfl ?_) |((with_reducible show blockK _ _ _ _);refine RM.d5 rfl ?_) |(refine ⟨_, _, rfl, by decide, ?_⟩) |(refine ⟨rfl, rfl, ?_⟩) |(refine And.intro (by omega) ?_) |fail)
        refine ⟨i + 1, hit, (by dsimp only; omega), ?_⟩
        exact Weaker.to 2 (by show [sB (rowsS s l (k)) (k), AB.cells (spliceV (R.map BB) [BB true] (0 + ((f t : Nat) : Int).toNat * 1)) 1 0] = _; rw [he1]) ⟨rfl, rfl, rfl, rfl, rfl, rfl, i64c (by simp), trivial⟩ (Nat.zero_le _) rfl (by rw [List.all_cons, sB_inb, List.all_cons, cellsB_inb]; rfl)
    · have d2 : decide ((i : Int) < ((TL.map (ePast s.men x row)).length : Int)) = false := decide_eq_false (by omega)
      have hiT : TL.take i = TL := List.take_of_length_le (by omega)
      rw [hiT]
      have hrl := hrl TL
      generalize metRow N f TL = R at *
      refine wpC_sound (mu := fun _ => false) ?_
      repeat' (first |with_reducible (first|refine RM.c2 ?_|refine RM.c4 ?_|refine RM.c6 ?_|refine RM.c9 ?_|refine RM.d2 ?_|refine RM.o1 ?_|refine RM.o2 ?_|refine RM.o4 ?_|refine RM.o5 ?_|refine RM.p2 ?_|refine RM.p5 ?_|refine RM.p6 ?_|refine RM.q2 ?_) |((with_reducible show force _ _);first|refine RM.f1 rfl ?_|refine RM.f2 rfl ?_) |((with_reducible show wpOne _ _ _ _ _ _ _ _ _ _ _ _);refine RM.o8 rfl ?_) |((with_reducible show wpC _ _ _ _ (.cond _ _ _) _ _);refine RM.e3 rfl (by assumption) ?_) |((with_reducible show wpBin _ _ _ _ _ _ _ _ _);refine RM.b6 rfl rfl ?_) |((with_reducible show wpLen _ _ _ _ _);refine RM.l1 rfl ?_) |((with_reducible show blockK _ _ _ _);refine RM.d5 rfl ?_) |fail)
      refine SemC.weaker (Weaker.giveUp 1 (l := [(1, .sl (l.map eCount) false), (2, .pt (eStores s) 0), (5, sV (k)), (6, I64 (k : Nat)), (7, .sl (R.map eB) false)]) (hp := [sB (rowsS s l (k)) (k), .gone]) rfl (Nat.zero_le _) (deepL_map (fun _ => rfl) _) ⟨.same rfl, .same rfl, .same rfl, .same rfl, .row 1 (by rw [List.length_map]; omega) (by rw [List.length_map]; exact hrl) (fun el hel => by obtain ⟨x, _, rfl⟩ := List.mem_map.1 hel; rfl) (by rw [flat_map1 (f := BB), List.drop_zero, List.take_of_length_le (by rw [List.length_map]; omega)]) (fun h => Bool.noConfusion h), trivial⟩ (by show ((sB (rowsS s l (k)) (k)).noj 1 && (true && true)) = true; rw [show (sB (rowsS s l (k)) (k)).noj 1 = true from deepL_noj 1 (eRow_deep _)]; rfl) rfl) ?_
      refine wpC_sound (mu := fun _ => false) ?_
      repeat' (first |with_reducible (first|refine RM.c4 ?_|refine RM.o2 ?_|refine RM.o4 ?_|refine RM.o5 ?_|refine RM.p2 ?_) |((with_reducible show force _ _);first|refine RM.f2 rfl ?_|refine RM.f8 rfl ?_) |((with_reducible show wpOne _ _ _ _ _ _ _ _ _ _ _ _);refine RM.o8 rfl ?_) |(refine ⟨rfl, rfl, rfl, ?_⟩) |fail)
      refine ⟨[eRow R], ⟨(fun el hel => by rw [List.mem_singleton.1 hel]; rfl), rfl⟩, rfl, _, rfl, (by rw [eRow_flen, hrsl, Nat.mul_one]), Or.inr rfl, And.intro (by dsimp only [List.length]; omega) (by dsimp only [List.length]; omega), fun hn => absurd hn (by simp), fun _ => ?_⟩
      repeat' (first |with_reducible (first|refine RM.c9 ?_|refine RM.d3 ?_|refine RM.o1 ?_|refine RM.o2 ?_|refine RM.o4 ?_|refine RM.o5 ?_|refine RM.p3 ?_) |((with_reducible show force _ _);refine RM.f8 rfl ?_) |((with_reducible show wpOne _ _ _ _ _ _ _ _ _ _ _ _);refine RM.o8 rfl ?_) |fail)
      refine wpC_sound (mu := fun _ => false) ?_
      repeat' (first |with_reducible (first|refine RM.c4 ?_|refine RM.o1 ?_|refine RM.o2 ?_|refine RM.o4 ?_|refine RM.o5 ?_|refine RM.p2 ?_|refine RM.p3 ?_|refine RM.p5 ?_) |((with_reducible show force _ _);refine RM.f1 rfl ?_) |((with_reducible show wpOne _ _ _ _ _ _ _ _ _ _ _ _);refine RM.o8 rfl ?_) |((with_reducible show wpBin _ _ _ _ _ _ _ _ _);refine RM.b1 rfl rfl (by omega) ?_) |fail)
      refine ⟨k + 1, hlt, (by dsimp only; omega), ?_⟩
      show Weaker _ ⟨mkFr [(1, .sl (l.map eCount) false), (2, .pt (eStores s) 0), (5, sV ((k + 1))), (6, I64 ((k + 1) : Nat))], [sB (rowsS s l ((k + 1))) ((k + 1))], Amb.none, false, 0⟩
      rw [hsuc]
      exact Weaker.to 1 (by rw [sB_snoc]; rfl) ⟨rfl, rfl, rfl, i64c (by simp), trivial⟩ (Nat.zero_le _) rfl (by rw [List.all_cons, sB_inb]; rfl)
  · have d1 : decide ((k : Int) < ((s.kinds.map eKind).length : Int)) = false := decide_eq_false (by omega)
    have hkK : k = s.kinds.length := by omega
    subst hkK
    refine wpC_sound (mu := fun _ => false) ?_
    repeat' (first |with_reducible (first|refine RM.c2 ?_|refine RM.c4 ?_|refine RM.c6 ?_|refine RM.c7 ?_|refine RM.c9 ?_|refine RM.d2 ?_|refine RM.o1 ?_|refine RM.o2 ?_|refine RM.o4 ?_|refine RM.o5 ?_|refine RM.p2 ?_|refine RM.p3 ?_|refine RM.p5 ?_|refine RM.p6 ?_|refine RM.q2 ?_) |((with_reducible show force _ _);first|refine RM.f1 rfl ?_|refine RM.f2 rfl ?_|refine RM.f3 rfl ?_|refine RM.f8 rfl ?_) |((with_reducible show wpOne _ _ _ _ _ _ _ _ _ _ _ _);refine RM.o8 rfl ?_) |((with_reducible show wpC _ _ _ _ (.cond _ _ _) _ _);refine RM.e3 rfl (by assumption) ?_) |((with_reducible show wpBin _ _ _ _ _ _ _ _ _);refine RM.b6 rfl rfl ?_) |((with_reducible show wpLen _ _ _ _ _);refine RM.l1 rfl ?_) |((with_reducible show blockK _ _ _ _);refine RM.d5 rfl ?_) |(refine ⟨_, rfl, ?_⟩) |(refine ⟨_, _, rfl, by decide, ?_⟩) |fail)
    exact ⟨[_], ⟨sB_fz (rowsS_len _ _ _), trivial⟩, rfl⟩
end Go.Proofs.Ytmkaeohmdcoanaa
open Go Go.RM
namespace Go.Proofs.Ytmkaeohmdcoanaa
set_option maxRecDepth 100000
def missK (s : Stores) (l : List Count) (k : Nat) (t : Truth) (i : Nat) : Bool := match s.kinds[k]? with
  | some x => missAt s.men x (cargoRow k s.cargos) l k t i
  | none => false
def waysK (s : Stores) (k : Nat) : List Truth := match s.kinds[k]? with
  | some x => metT (truthsL s.men x (cargoRow k s.cargos) [])
  | none => []
/-- Of each kind a truth that misses least. -/
def BestT (s : Stores) (l : List Count) (T : Nat → Truth) : Prop := Best s.kinds.length 8 (waysK s) (missK s l) T
def wrongT (s : Stores) (l : List Count) (T : Nat → Truth) : List Int := lst (unTo (missK s l) T s.kinds.length) 0 8
theorem missK_at {s : Stores} {l : List Count} {k : Nat} (hk : k < s.kinds.length) : missK s l k = missAt s.men s.kinds[k] (cargoRow k s.cargos) l k := by
  funext t i
  unfold missK
  rw [List.getElem?_eq_getElem hk]
theorem waysK_at {s : Stores} {k : Nat} (hk : k < s.kinds.length) : waysK s k = metT (truthsL s.men s.kinds[k] (cargoRow k s.cargos) []) := by
  unfold waysK
  rw [List.getElem?_eq_getElem hk]
theorem missK_kind {s : Stores} {l : List Count} {k : Nat} {t : Truth} {i : Nat} (h : missK s l k t i = true) : ∃ c, l[i]? = some c ∧ c.kind = (k : Int) := by
  unfold missK missAt at h
  split at h
  · split at h
    · rename_i c hc
      rw [Bool.and_eq_true] at h
      exact ⟨c, hc, of_decide_eq_true h.1⟩
    · cases h
  · cases h
theorem miss_disj (s : Stores) (l : List Count) : Disj (missK s l) := fun k k' t t' i h h' => by
  obtain ⟨c, h1, h2⟩ := missK_kind h
  obtain ⟨c', h3, h4⟩ := missK_kind h'
  rw [h1] at h3
  cases h3
  omega
theorem ways_iff {s : Stores} (hg : Good s) {k : Nat} (hk : k < s.kinds.length) {t : Truth} : t ∈ waysK s k ↔ truthOk s.kinds[k] t = true := by
  have h1 := (hg.kinds _ (List.getElem_mem hk)).first
  rw [waysK_at hk]
  exact mem_met (by omega)
theorem ways_some {s : Stores} (hg : Good s) {k : Nat} (hk : k < s.kinds.length) : waysK s k ≠ [] := by
  have hkg := hg.kinds _ (List.getElem_mem hk)
  have h1 := hkg.first
  have h2 := hkg.man
  have h3 := hkg.ship
  have : (⟨s.kinds[k].first.lo, s.kinds[k].man.lo, s.kinds[k].ship.lo⟩ : Truth) ∈ waysK s k := by
    rw [ways_iff hg hk, truthOk_iff]
    dsimp only
    omega
  intro h
  rw [h] at this
  cases this
theorem bestT_ex {s : Stores} (hg : Good s) (l : List Count) : ∃ T, BestT s l T := best_ex (fun _ hk => ways_some hg hk) ⟨0, 0, 0⟩
def rowsK (s : Stores) (l : List Count) (T : Nat → Truth) (n : Nat) : List Int := ((List.range n).map fun k => lst (missK s l k (T k)) 0 8).flatten
theorem rowsK_succ (s : Stores) (l : List Count) (T : Nat → Truth) (n : Nat) : rowsK s l T (n + 1) = rowsK s l T n ++ lst (missK s l n (T n)) 0 8 := by
  unfold rowsK
  rw [List.range_succ, List.map_append, List.flatten_append]
  simp
theorem rowsK_perm (s : Stores) (l : List Count) (T : Nat → Truth) : ∀ n, (rowsK s l T n).Perm (lst (unTo (missK s l) T n) 0 8)
  | 0 => by
    have : lst (unTo (missK s l) T 0) 0 8 = [] := rfl
    rw [this]
    exact .refl _
  | n + 1 => by
    rw [rowsK_succ]
    exact ((rowsK_perm s l T n).append_right _).trans (un_perm (miss_disj s l) T n).symm
theorem rowsK_len (s : Stores) (l : List Count) (T : Nat → Truth) (n : Nat) : (rowsK s l T n).length ≤ 8 := by
  rw [(rowsK_perm s l T n).length_eq]
  exact lst_len_le _ _ _
theorem miss_len {s : Stores} {l : List Count} {k : Nat} {t : Truth} {i : Nat} (h : missK s l k t i = true) : i < l.length := by
  obtain ⟨c, h1, _⟩ := missK_kind h
  exact (List.getElem?_eq_some_iff.1 h1).1
end Go.Proofs.Ytmkaeohmdcoanaa
open Go Go.RM
namespace Go.Proofs.Ytmkaeohmdcoanaa
set_option maxRecDepth 100000
set_option maxHeartbeats 4000000
theorem rows_one (L : List Int) : (L.map eI).flatten.all AV.one = true := by
  rw [flat_map1 (f := I64)]
  rw [List.all_eq_true]
  intro x hx
  obtain ⟨n, _, rfl⟩ := List.mem_map.1 hx
  rfl
abbrev wS (L : List Int) (v c : Nat) : AV := .osl 0 v 0 L.length c
theorem rowsB_fz (L : List Int) {N : Nat} (hN : L.length = N) (v c : Nat) : Fz [rowB L v] (.osl 0 v 0 N c) (.sl (L.map eI) false) := by
  subst hN
  exact Fz.row (es := 1) rfl (by simp) (by simp) (fun el hel => by obtain ⟨x, _, rfl⟩ := List.mem_map.1 hel; rfl) (by rw [flat_map1 (f := I64), List.drop_zero, List.take_of_length_le (by simp)]) (by rw [flat_map1 (f := I64)]; exact deepL_map (fun _ => rfl) _) (fun h => Bool.noConfusion h)
theorem fewestK (s : Stores) (h : s.Ok) (l : List Count) (h0 : cntsErr s l = 0) (T : Nat → Truth) (hT : BestT s l T) (k : Nat) (hk : k < s.kinds.length) :
    Pu false 78 [.ag (eStores s), .sl (l.map eCount) false, I64 k] (.sl ((lst (missK s l k (T k)) 0 8).map eI) false) := by
  obtain ⟨hg, _, _⟩ := cnts_good h0
  obtain ⟨h1, h2⟩ := hT k hk
  rw [missK_at hk] at h2 ⊢
  exact fewest_c s h l h0 k hk (T k) ((ways_iff hg hk).1 h1) fun u hu => h2 u ((ways_iff hg hk).2 hu)
theorem wrong_err (one : Bool) (s : Stores) (h : s.Ok) (l : List Count) (hl : l.length ≤ maxLen) (h0 : cntsErr s l ≠ 0) : Pu one 33 [.ag (eStores s), .sl (l.map eCount) false] (.tp [.sl [] false, I64 (cntsErr s l)]) := by
  have hcn := counted_c one s h l hl
  have d1 : (!decide (cntsErr s l = 0)) = true := by simpa using h0
  generalize cntsErr s l = e at *
  refine PureV.body (fn := Try.f33) rfl rfl rfl rfl ?_
  refine wpC_sound (mu := fun _ => false) ?_
  repeat' (first |with_reducible (first|refine RM.c2 ?_|refine RM.c4 ?_|refine RM.c7 ?_|refine RM.c9 ?_|refine RM.d1 ?_|refine RM.o1 ?_|refine RM.o2 ?_|refine RM.o4 ?_|refine RM.o5 ?_|refine RM.o7 ?_|refine RM.o9 ?_|refine RM.p1 ?_|refine RM.p2 ?_|refine RM.p3 ?_|refine RM.p5 ?_) |((with_reducible show force _ _);first|refine RM.f1 rfl ?_|refine RM.f2 rfl ?_|refine RM.f3 rfl ?_|refine RM.f4 rfl ?_|refine RM.f5 rfl ?_) |((with_reducible show wpOne _ _ _ _ _ _ _ _ _ _ _ _);refine RM.o8 rfl ?_) |((with_reducible show wpC _ _ _ _ (.cond _ _ _) _ _);refine RM.e2 rfl (by assumption) ?_) |((with_reducible show wpBin _ _ _ _ _ _ _ _ _);refine RM.b5 rfl rfl ?_) |(refine ⟨rfl, rfl, rfl, ?_⟩) |(refine And.intro (Nat.le_of_ble_eq_true rfl) ?_) |(refine PureV.call hcn rfl rfl ?_) |fail)
  exact ⟨[_, _], ⟨Fz.nil (b := false), Fz.deep rfl, trivial⟩, rfl⟩
theorem wrong_c (s : Stores) (h : s.Ok) (l : List Count) (h0 : cntsErr s l = 0) (T : Nat → Truth) (hT : BestT s l T) : Pu false 33 [.ag (eStores s), .sl (l.map eCount) false] (.tp [.sl ((wrongT s l T).map eI) false, I64 0]) := by
  obtain ⟨hg, hl, hc⟩ := cnts_good h0
  have hcn := counted_c false s h l (by unfold maxLen; omega)
  have hK := sizes_9 hg.sizes
  have ek : ((s.kinds.map eKind).length : Int) = s.kinds.length := by simp
  rw [h0] at hcn
  have hfew := fun k (hk : k < s.kinds.length) => fewestK s h l h0 T hT k hk
  have hlen := fun k => rowsK_len s l T k
  have hsucc := rowsK_succ s l T
  have hperm := rowsK_perm s l T s.kinds.length
  have hz : rowsK s l T 0 = [] := rfl
  unfold wrongT
  generalize rowsK s l T = R at *
  refine PureV.body (fn := Try.f33) rfl rfl rfl rfl ?_
  refine wpC_sound (mu := fun t => Nat.beq t 24) ?_
  repeat' (first |with_reducible (first|refine RM.c1 ?_|refine RM.c2 ?_|refine RM.c3 ?_|refine RM.c4 ?_|refine RM.c9 ?_|refine RM.o1 ?_|refine RM.o2 ?_|refine RM.o4 ?_|refine RM.o5 ?_|refine RM.o7 ?_|refine RM.o9 ?_|refine RM.p1 ?_|refine RM.p2 ?_|refine RM.p3 ?_|refine RM.p5 ?_|refine RM.p6 ?_) |((with_reducible show force _ _);first|refine RM.f1 rfl ?_|refine RM.f2 rfl ?_|refine RM.f3 rfl ?_|refine RM.f4 rfl ?_|refine RM.f5 rfl ?_) |((with_reducible show wpOne _ _ _ _ _ _ _ _ _ _ _ _);refine RM.o8 rfl ?_) |((with_reducible show wpC _ _ _ _ (.cond _ _ _) _ _);refine RM.e3 rfl rfl ?_) |((with_reducible show wpBin _ _ _ _ _ _ _ _ _);refine RM.b5 rfl rfl ?_) |((with_reducible show wpLen _ _ _ _ _);refine RM.l1 rfl ?_) |(refine ⟨_, rfl, ?_⟩) |(refine ⟨_, _, rfl, by decide, ?_⟩) |(refine ⟨rfl, rfl, rfl, ?_⟩) |(refine And.intro (Nat.le_of_ble_eq_true rfl) ?_) |(refine PureV.call hcn rfl rfl ?_) |fail)
  refine SemC.weaker (Weaker.trans (Weaker.addNil 1) (Weaker.toS (l := [(1, .sl (l.map eCount) false), (2, .pt (eStores s) 0), (4, wS (R 0) (0, 0, 0).2.1 (0, 0, 0).2.2), (5, I64 0), (15, I64 s.kinds.length), (16, I64 ((0, 0, 0).1 : Nat))]) (hp := [rowB (R 0) 0]) 1 (by rw [hz]; rfl) ⟨Soft.refl _, Soft.refl _, (by rw [hz]; exact Soft.nilRow), Soft.refl _, Soft.of (i64c ek), Soft.refl _, trivial⟩ (Nat.zero_le _) rfl (rowB_inb _ _))) ?_
  refine SemC.loop (fun x : Nat × Nat × Nat => x.1 ≤ s.kinds.length ∧ (x.2.2 = (R x.1).length ∨ x.2.2 = (R x.1).length + 1)) (fun x => ⟨mkFr [(1, .sl (l.map eCount) false), (2, .pt (eStores s) 0), (4, wS (R x.1) x.2.1 x.2.2), (5, I64 0), (15, I64 s.kinds.length), (16, I64 (x.1 : Nat))], [rowB (R x.1) x.2.1], Amb.none, false, 0⟩) (fun x => s.kinds.length - x.1) ?_ (0, 0, 0) ⟨Nat.zero_le _, .inl (by rw [hz]; rfl)⟩
  rintro ⟨k, ver, c⟩ ⟨hk, hcap⟩
  refine wpC_sound (mu := fun t => Nat.beq t 24) ?_
  repeat' (first |with_reducible (first|refine RM.c2 ?_|refine RM.c4 ?_|refine RM.c9 ?_|refine RM.o1 ?_|refine RM.o2 ?_|refine RM.o4 ?_|refine RM.o5 ?_|refine RM.p5 ?_) |((with_reducible show force _ _);refine RM.f1 rfl ?_) |((with_reducible show wpOne _ _ _ _ _ _ _ _ _ _ _ _);refine RM.o8 rfl ?_) |((with_reducible show wpBin _ _ _ _ _ _ _ _ _);refine RM.b6 rfl rfl ?_) |fail)
  refine RM.e1 rfl ⟨fun hq => ?_, fun hq => ?_⟩
  · have hlt : k < s.kinds.length := by simpa only [decide_eq_true_eq, Int.ofNat_lt] using hq
    have hf := hfew k hlt
    have hs := hsucc k
    have h8 := hlen (k + 1)
    rw [hs, List.length_append] at h8
    generalize lst (missK s l k (T k)) 0 8 = B at *
    have hb : ((R k).length + (B.map eI).length) * 8 ≤ 140737488355328 ∧ (R k).length + (B.map eI).length ≤ 9223372036854775807 := by rw [List.length_map]; omega
    repeat' (first |(refine PureV.call hf rfl rfl ?_) |(refine RM.appG (cs := (R k).map I64) (n := (R k).length) (els := B.map eI) rfl rfl rfl rfl rfl (fun el hel => (by obtain ⟨t, _, rfl⟩ := List.mem_map.1 hel; rfl)) (rows_one B) rfl (by simp) hcap hb (fun v c' hc' => ?_)) |with_reducible (first|refine RM.c1 ?_|refine RM.c2 ?_|refine RM.c3 ?_|refine RM.c4 ?_|refine RM.c9 ?_|refine RM.d3 ?_|refine RM.o1 ?_|refine RM.o2 ?_|refine RM.o4 ?_|refine RM.o5 ?_|refine RM.p2 ?_|refine RM.p3 ?_|refine RM.p5 ?_) |((with_reducible show force _ _);first|refine RM.f1 rfl ?_|refine RM.f8 rfl ?_) |((with_reducible show wpOne _ _ _ _ _ _ _ _ _ _ _ _);refine RM.o8 rfl ?_) |((with_reducible show wpBin _ _ _ _ _ _ _ _ _);refine RM.b1 rfl rfl (by omega) ?_) |(refine And.intro (Nat.le_of_ble_eq_true rfl) ?_) |fail)
    rw [List.length_map] at hc'
    refine ⟨(k + 1, v, c'), ⟨hlt, by dsimp only; rw [hs, List.length_append]; exact hc'⟩, (by dsimp only; omega), ?_⟩
    show Weaker _ ⟨mkFr [(1, .sl (l.map eCount) false), (2, .pt (eStores s) 0), (4, wS (R (k + 1)) (k + 1, v, c').2.1 (k + 1, v, c').2.2), (5, I64 0), (15, I64 s.kinds.length), (16, I64 ((k + 1, v, c').1 : Nat))], [rowB (R (k + 1)) v], Amb.none, false, 0⟩
    rw [hs]
    exact Weaker.to 1 (by show [AB.cells ((R k).map I64 ++ (B.map eI).flatten) 1 v] = _; rw [flat_map1 (f := I64), ← List.map_append]) ⟨rfl, rfl, (by show AV.osl 0 v 0 ((R k).length + (B.map eI).length) c' = AV.osl 0 v 0 (R k ++ B).length c'; rw [List.length_map, List.length_append]), rfl, rfl, i64c (by simp), trivial⟩ (Nat.zero_le _) rfl (rowB_inb _ _)
  · have hkK : k = s.kinds.length := by
      simp only [decide_eq_false_iff_not] at hq
      omega
    subst hkK
    have h8 := hlen s.kinds.length
    repeat' (first |(refine sort_c _ (R s.kinds.length) (R s.kinds.length).length rfl (by omega) (fun S hso hpe => ?_)) |with_reducible (first|refine RM.c2 ?_|refine RM.c4 ?_|refine RM.c7 ?_|refine RM.c9 ?_|refine RM.o1 ?_|refine RM.o2 ?_|refine RM.o4 ?_|refine RM.o5 ?_|refine RM.p2 ?_|refine RM.p3 ?_) |((with_reducible show force _ _);first|refine RM.f1 rfl ?_|refine RM.f8 rfl ?_) |((with_reducible show wpOne _ _ _ _ _ _ _ _ _ _ _ _);refine RM.o8 rfl ?_) |fail)
    rw [← sorted_eq hpe.length_eq hso (hpe.trans hperm)]
    exact ⟨[_, _], ⟨rowsB_fz S hpe.length_eq _ _, Fz.deep rfl, trivial⟩, rfl⟩
end Go.Proofs.Ytmkaeohmdcoanaa
open Go Go.RM
namespace Go.Proofs.Ytmkaeohmdcoanaa
set_option maxRecDepth 100000
end Go.Proofs.Ytmkaeohmdcoanaa
open Go Go.RM
namespace Go.Proofs.Ytmkaeohmdcoanaa
set_option maxRecDepth 100000
set_option maxHeartbeats 4000000
end Go.Proofs.Ytmkaeohmdcoanaa
open Go Go.RM
namespace Go.Proofs.Ytmkaeohmdcoanaa
set_option maxRecDepth 100000
set_option maxHeartbeats 4000000
end Go.Proofs.Ytmkaeohmdcoanaa
open Go Go.RM
namespace Go.Proofs.Ytmkaeohmdcoanaa
set_option maxRecDepth 100000
set_option maxHeartbeats 4000000
theorem lst_cut {p : Nat → Bool} {n : Nat} : ∀ {m : Nat}, n ≤ m → lst (fun i => decide (i < n) && p i) 0 m = lst p 0 n
  | 0, h => by
    have : n = 0 := by omega
    subst this
    rfl
  | m + 1, h => by
    by_cases hn : n = m + 1
    · subst hn
      apply lst_congr
      intro i hi
      rw [decide_eq_true hi, Bool.true_and]
    · rw [lst_snoc_f (by rw [decide_eq_false (by omega), Bool.false_and]), lst_cut (by omega)]
end Go.Proofs.Ytmkaeohmdcoanaa
open Go Go.RM
namespace Go.Proofs.Ytmkaeohmdcoanaa
set_option maxRecDepth 100000
theorem metRow_get {α : Type} (n : Nat) (f : α → Nat) (L : List α) (x : Nat) : (metRow n f L).getD x false = true ↔ x < n ∧ ∃ t ∈ L, f t = x := by
  unfold metRow
  rw [List.getD_eq_getElem?_getD, List.getElem?_map]
  by_cases h : x < n
  · rw [List.getElem?_range h]
    simp [h]
  · rw [List.getElem?_eq_none (by simp; omega)]
    simp [h]
theorem hit_iff {n : Nat} {f : Truth → Nat} {TL : List Truth} {o : Nat} (hf : ∀ t, f t < 2 ^ n) (ho : o < 2 ^ n) : hitN (metRow (2 ^ n) f TL) o (metRow (2 ^ n) f TL).length = true ↔ ∃ t ∈ TL, ∀ i, i < n → ((f t).testBit i || o.testBit i) = true := by
  unfold hitN
  have hl : (((metRow (2 ^ n) f TL).map eB).length : Int) = (2 ^ n : Nat) := by rw [List.length_map, metRow_len]
  have hpos : 0 < 2 ^ n := Nat.pow_pos (by decide)
  rw [List.any_eq_true]
  simp only [hl, Bool.and_eq_true, decide_eq_true_eq, metRow_get, List.mem_range, metRow_len]
  constructor
  · rintro ⟨x, _, ⟨_, t, ht, rfl⟩, h⟩
    exact ⟨t, ht, (or_full (hf t) ho).1 (by omega)⟩
  · rintro ⟨t, ht, h⟩
    have := (or_full (hf t) ho).2 h
    exact ⟨f t, hf t, ⟨hf t, t, ht, rfl⟩, by omega⟩
theorem left_feas {s : Stores} (hg : Good s) {l : List Count} (hl : l.length ≤ 8) {o : Nat} (ho : o < 2 ^ l.length) : leftL (rowsS s l s.kinds.length) o = true ↔ Feas s.kinds.length 8 (waysK s) (missK s l) o.testBit := by
  have key : ∀ k (hk : k < s.kinds.length), hitN (rowS s l k) o (rowS s l k).length = true ↔ ∃ t ∈ waysK s k, ∀ i, i < 8 → missK s l k t i = true → o.testBit i = true := by
    intro k hk
    have hrow : rowS s l k = metRow (2 ^ l.length) (setN s.men s.kinds[k] (cargoRow k s.cargos) l k) (allS s [] k s.kinds[k]) := by
      unfold rowS
      rw [List.getElem?_eq_getElem hk]
    rw [hrow, hit_iff (f := setN s.men s.kinds[k] (cargoRow k s.cargos) l k) (fun _ => bitsN_lt _ _) ho]
    have hbit : ∀ t, (∀ i, i < l.length → ((setN s.men s.kinds[k] (cargoRow k s.cargos) l k t).testBit i || o.testBit i) = true) ↔ ∀ i, i < 8 → missK s l k t i = true → o.testBit i = true := by
      intro t
      unfold setN
      rw [missK_at hk]
      constructor
      · intro h i _ hm
        have hi : i < l.length := by
          apply Nat.lt_of_not_le
          intro hle
          rw [miss_none hle] at hm
          cases hm
        have := h i hi
        rw [bitsN_bit, hm] at this
        simpa using this
      · intro h i hi
        rw [bitsN_bit, decide_eq_true hi, Bool.true_and]
        cases hm : missAt s.men s.kinds[k] (cargoRow k s.cargos) l k t i with
        | false => rfl
        | true => rw [h i (by omega) hm]; rfl
    constructor
    · rintro ⟨t, ht, h⟩
      rw [all_iff] at ht
      exact ⟨t, (ways_iff hg hk).2 ht.1, (hbit t).1 h⟩
    · rintro ⟨t, ht, h⟩
      refine ⟨t, ?_, (hbit t).2 h⟩
      rw [all_iff]
      exact ⟨(ways_iff hg hk).1 ht, rfl⟩
  unfold leftL rowsS Feas
  rw [List.all_eq_true]
  constructor
  · intro h k hk
    exact (key k hk).1 (h _ (List.mem_map.2 ⟨k, List.mem_range.2 hk, rfl⟩))
  · intro h r hr
    obtain ⟨k, hk, rfl⟩ := List.mem_map.1 hr
    rw [List.mem_range] at hk
    exact (key k hk).2 (h k hk)
theorem lst_long {p : Nat → Bool} {n m : Nat} (hnm : n ≤ m) (h : ∀ i, n ≤ i → p i = false) : lst p 0 m = lst p 0 n := by
  rw [← lst_cut (p := p) hnm]
  apply lst_congr
  intro i _
  by_cases hi : i < n
  · rw [decide_eq_true hi, Bool.true_and]
  · rw [decide_eq_false hi, h i (by omega)]; rfl
theorem bit_long {o n : Nat} (h : o < 2 ^ n) (i : Nat) (hi : n ≤ i) : o.testBit i = false := Nat.testBit_lt_two_pow (Nat.lt_of_lt_of_le h (Nat.pow_le_pow_right (by omega) hi))
/-- THE DOCUMENT'S WRONG IS THE PROGRAM'S. -/
theorem doc_best {s : Stores} (hg : Good s) {l : List Count} (hl : l.length ≤ 8) {T : Nat → Truth} (hT : BestT s l T) {q : Nat} (hq : q < 2 ^ l.length) (hf : leftL (rowsS s l s.kinds.length) q = true)
    (hmin : ∀ m, m < 2 ^ l.length → leftL (rowsS s l s.kinds.length) m = true → ¬ bef (lst m.testBit 0 l.length) (lst q.testBit 0 l.length)) : lst q.testBit 0 l.length = wrongT s l T := by
  rw [left_feas hg hl hq] at hf
  have h1 := un_least (miss_disj s l) hT hf
  have hU : ∀ i, l.length ≤ i → unTo (missK s l) T s.kinds.length i = false := by
    intro i hi
    cases hu : unTo (missK s l) T s.kinds.length i with
    | false => rfl
    | true =>
      obtain ⟨k, _, hk⟩ := unTo_iff.1 hu
      have := miss_len hk
      omega
  have hub : (bitsN (unTo (missK s l) T s.kinds.length) l.length).testBit = unTo (missK s l) T s.kinds.length := by
    funext i
    rw [bitsN_bit]
    by_cases hi : i < l.length
    · rw [decide_eq_true hi, Bool.true_and]
    · rw [decide_eq_false hi, hU i (by omega)]; rfl
  have hlu := bitsN_lt (unTo (missK s l) T s.kinds.length) l.length
  have hfu : leftL (rowsS s l s.kinds.length) (bitsN (unTo (missK s l) T s.kinds.length) l.length) = true := by
    rw [left_feas hg hl hlu, hub]
    exact un_feas hT
  have hm := hmin _ hlu hfu
  rw [hub] at hm
  unfold wrongT
  rw [lst_long hl hU] at h1 ⊢
  rw [lst_long hl (bit_long hq)] at h1
  rcases h1 with h1 | h1
  · exact h1.symm
  · exact absurd h1 hm
/-- Without all counts each kind has a truth. -/
theorem left_all {s : Stores} (hg : Good s) {l : List Count} (hl : l.length ≤ 8) : leftL (rowsS s l s.kinds.length) (2 ^ l.length - 1) = true := by
  have hpos : 0 < 2 ^ l.length := Nat.pow_pos (by decide)
  rw [left_feas hg hl (by omega)]
  intro k hk
  cases hw : waysK s k with
  | nil => exact absurd hw (ways_some hg hk)
  | cons t L =>
    refine ⟨t, List.mem_cons_self .., fun i _ hm => ?_⟩
    rw [full_bit]
    exact decide_eq_true (miss_len hm)
end Go.Proofs.Ytmkaeohmdcoanaa
open Go Go.RM
namespace Go.Proofs.Ytmkaeohmdcoanaa
set_option maxRecDepth 100000
set_option maxHeartbeats 4000000
theorem rwrong_err (one : Bool) (s : Stores) (h : s.Ok) (l : List Count) (hl : l.length ≤ maxLen) (h0 : cntsErr s l ≠ 0) : Pu one 34 [.ag (eStores s), .sl (l.map eCount) false] (.tp [.sl [] false, I64 (cntsErr s l)]) := by
  have hcn := rcounts_c one s h l hl
  have d1 : (!decide (cntsErr s l = 0)) = true := by simpa using h0
  generalize cntsErr s l = e at *
  refine PureV.body (fn := Try.f34) rfl rfl rfl rfl ?_
  refine wpC_sound (mu := fun _ => false) ?_
  repeat' (first |with_reducible (first|refine RM.c2 ?_|refine RM.c4 ?_|refine RM.c7 ?_|refine RM.c9 ?_|refine RM.d1 ?_|refine RM.o1 ?_|refine RM.o2 ?_|refine RM.o4 ?_|refine RM.o5 ?_|refine RM.o7 ?_|refine RM.o9 ?_|refine RM.p1 ?_|refine RM.p2 ?_|refine RM.p3 ?_|refine RM.p5 ?_) |((with_reducible show force _ _);first|refine RM.f1 rfl ?_|refine RM.f2 rfl ?_|refine RM.f3 rfl ?_|refine RM.f4 rfl ?_|refine RM.f5 rfl ?_) |((with_reducible show wpOne _ _ _ _ _ _ _ _ _ _ _ _);refine RM.o8 rfl ?_) |((with_reducible show wpC _ _ _ _ (.cond _ _ _) _ _);refine RM.e2 rfl (by assumption) ?_) |((with_reducible show wpBin _ _ _ _ _ _ _ _ _);refine RM.b5 rfl rfl ?_) |(refine ⟨rfl, rfl, rfl, ?_⟩) |(refine And.intro (Nat.le_of_ble_eq_true rfl) ?_) |(refine PureV.call hcn rfl rfl ?_) |fail)
  exact ⟨[_, _], ⟨Fz.nil (b := false), Fz.deep rfl, trivial⟩, rfl⟩
theorem rwrong_c (one : Bool) (s : Stores) (h : s.Ok) (l : List Count) (h0 : cntsErr s l = 0) (T : Nat → Truth) (hT : BestT s l T) : Pu one 34 [.ag (eStores s), .sl (l.map eCount) false] (.tp [.sl ((wrongT s l T).map eI) false, I64 0]) := by
  obtain ⟨hg, hl8, hlc⟩ := cnts_good h0
  have hcn := rcounts_c one s h l (by unfold maxLen; omega)
  rw [h0] at hcn
  have hse := sets_c one s l h0
  have hK := sizes_9 hg.sizes
  have em : l.length = (l.map eCount).length := (List.length_map ..).symm
  have hbn := bit_c one (l.map eCount).length (by rw [List.length_map]; exact hl8)
  have hdb := fun q hq hf hmin => doc_best hg hl8 hT (q := q) hq hf hmin
  have hla := left_all hg hl8
  have hp8 := two_pow8 hl8
  have hLL : (rowsS s l s.kinds.length).length ≤ 4 := by rw [rowsS_len]; exact hK.2.1.2
  have hrl : ∀ r ∈ rowsS s l s.kinds.length, r.length ≤ 256 := by
    intro r hr
    unfold rowsS at hr
    obtain ⟨k, hk, rfl⟩ := List.mem_map.1 hr
    unfold rowS
    split
    · rw [metRow_len]; exact hp8.2
    · exact Nat.zero_le _
  have hle := fun o (ho : o < 256) => left_c one (rowsS s l s.kinds.length) o hLL hrl ho
  have hls := fun S (hS : S < 256) => list_c one S (l.map eCount).length (by rw [List.length_map]; exact hl8) hS
  have hl1 : ∀ S : Nat, (lst S.testBit 0 l.length).length ≤ 1000 := fun S => Nat.le_trans (lst_len_le _ _ _) (by omega)
  rw [← em] at hls
  generalize hR : (fun S : Nat => lst S.testBit 0 l.length) = R at *
  have hRa : ∀ S : Nat, lst S.testBit 0 l.length = R S := fun S => by rw [← hR]
  simp only [hRa] at hdb hls hl1
  have hbf := fun a b => before_c one (R a) (R b) false false (hl1 a)
  rw [← em] at hbn
  generalize rowsS s l s.kinds.length = LL at *
  generalize hN : 2 ^ l.length = N at *
  have hl0 := hls (N - 1) (by omega)
  rw [show ((N - 1 : Nat) : Int) = (N : Int) - 1 by omega] at hl0
  rw [em] at hls hbn hl0
  refine PureV.body (fn := Try.f34) rfl rfl rfl rfl ?_
  refine wpC_sound (mu := fun _ => false) ?_
  repeat' (first |with_reducible (first|refine RM.c1 ?_|refine RM.c2 ?_|refine RM.c3 ?_|refine RM.c4 ?_|refine RM.c9 ?_|refine RM.o1 ?_|refine RM.o2 ?_|refine RM.o4 ?_|refine RM.o5 ?_|refine RM.o7 ?_|refine RM.o9 ?_|refine RM.p1 ?_|refine RM.p2 ?_|refine RM.p3 ?_|refine RM.p5 ?_|refine RM.p6 ?_) |((with_reducible show force _ _);first|refine RM.f1 rfl ?_|refine RM.f2 rfl ?_|refine RM.f3 rfl ?_|refine RM.f4 rfl ?_|refine RM.f5 rfl ?_) |((with_reducible show wpOne _ _ _ _ _ _ _ _ _ _ _ _);refine RM.o8 rfl ?_) |((with_reducible show wpC _ _ _ _ (.cond _ _ _) _ _);refine RM.e3 rfl rfl ?_) |((with_reducible show wpBin _ _ _ _ _ _ _ _ _);first|refine RM.b5 rfl rfl ?_|refine RM.b2 rfl rfl (by omega) ?_) |((with_reducible show wpLen _ _ _ _ _);refine RM.l1 rfl ?_) |(refine ⟨rfl, rfl, rfl, ?_⟩) |(refine And.intro (Nat.le_of_ble_eq_true rfl) ?_) |(refine PureV.call hcn rfl rfl ?_) |(refine PureV.call hse rfl rfl ?_) |(refine PureV.call hbn rfl rfl ?_) |(refine PureV.call hl0 rfl rfl ?_) |fail)
  refine SemC.weaker (Weaker.to (l := [(1, .sl (l.map eCount) false), (7, .sl (LL.map eRow) false), (8, .sl ((R (N - 1)).map eI) false), (9, I64 (0 : Nat))]) (hp := []) 0 rfl ⟨rfl, rfl, rfl, rfl, trivial⟩ (Nat.zero_le _) rfl rfl) ?_
  refine SemC.loop (fun x : Nat × Nat => (x.1 ≤ N ∧ x.2 < N) ∧ leftL LL x.2 = true ∧ ∀ m, m < x.1 → leftL LL m = true → ¬ bef (R m) (R x.2)) (fun x => ⟨mkFr [(1, .sl (l.map eCount) false), (7, .sl (LL.map eRow) false), (8, .sl ((R x.2).map eI) false), (9, I64 (x.1 : Nat))], [], Amb.none, false, 0⟩) (fun x => N - x.1) ?_ (0, N - 1) ⟨⟨Nat.zero_le _, by dsimp only; omega⟩, hla, fun m hm => absurd hm (Nat.not_lt_zero _)⟩
  rintro ⟨x, q⟩ ⟨⟨hx, hq⟩, hfq, hmin⟩
  dsimp only at hx hq hfq hmin
  refine wpC_sound (mu := fun _ => false) ?_
  by_cases hlt : x < N
  · have d1 : decide ((x : Int) < (N : Int)) = true := decide_eq_true (by omega)
    have hlx := hls x (by omega)
    have hbx := hbf x q
    have hlf := hle x (by omega)
    have hend : ∀ (q' : Nat) (st : ASt), q' < N → leftL LL q' = true → (∀ m, m < x + 1 → leftL LL m = true → ¬ bef (R m) (R q')) → Weaker st ⟨mkFr [(1, .sl (l.map eCount) false), (7, .sl (LL.map eRow) false), (8, .sl ((R q').map eI) false), (9, I64 ((x + 1) : Nat))], [], Amb.none, false, 0⟩ → ∃ y : Nat × Nat, ((y.1 ≤ N ∧ y.2 < N) ∧ leftL LL y.2 = true ∧ ∀ m, m < y.1 → leftL LL m = true → ¬ bef (R m) (R y.2)) ∧ N - y.1 < N - x ∧ Weaker st ⟨mkFr [(1, .sl (l.map eCount) false), (7, .sl (LL.map eRow) false), (8, .sl ((R y.2).map eI) false), (9, I64 (y.1 : Nat))], [], Amb.none, false, 0⟩ :=
      fun q' st h1 h2 h3 hw => ⟨(x + 1, q'), ⟨⟨hlt, h1⟩, h2, h3⟩, by dsimp only; omega, hw⟩
    by_cases hb : bef (R x) (R q)
    · rw [decide_eq_true hb] at hbx
      cases hf : leftL LL x with
      | true =>
        rw [hf] at hlf
        have h3 : ∀ m, m < x + 1 → leftL LL m = true → ¬ bef (R m) (R x) := by
          intro m hm hfm hbm
          by_cases hmx : m = x
          · subst hmx; exact bef_irr hbm
          · exact hmin m (by omega) hfm (bef_trans hbm hb)
        repeat' (first |with_reducible (first|refine RM.c1 ?_|refine RM.c2 ?_|refine RM.c3 ?_|refine RM.c4 ?_|refine RM.c9 ?_|refine RM.d3 ?_|refine RM.o1 ?_|refine RM.o2 ?_|refine RM.o4 ?_|refine RM.o5 ?_|refine RM.o7 ?_|refine RM.o9 ?_|refine RM.p1 ?_|refine RM.p2 ?_|refine RM.p3 ?_|refine RM.p4 ?_|refine RM.p5 ?_|refine RM.p6 ?_) |((with_reducible show force _ _);first|refine RM.f1 rfl ?_|refine RM.f2 rfl ?_|refine RM.f4 rfl ?_) |((with_reducible show wpOne _ _ _ _ _ _ _ _ _ _ _ _);refine RM.o8 rfl ?_) |((with_reducible show wpGuard _ _ _ _ _);refine wpGuard_yes rfl rfl rfl ?_) |((with_reducible show wpC _ _ _ _ (.cond _ _ _) _ _);first|refine RM.e2 rfl rfl ?_|refine RM.e2 rfl (by assumption) ?_) |((with_reducible show wpPick _ _ _ _ _);refine RM.k1 rfl ?_) |((with_reducible show wpPickB _ _ _ _ _);refine RM.k2 rfl ?_) |((with_reducible show wpBin _ _ _ _ _ _ _ _ _);first|refine RM.b6 rfl rfl ?_|refine RM.b1 rfl rfl (by omega) ?_) |((with_reducible show wpLen _ _ _ _ _);refine RM.l1 rfl ?_) |(refine PureV.call hbn rfl rfl ?_) |(refine PureV.call hlx rfl rfl ?_) |(refine PureV.call hbx rfl rfl ?_) |(refine PureV.call hlf rfl rfl ?_) |fail)
        exact hend x _ hlt hf h3 (Weaker.to 0 rfl ⟨rfl, rfl, rfl, i64c (by simp), trivial⟩ (Nat.zero_le _) rfl rfl)
      | false =>
        rw [hf] at hlf
        have h3 : ∀ m, m < x + 1 → leftL LL m = true → ¬ bef (R m) (R q) := by
          intro m hm hfm
          by_cases hmx : m = x
          · subst hmx; rw [hf] at hfm; cases hfm
          · exact hmin m (by omega) hfm
        repeat' (first |with_reducible (first|refine RM.c1 ?_|refine RM.c2 ?_|refine RM.c3 ?_|refine RM.c4 ?_|refine RM.c9 ?_|refine RM.d3 ?_|refine RM.o1 ?_|refine RM.o2 ?_|refine RM.o4 ?_|refine RM.o5 ?_|refine RM.o7 ?_|refine RM.o9 ?_|refine RM.p1 ?_|refine RM.p2 ?_|refine RM.p3 ?_|refine RM.p4 ?_|refine RM.p5 ?_|refine RM.p6 ?_) |((with_reducible show force _ _);first|refine RM.f1 rfl ?_|refine RM.f2 rfl ?_|refine RM.f4 rfl ?_) |((with_reducible show wpOne _ _ _ _ _ _ _ _ _ _ _ _);refine RM.o8 rfl ?_) |((with_reducible show wpGuard _ _ _ _ _);refine wpGuard_yes rfl rfl rfl ?_) |((with_reducible show wpC _ _ _ _ (.cond _ _ _) _ _);first|refine RM.e3 rfl rfl ?_|refine RM.e2 rfl (by assumption) ?_) |((with_reducible show wpPick _ _ _ _ _);refine RM.k1 rfl ?_) |((with_reducible show wpPickB _ _ _ _ _);refine RM.k2 rfl ?_) |((with_reducible show wpBin _ _ _ _ _ _ _ _ _);first|refine RM.b6 rfl rfl ?_|refine RM.b1 rfl rfl (by omega) ?_) |((with_reducible show wpLen _ _ _ _ _);refine RM.l1 rfl ?_) |(refine PureV.call hbn rfl rfl ?_) |(refine PureV.call hlx rfl rfl ?_) |(refine PureV.call hbx rfl rfl ?_) |(refine PureV.call hlf rfl rfl ?_) |fail)
        exact hend q _ hq hfq h3 (Weaker.to 0 rfl ⟨rfl, rfl, rfl, i64c (by simp), trivial⟩ (Nat.zero_le _) rfl rfl)
    · rw [decide_eq_false hb] at hbx
      have h3 : ∀ m, m < x + 1 → leftL LL m = true → ¬ bef (R m) (R q) := by
        intro m hm hfm
        by_cases hmx : m = x
        · subst hmx; exact hb
        · exact hmin m (by omega) hfm
      repeat' (first |with_reducible (first|refine RM.c1 ?_|refine RM.c2 ?_|refine RM.c3 ?_|refine RM.c4 ?_|refine RM.c9 ?_|refine RM.d3 ?_|refine RM.o1 ?_|refine RM.o2 ?_|refine RM.o4 ?_|refine RM.o5 ?_|refine RM.o7 ?_|refine RM.o9 ?_|refine RM.p1 ?_|refine RM.p2 ?_|refine RM.p3 ?_|refine RM.p4 ?_|refine RM.p5 ?_|refine RM.p6 ?_) |((with_reducible show force _ _);first|refine RM.f1 rfl ?_|refine RM.f2 rfl ?_|refine RM.f4 rfl ?_) |((with_reducible show wpOne _ _ _ _ _ _ _ _ _ _ _ _);refine RM.o8 rfl ?_) |((with_reducible show wpGuard _ _ _ _ _);refine wpGuard_no rfl rfl rfl ?_) |((with_reducible show wpC _ _ _ _ (.cond _ _ _) _ _);first|refine RM.e3 rfl rfl ?_|refine RM.e2 rfl (by assumption) ?_) |((with_reducible show wpPick _ _ _ _ _);refine RM.k1 rfl ?_) |((with_reducible show wpPickB _ _ _ _ _);refine RM.k3 rfl ?_) |((with_reducible show wpBin _ _ _ _ _ _ _ _ _);first|refine RM.b6 rfl rfl ?_|refine RM.b1 rfl rfl (by omega) ?_) |((with_reducible show wpLen _ _ _ _ _);refine RM.l1 rfl ?_) |(refine PureV.call hbn rfl rfl ?_) |(refine PureV.call hlx rfl rfl ?_) |(refine PureV.call hbx rfl rfl ?_) |fail)
      exact hend q _ hq hfq h3 (Weaker.to 0 rfl ⟨rfl, rfl, rfl, i64c (by simp), trivial⟩ (Nat.zero_le _) rfl rfl)
  · have d1 : decide ((x : Int) < (N : Int)) = false := decide_eq_false (by omega)
    have hd := hdb q hq hfq (fun m hm => hmin m (by omega))
    rw [← hd]
    repeat' (first |with_reducible (first|refine RM.c2 ?_|refine RM.c4 ?_|refine RM.c6 ?_|refine RM.c7 ?_|refine RM.c9 ?_|refine RM.d2 ?_|refine RM.o1 ?_|refine RM.o2 ?_|refine RM.o4 ?_|refine RM.o5 ?_|refine RM.o7 ?_|refine RM.o9 ?_|refine RM.p1 ?_|refine RM.p2 ?_|refine RM.p3 ?_|refine RM.p5 ?_|refine RM.p6 ?_|refine RM.q2 ?_) |((with_reducible show force _ _);first|refine RM.f1 rfl ?_|refine RM.f2 rfl ?_|refine RM.f4 rfl ?_) |((with_reducible show wpOne _ _ _ _ _ _ _ _ _ _ _ _);refine RM.o8 rfl ?_) |((with_reducible show wpC _ _ _ _ (.cond _ _ _) _ _);refine RM.e3 rfl (by assumption) ?_) |((with_reducible show wpBin _ _ _ _ _ _ _ _ _);refine RM.b6 rfl rfl ?_) |((with_reducible show wpLen _ _ _ _ _);refine RM.l1 rfl ?_) |((with_reducible show blockK _ _ _ _);refine RM.d5 rfl ?_) |(refine PureV.call hbn rfl rfl ?_) |fail)
    exact ⟨[_, _], ⟨Fz.deep rfl, Fz.deep rfl, trivial⟩, rfl⟩
theorem wrongs_c (s : Stores) (h : s.Ok) (l : List Count) (hl : l.length ≤ maxLen) : Pu false 6 [.ag (eStores s), .sl (l.map eCount) false] (BB true) := by
  have haw := aw_c false
  by_cases h0 : cntsErr s l = 0
  · obtain ⟨hg, hl8, hlc⟩ := cnts_good h0
    obtain ⟨T, hT⟩ := bestT_ex hg l
    have h1 := wrong_c s h l h0 T hT
    have h2 := rwrong_c false s h l h0 T hT
    have h8 : (wrongT s l T).length ≤ 8 := lst_len_le _ _ _
    generalize wrongT s l T = w at *
    have hi := ints_c false w w false false (by unfold maxLen; omega) (by unfold maxLen; omega)
    rw [decide_eq_true rfl] at hi
    refine PureV.body (fn := Try.f6) rfl rfl rfl rfl ?_
    refine wpC_sound (mu := fun _ => false) ?_
    repeat' (first |with_reducible (first|refine RM.c2 ?_|refine RM.c4 ?_|refine RM.c7 ?_|refine RM.c9 ?_|refine RM.o1 ?_|refine RM.o2 ?_|refine RM.o4 ?_|refine RM.o5 ?_|refine RM.o7 ?_|refine RM.o9 ?_|refine RM.p1 ?_|refine RM.p2 ?_|refine RM.p3 ?_|refine RM.p4 ?_|refine RM.p5 ?_) |((with_reducible show force _ _);first|refine RM.f1 rfl ?_|refine RM.f2 rfl ?_|refine RM.f3 rfl ?_|refine RM.f4 rfl ?_|refine RM.f5 rfl ?_|refine RM.f6 rfl ?_) |((with_reducible show wpOne _ _ _ _ _ _ _ _ _ _ _ _);refine RM.o8 rfl ?_) |((with_reducible show wpGuard _ _ _ _ _);refine wpGuard_yes rfl rfl rfl ?_) |((with_reducible show wpPick _ _ _ _ _);refine RM.k1 rfl ?_) |((with_reducible show wpPickB _ _ _ _ _);refine RM.k2 rfl ?_) |((with_reducible show wpBin _ _ _ _ _ _ _ _ _);refine RM.b4 rfl rfl ?_) |(refine ⟨_, rfl, ?_⟩) |(refine ⟨rfl, rfl, rfl, ?_⟩) |(refine And.intro (Nat.le_of_ble_eq_true rfl) ?_) |(refine PureV.call h1 rfl rfl ?_) |(refine PureV.call h2 rfl rfl ?_) |(refine PureV.call hi rfl rfl ?_) |(refine PureV.call haw rfl rfl ?_) |fail)
    exact ⟨[_], ⟨Fz.deep rfl, trivial⟩, rfl⟩
  · have h1 := wrong_err false s h l hl h0
    have h2 := rwrong_err false s h l hl h0
    have hi := ints_c false [] [] false false (Nat.zero_le _) (Nat.zero_le _)
    have d1 : decide (cntsErr s l = cntsErr s l) = true := decide_eq_true rfl
    generalize cntsErr s l = e at *
    refine PureV.body (fn := Try.f6) rfl rfl rfl rfl ?_
    refine wpC_sound (mu := fun _ => false) ?_
    repeat' (first |with_reducible (first|refine RM.c2 ?_|refine RM.c4 ?_|refine RM.c7 ?_|refine RM.c9 ?_|refine RM.o1 ?_|refine RM.o2 ?_|refine RM.o4 ?_|refine RM.o5 ?_|refine RM.o7 ?_|refine RM.o9 ?_|refine RM.p1 ?_|refine RM.p2 ?_|refine RM.p3 ?_|refine RM.p4 ?_|refine RM.p5 ?_) |((with_reducible show force _ _);first|refine RM.f1 rfl ?_|refine RM.f2 rfl ?_|refine RM.f3 rfl ?_|refine RM.f4 rfl ?_|refine RM.f5 rfl ?_|refine RM.f6 rfl ?_) |((with_reducible show wpOne _ _ _ _ _ _ _ _ _ _ _ _);refine RM.o8 rfl ?_) |((with_reducible show wpGuard _ _ _ _ _);first|refine wpGuard_yes rfl rfl rfl ?_|refine wpGuard_yes rfl rfl (by assumption) ?_) |((with_reducible show wpPick _ _ _ _ _);refine RM.k1 rfl ?_) |((with_reducible show wpPickB _ _ _ _ _);first|refine RM.k2 rfl ?_|refine RM.k2 (by assumption) ?_) |((with_reducible show wpBin _ _ _ _ _ _ _ _ _);refine RM.b4 rfl rfl ?_) |(refine ⟨_, rfl, ?_⟩) |(refine ⟨rfl, rfl, rfl, ?_⟩) |(refine And.intro (Nat.le_of_ble_eq_true rfl) ?_) |(refine PureV.call h1 rfl rfl ?_) |(refine PureV.call h2 rfl rfl ?_) |(refine PureV.call hi rfl rfl ?_) |(refine PureV.call haw rfl rfl ?_) |fail)
    exact ⟨[_], ⟨Fz.deep rfl, trivial⟩, rfl⟩
end Go.Proofs.Ytmkaeohmdcoanaa
namespace Go.Proofs.Ytmkaeohmdcoanaa
open Go.RM
set_option maxRecDepth 1000000
noncomputable def tabA : List XE := [x_a1, x_a2, x_a3, x_a4, x_a5, x_a6, x_a7, x_a8]
theorem xs_tabA : ∀ e ∈ tabA, XSound TT e := by
  unfold tabA
  simp only [List.mem_cons, List.not_mem_nil, or_false]
  rintro e (rfl | rfl | rfl | rfl | rfl | rfl | rfl | rfl)
  · exact xs_a1
  · exact xs_a2
  · exact xs_a3
  · exact xs_a4
  · exact xs_a5
  · exact xs_a6
  · exact xs_a7
  · exact xs_a8
theorem xs_aw : XSound TT x_aw := xe_add tt_ok tt_mixed xs_tabA 1000 (by kernel_rfl)
theorem xs_TB : ∀ e ∈ TB, XSound TT e := fun e he => by
  obtain rfl := List.mem_singleton.1 he
  exact xs_aw
end Go.Proofs.Ytmkaeohmdcoanaa
open Go Go.RM
namespace Go.Proofs.Ytmkaeohmdcoanaa
open Go.ChangeShapes Go.WideShapes Go.ChangeAt Go.RowKit
theorem try_own : ownKnob Try.prog.godebug = none := by kernel_rfl
theorem try_laid : laidOutB Try.prog = true := by kernel_rfl
end Go.Proofs.Ytmkaeohmdcoanaa
