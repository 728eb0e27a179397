/-
  Contracts of the program's functions and of the document's. Lemmas alone; their conditions stand in them.
-/
import Derived.Test.YtmkaeohmdcoanaaA2
import Derived.Test.YtmkaeohmdcoanaaX1
import Derived.Test.YtmkaeohmdcoanaaK1
import Derived.Test.YtmkaeohmdcoanaaRows
open Go Go.RM
namespace Go.Proofs.Ytmkaeohmdcoanaa
set_option maxRecDepth 100000
theorem truthOk_iff {k : Kind} {t : Truth} : truthOk k t = true ↔ (k.first.lo ≤ t.first ∧ t.first ≤ k.first.hi) ∧ (k.man.lo ≤ t.man ∧ t.man ≤ k.man.hi) ∧ k.ship.lo ≤ t.ship ∧ t.ship ≤ k.ship.hi := by
  unfold truthOk
  simp only [Bool.and_eq_true, inB_iff]
theorem all_iff {men : List Int} {k : Kind} {row : List Int} {l : List Count} {i : Nat} {t : Truth} : t ∈ allOf men k row l i ↔ (truthOk k t = true ∧ agr men k row l i t = true) := by
  unfold allOf pastN
  rw [List.mem_filter, List.mem_map]
  constructor
  · rintro ⟨⟨q, hq, rfl⟩, ha⟩
    rw [List.mem_range] at hq
    refine ⟨?_, ha⟩
    have hP : 0 < spanN k.ship := by
      apply Nat.pos_of_ne_zero
      intro h0
      rw [h0, Nat.mul_zero] at hq
      exact absurd hq (Nat.not_lt_zero _)
    have hM : 0 < spanN k.man := by
      apply Nat.pos_of_ne_zero
      intro h0
      rw [h0, Nat.mul_zero, Nat.zero_mul] at hq
      exact absurd hq (Nat.not_lt_zero _)
    have h1 : q / spanN k.ship % spanN k.man < spanN k.man := Nat.mod_lt _ hM
    have h2 : q % spanN k.ship < spanN k.ship := Nat.mod_lt _ hP
    have h3 : q / spanN k.ship / spanN k.man < spanN k.first := by
      rw [Nat.div_lt_iff_lt_mul hM, Nat.div_lt_iff_lt_mul hP]
      exact hq
    rw [truthOk_iff]
    unfold truthQ
    dsimp only
    generalize q / spanN k.ship % spanN k.man = x at *
    generalize q % spanN k.ship = y at *
    generalize q / spanN k.ship / spanN k.man = z at *
    clear hq hP hM ha
    unfold spanN at *
    omega
  · rintro ⟨ht, ha⟩
    refine ⟨?_, ha⟩
    rw [truthOk_iff] at ht
    obtain ⟨a, b, c⟩ := t
    dsimp only at ht
    obtain ⟨x, rfl⟩ : ∃ x : Nat, a = k.first.lo + x := ⟨(a - k.first.lo).toNat, by omega⟩
    obtain ⟨y, rfl⟩ : ∃ x : Nat, b = k.man.lo + x := ⟨(b - k.man.lo).toNat, by omega⟩
    obtain ⟨z, rfl⟩ : ∃ x : Nat, c = k.ship.lo + x := ⟨(c - k.ship.lo).toNat, by omega⟩
    have hx : x < spanN k.first := by unfold spanN; omega
    have hy : y < spanN k.man := by unfold spanN; omega
    have hz : z < spanN k.ship := by unfold spanN; omega
    refine ⟨(x * spanN k.man + y) * spanN k.ship + z, ?_, truthQ_at k hy hz⟩
    rw [List.mem_range]
    have q1 : (x + 1) * spanN k.man ≤ spanN k.first * spanN k.man := Nat.mul_le_mul_right _ hx
    rw [Nat.add_mul, Nat.one_mul] at q1
    have q2 : (x * spanN k.man + y + 1) * spanN k.ship ≤ spanN k.first * spanN k.man * spanN k.ship := Nat.mul_le_mul_right _ (by omega)
    rw [Nat.add_mul, Nat.one_mul] at q2
    omega
end Go.Proofs.Ytmkaeohmdcoanaa
open Go Go.RM
namespace Go.Proofs.Ytmkaeohmdcoanaa
set_option maxRecDepth 100000
set_option maxHeartbeats 4000000
def rationV (r : Int) : AV := if r < 0 then .tp [I64 0, I64 9] else .tp [I64 r, I64 0]
theorem rationV_deep (r : Int) : (rationV r).deep = true := by
  unfold rationV
  split <;> rfl
theorem ration_err (one : Bool) (s : Stores) (h : s.Ok) (l : List Count) (hl : l.length ≤ maxLen) (kd : Int) (he : askErr s l kd ≠ 0) : Pu one 31 [.ag (eStores s), .sl (l.map eCount) false, I64 kd] (.tp [I64 0, I64 (askErr s l kd)]) := by
  have hen := enter_err one s h l hl kd he
  have d1 : decide (askErr s l kd = 0) = false := by simpa using he
  have d2 : (!decide (askErr s l kd = 0)) = true := by simpa using he
  refine PureV.body (fn := Try.f31) rfl rfl rfl rfl ?_
  refine wpC_sound (mu := fun _ => false) ?_
  repeat' (first |with_reducible (first|refine RM.c1 ?_|refine RM.c2 ?_|refine RM.c4 ?_|refine RM.c7 ?_|refine RM.c9 ?_|refine RM.d1 ?_|refine RM.o1 ?_|refine RM.o2 ?_|refine RM.o4 ?_|refine RM.o5 ?_|refine RM.o6 ?_|refine RM.o7 ?_|refine RM.o9 ?_|refine RM.p1 ?_|refine RM.p2 ?_|refine RM.p3 ?_|refine RM.p5 ?_) |((with_reducible show force _ _);first|refine RM.f1 rfl ?_|refine RM.f2 rfl ?_|refine RM.f3 rfl ?_|refine RM.f4 rfl ?_|refine RM.f5 rfl ?_|refine RM.f6 rfl ?_|refine RM.f7 rfl ?_|refine RM.g2 rfl ?_) |((with_reducible show wpOne _ _ _ _ _ _ _ _ _ _ _ _);refine RM.o8 rfl ?_) |((with_reducible show wpC _ _ _ _ (.cond _ _ _) _ _);first|refine RM.e2 rfl (by assumption) ?_|refine RM.e3 rfl (by assumption) ?_) |((with_reducible show wpBin _ _ _ _ _ _ _ _ _);first|refine RM.b4 rfl rfl ?_|refine RM.b5 rfl rfl ?_) |(refine ⟨_, rfl, ?_⟩) |(refine ⟨_, _, rfl, by decide, ?_⟩) |(refine ⟨rfl, rfl, rfl, ?_⟩) |(refine ⟨rfl, rfl, ?_⟩) |(refine And.intro (Nat.le_of_ble_eq_true rfl) ?_) |(refine And.intro (by kernel_rfl) ?_) |(refine PureV.call hen rfl rfl ?_) |fail)
  exact ⟨[_, _], ⟨Fz.deep rfl, Fz.deep rfl, trivial⟩, rfl⟩
theorem ration_none (one : Bool) (s : Stores) (h : s.Ok) (l : List Count) (h0 : cntsErr s l = 0) (i : Nat) (hi : i < s.kinds.length) (he : truthsL s.men s.kinds[i] (cargoRow i s.cargos) (cntsOf l i) = []) :
    Pu one 31 [.ag (eStores s), .sl (l.map eCount) false, I64 i] (.tp [I64 0, I64 9]) := by
  have hh := holdOk h0 hi
  have hen := enter_ok one s h l h0 i hi
  have h30 := hh.row.len
  have hkn := known_c one hh
  rw [if_pos he] at hkn
  generalize cargoRow i s.cargos = row at *
  generalize s.kinds[i] = k at *
  refine PureV.body (fn := Try.f31) rfl rfl rfl rfl ?_
  refine wpC_sound (mu := fun _ => false) ?_
  repeat' (first |(refine stH h30 rfl rfl rfl rfl ?_) |(refine ldHO h30 rfl rfl ?_) |with_reducible (first|refine RM.c2 ?_|refine RM.c4 ?_|refine RM.c7 ?_|refine RM.c9 ?_|refine RM.d1 ?_|refine RM.o1 ?_|refine RM.o2 ?_|refine RM.o4 ?_|refine RM.o5 ?_|refine RM.o6 ?_|refine RM.o7 ?_|refine RM.o9 ?_|refine RM.p1 ?_|refine RM.p2 ?_|refine RM.p3 ?_|refine RM.p5 ?_) |((with_reducible show force _ _);first|refine RM.f1 rfl ?_|refine RM.f2 rfl ?_|refine RM.f3 rfl ?_|refine RM.f4 rfl ?_|refine RM.f5 rfl ?_|refine RM.f6 rfl ?_|refine RM.f7 rfl ?_|refine RM.g2 rfl ?_) |((with_reducible show wpOne _ _ _ _ _ _ _ _ _ _ _ _);refine RM.o8 rfl ?_) |((with_reducible show wpC _ _ _ _ (.cond _ _ _) _ _);refine RM.e2 rfl rfl ?_) |((with_reducible show wpBin _ _ _ _ _ _ _ _ _);first|refine RM.b4 rfl rfl ?_|refine RM.b5 rfl rfl ?_) |(refine ⟨_, rfl, ?_⟩) |(refine ⟨rfl, rfl, rfl, ?_⟩) |(refine And.intro (Nat.le_of_ble_eq_true rfl) ?_) |(refine And.intro (by kernel_rfl) ?_) |(refine PureV.call hen rfl rfl ?_) |(refine PureV.call hkn rfl (hdeep rfl) ?_) |fail)
  exact ⟨[_, _], ⟨Fz.deep rfl, Fz.deep rfl, trivial⟩, rfl⟩
theorem ration_okT (one : Bool) (s : Stores) (h : s.Ok) (l : List Count) (h0 : cntsErr s l = 0) (i : Nat) (hi : i < s.kinds.length) (he : truthsL s.men s.kinds[i] (cargoRow i s.cargos) (cntsOf l i) ≠ []) (r : Int)
    (hr : lastD (fun d => !(lows s l i s.kinds[i]).any (runsShort s.men s.kinds[i] (cargoRow i s.cargos) d)) (s.men.length + 1) = r) :
    Pu one 31 [.ag (eStores s), .sl (l.map eCount) false, I64 i] (rationV r) := by
  have em : ((s.men.map eI).length : Int) = s.men.length := by simp
  have hh := holdOk h0 hi
  have hen := enter_ok one s h l h0 i hi
  have h30 := hh.row.len
  have hkn := known_c one hh
  rw [if_neg he] at hkn
  have hw := worst_c one hh
  have hlen : (lows s l i s.kinds[i]).length ≤ maxLen := by rw [List.length_map]; have := truthsL_len hh; unfold maxLen; omega
  have hrun : ∀ t ∈ lows s l i s.kinds[i], RunOk s.men s.kinds[i] (cargoRow i s.cargos) t := fun t ht => by
    obtain ⟨y, hy, rfl⟩ := List.mem_map.1 ht
    exact (truthsL_run hh hy).1.1
  have hla := fun d : Nat => lasts_c one (s := s) (k := s.kinds[i]) (row := cargoRow i s.cargos) (cnts := (cntsOf l i).map eCount) (L := lows s l i s.kinds[i]) (full := false) (down := d) hrun hlen
  have hm9 := sizes_9 hh.good.sizes
  unfold lows at hr hla hrun
  clear he hh hrun
  generalize (truthsL s.men s.kinds[i] (cargoRow i s.cargos) (cntsOf l i)).map Prod.fst = L at *
  generalize cargoRow i s.cargos = row at *
  generalize s.kinds[i] = k at *
  refine PureV.body (fn := Try.f31) rfl rfl rfl (rationV_deep r) ?_
  refine wpC_sound (mu := fun _ => false) ?_
  repeat' (first |(refine stH (s := s) (k := k) (row := row) h30 rfl rfl rfl rfl ?_) |(refine ldHO (s := s) (k := k) (row := row) h30 rfl rfl ?_) |with_reducible (first|refine RM.c1 ?_|refine RM.c2 ?_|refine RM.c3 ?_|refine RM.c4 ?_|refine RM.c9 ?_|refine RM.o1 ?_|refine RM.o2 ?_|refine RM.o4 ?_|refine RM.o5 ?_|refine RM.o6 ?_|refine RM.o7 ?_|refine RM.o9 ?_|refine RM.p1 ?_|refine RM.p2 ?_|refine RM.p3 ?_|refine RM.p5 ?_|refine RM.p6 ?_) |((with_reducible show force _ _);first|refine RM.f1 rfl ?_|refine RM.f2 rfl ?_|refine RM.f3 rfl ?_|refine RM.f4 rfl ?_|refine RM.f5 rfl ?_|refine RM.f6 rfl ?_|refine RM.f7 rfl ?_|refine RM.g2 rfl ?_) |((with_reducible show wpOne _ _ _ _ _ _ _ _ _ _ _ _);refine RM.o8 rfl ?_) |((with_reducible show wpC _ _ _ _ (.cond _ _ _) _ _);first|refine RM.e2 rfl rfl ?_|refine RM.e3 rfl rfl ?_) |((with_reducible show wpBin _ _ _ _ _ _ _ _ _);first|refine RM.b4 rfl rfl ?_|refine RM.b5 rfl rfl ?_) |((with_reducible show wpLen _ _ _ _ _);refine RM.l1 rfl ?_) |(refine ⟨_, rfl, ?_⟩) |(refine ⟨_, _, rfl, by decide, ?_⟩) |(refine ⟨rfl, rfl, rfl, ?_⟩) |(refine ⟨_, _, rfl, _, rfl, ?_⟩) |(refine And.intro (Nat.le_of_ble_eq_true rfl) ?_) |(refine And.intro (by kernel_rfl) ?_) |(refine PureV.call hen rfl rfl ?_) |(refine PureV.call hkn rfl (hdeep rfl) ?_) |(refine PureV.call hw rfl (hdeep rfl) ?_) |fail)
  rw [em]
  have hin : ([.cells (eHoldV s k row (.sl ((cntsOf l i).map eCount) false)) 0 0] : List AB).all (AB.inb 1) = true := by
    show (inbL 1 (eHoldV s k row (.sl ((cntsOf l i).map eCount) false)) && true) = true
    rw [show inbL 1 (eHoldV s k row (.sl ((cntsOf l i).map eCount) false)) = true from deep_inb 1 (.ag _) (eHold_deep (s := s) (k := k) (row := row) (c := .sl ((cntsOf l i).map eCount) false) rfl)]
    rfl
  refine SemC.weaker (Weaker.to (l := [(8, .ptr 0 0 0), (10, .sl (L.map eTruth) false), (11, I64 (s.men.length))]) (hp := [.cells (eHoldV s k row (.sl ((cntsOf l i).map eCount) false)) 0 0]) 1 rfl ⟨rfl, rfl, rfl, trivial⟩ (Nat.zero_le _) rfl hin) ?_
  refine SemC.loop (fun x : Int => ∃ m : Nat, x = (m : Int) - 1 ∧ m ≤ s.men.length + 1 ∧ lastD (fun d => !L.any (runsShort s.men k row d)) m = r) (fun x => ⟨mkFr [(8, .ptr 0 0 0), (10, .sl (L.map eTruth) false), (11, I64 (x))], [.cells (eHoldV s k row (.sl ((cntsOf l i).map eCount) false)) 0 0], Amb.none, false, 0⟩) (fun x => (x + 1).toNat) ?_ (s.men.length : Int) ⟨s.men.length + 1, by omega, Nat.le_refl _, hr⟩
  rintro x ⟨m, hx, hm, hq⟩
  refine wpC_sound (mu := fun _ => false) ?_
  repeat' (first |with_reducible (first|refine RM.c2 ?_|refine RM.c4 ?_|refine RM.c9 ?_|refine RM.o1 ?_|refine RM.o2 ?_|refine RM.o4 ?_|refine RM.o5 ?_|refine RM.p2 ?_|refine RM.p5 ?_) |((with_reducible show force _ _);refine RM.f1 rfl ?_) |((with_reducible show wpOne _ _ _ _ _ _ _ _ _ _ _ _);refine RM.o8 rfl ?_) |((with_reducible show wpBin _ _ _ _ _ _ _ _ _);refine RM.b9 rfl rfl ?_) |fail)
  refine RM.e1 rfl ⟨fun hc => ?_, fun hc => ?_⟩
  · rw [decide_eq_true_eq] at hc
    obtain ⟨d, rfl⟩ : ∃ d : Nat, x = d := ⟨x.toNat, by omega⟩
    have hmd : m = d + 1 := by omega
    subst hmd
    have hla := hla d
    unfold lastD at hq
    cases hb : !L.any (runsShort s.men k row (d : Int)) with
    | true =>
      rw [hb] at hla
      rw [hb, if_pos rfl] at hq
      have hv : rationV r = .tp [I64 d, I64 0] := by
        unfold rationV
        rw [if_neg (by omega), hq]
      rw [hv]
      repeat' (first |(refine ldHO (s := s) (k := k) (row := row) h30 rfl rfl ?_) |with_reducible (first|refine RM.c1 ?_|refine RM.c2 ?_|refine RM.c3 ?_|refine RM.c4 ?_|refine RM.c7 ?_|refine RM.c9 ?_|refine RM.d1 ?_|refine RM.d4 ?_|refine RM.o1 ?_|refine RM.o2 ?_|refine RM.o4 ?_|refine RM.o5 ?_|refine RM.o7 ?_|refine RM.o9 ?_|refine RM.p1 ?_|refine RM.p2 ?_|refine RM.p3 ?_|refine RM.q1 ?_) |((with_reducible show force _ _);first|refine RM.f1 rfl ?_|refine RM.f2 rfl ?_|refine RM.f4 rfl ?_|refine RM.f5 rfl ?_) |((with_reducible show wpOne _ _ _ _ _ _ _ _ _ _ _ _);refine RM.o8 rfl ?_) |((with_reducible show wpC _ _ _ _ (.cond _ _ _) _ _);refine RM.e2 rfl rfl ?_) |(refine PureV.call hla rfl (hdeep rfl) ?_) |fail)
      exact ⟨[_, _], ⟨Fz.deep rfl, Fz.deep rfl, trivial⟩, rfl⟩
    | false =>
      rw [hb] at hla
      rw [hb, if_neg (by decide)] at hq
      repeat' (first |(refine ldHO (s := s) (k := k) (row := row) h30 rfl rfl ?_) |with_reducible (first|refine RM.c1 ?_|refine RM.c2 ?_|refine RM.c3 ?_|refine RM.c4 ?_|refine RM.c9 ?_|refine RM.d3 ?_|refine RM.o1 ?_|refine RM.o2 ?_|refine RM.o4 ?_|refine RM.o5 ?_|refine RM.o7 ?_|refine RM.o9 ?_|refine RM.p1 ?_|refine RM.p2 ?_|refine RM.p3 ?_|refine RM.p5 ?_) |((with_reducible show force _ _);first|refine RM.f1 rfl ?_|refine RM.f2 rfl ?_|refine RM.f4 rfl ?_|refine RM.f5 rfl ?_) |((with_reducible show wpOne _ _ _ _ _ _ _ _ _ _ _ _);refine RM.o8 rfl ?_) |((with_reducible show wpC _ _ _ _ (.cond _ _ _) _ _);refine RM.e3 rfl rfl ?_) |((with_reducible show wpBin _ _ _ _ _ _ _ _ _);refine RM.b2 rfl rfl (by omega) ?_) |(refine PureV.call hla rfl (hdeep rfl) ?_) |fail)
      exact ⟨(d : Int) - 1, ⟨d, rfl, by omega, hq⟩, (by dsimp only; omega), Weaker.to 1 rfl ⟨rfl, rfl, rfl, trivial⟩ (Nat.zero_le _) rfl hin⟩
  · rw [decide_eq_false_iff_not] at hc
    have hm0 : m = 0 := by omega
    subst hm0
    have hv : rationV r = .tp [I64 0, I64 9] := by
      unfold rationV
      rw [if_pos (by rw [← hq]; show (-1 : Int) < 0; decide)]
    rw [hv]
    repeat' (first |with_reducible (first|refine RM.c2 ?_|refine RM.c4 ?_|refine RM.c6 ?_|refine RM.c7 ?_|refine RM.c9 ?_|refine RM.d2 ?_|refine RM.o1 ?_|refine RM.o2 ?_|refine RM.o4 ?_|refine RM.o5 ?_|refine RM.p3 ?_|refine RM.q2 ?_) |((with_reducible show force _ _);refine RM.f1 rfl ?_) |((with_reducible show wpOne _ _ _ _ _ _ _ _ _ _ _ _);refine RM.o8 rfl ?_) |((with_reducible show blockK _ _ _ _);refine RM.d5 rfl ?_) |fail)
    exact ⟨[_, _], ⟨Fz.deep rfl, Fz.deep rfl, trivial⟩, rfl⟩
end Go.Proofs.Ytmkaeohmdcoanaa
open Go Go.RM
namespace Go.Proofs.Ytmkaeohmdcoanaa
set_option maxRecDepth 100000
set_option maxHeartbeats 4000000
end Go.Proofs.Ytmkaeohmdcoanaa
open Go Go.RM
namespace Go.Proofs.Ytmkaeohmdcoanaa
set_option maxRecDepth 100000
set_option maxHeartbeats 4000000
theorem truthAny {k : Kind} (h : KindGood k) (a b c : Int) : truthOk k (anyT k a b c) = true := by
  have hs := h.spans
  have h1 := amongI_in hs.1 a
  have h2 := amongI_in hs.2.1 b
  have h3 := amongI_in hs.2.2 c
  unfold truthOk anyT
  simp only [Bool.and_eq_true, inB_iff]
  exact ⟨h1, h2, h3⟩
theorem modN {a : Int} {n : Nat} (hn : 0 < n) : ∃ i : Nat, i < n ∧ a % (n : Int) = i := by
  have h1 := Int.emod_nonneg a (show (n : Int) ≠ 0 by omega)
  have h2 := Int.emod_lt_of_pos a (show 0 < (n : Int) by omega)
  exact ⟨(a % (n : Int)).toNat, by omega, by omega⟩
def agrL (l : List Count) (i : Nat) (L : List Int) : Bool := l.all fun c => !decide (c.kind = (i : Int)) || cntIn L c
theorem agrees44_c (one : Bool) (l : List Count) (i : Nat) (L : List Int) (hl : l.length ≤ 8) (hd : ∀ c ∈ l, 0 ≤ c.day ∧ c.day < L.length) :
    Pu one 44 [.sl (l.map eCount) false, I64 i, .sl (L.map eI) false] (BB (agrL l i L)) := by
  have el : ((l.map eCount).length : Int) = l.length := by simp
  unfold agrL
  generalize hff : (fun c : Count => !decide (c.kind = (i : Int)) || cntIn L c) = ff
  have hfa : ∀ c : Count, ff c = (!decide (c.kind = (i : Int)) || cntIn L c) := fun c => by rw [← hff]
  refine PureV.body (fn := Try.f44) rfl rfl rfl rfl ?_
  refine wpC_sound (mu := fun _ => false) ?_
  repeat' (first |with_reducible (first|refine RM.c2 ?_|refine RM.c3 ?_|refine RM.c4 ?_|refine RM.c9 ?_|refine RM.o1 ?_|refine RM.o2 ?_|refine RM.o4 ?_|refine RM.o5 ?_|refine RM.p3 ?_) |((with_reducible show force _ _);refine RM.f1 rfl ?_) |((with_reducible show wpOne _ _ _ _ _ _ _ _ _ _ _ _);refine RM.o8 rfl ?_) |fail)
  refine SemC.weaker (Weaker.to (l := [(0, .sl (l.map eCount) false), (1, I64 i), (2, .sl (L.map eI) false), (7, I64 (0 : Nat))]) (hp := []) 0 rfl ⟨rfl, rfl, rfl, rfl, trivial⟩ (Nat.zero_le _) rfl rfl) ?_
  refine SemC.loop (fun j : Nat => j ≤ l.length ∧ (l.take j).all ff = true) (fun j => ⟨mkFr [(0, .sl (l.map eCount) false), (1, I64 i), (2, .sl (L.map eI) false), (7, I64 (j : Nat))], [], Amb.none, false, 0⟩) (fun j => l.length - j) ?_ 0 ⟨Nat.zero_le _, rfl⟩
  rintro j ⟨hj, hno⟩
  refine wpC_sound (mu := fun _ => false) ?_
  repeat' (first |with_reducible (first|refine RM.c2 ?_|refine RM.c4 ?_|refine RM.c9 ?_|refine RM.o1 ?_|refine RM.o2 ?_|refine RM.o4 ?_|refine RM.o5 ?_|refine RM.p2 ?_|refine RM.p5 ?_|refine RM.p6 ?_) |((with_reducible show force _ _);first|refine RM.f1 rfl ?_|refine RM.f2 rfl ?_) |((with_reducible show wpOne _ _ _ _ _ _ _ _ _ _ _ _);refine RM.o8 rfl ?_) |((with_reducible show wpBin _ _ _ _ _ _ _ _ _);refine RM.b6 rfl rfl ?_) |((with_reducible show wpLen _ _ _ _ _);refine RM.l1 rfl ?_) |fail)
  refine RM.e1 rfl ⟨fun hc => ?_, fun hc => ?_⟩
  · have hlt : j < l.length := by simpa only [el, decide_eq_true_eq, Int.ofNat_lt] using hc
    have hat := all_take (f := ff) hlt
    have hagc := agrees_c one l[j] L (hd _ (List.getElem_mem hlt))
    rw [hno, Bool.true_and, hfa] at hat
    by_cases hk : l[j].kind = (i : Int)
    · have d1 : decide (l[j].kind = (i : Int)) = true := decide_eq_true hk
      rw [d1, Bool.not_true, Bool.false_or] at hat
      cases hb : cntIn L l[j] with
      | true =>
        rw [hb] at hat hagc
        repeat' (first |with_reducible (first|refine RM.c1 ?_|refine RM.c2 ?_|refine RM.c3 ?_|refine RM.c4 ?_|refine RM.c9 ?_|refine RM.d3 ?_|refine RM.o1 ?_|refine RM.o2 ?_|refine RM.o4 ?_|refine RM.o5 ?_|refine RM.o7 ?_|refine RM.o9 ?_|refine RM.p1 ?_|refine RM.p2 ?_|refine RM.p3 ?_|refine RM.p4 ?_|refine RM.p5 ?_) |((with_reducible show force _ _);first|refine RM.f1 rfl ?_|refine RM.f2 rfl ?_|refine RM.f3 rfl ?_|refine RM.f4 rfl ?_|refine RM.f5 rfl ?_) |((with_reducible show wpOne _ _ _ _ _ _ _ _ _ _ _ _);refine RM.o8 rfl ?_) |((with_reducible show wpGuard _ _ _ _ _);refine wpGuard_yes rfl rfl (by assumption) ?_) |((with_reducible show wpC _ _ _ _ (.cond _ _ _) _ _);refine RM.e3 rfl rfl ?_) |((with_reducible show wpPick _ _ _ _ _);refine RM.k1 rfl ?_) |((with_reducible show wpPickB _ _ _ _ _);refine RM.k2 (by assumption) ?_) |((with_reducible show wpBin _ _ _ _ _ _ _ _ _);first|refine RM.b4 rfl rfl ?_|refine RM.b1 rfl rfl (by omega) ?_) |((with_reducible show RM.wpOp _ _ _ _ _ _);refine RM.n3 rfl ?_) |(refine ⟨_, rfl, ?_⟩) |(refine ⟨_, _, rfl, by decide, ?_⟩) |(refine And.intro (Nat.le_of_ble_eq_true rfl) ?_) |(refine ⟨eCount l[j], ⟨by omega, map_at hlt⟩, rfl, ?_⟩) |(refine PureV.call hagc rfl rfl ?_) |fail)
        exact ⟨j + 1, ⟨hlt, hat⟩, (by dsimp only; omega), Weaker.to 0 rfl ⟨rfl, rfl, rfl, i64c (by simp), trivial⟩ (Nat.zero_le _) rfl rfl⟩
      | false =>
        rw [hb] at hagc
        have hall : l.all ff = false := by
          apply Bool.eq_false_iff.2
          intro h
          have h1 := List.all_eq_true.1 h _ (List.getElem_mem hlt)
          rw [hfa, d1, hb] at h1
          exact absurd h1 (by decide)
        rw [hall]
        repeat' (first |with_reducible (first|refine RM.c1 ?_|refine RM.c2 ?_|refine RM.c3 ?_|refine RM.c4 ?_|refine RM.c7 ?_|refine RM.c9 ?_|refine RM.d1 ?_|refine RM.d4 ?_|refine RM.o1 ?_|refine RM.o2 ?_|refine RM.o4 ?_|refine RM.o5 ?_|refine RM.o7 ?_|refine RM.o9 ?_|refine RM.p1 ?_|refine RM.p2 ?_|refine RM.p3 ?_|refine RM.p4 ?_|refine RM.p5 ?_|refine RM.q1 ?_) |((with_reducible show force _ _);first|refine RM.f1 rfl ?_|refine RM.f2 rfl ?_|refine RM.f3 rfl ?_|refine RM.f4 rfl ?_|refine RM.f5 rfl ?_) |((with_reducible show wpOne _ _ _ _ _ _ _ _ _ _ _ _);refine RM.o8 rfl ?_) |((with_reducible show wpGuard _ _ _ _ _);refine wpGuard_yes rfl rfl (by assumption) ?_) |((with_reducible show wpC _ _ _ _ (.cond _ _ _) _ _);refine RM.e2 rfl rfl ?_) |((with_reducible show wpPick _ _ _ _ _);refine RM.k1 rfl ?_) |((with_reducible show wpPickB _ _ _ _ _);refine RM.k2 (by assumption) ?_) |((with_reducible show wpBin _ _ _ _ _ _ _ _ _);refine RM.b4 rfl rfl ?_) |((with_reducible show RM.wpOp _ _ _ _ _ _);refine RM.n3 rfl ?_) |(refine ⟨_, rfl, ?_⟩) |(refine ⟨_, _, rfl, by decide, ?_⟩) |(refine And.intro (Nat.le_of_ble_eq_true rfl) ?_) |(refine ⟨eCount l[j], ⟨by omega, map_at hlt⟩, rfl, ?_⟩) |(refine PureV.call hagc rfl rfl ?_) |fail)
        exact ⟨[_], ⟨Fz.deep rfl, trivial⟩, rfl⟩
    · have d1 : decide (l[j].kind = (i : Int)) = false := decide_eq_false hk
      rw [d1, Bool.not_false, Bool.true_or] at hat
      repeat' (first |with_reducible (first|refine RM.c1 ?_|refine RM.c2 ?_|refine RM.c3 ?_|refine RM.c4 ?_|refine RM.c9 ?_|refine RM.d3 ?_|refine RM.o1 ?_|refine RM.o2 ?_|refine RM.o4 ?_|refine RM.o5 ?_|refine RM.p2 ?_|refine RM.p3 ?_|refine RM.p4 ?_|refine RM.p5 ?_) |((with_reducible show force _ _);first|refine RM.f1 rfl ?_|refine RM.f2 rfl ?_|refine RM.f3 rfl ?_) |((with_reducible show wpOne _ _ _ _ _ _ _ _ _ _ _ _);refine RM.o8 rfl ?_) |((with_reducible show wpGuard _ _ _ _ _);refine wpGuard_no rfl rfl (by assumption) ?_) |((with_reducible show wpC _ _ _ _ (.cond _ _ _) _ _);refine RM.e3 rfl rfl ?_) |((with_reducible show wpPick _ _ _ _ _);refine RM.k1 rfl ?_) |((with_reducible show wpPickB _ _ _ _ _);refine RM.k3 (by assumption) ?_) |((with_reducible show wpBin _ _ _ _ _ _ _ _ _);first|refine RM.b4 rfl rfl ?_|refine RM.b1 rfl rfl (by omega) ?_) |(refine ⟨_, rfl, ?_⟩) |(refine ⟨_, _, rfl, by decide, ?_⟩) |(refine ⟨eCount l[j], ⟨by omega, map_at hlt⟩, rfl, ?_⟩) |fail)
      exact ⟨j + 1, ⟨hlt, hat⟩, (by dsimp only; omega), Weaker.to 0 rfl ⟨rfl, rfl, rfl, i64c (by simp), trivial⟩ (Nat.zero_le _) rfl rfl⟩
  · have hjl : l.take j = l := List.take_of_length_le (by rw [el, decide_eq_false_iff_not] at hc; omega)
    rw [hjl] at hno
    rw [hno]
    repeat' (first |with_reducible (first|refine RM.c2 ?_|refine RM.c4 ?_|refine RM.c6 ?_|refine RM.c7 ?_|refine RM.c9 ?_|refine RM.d2 ?_|refine RM.o1 ?_|refine RM.o2 ?_|refine RM.o4 ?_|refine RM.o5 ?_|refine RM.p3 ?_|refine RM.q2 ?_) |((with_reducible show force _ _);refine RM.f1 rfl ?_) |((with_reducible show wpOne _ _ _ _ _ _ _ _ _ _ _ _);refine RM.o8 rfl ?_) |((with_reducible show blockK _ _ _ _);refine RM.d5 rfl ?_) |fail)
    exact ⟨[_], ⟨Fz.deep rfl, trivial⟩, rfl⟩
theorem follow_l (one : Bool) {s : Stores} (hg : Good s) {i : Nat} (hi : i < s.kinds.length) {t : Truth} (h : RunOk s.men s.kinds[i] (cargoRow i s.cargos) t) :
    ∃ u b : Int, Pu one 42 [.ag (eStores s), I64 i, .ag (eTruth t), I64 s.men.length] (.tp [.sl ((lvl s.men s.kinds[i] (cargoRow i s.cargos) t).map eI) false, I64 (shortF s.men s.kinds[i] (cargoRow i s.cargos) t), I64 u, I64 b]) := by
  have := follow_c one s hg i hi t s.men.length h
  rw [show ((List.range (s.men.length + 1)).map fun j => eI (haveAt s.men s.kinds[i] (cargoRow i s.cargos) t s.men.length j)) = (lvl s.men s.kinds[i] (cargoRow i s.cargos) t).map eI by unfold lvl; rw [List.map_map]; rfl] at this
  exact ⟨_, _, this⟩
end Go.Proofs.Ytmkaeohmdcoanaa
open Go Go.RM
namespace Go.Proofs.Ytmkaeohmdcoanaa
set_option maxRecDepth 100000
set_option maxHeartbeats 4000000
theorem any_false {α : Type} {f : α → Bool} {l : List α} (h : ∀ t ∈ l, f t = false) : l.any f = false := by
  apply Bool.eq_false_iff.2
  intro hh
  obtain ⟨t, ht, h1⟩ := List.any_eq_true.1 hh
  rw [h t ht] at h1
  cases h1
theorem eked_c (one : Bool) (s : Stores) (l : List Count) (h0 : cntsErr s l = 0) (i : Nat) (hi : i < s.kinds.length) (down : Int) :
    Pu one 48 [.ag (eStores s), .sl (l.map eCount) false, I64 i, I64 down] (BB (!(allS s l i s.kinds[i]).any (runsShort s.men s.kinds[i] (cargoRow i s.cargos) down))) := by
  obtain ⟨hg, hl8, hlc⟩ := cnts_good h0
  have hh := holdOk h0 hi
  have em : ((s.men.map eI).length : Int) = s.men.length := by simp
  have k1 := hh.kind.first
  have k2 := hh.kind.man
  have k3 := hh.kind.ship
  have hidx : (s.kinds.map eKind)[((i : Nat) : Int).toNat]? = some (eKind s.kinds[i]) := map_at hi
  have hfl := fun t h => follow_l one hg hi (t := t) h
  have hfd := fun t h => follow_c one s hg i hi t down h
  have hagc := fun t => agrees44_c one l i (lvl s.men s.kinds[i] (cargoRow i s.cargos) t) hl8 (fun c hc => by rw [lvl_len]; have := hlc c hc; omega)
  have hrun : ∀ n m p : Int, s.kinds[i].first.lo ≤ n ∧ n ≤ s.kinds[i].first.hi → s.kinds[i].man.lo ≤ m ∧ m ≤ s.kinds[i].man.hi → s.kinds[i].ship.lo ≤ p ∧ p ≤ s.kinds[i].ship.hi → RunOk s.men s.kinds[i] (cargoRow i s.cargos) ⟨n, m, p⟩ := fun n m p a b c => hh.run a b c
  have hiff : ∀ t, t ∈ allS s l i s.kinds[i] ↔ truthOk s.kinds[i] t = true ∧ agrL l i (lvl s.men s.kinds[i] (cargoRow i s.cargos) t) = true := fun t => all_iff
  have hwo := short_worse s.men s.kinds[i] (cargoRow i s.cargos) down
  have hsd : ∀ t, runsShort s.men s.kinds[i] (cargoRow i s.cargos) down t = decide (shortAt s.men s.kinds[i] (cargoRow i s.cargos) t down s.men.length < s.men.length) := fun t => rfl
  rw [← em] at hsd
  clear hh
  generalize allS s l i s.kinds[i] = A at *
  generalize cargoRow i s.cargos = row at *
  generalize s.kinds[i] = k at *
  generalize runsShort s.men k row down = R at *
  rw [← em] at hfl
  refine PureV.body (fn := Try.f48) rfl rfl rfl rfl ?_
  refine wpC_sound (mu := fun _ => false) ?_
  repeat' (first |with_reducible (first|refine RM.c2 ?_|refine RM.c3 ?_|refine RM.c4 ?_|refine RM.c9 ?_|refine RM.o1 ?_|refine RM.o2 ?_|refine RM.o4 ?_|refine RM.o5 ?_|refine RM.o6 ?_|refine RM.p2 ?_|refine RM.p3 ?_) |((with_reducible show force _ _);first|refine RM.f1 rfl ?_|refine RM.f2 rfl ?_|refine RM.f3 rfl ?_|refine RM.f5 rfl ?_|refine RM.f7 rfl ?_|refine RM.g2 rfl ?_) |((with_reducible show wpOne _ _ _ _ _ _ _ _ _ _ _ _);refine RM.o8 rfl ?_) |(refine ⟨_, rfl, ?_⟩) |(refine ⟨_, _, rfl, by decide, ?_⟩) |(refine ⟨rfl, rfl, rfl, ?_⟩) |(refine ⟨_, _, rfl, _, rfl, ?_⟩) |(refine And.intro (Nat.le_of_ble_eq_true rfl) ?_) |(refine And.intro (by kernel_rfl) ?_) |(refine ⟨_, _, rfl, rfl, rfl, rfl, Nat.le_of_ble_eq_true rfl, ?_⟩) |(refine ⟨eKind k, ⟨by omega, hidx⟩, rfl, ?_⟩) |fail)
  refine SemC.weaker (Weaker.to (l := [(1, .sl (l.map eCount) false), (2, I64 i), (3, I64 down), (4, .pt (eStores s) 0), (9, .ptr 0 0 0), (10, I64 (k.man.lo))]) (hp := [.cells (eKind k) 0 0]) 1 rfl ⟨rfl, rfl, rfl, rfl, rfl, rfl, trivial⟩ (Nat.zero_le _) rfl rfl) ?_
  refine SemC.loop (fun m : Int => (k.man.lo ≤ m ∧ m ≤ k.man.hi + 1) ∧ ∀ t ∈ A, t.man < m → R t = false) (fun m => ⟨mkFr [(1, .sl (l.map eCount) false), (2, I64 i), (3, I64 down), (4, .pt (eStores s) 0), (9, .ptr 0 0 0), (10, I64 (m))], [.cells (eKind k) 0 0], Amb.none, false, 0⟩) (fun m => (k.man.hi + 1 - m).toNat) ?_ k.man.lo ⟨by omega, fun t ht hlt => by have := truthOk_iff.1 ((hiff t).1 ht).1; omega⟩
  rintro m ⟨hm, hmR⟩
  refine wpC_sound (mu := fun _ => false) ?_
  repeat' (first |with_reducible (first|refine RM.c2 ?_|refine RM.c4 ?_|refine RM.c9 ?_|refine RM.o1 ?_|refine RM.o2 ?_|refine RM.o4 ?_|refine RM.o5 ?_|refine RM.p2 ?_|refine RM.p5 ?_) |((with_reducible show force _ _);first|refine RM.f1 rfl ?_|refine RM.f7 rfl ?_) |((with_reducible show wpOne _ _ _ _ _ _ _ _ _ _ _ _);refine RM.o8 rfl ?_) |((with_reducible show wpBin _ _ _ _ _ _ _ _ _);refine RM.b7 rfl rfl ?_) |(refine ⟨_, _, rfl, by decide, ?_⟩) |(refine ⟨_, _, rfl, _, rfl, ?_⟩) |fail)
  refine RM.e1 rfl ⟨fun hc => ?_, fun hc => ?_⟩
  · rw [decide_eq_true_eq] at hc
    repeat' (first |with_reducible (first|refine RM.c1 ?_|refine RM.c2 ?_|refine RM.c3 ?_|refine RM.c4 ?_|refine RM.c9 ?_|refine RM.o1 ?_|refine RM.o2 ?_|refine RM.o4 ?_|refine RM.o5 ?_|refine RM.p3 ?_) |((with_reducible show force _ _);first|refine RM.f1 rfl ?_|refine RM.f7 rfl ?_) |((with_reducible show wpOne _ _ _ _ _ _ _ _ _ _ _ _);refine RM.o8 rfl ?_) |(refine ⟨_, _, rfl, by decide, ?_⟩) |(refine ⟨_, _, rfl, _, rfl, ?_⟩) |fail)
    refine SemC.weaker (Weaker.to (l := [(1, .sl (l.map eCount) false), (2, I64 i), (3, I64 down), (4, .pt (eStores s) 0), (9, .ptr 0 0 0), (10, I64 (m)), (11, I64 (k.ship.lo))]) (hp := [.cells (eKind k) 0 0]) 1 rfl ⟨rfl, rfl, rfl, rfl, rfl, rfl, rfl, trivial⟩ (Nat.zero_le _) rfl rfl) ?_
    refine SemC.loop (fun p : Int => (k.ship.lo ≤ p ∧ p ≤ k.ship.hi + 1) ∧ ∀ t ∈ A, t.man = m → t.ship < p → R t = false) (fun p => ⟨mkFr [(1, .sl (l.map eCount) false), (2, I64 i), (3, I64 down), (4, .pt (eStores s) 0), (9, .ptr 0 0 0), (10, I64 (m)), (11, I64 (p))], [.cells (eKind k) 0 0], Amb.none, false, 0⟩) (fun p => (k.ship.hi + 1 - p).toNat) ?_ k.ship.lo ⟨by omega, fun t ht _ hlt => by have := truthOk_iff.1 ((hiff t).1 ht).1; omega⟩
    rintro p ⟨hp, hpR⟩
    refine wpC_sound (mu := fun _ => false) ?_
    repeat' (first |with_reducible (first|refine RM.c2 ?_|refine RM.c4 ?_|refine RM.c9 ?_|refine RM.o1 ?_|refine RM.o2 ?_|refine RM.o4 ?_|refine RM.o5 ?_|refine RM.p2 ?_|refine RM.p5 ?_) |((with_reducible show force _ _);first|refine RM.f1 rfl ?_|refine RM.f7 rfl ?_) |((with_reducible show wpOne _ _ _ _ _ _ _ _ _ _ _ _);refine RM.o8 rfl ?_) |((with_reducible show wpBin _ _ _ _ _ _ _ _ _);refine RM.b7 rfl rfl ?_) |(refine ⟨_, _, rfl, by decide, ?_⟩) |(refine ⟨_, _, rfl, _, rfl, ?_⟩) |fail)
    refine RM.e1 rfl ⟨fun hc2 => ?_, fun hc2 => ?_⟩
    · rw [decide_eq_true_eq] at hc2
      repeat' (first |with_reducible (first|refine RM.c1 ?_|refine RM.c2 ?_|refine RM.c3 ?_|refine RM.c4 ?_|refine RM.c9 ?_|refine RM.o1 ?_|refine RM.o2 ?_|refine RM.o4 ?_|refine RM.o5 ?_|refine RM.p3 ?_) |((with_reducible show force _ _);first|refine RM.f1 rfl ?_|refine RM.f7 rfl ?_) |((with_reducible show wpOne _ _ _ _ _ _ _ _ _ _ _ _);refine RM.o8 rfl ?_) |(refine ⟨_, _, rfl, by decide, ?_⟩) |(refine ⟨_, _, rfl, _, rfl, ?_⟩) |fail)
      refine SemC.weaker (Weaker.to (l := [(1, .sl (l.map eCount) false), (2, I64 i), (3, I64 down), (4, .pt (eStores s) 0), (9, .ptr 0 0 0), (10, I64 (m)), (11, I64 (p)), (12, I64 (k.first.lo))]) (hp := [.cells (eKind k) 0 0]) 1 rfl ⟨rfl, rfl, rfl, rfl, rfl, rfl, rfl, rfl, trivial⟩ (Nat.zero_le _) rfl rfl) ?_
      refine SemC.loop (fun a : Int => (k.first.lo ≤ a ∧ a ≤ k.first.hi + 1) ∧ ∀ t ∈ A, t.man = m → t.ship = p → a ≤ t.first) (fun a => ⟨mkFr [(1, .sl (l.map eCount) false), (2, I64 i), (3, I64 down), (4, .pt (eStores s) 0), (9, .ptr 0 0 0), (10, I64 (m)), (11, I64 (p)), (12, I64 (a))], [.cells (eKind k) 0 0], Amb.none, false, 0⟩) (fun a => (k.first.hi + 1 - a).toNat) ?_ k.first.lo ⟨by omega, fun t ht _ _ => by have := truthOk_iff.1 ((hiff t).1 ht).1; omega⟩
      rintro a ⟨ha, haR⟩
      refine wpC_sound (mu := fun _ => false) ?_
      repeat' (first |with_reducible (first|refine RM.c2 ?_|refine RM.c4 ?_|refine RM.c9 ?_|refine RM.o1 ?_|refine RM.o2 ?_|refine RM.o4 ?_|refine RM.o5 ?_|refine RM.p2 ?_|refine RM.p5 ?_) |((with_reducible show force _ _);first|refine RM.f1 rfl ?_|refine RM.f7 rfl ?_) |((with_reducible show wpOne _ _ _ _ _ _ _ _ _ _ _ _);refine RM.o8 rfl ?_) |((with_reducible show wpBin _ _ _ _ _ _ _ _ _);refine RM.b7 rfl rfl ?_) |(refine ⟨_, _, rfl, by decide, ?_⟩) |(refine ⟨_, _, rfl, _, rfl, ?_⟩) |fail)
      refine RM.e1 rfl ⟨fun hc3 => ?_, fun hc3 => ?_⟩
      · rw [decide_eq_true_eq] at hc3
        have hrn := hrun a m p (by omega) (by omega) (by omega)
        obtain ⟨u1, b1, hfl⟩ := hfl ⟨a, m, p⟩ hrn
        have hfd := hfd ⟨a, m, p⟩ hrn
        have hagc := hagc ⟨a, m, p⟩
        have hsd := hsd ⟨a, m, p⟩
        have hok : truthOk k ⟨a, m, p⟩ = true := truthOk_iff.2 ⟨by dsimp only; omega, by dsimp only; omega, by dsimp only; omega⟩
        have hin := hiff ⟨a, m, p⟩
        cases hag : agrL l i (lvl s.men k row ⟨a, m, p⟩) with
        | false =>
          rw [hag] at hagc
          repeat' (first |with_reducible (first|refine RM.c1 ?_|refine RM.c2 ?_|refine RM.c3 ?_|refine RM.c4 ?_|refine RM.c6 ?_|refine RM.c9 ?_|refine RM.d2 ?_|refine RM.o1 ?_|refine RM.o2 ?_|refine RM.o4 ?_|refine RM.o5 ?_|refine RM.o6 ?_|refine RM.o7 ?_|refine RM.o9 ?_|refine RM.p1 ?_|refine RM.p2 ?_|refine RM.p3 ?_|refine RM.p5 ?_|refine RM.p6 ?_) |((with_reducible show force _ _);first|refine RM.f1 rfl ?_|refine RM.f2 rfl ?_|refine RM.f3 rfl ?_|refine RM.f4 rfl ?_|refine RM.f5 rfl ?_|refine RM.f6 rfl ?_|refine RM.f7 rfl ?_|refine RM.g2 rfl ?_) |((with_reducible show wpOne _ _ _ _ _ _ _ _ _ _ _ _);refine RM.o8 rfl ?_) |((with_reducible show wpC _ _ _ _ (.cond _ _ _) _ _);refine RM.e2 rfl rfl ?_) |((with_reducible show wpBin _ _ _ _ _ _ _ _ _);refine RM.b1 rfl rfl (by omega) ?_) |((with_reducible show wpLen _ _ _ _ _);refine RM.l1 rfl ?_) |((with_reducible show blockK _ _ _ _);refine RM.d5 rfl ?_) |((with_reducible show RM.wpOp _ _ _ _ _ _);refine RM.n3 rfl ?_) |(refine ⟨_, rfl, ?_⟩) |(refine ⟨_, _, rfl, by decide, ?_⟩) |(refine And.intro (Nat.le_of_ble_eq_true rfl) ?_) |(refine And.intro (by kernel_rfl) ?_) |(refine ⟨_, _, rfl, rfl, rfl, rfl, Nat.le_of_ble_eq_true rfl, ?_⟩) |(refine ⟨_, _, rfl, Nat.le_of_ble_eq_true rfl, ?_⟩) |(refine PureV.call hfl rfl rfl ?_) |(refine PureV.call hagc rfl rfl ?_) |fail)
          refine ⟨a + 1, ⟨by omega, fun t ht h1 h2 => ?_⟩, (by dsimp only; omega), Weaker.to 1 rfl ⟨rfl, rfl, rfl, rfl, rfl, rfl, rfl, rfl, trivial⟩ (Nat.zero_le _) rfl rfl⟩
          have h3 := haR t ht h1 h2
          by_cases h4 : t.first = a
          · exfalso
            obtain ⟨ta, tm, tp⟩ := t
            dsimp only at h1 h2 h4
            subst h1 h2 h4
            have := (hin.1 ht).2
            rw [hag] at this
            cases this
          · omega
        | true =>
          rw [hag] at hagc
          cases hR : R ⟨a, m, p⟩ with
          | true =>
            rw [hR] at hsd
            have hany : A.any R = true := List.any_eq_true.2 ⟨_, hin.2 ⟨hok, hag⟩, hR⟩
            rw [hany]
            have hsd := hsd.symm
            repeat' (first |with_reducible (first|refine RM.c1 ?_|refine RM.c2 ?_|refine RM.c3 ?_|refine RM.c4 ?_|refine RM.c7 ?_|refine RM.c9 ?_|refine RM.d1 ?_|refine RM.d4 ?_|refine RM.o1 ?_|refine RM.o2 ?_|refine RM.o4 ?_|refine RM.o5 ?_|refine RM.o6 ?_|refine RM.o7 ?_|refine RM.o9 ?_|refine RM.p1 ?_|refine RM.p2 ?_|refine RM.p3 ?_|refine RM.p5 ?_|refine RM.p6 ?_|refine RM.q1 ?_) |((with_reducible show force _ _);first|refine RM.f1 rfl ?_|refine RM.f2 rfl ?_|refine RM.f3 rfl ?_|refine RM.f4 rfl ?_|refine RM.f5 rfl ?_|refine RM.f6 rfl ?_|refine RM.f7 rfl ?_|refine RM.g2 rfl ?_) |((with_reducible show wpOne _ _ _ _ _ _ _ _ _ _ _ _);refine RM.o8 rfl ?_) |((with_reducible show wpC _ _ _ _ (.cond _ _ _) _ _);first|refine RM.e3 rfl rfl ?_|refine RM.e2 rfl (by assumption) ?_) |((with_reducible show wpBin _ _ _ _ _ _ _ _ _);refine RM.b6 rfl rfl ?_) |((with_reducible show wpLen _ _ _ _ _);refine RM.l1 rfl ?_) |((with_reducible show RM.wpOp _ _ _ _ _ _);refine RM.n3 rfl ?_) |(refine ⟨_, rfl, ?_⟩) |(refine ⟨_, _, rfl, by decide, ?_⟩) |(refine And.intro (Nat.le_of_ble_eq_true rfl) ?_) |(refine And.intro (by kernel_rfl) ?_) |(refine ⟨_, _, rfl, rfl, rfl, rfl, Nat.le_of_ble_eq_true rfl, ?_⟩) |(refine ⟨_, _, rfl, Nat.le_of_ble_eq_true rfl, ?_⟩) |(refine PureV.call hfl rfl rfl ?_) |(refine PureV.call hagc rfl rfl ?_) |(refine PureV.call hfd rfl rfl ?_) |fail)
            exact ⟨[_], ⟨Fz.deep rfl, trivial⟩, rfl⟩
          | false =>
            rw [hR] at hsd
            have hsd := hsd.symm
            repeat' (first |with_reducible (first|refine RM.c1 ?_|refine RM.c2 ?_|refine RM.c3 ?_|refine RM.c4 ?_|refine RM.c6 ?_|refine RM.c9 ?_|refine RM.d2 ?_|refine RM.d3 ?_|refine RM.o1 ?_|refine RM.o2 ?_|refine RM.o4 ?_|refine RM.o5 ?_|refine RM.o6 ?_|refine RM.o7 ?_|refine RM.o9 ?_|refine RM.p1 ?_|refine RM.p2 ?_|refine RM.p3 ?_|refine RM.p5 ?_|refine RM.p6 ?_|refine RM.q2 ?_) |((with_reducible show force _ _);first|refine RM.f1 rfl ?_|refine RM.f2 rfl ?_|refine RM.f3 rfl ?_|refine RM.f4 rfl ?_|refine RM.f5 rfl ?_|refine RM.f6 rfl ?_|refine RM.f7 rfl ?_|refine RM.g2 rfl ?_) |((with_reducible show wpOne _ _ _ _ _ _ _ _ _ _ _ _);refine RM.o8 rfl ?_) |((with_reducible show wpC _ _ _ _ (.cond _ _ _) _ _);first|refine RM.e3 rfl rfl ?_|refine RM.e3 rfl (by assumption) ?_) |((with_reducible show wpBin _ _ _ _ _ _ _ _ _);first|refine RM.b6 rfl rfl ?_|refine RM.b1 rfl rfl (by omega) ?_) |((with_reducible show wpLen _ _ _ _ _);refine RM.l1 rfl ?_) |((with_reducible show blockK _ _ _ _);first|refine RM.d5 rfl ?_|refine RM.d6 rfl ?_) |((with_reducible show RM.wpOp _ _ _ _ _ _);refine RM.n3 rfl ?_) |(refine ⟨_, rfl, ?_⟩) |(refine ⟨_, _, rfl, by decide, ?_⟩) |(refine And.intro (Nat.le_of_ble_eq_true rfl) ?_) |(refine And.intro (by kernel_rfl) ?_) |(refine ⟨_, _, rfl, rfl, rfl, rfl, Nat.le_of_ble_eq_true rfl, ?_⟩) |(refine ⟨_, _, rfl, Nat.le_of_ble_eq_true rfl, ?_⟩) |(refine PureV.call hfl rfl rfl ?_) |(refine PureV.call hagc rfl rfl ?_) |(refine PureV.call hfd rfl rfl ?_) |fail)
            refine ⟨p + 1, ⟨by omega, fun t ht h1 h2 => ?_⟩, (by dsimp only; omega), Weaker.to 1 rfl ⟨rfl, rfl, rfl, rfl, rfl, rfl, rfl, trivial⟩ (Nat.zero_le _) rfl rfl⟩
            by_cases h3 : t.ship < p
            · exact hpR t ht h1 h3
            · have h4 := haR t ht h1 (by omega)
              cases h5 : R t with
              | false => rfl
              | true => rw [hwo ⟨a, m, p⟩ t h1.symm (by dsimp only; omega) h4 h5] at hR; cases hR
      · rw [decide_eq_false_iff_not] at hc3
        repeat' (first |with_reducible (first|refine RM.c4 ?_|refine RM.c6 ?_|refine RM.c9 ?_|refine RM.d2 ?_|refine RM.d3 ?_|refine RM.o1 ?_|refine RM.o2 ?_|refine RM.o4 ?_|refine RM.o5 ?_|refine RM.p2 ?_|refine RM.p3 ?_|refine RM.p5 ?_|refine RM.q2 ?_) |((with_reducible show force _ _);refine RM.f1 rfl ?_) |((with_reducible show wpOne _ _ _ _ _ _ _ _ _ _ _ _);refine RM.o8 rfl ?_) |((with_reducible show wpBin _ _ _ _ _ _ _ _ _);refine RM.b1 rfl rfl (by omega) ?_) |((with_reducible show blockK _ _ _ _);refine RM.d5 rfl ?_) |fail)
        refine ⟨p + 1, ⟨by omega, fun t ht h1 h2 => ?_⟩, (by dsimp only; omega), Weaker.to 1 rfl ⟨rfl, rfl, rfl, rfl, rfl, rfl, rfl, trivial⟩ (Nat.zero_le _) rfl rfl⟩
        by_cases h3 : t.ship < p
        · exact hpR t ht h1 h3
        · have h4 := haR t ht h1 (by omega)
          have h5 := truthOk_iff.1 ((hiff t).1 ht).1
          omega
    · rw [decide_eq_false_iff_not] at hc2
      repeat' (first |with_reducible (first|refine RM.c4 ?_|refine RM.c6 ?_|refine RM.c9 ?_|refine RM.d2 ?_|refine RM.d3 ?_|refine RM.o1 ?_|refine RM.o2 ?_|refine RM.o4 ?_|refine RM.o5 ?_|refine RM.p2 ?_|refine RM.p3 ?_|refine RM.p5 ?_|refine RM.q2 ?_) |((with_reducible show force _ _);refine RM.f1 rfl ?_) |((with_reducible show wpOne _ _ _ _ _ _ _ _ _ _ _ _);refine RM.o8 rfl ?_) |((with_reducible show wpBin _ _ _ _ _ _ _ _ _);refine RM.b1 rfl rfl (by omega) ?_) |((with_reducible show blockK _ _ _ _);refine RM.d5 rfl ?_) |fail)
      refine ⟨m + 1, ⟨by omega, fun t ht h1 => ?_⟩, (by dsimp only; omega), Weaker.to 1 rfl ⟨rfl, rfl, rfl, rfl, rfl, rfl, trivial⟩ (Nat.zero_le _) rfl rfl⟩
      by_cases h3 : t.man < m
      · exact hmR t ht h3
      · have h5 := truthOk_iff.1 ((hiff t).1 ht).1
        exact hpR t ht (by omega) (by omega)
  · rw [decide_eq_false_iff_not] at hc
    have hany : A.any R = false := any_false fun t ht => hmR t ht (by have := truthOk_iff.1 ((hiff t).1 ht).1; omega)
    rw [hany]
    repeat' (first |with_reducible (first|refine RM.c2 ?_|refine RM.c4 ?_|refine RM.c6 ?_|refine RM.c7 ?_|refine RM.c9 ?_|refine RM.d2 ?_|refine RM.o1 ?_|refine RM.o2 ?_|refine RM.o4 ?_|refine RM.o5 ?_|refine RM.p3 ?_|refine RM.q2 ?_) |((with_reducible show force _ _);refine RM.f1 rfl ?_) |((with_reducible show wpOne _ _ _ _ _ _ _ _ _ _ _ _);refine RM.o8 rfl ?_) |((with_reducible show blockK _ _ _ _);refine RM.d5 rfl ?_) |fail)
    exact ⟨[_], ⟨Fz.deep rfl, trivial⟩, rfl⟩
end Go.Proofs.Ytmkaeohmdcoanaa
open Go Go.RM
namespace Go.Proofs.Ytmkaeohmdcoanaa
set_option maxRecDepth 100000
set_option maxHeartbeats 4000000
theorem lastD_facts (q : Nat → Bool) : ∀ n, (lastD q n = -1 ∧ ∀ d, d < n → q d = false) ∨ ∃ m : Nat, lastD q n = m ∧ m < n ∧ q m = true ∧ ∀ d, m < d → d < n → q d = false
  | 0 => .inl ⟨rfl, fun d h => absurd h (Nat.not_lt_zero _)⟩
  | n + 1 => by
    unfold lastD
    cases hq : q n with
    | true => exact .inr ⟨n, if_pos rfl, Nat.lt_succ_self _, hq, fun d h1 h2 => by omega⟩
    | false =>
      rw [if_neg (by decide)]
      rcases lastD_facts q n with ⟨h1, h2⟩ | ⟨m, h1, h2, h3, h4⟩
      · refine .inl ⟨h1, fun d hd => ?_⟩
        by_cases h : d = n
        · rw [h]; exact hq
        · exact h2 d (by omega)
      · refine .inr ⟨m, h1, by omega, h3, fun d hd hn => ?_⟩
        by_cases h : d = n
        · rw [h]; exact hq
        · exact h4 d hd (by omega)
theorem shortAt_le (men : List Int) (k : Kind) (row : List Int) (t : Truth) (down : Int) : shortAt men k row t down men.length ≤ men.length := by
  rcases shortAt_or men k row t down men.length with h | h <;> omega
/-- What Ration says of all truths. -/
theorem ration_facts (s : Stores) (h : s.Ok) (l : List Count) (h0 : cntsErr s l = 0) (i : Nat) (hi : i < s.kinds.length) :
    (Pu true 31 [.ag (eStores s), .sl (l.map eCount) false, I64 i] (.tp [I64 0, I64 9]) ∧ (allS s l i s.kinds[i] ≠ [] → ∀ d : Nat, d ≤ s.men.length → (allS s l i s.kinds[i]).any (runsShort s.men s.kinds[i] (cargoRow i s.cargos) d) = true)) ∨
    ∃ m : Nat, Pu true 31 [.ag (eStores s), .sl (l.map eCount) false, I64 i] (.tp [I64 m, I64 0]) ∧ m ≤ s.men.length ∧ allS s l i s.kinds[i] ≠ [] ∧ (allS s l i s.kinds[i]).any (runsShort s.men s.kinds[i] (cargoRow i s.cargos) m) = false ∧
      ∀ d : Nat, m < d → d ≤ s.men.length → (allS s l i s.kinds[i]).any (runsShort s.men s.kinds[i] (cargoRow i s.cargos) d) = true := by
  by_cases hz : allS s l i s.kinds[i] = []
  · exact .inl ⟨ration_none true s h l h0 i hi (nil_iff.2 hz), fun h => absurd hz h⟩
  · have h3 := ration_okT true s h l h0 i hi (fun h => hz (nil_iff.1 h)) _ rfl
    have he : (fun d : Nat => !(lows s l i s.kinds[i]).any (runsShort s.men s.kinds[i] (cargoRow i s.cargos) d)) = fun d : Nat => !(allS s l i s.kinds[i]).any (runsShort s.men s.kinds[i] (cargoRow i s.cargos) d) := by
      funext d
      rw [any_lows (short_worse _ _ _ _)]
    rw [he] at h3
    rcases lastD_facts (fun d : Nat => !(allS s l i s.kinds[i]).any (runsShort s.men s.kinds[i] (cargoRow i s.cargos) d)) (s.men.length + 1) with ⟨q1, q2⟩ | ⟨m, q1, q2, q3, q4⟩
    · rw [q1] at h3
      refine .inl ⟨h3, fun _ d hd => ?_⟩
      have := q2 d (by omega)
      simpa using this
    · rw [q1] at h3
      unfold rationV at h3
      rw [if_neg (by omega)] at h3
      refine .inr ⟨m, h3, by omega, hz, by simpa using q3, fun d h1 h2 => ?_⟩
      have := q4 d h1 (by omega)
      simpa using this
theorem rationed_c (s : Stores) (h : s.Ok) (l : List Count) (hl : l.length ≤ maxLen) (kd a b c : Int) (taken : List (List AV)) (x y : Int) (hkd : 0 ≤ kd ∧ kd ≤ 255) (ha : U16ok a) (hb : U16ok b) (hc : U16ok c) (hx : 0 ≤ x ∧ x ≤ 255) : Pu true 12 [.ag (eStores s), .sl (l.map eCount) false, .ag [.fl (.int .u8 kd), U16 a, U16 b, U16 c, .sl taken false, .fl (.int .u8 x), U16 y]] (BB true) := by
  have haw := aw_c true
  have hcn := rcounts_c true s h l hl
  by_cases he : cntsErr s l = 0
  · rw [he] at hcn
    obtain ⟨hg, hl8, hlc⟩ := cnts_good he
    have h8 := sizes_9 hg.sizes
    have em : ((s.men.map eI).length : Int) = s.men.length := by simp
    have ek : ((s.kinds.map eKind).length : Int) = s.kinds.length := by simp
    obtain ⟨i, hi, hki⟩ := modN (a := kd) (n := (s.kinds.map eKind).length) (by simp; omega)
    rw [List.length_map] at hi
    have hh := holdOk he hi
    have hkg := hg.kinds _ (List.getElem_mem hi)
    have hay := any_c true s.kinds[i] hkg a b c ha hb hc
    have ht := truthAny hkg a b c
    generalize anyT s.kinds[i] a b c = t at *
    have ht2 := truthOk_iff.1 ht
    have hrn := hh.run ht2.1 ht2.2.1 ht2.2.2
    obtain ⟨u1, b1, hfo⟩ := follow_l true hg hi hrn
    rw [← em] at hfo
    have hfdd := fun d : Nat => follow_c true s hg i hi t d hrn
    have hll := lvl_len s.men s.kinds[i] (cargoRow i s.cargos) t
    have hagr := agrees44_c true l i (lvl s.men s.kinds[i] (cargoRow i s.cargos) t) hl8 (fun c hc => by rw [hll]; have := hlc c hc; omega)
    have hekd := fun d : Int => eked_c true s l he i hi d
    have hmem : agrL l i (lvl s.men s.kinds[i] (cargoRow i s.cargos) t) = true → t ∈ allS s l i s.kinds[i] := fun h => all_iff.2 ⟨ht, h⟩
    have hidx : (s.kinds.map eKind)[((i : Nat) : Int).toNat]? = some (eKind s.kinds[i]) := map_at hi
    have hrf := ration_facts s h l he i hi
    have hsl := fun d : Int => shortAt_le s.men s.kinds[i] (cargoRow i s.cargos) t d
    have hsd : ∀ d : Int, runsShort s.men s.kinds[i] (cargoRow i s.cargos) d t = decide (shortAt s.men s.kinds[i] (cargoRow i s.cargos) t d s.men.length < s.men.length) := fun d => rfl
    clear hh hkg ht hrn
    generalize allS s l i s.kinds[i] = A at *
    generalize cargoRow i s.cargos = row at *
    generalize s.kinds[i] = k at *
    generalize lvl s.men k row t = lv at *
    generalize shortF s.men k row t = sh at *
    generalize runsShort s.men k row = R at *
    cases hag : agrL l i lv with
    | false =>
      rw [hag] at hagr
      have hek := hekd 0
      rcases hrf with ⟨hra, _⟩ | ⟨m, hra, hm, _⟩
      · refine PureV.body (fn := Try.f12) rfl rfl rfl rfl ?_
        refine wpC_sound (mu := fun _ => false) ?_
        repeat' (first |(refine ⟨_, cv8 hkd, rfl, ?_⟩) |with_reducible (first|refine RM.c1 ?_|refine RM.c2 ?_|refine RM.c4 ?_|refine RM.c9 ?_|refine RM.o1 ?_|refine RM.o2 ?_|refine RM.o4 ?_|refine RM.o5 ?_|refine RM.o7 ?_|refine RM.o9 ?_|refine RM.p1 ?_|refine RM.p2 ?_|refine RM.p3 ?_|refine RM.p5 ?_|refine RM.p6 ?_) |((with_reducible show force _ _);first|refine RM.f1 rfl ?_|refine RM.f2 rfl ?_|refine RM.f3 rfl ?_|refine RM.f4 rfl ?_|refine RM.f5 rfl ?_) |((with_reducible show wpOne _ _ _ _ _ _ _ _ _ _ _ _);refine RM.o8 rfl ?_) |((with_reducible show wpC _ _ _ _ (.cond _ _ _) _ _);refine RM.e3 rfl rfl ?_) |((with_reducible show wpBin _ _ _ _ _ _ _ _ _);first|refine RM.b5 rfl rfl ?_|refine RM.r1 rfl rfl (by omega) ?_) |((with_reducible show wpLen _ _ _ _ _);refine RM.l1 rfl ?_) |(refine ⟨_, rfl, ?_⟩) |(refine ⟨_, _, rfl, by decide, ?_⟩) |(refine ⟨rfl, rfl, rfl, ?_⟩) |(refine And.intro (Nat.le_of_ble_eq_true rfl) ?_) |(refine PureV.call hcn rfl rfl ?_) |fail)
        rw [hki]
        repeat' (first |(refine ⟨_, hay, ?_⟩) |with_reducible (first|refine RM.c2 ?_|refine RM.c4 ?_|refine RM.c5 ?_|refine RM.c7 ?_|refine RM.c9 ?_|refine RM.d1 ?_|refine RM.o1 ?_|refine RM.o2 ?_|refine RM.o3 ?_|refine RM.o4 ?_|refine RM.o5 ?_|refine RM.o6 ?_|refine RM.o7 ?_|refine RM.o9 ?_|refine RM.p1 ?_|refine RM.p2 ?_|refine RM.p3 ?_|refine RM.p4 ?_|refine RM.p5 ?_|refine RM.p6 ?_|refine RM.n1 ?_) |((with_reducible show force _ _);first|refine RM.f1 rfl ?_|refine RM.f2 rfl ?_|refine RM.f3 rfl ?_|refine RM.f4 rfl ?_|refine RM.f5 rfl ?_|refine RM.f6 rfl ?_|refine RM.f7 rfl ?_|refine RM.g2 rfl ?_) |((with_reducible show wpOne _ _ _ _ _ _ _ _ _ _ _ _);refine RM.o8 rfl ?_) |((with_reducible show wpDOne _ _ _ _ _ _ _ _ _ _);refine RM.p9 rfl ?_) |((with_reducible show wpGuard _ _ _ _ _);refine wpGuard_yes rfl rfl rfl ?_) |((with_reducible show wpC _ _ _ _ (.cond _ _ _) _ _);refine RM.e2 rfl rfl ?_) |((with_reducible show wpPick _ _ _ _ _);refine RM.k1 rfl ?_) |((with_reducible show wpPickB _ _ _ _ _);first|refine RM.k2 rfl ?_|refine RM.k3 rfl ?_) |((with_reducible show wpBin _ _ _ _ _ _ _ _ _);refine RM.b4 rfl rfl ?_) |((with_reducible show wpLen _ _ _ _ _);refine RM.l1 rfl ?_) |((with_reducible show RM.wpOp _ _ _ _ _ _);refine RM.n3 rfl ?_) |(refine ⟨_, rfl, ?_⟩) |(refine ⟨_, _, rfl, by decide, ?_⟩) |(refine ⟨rfl, rfl, ?_⟩) |(refine And.intro (Nat.le_of_ble_eq_true rfl) ?_) |(refine And.intro (by kernel_rfl) ?_) |(refine ⟨_, _, rfl, rfl, rfl, rfl, Nat.le_of_ble_eq_true rfl, ?_⟩) |(refine ⟨_, _, rfl, Nat.le_of_ble_eq_true rfl, ?_⟩) |(refine ⟨eKind k, ⟨by omega, hidx⟩, rfl, ?_⟩) |(refine PureV.call hra rfl rfl ?_) |(refine PureV.call hfo rfl rfl ?_) |(refine PureV.call hagr rfl rfl ?_) |(refine PureV.call haw rfl rfl ?_) |fail)
        exact ⟨[_], ⟨Fz.deep rfl, trivial⟩, rfl⟩
      · refine PureV.body (fn := Try.f12) rfl rfl rfl rfl ?_
        refine wpC_sound (mu := fun _ => false) ?_
        repeat' (first |(refine ⟨_, cv8 hkd, rfl, ?_⟩) |with_reducible (first|refine RM.c1 ?_|refine RM.c2 ?_|refine RM.c4 ?_|refine RM.c9 ?_|refine RM.o1 ?_|refine RM.o2 ?_|refine RM.o4 ?_|refine RM.o5 ?_|refine RM.o7 ?_|refine RM.o9 ?_|refine RM.p1 ?_|refine RM.p2 ?_|refine RM.p3 ?_|refine RM.p5 ?_|refine RM.p6 ?_) |((with_reducible show force _ _);first|refine RM.f1 rfl ?_|refine RM.f2 rfl ?_|refine RM.f3 rfl ?_|refine RM.f4 rfl ?_|refine RM.f5 rfl ?_) |((with_reducible show wpOne _ _ _ _ _ _ _ _ _ _ _ _);refine RM.o8 rfl ?_) |((with_reducible show wpC _ _ _ _ (.cond _ _ _) _ _);refine RM.e3 rfl rfl ?_) |((with_reducible show wpBin _ _ _ _ _ _ _ _ _);first|refine RM.b5 rfl rfl ?_|refine RM.r1 rfl rfl (by omega) ?_) |((with_reducible show wpLen _ _ _ _ _);refine RM.l1 rfl ?_) |(refine ⟨_, rfl, ?_⟩) |(refine ⟨_, _, rfl, by decide, ?_⟩) |(refine ⟨rfl, rfl, rfl, ?_⟩) |(refine And.intro (Nat.le_of_ble_eq_true rfl) ?_) |(refine PureV.call hcn rfl rfl ?_) |fail)
        rw [hki]
        repeat' (first |(refine ⟨_, hay, ?_⟩) |with_reducible (first|refine RM.c2 ?_|refine RM.c4 ?_|refine RM.c5 ?_|refine RM.c7 ?_|refine RM.c9 ?_|refine RM.d1 ?_|refine RM.o1 ?_|refine RM.o2 ?_|refine RM.o3 ?_|refine RM.o4 ?_|refine RM.o5 ?_|refine RM.o6 ?_|refine RM.o7 ?_|refine RM.o9 ?_|refine RM.p1 ?_|refine RM.p2 ?_|refine RM.p3 ?_|refine RM.p4 ?_|refine RM.p5 ?_|refine RM.p6 ?_|refine RM.n1 ?_) |((with_reducible show force _ _);first|refine RM.f1 rfl ?_|refine RM.f2 rfl ?_|refine RM.f3 rfl ?_|refine RM.f4 rfl ?_|refine RM.f5 rfl ?_|refine RM.f6 rfl ?_|refine RM.f7 rfl ?_|refine RM.g2 rfl ?_) |((with_reducible show wpOne _ _ _ _ _ _ _ _ _ _ _ _);refine RM.o8 rfl ?_) |((with_reducible show wpDOne _ _ _ _ _ _ _ _ _ _);refine RM.p9 rfl ?_) |((with_reducible show wpGuard _ _ _ _ _);first|refine wpGuard_yes rfl rfl rfl ?_|refine wpGuard_no rfl rfl rfl ?_) |((with_reducible show wpC _ _ _ _ (.cond _ _ _) _ _);refine RM.e2 rfl rfl ?_) |((with_reducible show wpPick _ _ _ _ _);refine RM.k1 rfl ?_) |((with_reducible show wpPickB _ _ _ _ _);refine RM.k2 rfl ?_) |((with_reducible show wpBin _ _ _ _ _ _ _ _ _);refine RM.b4 rfl rfl ?_) |((with_reducible show wpLen _ _ _ _ _);refine RM.l1 rfl ?_) |((with_reducible show RM.wpOp _ _ _ _ _ _);refine RM.n3 rfl ?_) |(refine ⟨_, rfl, ?_⟩) |(refine ⟨_, _, rfl, by decide, ?_⟩) |(refine ⟨rfl, rfl, ?_⟩) |(refine And.intro (Nat.le_of_ble_eq_true rfl) ?_) |(refine And.intro (by kernel_rfl) ?_) |(refine ⟨_, _, rfl, rfl, rfl, rfl, Nat.le_of_ble_eq_true rfl, ?_⟩) |(refine ⟨_, _, rfl, Nat.le_of_ble_eq_true rfl, ?_⟩) |(refine ⟨eKind k, ⟨by omega, hidx⟩, rfl, ?_⟩) |(refine PureV.call hra rfl rfl ?_) |(refine PureV.call hfo rfl rfl ?_) |(refine PureV.call hagr rfl rfl ?_) |(refine PureV.call haw rfl rfl ?_) |fail)
        exact ⟨[_], ⟨Fz.deep rfl, trivial⟩, rfl⟩
    | true =>
      rw [hag] at hagr
      have htA := hmem hag
      rcases hrf with ⟨hra, hsome⟩ | ⟨m, hra, hm, _, hno, hsome⟩
      · have hek := hekd 0
        have h1 := hsome (List.ne_nil_of_mem htA) 0 (Nat.zero_le _)
        change A.any (R 0) = true at h1
        rw [h1] at hek
        refine PureV.body (fn := Try.f12) rfl rfl rfl rfl ?_
        refine wpC_sound (mu := fun _ => false) ?_
        repeat' (first |(refine ⟨_, cv8 hkd, rfl, ?_⟩) |with_reducible (first|refine RM.c1 ?_|refine RM.c2 ?_|refine RM.c4 ?_|refine RM.c9 ?_|refine RM.o1 ?_|refine RM.o2 ?_|refine RM.o4 ?_|refine RM.o5 ?_|refine RM.o7 ?_|refine RM.o9 ?_|refine RM.p1 ?_|refine RM.p2 ?_|refine RM.p3 ?_|refine RM.p5 ?_|refine RM.p6 ?_) |((with_reducible show force _ _);first|refine RM.f1 rfl ?_|refine RM.f2 rfl ?_|refine RM.f3 rfl ?_|refine RM.f4 rfl ?_|refine RM.f5 rfl ?_) |((with_reducible show wpOne _ _ _ _ _ _ _ _ _ _ _ _);refine RM.o8 rfl ?_) |((with_reducible show wpC _ _ _ _ (.cond _ _ _) _ _);refine RM.e3 rfl rfl ?_) |((with_reducible show wpBin _ _ _ _ _ _ _ _ _);first|refine RM.b5 rfl rfl ?_|refine RM.r1 rfl rfl (by omega) ?_) |((with_reducible show wpLen _ _ _ _ _);refine RM.l1 rfl ?_) |(refine ⟨_, rfl, ?_⟩) |(refine ⟨_, _, rfl, by decide, ?_⟩) |(refine ⟨rfl, rfl, rfl, ?_⟩) |(refine And.intro (Nat.le_of_ble_eq_true rfl) ?_) |(refine PureV.call hcn rfl rfl ?_) |fail)
        rw [hki]
        repeat' (first |(refine ⟨_, hay, ?_⟩) |with_reducible (first|refine RM.c1 ?_|refine RM.c2 ?_|refine RM.c4 ?_|refine RM.c5 ?_|refine RM.c7 ?_|refine RM.c9 ?_|refine RM.d1 ?_|refine RM.o1 ?_|refine RM.o2 ?_|refine RM.o3 ?_|refine RM.o4 ?_|refine RM.o5 ?_|refine RM.o6 ?_|refine RM.o7 ?_|refine RM.o9 ?_|refine RM.p1 ?_|refine RM.p2 ?_|refine RM.p3 ?_|refine RM.p4 ?_|refine RM.p5 ?_|refine RM.p6 ?_|refine RM.n1 ?_) |((with_reducible show force _ _);first|refine RM.f1 rfl ?_|refine RM.f2 rfl ?_|refine RM.f3 rfl ?_|refine RM.f4 rfl ?_|refine RM.f5 rfl ?_|refine RM.f6 rfl ?_|refine RM.f7 rfl ?_|refine RM.g2 rfl ?_) |((with_reducible show wpOne _ _ _ _ _ _ _ _ _ _ _ _);refine RM.o8 rfl ?_) |((with_reducible show wpDOne _ _ _ _ _ _ _ _ _ _);refine RM.p9 rfl ?_) |((with_reducible show wpGuard _ _ _ _ _);refine wpGuard_yes rfl rfl rfl ?_) |((with_reducible show wpC _ _ _ _ (.cond _ _ _) _ _);first|refine RM.e2 rfl rfl ?_|refine RM.e3 rfl rfl ?_) |((with_reducible show wpPick _ _ _ _ _);refine RM.k1 rfl ?_) |((with_reducible show wpPickB _ _ _ _ _);refine RM.k2 rfl ?_) |((with_reducible show wpBin _ _ _ _ _ _ _ _ _);first|refine RM.b4 rfl rfl ?_|refine RM.b5 rfl rfl ?_) |((with_reducible show wpLen _ _ _ _ _);refine RM.l1 rfl ?_) |((with_reducible show RM.wpOp _ _ _ _ _ _);refine RM.n3 rfl ?_) |(refine ⟨_, rfl, ?_⟩) |(refine ⟨_, _, rfl, by decide, ?_⟩) |(refine ⟨rfl, rfl, ?_⟩) |(refine And.intro (Nat.le_of_ble_eq_true rfl) ?_) |(refine And.intro (by kernel_rfl) ?_) |(refine ⟨_, _, rfl, rfl, rfl, rfl, Nat.le_of_ble_eq_true rfl, ?_⟩) |(refine ⟨_, _, rfl, Nat.le_of_ble_eq_true rfl, ?_⟩) |(refine ⟨eKind k, ⟨by omega, hidx⟩, rfl, ?_⟩) |(refine PureV.call hra rfl rfl ?_) |(refine PureV.call hfo rfl rfl ?_) |(refine PureV.call hagr rfl rfl ?_) |(refine PureV.call haw rfl rfl ?_) |(refine PureV.call hek rfl rfl ?_) |fail)
        exact ⟨[_], ⟨Fz.deep rfl, trivial⟩, rfl⟩
      · have hfd := hfdd m
        have hR : R m t = false := by
          apply Bool.eq_false_iff.2
          intro h1
          rw [List.any_eq_true.2 ⟨t, htA, h1⟩] at hno
          cases hno
        have hsd := hsd m
        rw [hR] at hsd
        have hge := of_decide_eq_false hsd.symm
        have hle := hsl m
        clear hsl hfdd
        generalize shortAt s.men k row t m s.men.length = sm at *
        have d1 : decide (sm = ((s.men.map eI).length : Int)) = true := decide_eq_true (by omega)
        have d2 : decide (((s.men.map eI).length : Int) < (m : Int)) = false := decide_eq_false (by omega)
        have d3 : decide ((m : Int) < 0) = false := decide_eq_false (by omega)
        by_cases hmn : m = s.men.length
        · have d4 : decide ((m : Int) = ((s.men.map eI).length : Int)) = true := decide_eq_true (by omega)
          have hek := hekd 0
          refine PureV.body (fn := Try.f12) rfl rfl rfl rfl ?_
          refine wpC_sound (mu := fun _ => false) ?_
          repeat' (first |(refine ⟨_, cv8 hkd, rfl, ?_⟩) |with_reducible (first|refine RM.c1 ?_|refine RM.c2 ?_|refine RM.c4 ?_|refine RM.c9 ?_|refine RM.o1 ?_|refine RM.o2 ?_|refine RM.o4 ?_|refine RM.o5 ?_|refine RM.o7 ?_|refine RM.o9 ?_|refine RM.p1 ?_|refine RM.p2 ?_|refine RM.p3 ?_|refine RM.p5 ?_|refine RM.p6 ?_) |((with_reducible show force _ _);first|refine RM.f1 rfl ?_|refine RM.f2 rfl ?_|refine RM.f3 rfl ?_|refine RM.f4 rfl ?_|refine RM.f5 rfl ?_) |((with_reducible show wpOne _ _ _ _ _ _ _ _ _ _ _ _);refine RM.o8 rfl ?_) |((with_reducible show wpC _ _ _ _ (.cond _ _ _) _ _);refine RM.e3 rfl rfl ?_) |((with_reducible show wpBin _ _ _ _ _ _ _ _ _);first|refine RM.b5 rfl rfl ?_|refine RM.r1 rfl rfl (by omega) ?_) |((with_reducible show wpLen _ _ _ _ _);refine RM.l1 rfl ?_) |(refine ⟨_, rfl, ?_⟩) |(refine ⟨_, _, rfl, by decide, ?_⟩) |(refine ⟨rfl, rfl, rfl, ?_⟩) |(refine And.intro (Nat.le_of_ble_eq_true rfl) ?_) |(refine PureV.call hcn rfl rfl ?_) |fail)
          rw [hki]
          repeat' (first |(refine ⟨_, hay, ?_⟩) |(refine ⟨_, haw, ?_⟩) |with_reducible (first|refine RM.c1 ?_|refine RM.c2 ?_|refine RM.c4 ?_|refine RM.c5 ?_|refine RM.c7 ?_|refine RM.c9 ?_|refine RM.o1 ?_|refine RM.o2 ?_|refine RM.o3 ?_|refine RM.o4 ?_|refine RM.o5 ?_|refine RM.o6 ?_|refine RM.o7 ?_|refine RM.o9 ?_|refine RM.p1 ?_|refine RM.p2 ?_|refine RM.p3 ?_|refine RM.p4 ?_|refine RM.p5 ?_|refine RM.p6 ?_|refine RM.n1 ?_) |((with_reducible show force _ _);first|refine RM.f1 rfl ?_|refine RM.f2 rfl ?_|refine RM.f3 rfl ?_|refine RM.f4 rfl ?_|refine RM.f5 rfl ?_|refine RM.f6 rfl ?_|refine RM.f7 rfl ?_|refine RM.g2 rfl ?_) |((with_reducible show wpOne _ _ _ _ _ _ _ _ _ _ _ _);refine RM.o8 rfl ?_) |((with_reducible show wpDOne _ _ _ _ _ _ _ _ _ _);refine RM.p9 rfl ?_) |((with_reducible show wpGuard _ _ _ _ _);first|refine wpGuard_yes rfl rfl rfl ?_|refine wpGuard_yes rfl rfl (by assumption) ?_|refine wpGuard_no rfl rfl (by assumption) ?_) |((with_reducible show wpC _ _ _ _ (.cond _ _ _) _ _);first|refine RM.e3 rfl rfl ?_|refine RM.e3 rfl (by assumption) ?_) |((with_reducible show wpPick _ _ _ _ _);refine RM.k1 rfl ?_) |((with_reducible show wpPickB _ _ _ _ _);first|refine RM.k2 rfl ?_|refine RM.k3 rfl ?_|refine RM.k2 (by assumption) ?_) |((with_reducible show wpBin _ _ _ _ _ _ _ _ _);first|refine RM.b4 rfl rfl ?_|refine RM.b5 rfl rfl ?_|refine RM.b6 rfl rfl ?_|refine RM.b8 rfl rfl ?_) |((with_reducible show wpLen _ _ _ _ _);refine RM.l1 rfl ?_) |((with_reducible show RM.wpOp _ _ _ _ _ _);refine RM.n3 rfl ?_) |(refine ⟨_, rfl, ?_⟩) |(refine ⟨_, _, rfl, by decide, ?_⟩) |(refine ⟨rfl, rfl, ?_⟩) |(refine And.intro (Nat.le_of_ble_eq_true rfl) ?_) |(refine And.intro (by kernel_rfl) ?_) |(refine ⟨_, _, rfl, rfl, rfl, rfl, Nat.le_of_ble_eq_true rfl, ?_⟩) |(refine ⟨_, _, rfl, Nat.le_of_ble_eq_true rfl, ?_⟩) |(refine ⟨eKind k, ⟨by omega, hidx⟩, rfl, ?_⟩) |(refine PureV.call hra rfl rfl ?_) |(refine PureV.call hfo rfl rfl ?_) |(refine PureV.call hagr rfl rfl ?_) |(refine PureV.call hfd rfl rfl ?_) |fail)
          exact ⟨[_], ⟨Fz.deep rfl, trivial⟩, rfl⟩
        · have d4 : decide ((m : Int) = ((s.men.map eI).length : Int)) = false := decide_eq_false (by omega)
          have x1 := Int.emod_nonneg x (show ((s.men.map eI).length : Int) - (m : Int) ≠ 0 by omega)
          have x2 := Int.emod_lt_of_pos x (show 0 < ((s.men.map eI).length : Int) - (m : Int) by omega)
          have hek := hekd ((m : Int) + 1 + x % (((s.men.map eI).length : Int) - (m : Int)))
          obtain ⟨d, hd⟩ : ∃ d : Nat, (m : Int) + 1 + x % (((s.men.map eI).length : Int) - (m : Int)) = d := ⟨((m : Int) + 1 + x % (((s.men.map eI).length : Int) - (m : Int))).toNat, by omega⟩
          have h1 := hsome d (by omega) (by omega)
          rw [hd, h1, ← hd] at hek
          refine PureV.body (fn := Try.f12) rfl rfl rfl rfl ?_
          refine wpC_sound (mu := fun _ => false) ?_
          repeat' (first |(refine ⟨_, cv8 hkd, rfl, ?_⟩) |with_reducible (first|refine RM.c1 ?_|refine RM.c2 ?_|refine RM.c4 ?_|refine RM.c9 ?_|refine RM.o1 ?_|refine RM.o2 ?_|refine RM.o4 ?_|refine RM.o5 ?_|refine RM.o7 ?_|refine RM.o9 ?_|refine RM.p1 ?_|refine RM.p2 ?_|refine RM.p3 ?_|refine RM.p5 ?_|refine RM.p6 ?_) |((with_reducible show force _ _);first|refine RM.f1 rfl ?_|refine RM.f2 rfl ?_|refine RM.f3 rfl ?_|refine RM.f4 rfl ?_|refine RM.f5 rfl ?_) |((with_reducible show wpOne _ _ _ _ _ _ _ _ _ _ _ _);refine RM.o8 rfl ?_) |((with_reducible show wpC _ _ _ _ (.cond _ _ _) _ _);refine RM.e3 rfl rfl ?_) |((with_reducible show wpBin _ _ _ _ _ _ _ _ _);first|refine RM.b5 rfl rfl ?_|refine RM.r1 rfl rfl (by omega) ?_) |((with_reducible show wpLen _ _ _ _ _);refine RM.l1 rfl ?_) |(refine ⟨_, rfl, ?_⟩) |(refine ⟨_, _, rfl, by decide, ?_⟩) |(refine ⟨rfl, rfl, rfl, ?_⟩) |(refine And.intro (Nat.le_of_ble_eq_true rfl) ?_) |(refine PureV.call hcn rfl rfl ?_) |fail)
          rw [hki]
          repeat' (first |(refine ⟨_, hay, ?_⟩) |(refine ⟨_, cv8 hx, rfl, ?_⟩) |(refine ⟨_, hek, ?_⟩) |(refine ⟨_, haw, ?_⟩) |with_reducible (first|refine RM.c1 ?_|refine RM.c2 ?_|refine RM.c4 ?_|refine RM.c5 ?_|refine RM.c7 ?_|refine RM.c9 ?_|refine RM.o1 ?_|refine RM.o2 ?_|refine RM.o3 ?_|refine RM.o4 ?_|refine RM.o5 ?_|refine RM.o6 ?_|refine RM.o7 ?_|refine RM.o9 ?_|refine RM.p1 ?_|refine RM.p2 ?_|refine RM.p3 ?_|refine RM.p4 ?_|refine RM.p5 ?_|refine RM.p6 ?_|refine RM.n1 ?_) |((with_reducible show force _ _);first|refine RM.f1 rfl ?_|refine RM.f2 rfl ?_|refine RM.f3 rfl ?_|refine RM.f4 rfl ?_|refine RM.f5 rfl ?_|refine RM.f6 rfl ?_|refine RM.f7 rfl ?_|refine RM.g2 rfl ?_) |((with_reducible show wpOne _ _ _ _ _ _ _ _ _ _ _ _);refine RM.o8 rfl ?_) |((with_reducible show wpDOne _ _ _ _ _ _ _ _ _ _);refine RM.p9 rfl ?_) |((with_reducible show wpGuard _ _ _ _ _);first|refine wpGuard_yes rfl rfl rfl ?_|refine wpGuard_yes rfl rfl (by assumption) ?_) |((with_reducible show wpC _ _ _ _ (.cond _ _ _) _ _);first|refine RM.e3 rfl rfl ?_|refine RM.e3 rfl (by assumption) ?_) |((with_reducible show wpPick _ _ _ _ _);refine RM.k1 rfl ?_) |((with_reducible show wpPickB _ _ _ _ _);first|refine RM.k2 rfl ?_|refine RM.k3 rfl ?_|refine RM.k2 (by assumption) ?_|refine RM.k3 (by assumption) ?_) |((with_reducible show wpBin _ _ _ _ _ _ _ _ _);first|refine RM.b4 rfl rfl ?_|refine RM.b5 rfl rfl ?_|refine RM.b6 rfl rfl ?_|refine RM.b8 rfl rfl ?_|refine RM.b1 rfl rfl (by omega) ?_|refine RM.b2 rfl rfl (by omega) ?_|refine RM.r1 rfl rfl (by omega) ?_) |((with_reducible show wpLen _ _ _ _ _);refine RM.l1 rfl ?_) |((with_reducible show RM.wpOp _ _ _ _ _ _);refine RM.n3 rfl ?_) |(refine ⟨_, rfl, ?_⟩) |(refine ⟨_, _, rfl, by decide, ?_⟩) |(refine ⟨rfl, rfl, ?_⟩) |(refine And.intro (Nat.le_of_ble_eq_true rfl) ?_) |(refine And.intro (by kernel_rfl) ?_) |(refine ⟨_, _, rfl, rfl, rfl, rfl, Nat.le_of_ble_eq_true rfl, ?_⟩) |(refine ⟨_, _, rfl, Nat.le_of_ble_eq_true rfl, ?_⟩) |(refine ⟨eKind k, ⟨by omega, hidx⟩, rfl, ?_⟩) |(refine PureV.call hra rfl rfl ?_) |(refine PureV.call hfo rfl rfl ?_) |(refine PureV.call hagr rfl rfl ?_) |(refine PureV.call hfd rfl rfl ?_) |fail)
          exact ⟨[_], ⟨Fz.deep rfl, trivial⟩, rfl⟩
  · have hask : askErr s l 0 = cntsErr s l := by unfold askErr; rw [if_pos he]
    have hra := ration_err true s h l hl 0 (by rw [hask]; exact he)
    rw [hask] at hra
    have d1 : (!decide (cntsErr s l = 0)) = true := by simpa using he
    refine PureV.body (fn := Try.f12) rfl rfl rfl rfl ?_
    refine wpC_sound (mu := fun _ => false) ?_
    repeat' (first |with_reducible (first|refine RM.c2 ?_|refine RM.c4 ?_|refine RM.c7 ?_|refine RM.c9 ?_|refine RM.d1 ?_|refine RM.o1 ?_|refine RM.o2 ?_|refine RM.o4 ?_|refine RM.o5 ?_|refine RM.o7 ?_|refine RM.o9 ?_|refine RM.p1 ?_|refine RM.p2 ?_|refine RM.p3 ?_|refine RM.p4 ?_|refine RM.p5 ?_) |((with_reducible show force _ _);first|refine RM.f1 rfl ?_|refine RM.f2 rfl ?_|refine RM.f3 rfl ?_|refine RM.f4 rfl ?_|refine RM.f5 rfl ?_|refine RM.f6 rfl ?_) |((with_reducible show wpOne _ _ _ _ _ _ _ _ _ _ _ _);refine RM.o8 rfl ?_) |((with_reducible show wpGuard _ _ _ _ _);refine wpGuard_yes rfl rfl (by assumption) ?_) |((with_reducible show wpC _ _ _ _ (.cond _ _ _) _ _);refine RM.e2 rfl (by assumption) ?_) |((with_reducible show wpPick _ _ _ _ _);refine RM.k1 rfl ?_) |((with_reducible show wpPickB _ _ _ _ _);refine RM.k2 (by assumption) ?_) |((with_reducible show wpBin _ _ _ _ _ _ _ _ _);refine RM.b5 rfl rfl ?_) |(refine ⟨_, rfl, ?_⟩) |(refine ⟨rfl, rfl, rfl, ?_⟩) |(refine And.intro (Nat.le_of_ble_eq_true rfl) ?_) |(refine PureV.call hcn rfl rfl ?_) |(refine PureV.call hra rfl rfl ?_) |(refine PureV.call haw rfl rfl ?_) |fail)
    exact ⟨[_], ⟨Fz.deep rfl, trivial⟩, rfl⟩
end Go.Proofs.Ytmkaeohmdcoanaa
namespace Go.Proofs.Ytmkaeohmdcoanaa
open Go.RM
set_option maxRecDepth 1000000
noncomputable def tabA : List XE := [x_a1, x_a2, x_a3, x_a4, x_a5, x_a6, x_a7, x_a8]
theorem xs_tabA : ∀ e ∈ tabA, XSound TT e := by
  unfold tabA
  simp only [List.mem_cons, List.not_mem_nil, or_false]
  rintro e (rfl | rfl | rfl | rfl | rfl | rfl | rfl | rfl)
  · exact xs_a1
  · exact xs_a2
  · exact xs_a3
  · exact xs_a4
  · exact xs_a5
  · exact xs_a6
  · exact xs_a7
  · exact xs_a8
theorem xs_aw : XSound TT x_aw := xe_add tt_ok tt_mixed xs_tabA 1000 (by kernel_rfl)
theorem xs_TB : ∀ e ∈ TB, XSound TT e := fun e he => by
  obtain rfl := List.mem_singleton.1 he
  exact xs_aw
end Go.Proofs.Ytmkaeohmdcoanaa
open Go Go.RM
namespace Go.Proofs.Ytmkaeohmdcoanaa
open Go.ChangeShapes Go.WideShapes Go.ChangeAt Go.RowKit
theorem try_own : ownKnob Try.prog.godebug = none := by kernel_rfl
theorem try_laid : laidOutB Try.prog = true := by kernel_rfl
theorem wf8 {n : Int} (h : (Lit.int .u8 n).wf = true) : 0 ≤ n ∧ n ≤ 255 := by
  simp only [Lit.wf, Bool.and_eq_true, decide_eq_true_eq] at h
  exact h
theorem wf16 {n : Int} (h : (Lit.int .u16 n).wf = true) : 0 ≤ n ∧ n ≤ 65535 := by
  simp only [Lit.wf, Bool.and_eq_true, decide_eq_true_eq] at h
  exact h
abbrev sh8 : Sh := .int .u8
abbrev sh16 : Sh := .int .u16
abbrev shPast : Sh := .cons sh8 (.cons (.arr 3 sh16) (.cons (.slice sh8) .nil))
theorem tv8 {l : List AV} (h : TV sh8 l) : ∃ n, (0 ≤ n ∧ n ≤ 255) ∧ l = [.fl (.int .u8 n)] := by
  obtain ⟨n, hn, rfl⟩ := tvK h
  exact ⟨n, wf8 hn, rfl⟩
theorem tv16 {l : List AV} (h : TV sh16 l) : ∃ n, (0 ≤ n ∧ n ≤ 65535) ∧ l = [.fl (.int .u16 n)] := by
  obtain ⟨n, hn, rfl⟩ := tvK h
  exact ⟨n, wf16 hn, rfl⟩
theorem tvA3 {l : List AV} (h : TV (.arr 3 sh16) l) : ∃ a b c, ((0 ≤ a ∧ a ≤ 65535) ∧ (0 ≤ b ∧ b ≤ 65535) ∧ (0 ≤ c ∧ c ≤ 65535)) ∧ l = [.fl (.int .u16 a), .fl (.int .u16 b), .fl (.int .u16 c)] := by
  obtain ⟨els, hl, he, rfl⟩ := tvA h
  match els, hl with
  | [x, y, z], _ =>
    obtain ⟨a, ha, rfl⟩ := tv16 (he x (by simp))
    obtain ⟨b, hb, rfl⟩ := tv16 (he y (by simp))
    obtain ⟨c, hc, rfl⟩ := tv16 (he z (by simp))
    exact ⟨a, b, c, ⟨ha, hb, hc⟩, rfl⟩
theorem tvPast {l : List AV} (h : TV shPast l) : ∃ (kd a b c : Int) (taken : List (List AV)), ((0 ≤ kd ∧ kd ≤ 255) ∧ (0 ≤ a ∧ a ≤ 65535) ∧ (0 ≤ b ∧ b ≤ 65535) ∧ (0 ≤ c ∧ c ≤ 65535)) ∧ (taken.length ≤ maxLen ∧ ∀ el ∈ taken, TV sh8 el) ∧ l = [.fl (.int .u8 kd), .fl (.int .u16 a), .fl (.int .u16 b), .fl (.int .u16 c), .sl taken false] := by
  obtain ⟨_, _, h1, k1, rfl⟩ := tvC h
  obtain ⟨_, _, h2, k2, rfl⟩ := tvC k1
  obtain ⟨_, _, h3, k3, rfl⟩ := tvC k2
  obtain rfl := tvN k3
  obtain ⟨kd, hk, rfl⟩ := tv8 h1
  obtain ⟨a, b, c, hh, rfl⟩ := tvA3 h2
  obtain ⟨els, hl, he, rfl⟩ := tvL h3
  exact ⟨kd, a, b, c, els, ⟨hk, hh⟩, ⟨hl, he⟩, rfl⟩
end Go.Proofs.Ytmkaeohmdcoanaa
open Go Go.RM
namespace Go.Proofs.Ytmkaeohmdcoanaa
abbrev shLoaded : Sh := .cons shPast (.cons sh8 (.cons sh16 .nil))
theorem tvLoaded {l : List AV} (h : TV shLoaded l) : ∃ (kd a b c : Int) (taken : List (List AV)) (x y : Int), ((0 ≤ kd ∧ kd ≤ 255) ∧ (0 ≤ a ∧ a ≤ 65535) ∧ (0 ≤ b ∧ b ≤ 65535) ∧ (0 ≤ c ∧ c ≤ 65535)) ∧ (0 ≤ x ∧ x ≤ 255) ∧ (0 ≤ y ∧ y ≤ 65535) ∧
    l = [.fl (.int .u8 kd), .fl (.int .u16 a), .fl (.int .u16 b), .fl (.int .u16 c), .sl taken false, .fl (.int .u8 x), .fl (.int .u16 y)] := by
  obtain ⟨_, _, h1, k1, rfl⟩ := tvC h
  obtain ⟨_, _, h2, k2, rfl⟩ := tvC k1
  obtain ⟨_, _, h3, k3, rfl⟩ := tvC k2
  obtain rfl := tvN k3
  obtain ⟨kd, a, b, c, taken, hh, _, rfl⟩ := tvPast h1
  obtain ⟨x, hx, rfl⟩ := tv8 h2
  obtain ⟨y, hy, rfl⟩ := tv16 h3
  exact ⟨kd, a, b, c, taken, x, y, hh, hx, hy, rfl⟩
end Go.Proofs.Ytmkaeohmdcoanaa
