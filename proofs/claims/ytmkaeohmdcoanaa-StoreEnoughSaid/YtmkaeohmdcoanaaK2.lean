/-
  Contracts of the program's functions and of the document's. Lemmas alone; their conditions stand in them.
-/
import Derived.Test.YtmkaeohmdcoanaaA2
import Derived.Test.YtmkaeohmdcoanaaX1
import Derived.Test.YtmkaeohmdcoanaaK1
import Derived.Test.YtmkaeohmdcoanaaRows
open Go Go.RM
namespace Go.Proofs.Ytmkaeohmdcoanaa
set_option maxRecDepth 100000
set_option maxHeartbeats 4000000
theorem sizes8 {s : Stores} {l : List Count} (h : cntsErr s l = 0) : s.cargos.length ≤ 8 := by
  unfold cntsErr at h
  by_cases h1 : (chk s).2.2 = 0
  · cases hb : sizesBad s with
    | true => rw [chk_1 hb] at h1; exact absurd h1 (by decide)
    | false => exact (sizes_ok hb).2.2
  · rw [if_pos h1] at h; exact absurd h h1
theorem row8 {s : Stores} {l : List Count} (h : cntsErr s l = 0) (i : Int) : RowOk 8 (cargoRow i s.cargos) := by
  have hg := (cnts_good h).1
  have h8 := sizes8 h
  have h9 := sizes_9 hg.sizes
  have := cargoRow_ok (k := i) (cs := s.cargos) (fun c hc => by have := hg.cargos c hc; omega)
  exact ⟨this.len, fun x hx => by have := this.bnd x hx; omega⟩
theorem RowOk.more {row : List Int} (h : RowOk 8 row) {d : Nat} (hd : d < 30) {n : Int} (hn : 0 ≤ n ∧ n ≤ 300) : RowOk 9 (row.set d (row.getD d 0 + n)) := by
  have hg := h.get hd
  refine ⟨by rw [List.length_set]; exact h.len, fun x hx => ?_⟩
  rcases List.mem_or_eq_of_mem_set hx with hx | rfl
  · have := h.bnd x hx; omega
  · omega
theorem RunOk.more {men : List Int} {k : Kind} {row : List Int} {t : Truth} (h : RunOk men k row t) (hr : RowOk 8 row) {d : Nat} (hd : d < 30) {n : Int} (hn : 0 ≤ n ∧ n ≤ 300) : RunOk men k (row.set d (row.getD d 0 + n)) t :=
  ⟨h.men30, h.men, hr.more hd hn, h.room, h.ration, h.first, h.man, h.ship⟩
abbrev lows (s : Stores) (l : List Count) (i : Nat) (k : Kind) : List Truth := (truthsL s.men k (cargoRow i s.cargos) (cntsOf l i)).map Prod.fst
def lastsWith (s : Stores) (k : Kind) (row : List Int) (L : List Truth) (d : Nat) (n : Int) : Bool := !L.any (runsShort s.men k (row.set d (row.getD d 0 + n)) s.men.length)
theorem cargoLeast_c (one : Bool) (s : Stores) (l : List Count) (h0 : cntsErr s l = 0) (i : Nat) (hi : i < s.kinds.length) (d : Nat) (hd : d < s.men.length) :
    Pu one 72 [I64 0, I64 300, .fn 73 [] [.pt (eHoldV s s.kinds[i] (cargoRow i s.cargos) (.sl ((cntsOf l i).map eCount) false)) 0, .pt [I64 d] 0, .pt [.sl ((lows s l i s.kinds[i]).map eTruth) false] 0]]
      (I64 (bs (fun n => lastsWith s s.kinds[i] (cargoRow i s.cargos) (lows s l i s.kinds[i]) d n) 0 301 : Nat)) := by
  have hh := holdOk h0 hi
  have hr8 := row8 h0 i
  have h30 := hh.row.len
  have h9 := sizes_9 hh.good.sizes
  have hget := hr8.get (d := d) (by omega)
  have hlen : (lows s l i s.kinds[i]).length ≤ maxLen := by rw [List.length_map]; have := truthsL_len hh; unfold maxLen; omega
  have hrun : ∀ t ∈ lows s l i s.kinds[i], RunOk s.men s.kinds[i] (cargoRow i s.cargos) t := fun t ht => by
    obtain ⟨y, hy, rfl⟩ := List.mem_map.1 ht
    exact (truthsL_run hh hy).1.1
  have key := least_c one 73 [] [.pt (eHoldV s s.kinds[i] (cargoRow i s.cargos) (.sl ((cntsOf l i).map eCount) false)) 0, .pt [I64 d] 0, .pt [.sl ((lows s l i s.kinds[i]).map eTruth) false] 0] rfl 0 301 (by omega) (by omega) (lastsWith s s.kinds[i] (cargoRow i s.cargos) (lows s l i s.kinds[i]) d) fun n hn => by
    rw [Int.zero_add]
    exact cargo1_c true d n h30 (by omega) (by omega) (fun t ht => (hrun t ht).more hr8 (by omega) (by omega)) hlen
  simp only [Int.zero_add] at key
  exact key
end Go.Proofs.Ytmkaeohmdcoanaa
open Go Go.RM
namespace Go.Proofs.Ytmkaeohmdcoanaa
set_option maxRecDepth 100000
set_option maxHeartbeats 4000000
theorem cargo_err (one : Bool) (s : Stores) (h : s.Ok) (l : List Count) (hl : l.length ≤ maxLen) (kd day : Int) (he : askErr s l kd ≠ 0) : Pu one 29 [.ag (eStores s), .sl (l.map eCount) false, I64 kd, I64 day] (.tp [I64 0, I64 (askErr s l kd)]) := by
  have hen := enter_err one s h l hl kd he
  have d1 : (!decide (askErr s l kd = 0)) = true := by simpa using he
  refine PureV.body (fn := Try.f29) rfl rfl rfl rfl ?_
  refine wpC_sound (mu := fun _ => false) ?_
  repeat' (first |with_reducible (first|refine RM.c2 ?_|refine RM.c3 ?_|refine RM.c4 ?_|refine RM.c7 ?_|refine RM.c9 ?_|refine RM.d1 ?_|refine RM.d4 ?_|refine RM.o1 ?_|refine RM.o2 ?_|refine RM.o4 ?_|refine RM.o5 ?_|refine RM.o6 ?_|refine RM.o7 ?_|refine RM.o9 ?_|refine RM.p1 ?_|refine RM.p2 ?_|refine RM.p3 ?_|refine RM.p5 ?_) |((with_reducible show force _ _);first|refine RM.f1 rfl ?_|refine RM.f2 rfl ?_|refine RM.f3 rfl ?_|refine RM.f4 rfl ?_|refine RM.f5 rfl ?_|refine RM.f6 rfl ?_|refine RM.f7 rfl ?_|refine RM.g2 rfl ?_) |((with_reducible show wpOne _ _ _ _ _ _ _ _ _ _ _ _);refine RM.o8 rfl ?_) |((with_reducible show wpC _ _ _ _ (.cond _ _ _) _ _);refine RM.e2 rfl (by assumption) ?_) |((with_reducible show wpBin _ _ _ _ _ _ _ _ _);refine RM.b5 rfl rfl ?_) |(refine ⟨_, rfl, ?_⟩) |(refine ⟨_, _, rfl, by decide, ?_⟩) |(refine ⟨rfl, rfl, rfl, ?_⟩) |(refine ⟨rfl, rfl, ?_⟩) |(refine And.intro (Nat.le_of_ble_eq_true rfl) ?_) |(refine And.intro (by kernel_rfl) ?_) |(refine PureV.call hen rfl rfl ?_) |fail)
  exact ⟨[_, _], ⟨Fz.deep rfl, Fz.deep rfl, trivial⟩, rfl⟩
theorem cargo_none (one : Bool) (s : Stores) (h : s.Ok) (l : List Count) (h0 : cntsErr s l = 0) (i : Nat) (hi : i < s.kinds.length) (d : Nat) (hd : d < s.men.length) (he : truthsL s.men s.kinds[i] (cargoRow i s.cargos) (cntsOf l i) = []) :
    Pu one 29 [.ag (eStores s), .sl (l.map eCount) false, I64 i, I64 d] (.tp [I64 0, I64 9]) := by
  have em : ((s.men.map eI).length : Int) = s.men.length := by simp
  have hh := holdOk h0 hi
  have hen := enter_ok one s h l h0 i hi
  have h30 := hh.row.len
  have hkn := known_c one hh
  have h9 := sizes_9 hh.good.sizes
  rw [if_pos he] at hkn
  have hou := outside_c one 0 (((s.men.map eI).length : Int) - 1) [eI d] true rfl (Nat.le_of_ble_eq_true rfl)
  rw [show outB 0 (((s.men.map eI).length : Int) - 1) ([eI (d : Int)].map unI) = false by rw [em]; show outB 0 ((s.men.length : Int) - 1) [(d : Int)] = false; rw [outB_one, inB_iff.2 (by omega)]; rfl] at hou
  generalize cargoRow i s.cargos = row at *
  generalize s.kinds[i] = k at *
  refine PureV.body (fn := Try.f29) rfl rfl rfl rfl ?_
  refine wpC_sound (mu := fun _ => false) ?_
  repeat' (first |(refine stH h30 rfl rfl rfl rfl ?_) |(refine ldHO h30 rfl rfl ?_) |with_reducible (first|refine RM.c1 ?_|refine RM.c2 ?_|refine RM.c3 ?_|refine RM.c4 ?_|refine RM.c7 ?_|refine RM.c9 ?_|refine RM.d1 ?_|refine RM.d3 ?_|refine RM.o1 ?_|refine RM.o2 ?_|refine RM.o4 ?_|refine RM.o5 ?_|refine RM.o6 ?_|refine RM.o7 ?_|refine RM.o9 ?_|refine RM.p1 ?_|refine RM.p2 ?_|refine RM.p3 ?_|refine RM.p5 ?_|refine RM.p6 ?_) |((with_reducible show force _ _);first|refine RM.f1 rfl ?_|refine RM.f2 rfl ?_|refine RM.f3 rfl ?_|refine RM.f4 rfl ?_|refine RM.f5 rfl ?_|refine RM.f6 rfl ?_|refine RM.f7 rfl ?_|refine RM.g2 rfl ?_) |((with_reducible show wpOne _ _ _ _ _ _ _ _ _ _ _ _);refine RM.o8 rfl ?_) |((with_reducible show wpC _ _ _ _ (.cond _ _ _) _ _);first|refine RM.e2 rfl rfl ?_|refine RM.e3 rfl rfl ?_) |((with_reducible show wpBin _ _ _ _ _ _ _ _ _);first|refine RM.b5 rfl rfl ?_|refine RM.b2 rfl rfl (by omega) ?_) |((with_reducible show wpLen _ _ _ _ _);refine RM.l1 rfl ?_) |(refine ⟨_, rfl, ?_⟩) |(refine ⟨_, _, rfl, by decide, ?_⟩) |(refine ⟨rfl, rfl, rfl, ?_⟩) |(refine ⟨rfl, rfl, ?_⟩) |(refine ⟨_, _, rfl, _, rfl, ?_⟩) |(refine And.intro (Nat.le_of_ble_eq_true rfl) ?_) |(refine And.intro (by kernel_rfl) ?_) |(refine PureV.call hen rfl rfl ?_) |(refine PureV.call hou rfl rfl ?_) |(refine PureV.call hkn rfl (hdeep rfl) ?_) |fail)
  exact ⟨[_, _], ⟨Fz.deep rfl, Fz.deep rfl, trivial⟩, rfl⟩
theorem cargo_okT (one : Bool) (s : Stores) (h : s.Ok) (l : List Count) (h0 : cntsErr s l = 0) (i : Nat) (hi : i < s.kinds.length) (d : Nat) (hd : d < s.men.length) (he : truthsL s.men s.kinds[i] (cargoRow i s.cargos) (cntsOf l i) ≠ []) (r : Nat)
    (hr : bs (fun n => lastsWith s s.kinds[i] (cargoRow i s.cargos) (lows s l i s.kinds[i]) d n) 0 301 = r) :
    Pu one 29 [.ag (eStores s), .sl (l.map eCount) false, I64 i, I64 d] (if 300 < r then .tp [I64 0, I64 9] else .tp [I64 r, I64 0]) := by
  have em : ((s.men.map eI).length : Int) = s.men.length := by simp
  have hh := holdOk h0 hi
  have hen := enter_ok one s h l h0 i hi
  have h30 := hh.row.len
  have hkn := known_c one hh
  have h9 := sizes_9 hh.good.sizes
  rw [if_neg he] at hkn
  have hw := worst_c one hh
  have hle := cargoLeast_c one s l h0 i hi d hd
  rw [hr] at hle
  have hou := outside_c one 0 (((s.men.map eI).length : Int) - 1) [eI d] true rfl (Nat.le_of_ble_eq_true rfl)
  rw [show outB 0 (((s.men.map eI).length : Int) - 1) ([eI (d : Int)].map unI) = false by rw [em]; show outB 0 ((s.men.length : Int) - 1) [(d : Int)] = false; rw [outB_one, inB_iff.2 (by omega)]; rfl] at hou
  clear hr he hh
  unfold lows at hle
  generalize (truthsL s.men s.kinds[i] (cargoRow i s.cargos) (cntsOf l i)).map Prod.fst = L at *
  generalize cargoRow i s.cargos = row at *
  generalize s.kinds[i] = k at *
  have fin : ∀ v, (if 300 < r then AV.tp [I64 0, I64 9] else .tp [I64 r, I64 0]) = v → Pu one 29 [.ag (eStores s), .sl (l.map eCount) false, I64 i, I64 d] v := by
    intro v hv
    have hvd : v.deep = true := by rw [← hv]; split <;> rfl
    refine PureV.body (fn := Try.f29) rfl rfl rfl hvd ?_
    refine RM.c2s (mu := fun _ => false) ?_
    repeat' (first |with_reducible (first|refine RM.c4 ?_|refine RM.c9 ?_|refine RM.o1 ?_|refine RM.o2 ?_|refine RM.o4 ?_|refine RM.o5 ?_|refine RM.p3 ?_) |((with_reducible show force _ _);first|refine RM.f1 rfl ?_|refine RM.f3 rfl ?_) |((with_reducible show wpOne _ _ _ _ _ _ _ _ _ _ _ _);refine RM.o8 rfl ?_) |(refine ⟨rfl, rfl, rfl, ?_⟩) |fail)
    refine RM.c2s (mu := fun _ => false) ?_
    repeat' (first |(refine stH (s := s) (k := k) (row := row) h30 rfl rfl rfl rfl ?_) |with_reducible (first|refine RM.c4 ?_|refine RM.c9 ?_|refine RM.o1 ?_|refine RM.o2 ?_|refine RM.o4 ?_|refine RM.o5 ?_|refine RM.o6 ?_|refine RM.o7 ?_|refine RM.o9 ?_|refine RM.p1 ?_|refine RM.p2 ?_|refine RM.p3 ?_) |((with_reducible show force _ _);first|refine RM.f1 rfl ?_|refine RM.f2 rfl ?_|refine RM.f4 rfl ?_|refine RM.f5 rfl ?_|refine RM.f6 rfl ?_|refine RM.f7 rfl ?_|refine RM.g2 rfl ?_) |((with_reducible show wpOne _ _ _ _ _ _ _ _ _ _ _ _);refine RM.o8 rfl ?_) |(refine ⟨_, rfl, ?_⟩) |(refine And.intro (Nat.le_of_ble_eq_true rfl) ?_) |(refine And.intro (by kernel_rfl) ?_) |(refine PureV.call hen rfl rfl ?_) |fail)
    refine RM.c2s (mu := fun _ => false) ?_
    repeat' (first |with_reducible (first|refine RM.c1 ?_|refine RM.c2 ?_|refine RM.c3 ?_|refine RM.c4 ?_|refine RM.c9 ?_|refine RM.d3 ?_|refine RM.o1 ?_|refine RM.o2 ?_|refine RM.o4 ?_|refine RM.o5 ?_|refine RM.o7 ?_|refine RM.o9 ?_|refine RM.p1 ?_|refine RM.p2 ?_|refine RM.p3 ?_|refine RM.p5 ?_|refine RM.p6 ?_) |((with_reducible show force _ _);first|refine RM.f1 rfl ?_|refine RM.f2 rfl ?_|refine RM.f4 rfl ?_|refine RM.f7 rfl ?_) |((with_reducible show wpOne _ _ _ _ _ _ _ _ _ _ _ _);refine RM.o8 rfl ?_) |((with_reducible show wpC _ _ _ _ (.cond _ _ _) _ _);refine RM.e3 rfl rfl ?_) |((with_reducible show wpBin _ _ _ _ _ _ _ _ _);first|refine RM.b5 rfl rfl ?_|refine RM.b2 rfl rfl (by omega) ?_) |((with_reducible show wpLen _ _ _ _ _);refine RM.l1 rfl ?_) |(refine ⟨_, rfl, ?_⟩) |(refine ⟨_, _, rfl, by decide, ?_⟩) |(refine ⟨rfl, rfl, rfl, ?_⟩) |(refine ⟨rfl, rfl, ?_⟩) |(refine ⟨_, _, rfl, _, rfl, ?_⟩) |(refine PureV.call hou rfl rfl ?_) |fail)
    refine RM.c2s (mu := fun _ => false) ?_
    repeat' (first |(refine ldHO (s := s) (k := k) (row := row) h30 rfl rfl ?_) |with_reducible (first|refine RM.c1 ?_|refine RM.c2 ?_|refine RM.c4 ?_|refine RM.c9 ?_|refine RM.o1 ?_|refine RM.o2 ?_|refine RM.o4 ?_|refine RM.o5 ?_|refine RM.o7 ?_|refine RM.o9 ?_|refine RM.p1 ?_|refine RM.p2 ?_|refine RM.p3 ?_|refine RM.p5 ?_) |((with_reducible show force _ _);first|refine RM.f1 rfl ?_|refine RM.f4 rfl ?_|refine RM.f5 rfl ?_) |((with_reducible show wpOne _ _ _ _ _ _ _ _ _ _ _ _);refine RM.o8 rfl ?_) |((with_reducible show wpC _ _ _ _ (.cond _ _ _) _ _);refine RM.e3 rfl rfl ?_) |((with_reducible show wpBin _ _ _ _ _ _ _ _ _);refine RM.b5 rfl rfl ?_) |(refine PureV.call hkn rfl (hdeep rfl) ?_) |fail)
    refine RM.c2s (mu := fun _ => false) ?_
    repeat' (first |(refine ldHO (s := s) (k := k) (row := row) h30 rfl rfl ?_) |with_reducible (first|refine RM.c4 ?_|refine RM.c9 ?_|refine RM.o1 ?_|refine RM.o2 ?_|refine RM.o4 ?_|refine RM.o5 ?_|refine RM.o6 ?_|refine RM.o7 ?_|refine RM.o9 ?_|refine RM.p1 ?_) |((with_reducible show force _ _);first|refine RM.f4 rfl ?_|refine RM.f5 rfl ?_|refine RM.f7 rfl ?_|refine RM.g2 rfl ?_) |((with_reducible show wpOne _ _ _ _ _ _ _ _ _ _ _ _);refine RM.o8 rfl ?_) |(refine And.intro (by kernel_rfl) ?_) |(refine ⟨_, _, rfl, rfl, rfl, rfl, Nat.le_of_ble_eq_true rfl, ?_⟩) |(refine PureV.call hw rfl (hdeep rfl) ?_) |fail)
    refine SemC.weaker (Weaker.giveUp 0 (l := [(7, .pt [I64 d] 0), (10, .pt (eHoldV s k row (.sl ((cntsOf l i).map eCount) false)) 0), (12, .ptr 1 0 0)]) (hp := [.gone, .cells [.sl (L.map eTruth) false] 0 0]) rfl (Nat.le_refl _) (eHold_deep (s := s) (k := k) (row := row) (c := .sl ((cntsOf l i).map eCount) false) rfl) ⟨.same rfl, .ptr, .same rfl, trivial⟩ rfl rfl) ?_
    refine SemC.weaker (Weaker.giveUp 1 (l := [(7, .pt [I64 d] 0), (10, .pt (eHoldV s k row (.sl ((cntsOf l i).map eCount) false)) 0), (12, .pt [.sl (L.map eTruth) false] 0)]) (hp := [.gone, .gone]) rfl (Nat.zero_le _) rfl ⟨.same rfl, .same rfl, .ptr, trivial⟩ rfl rfl) ?_
    by_cases h3 : 300 < r
    · rw [if_pos h3] at hv
      subst hv
      have d1 : decide ((300 : Int) < r) = true := decide_eq_true (by omega)
      refine wpC_sound (mu := fun _ => false) ?_
      repeat' (first |with_reducible (first|refine RM.c2 ?_|refine RM.c4 ?_|refine RM.c7 ?_|refine RM.c9 ?_|refine RM.d1 ?_|refine RM.o1 ?_|refine RM.o2 ?_|refine RM.o4 ?_|refine RM.o5 ?_|refine RM.o7 ?_|refine RM.o9 ?_|refine RM.p1 ?_|refine RM.p2 ?_|refine RM.p3 ?_|refine RM.p5 ?_|refine RM.p7 ?_) |((with_reducible show force _ _);first|refine RM.f1 rfl ?_|refine RM.f3 rfl ?_|refine RM.f4 rfl ?_) |((with_reducible show wpOne _ _ _ _ _ _ _ _ _ _ _ _);refine RM.o8 rfl ?_) |((with_reducible show wpC _ _ _ _ (.cond _ _ _) _ _);refine RM.e2 rfl (by assumption) ?_) |((with_reducible show wpBin _ _ _ _ _ _ _ _ _);refine RM.b8 rfl rfl ?_) |(refine PureV.call hle rfl rfl ?_) |fail)
      exact ⟨[_, _], ⟨Fz.deep rfl, Fz.deep rfl, trivial⟩, rfl⟩
    · rw [if_neg h3] at hv
      subst hv
      have d1 : decide ((300 : Int) < r) = false := decide_eq_false (by omega)
      refine wpC_sound (mu := fun _ => false) ?_
      repeat' (first |with_reducible (first|refine RM.c1 ?_|refine RM.c2 ?_|refine RM.c4 ?_|refine RM.c7 ?_|refine RM.c9 ?_|refine RM.o1 ?_|refine RM.o2 ?_|refine RM.o4 ?_|refine RM.o5 ?_|refine RM.o7 ?_|refine RM.o9 ?_|refine RM.p1 ?_|refine RM.p2 ?_|refine RM.p3 ?_|refine RM.p5 ?_|refine RM.p7 ?_) |((with_reducible show force _ _);first|refine RM.f1 rfl ?_|refine RM.f3 rfl ?_|refine RM.f4 rfl ?_) |((with_reducible show wpOne _ _ _ _ _ _ _ _ _ _ _ _);refine RM.o8 rfl ?_) |((with_reducible show wpC _ _ _ _ (.cond _ _ _) _ _);refine RM.e3 rfl (by assumption) ?_) |((with_reducible show wpBin _ _ _ _ _ _ _ _ _);refine RM.b8 rfl rfl ?_) |(refine PureV.call hle rfl rfl ?_) |fail)
      exact ⟨[_, _], ⟨Fz.deep rfl, Fz.deep rfl, trivial⟩, rfl⟩
  exact fin _ rfl
end Go.Proofs.Ytmkaeohmdcoanaa
open Go Go.RM
namespace Go.Proofs.Ytmkaeohmdcoanaa
set_option maxRecDepth 100000
def worstStep (out : List Truth) (t : Truth) : List Truth := if (out.all fun o => !decide (o.man = t.man) || !decide (o.ship = t.ship)) = true then out ++ [t] else out
def worstR (L : List Truth) : List Truth := L.foldl worstStep []
theorem worstStep_acc {acc : List Truth} {x t : Truth} (h : t ∈ acc) : t ∈ worstStep acc x := by
  unfold worstStep
  split
  · exact List.mem_append_left _ h
  · exact h
theorem worst_acc : ∀ {L : List Truth} {acc : List Truth} {t : Truth}, t ∈ acc → t ∈ L.foldl worstStep acc
  | [], _, _, h => h
  | _ :: L, _, _, h => worst_acc (L := L) (worstStep_acc h)
theorem worst_mem : ∀ {L : List Truth} {acc : List Truth} {t : Truth}, t ∈ L.foldl worstStep acc → t ∈ acc ∨ t ∈ L
  | [], _, _, h => .inl h
  | x :: L, acc, t, h => by
    rcases worst_mem (L := L) h with h | h
    · unfold worstStep at h
      split at h
      · rcases List.mem_append.1 h with h | h
        · exact .inl h
        · exact .inr (by rw [List.mem_singleton.1 h]; exact List.mem_cons_self ..)
      · exact .inl h
    · exact .inr (List.mem_cons_of_mem _ h)
theorem worst_cover : ∀ {L : List Truth} {acc : List Truth}, (∀ a ∈ acc, ∀ b ∈ L, a.first ≤ b.first) → L.Pairwise (fun a b => a.first ≤ b.first) → ∀ u ∈ L, ∃ t ∈ L.foldl worstStep acc, t.man = u.man ∧ t.ship = u.ship ∧ t.first ≤ u.first
  | [], _, _, _, u, hu => by cases hu
  | x :: L, acc, hacc, hs, u, hu => by
    rw [List.pairwise_cons] at hs
    have hx : ∃ t ∈ worstStep acc x, t.man = x.man ∧ t.ship = x.ship ∧ t.first ≤ x.first := by
      unfold worstStep
      split
      · exact ⟨x, by simp, rfl, rfl, Int.le_refl _⟩
      · rename_i hn
        rw [List.all_eq_true] at hn
        apply Classical.byContradiction
        intro hne
        apply hn
        intro o ho
        cases h1 : decide (o.man = x.man) with
        | false => rfl
        | true =>
          cases h2 : decide (o.ship = x.ship) with
          | false => rfl
          | true =>
            rw [decide_eq_true_eq] at h1 h2
            exact absurd ⟨o, ho, h1, h2, hacc o ho x (List.mem_cons_self ..)⟩ hne
    rcases List.mem_cons.1 hu with rfl | hu
    · obtain ⟨t, ht, h⟩ := hx
      exact ⟨t, worst_acc (L := L) ht, h⟩
    · refine worst_cover (L := L) (fun a ha b hb => ?_) hs.2 u hu
      unfold worstStep at ha
      split at ha
      · rcases List.mem_append.1 ha with ha | ha
        · exact hacc a ha b (List.mem_cons_of_mem _ hb)
        · rw [List.mem_singleton.1 ha]; exact hs.1 b hb
      · exact hacc a ha b (List.mem_cons_of_mem _ hb)
/-- What is worse with less at first. -/
def Worse (P : Truth → Bool) : Prop := ∀ t u : Truth, t.man = u.man → t.ship = u.ship → t.first ≤ u.first → P u = true → P t = true
theorem bool_iff {a b : Bool} (h : a = true ↔ b = true) : a = b := by
  cases a <;> cases b <;> simp_all
theorem any_worst {P : Truth → Bool} (hP : Worse P) {L : List Truth} (hs : L.Pairwise (fun a b => a.first ≤ b.first)) : (worstR L).any P = L.any P := by
  apply bool_iff
  rw [List.any_eq_true, List.any_eq_true]
  constructor
  · rintro ⟨t, ht, h⟩
    rcases worst_mem ht with h0 | h0
    · cases h0
    · exact ⟨t, h0, h⟩
  · rintro ⟨u, hu, h⟩
    obtain ⟨t, ht, h1, h2, h3⟩ := worst_cover (acc := []) (fun a ha => by cases ha) hs u hu
    exact ⟨t, ht, hP t u h1 h2 h3 h⟩
theorem all_sorted (men : List Int) (k : Kind) (row : List Int) (l : List Count) (i : Nat) : (allOf men k row l i).Pairwise (fun a b => a.first ≤ b.first) := by
  unfold allOf pastN
  refine List.Pairwise.filter _ ?_
  rw [List.pairwise_map]
  refine List.Pairwise.imp ?_ List.pairwise_lt_range
  intro a b hab
  unfold truthQ
  have h1 : a / spanN k.ship / spanN k.man ≤ b / spanN k.ship / spanN k.man := Nat.div_le_div_right (Nat.div_le_div_right (Nat.le_of_lt hab))
  dsimp only
  omega
theorem any_lows {P : Truth → Bool} (hP : Worse P) {s : Stores} {l : List Count} {i : Nat} {k : Kind} : (lows s l i k).any P = (allS s l i k).any P := by
  apply bool_iff
  rw [List.any_eq_true, List.any_eq_true]
  constructor
  · rintro ⟨t, ht, h⟩
    obtain ⟨y, hy, rfl⟩ := List.mem_map.1 ht
    exact ⟨y.1, (pair_all hy).1, h⟩
  · rintro ⟨u, hu, h⟩
    obtain ⟨y, hy, ⟨h1, _⟩, ⟨h3, h4⟩, _⟩ := all_pair hu
    exact ⟨y.1, List.mem_map.2 ⟨y, hy, rfl⟩, hP y.1 u h3 h4 h1 h⟩
theorem short_worse (men : List Int) (k : Kind) (row : List Int) (down : Int) : Worse (runsShort men k row down) := by
  rintro ⟨a, m, p⟩ ⟨b, m', p'⟩ h1 h2 h3 h
  dsimp only at h1 h2 h3
  subst h1 h2
  unfold runsShort at h ⊢
  rw [decide_eq_true_eq] at h ⊢
  exact Int.lt_of_le_of_lt (short_up h3 down _) h
/-- The two ways to whether a kind lasts. -/
theorem lasts_two (s : Stores) (l : List Count) (i : Nat) (k : Kind) (row : List Int) (down : Int) : (lows s l i k).any (runsShort s.men k row down) = (worstR (allS s l i k)).any (runsShort s.men k row down) := by
  rw [any_lows (short_worse _ _ _ _), any_worst (short_worse _ _ _ _) (all_sorted _ _ _ _ _)]
theorem have_row {men : List Int} {k : Kind} {row row' : List Int} {t : Truth} (h : ∀ i, row.getD i 0 ≤ row'.getD i 0) (down : Int) : ∀ i, haveAt men k row t down i ≤ haveAt men k row' t down i
  | 0 => Int.le_refl _
  | i + 1 => by
    have ih := have_row (men := men) (k := k) (t := t) h down i
    have hi := h i
    show max 0 (rawAt men k row t down i _) ≤ max 0 (rawAt men k row' t down i _)
    unfold rawAt
    generalize haveAt men k row t down i = a at *
    generalize haveAt men k row' t down i = b at *
    generalize row.getD i 0 = c at *
    generalize row'.getD i 0 = d at *
    omega
theorem short_row {men : List Int} {k : Kind} {row row' : List Int} {t : Truth} (h : ∀ i, row.getD i 0 ≤ row'.getD i 0) (down : Int) : ∀ i, shortAt men k row t down i ≤ shortAt men k row' t down i
  | 0 => Int.le_refl _
  | i + 1 => by
    have ih := short_row (men := men) (k := k) (t := t) h down i
    have hh := have_row (men := men) (k := k) (t := t) h down i
    have hi := h i
    have hr : rawAt men k row t down i (haveAt men k row t down i) ≤ rawAt men k row' t down i (haveAt men k row' t down i) := by
      unfold rawAt
      generalize haveAt men k row t down i = a at *
      generalize haveAt men k row' t down i = b at *
      generalize row.getD i 0 = c at *
      generalize row'.getD i 0 = d at *
      omega
    show (if _ < 0 then _ else _) ≤ (if _ < 0 then _ else _)
    split <;> split <;> omega
theorem row_more {row : List Int} {d : Nat} {n n' : Int} (h : n ≤ n') (i : Nat) : (row.set d (row.getD d 0 + n)).getD i 0 ≤ (row.set d (row.getD d 0 + n')).getD i 0 := by
  rw [List.getD_eq_getElem?_getD, List.getD_eq_getElem?_getD (l := row.set d (row.getD d 0 + n')), List.getElem?_set, List.getElem?_set]
  split
  · split
    · dsimp only [Option.getD_some]; omega
    · exact Int.le_refl _
  · exact Int.le_refl _
theorem lastsWith_more {s : Stores} {k : Kind} {row : List Int} {L : List Truth} {d : Nat} {n n' : Int} (h : n ≤ n') (hl : lastsWith s k row L d n = true) : lastsWith s k row L d n' = true := by
  unfold lastsWith at hl ⊢
  rw [Bool.not_eq_true', List.any_eq_false] at hl ⊢
  intro t ht hs
  apply hl t ht
  unfold runsShort at hs ⊢
  rw [decide_eq_true_eq] at hs ⊢
  exact Int.lt_of_le_of_lt (short_row (row_more h) _ _) hs
/-- The least amount, and none below. -/
structure IsLeast (p : Nat → Bool) (n r : Nat) : Prop where
  le : r ≤ n
  below : ∀ a, a < r → p a = false
  here : r < n → p r = true
theorem cargo_least (s : Stores) (l : List Count) (i : Nat) (k : Kind) (row : List Int) (d : Nat) :
    IsLeast (fun n => lastsWith s k row (worstR (allS s l i k)) d n) 301 (bs (fun n => lastsWith s k row (lows s l i k) d n) 0 301) := by
  have he : (fun n : Nat => lastsWith s k row (worstR (allS s l i k)) d n) = fun n : Nat => lastsWith s k row (lows s l i k) d n := by
    funext n
    unfold lastsWith
    rw [lasts_two]
  rw [he]
  have b0 := bs_least (fun n : Nat => lastsWith s k row (lows s l i k) d n) 0 301 (Nat.zero_le _) (fun a b _ h _ hp => lastsWith_more (by omega) hp)
  exact ⟨(bs_in _ 0 301 (Nat.zero_le _)).2, fun a ha => b0.1 a (Nat.zero_le _) ha, b0.2⟩
end Go.Proofs.Ytmkaeohmdcoanaa
open Go Go.RM
namespace Go.Proofs.Ytmkaeohmdcoanaa
set_option maxRecDepth 100000
set_option maxHeartbeats 4000000
def other (t o : Truth) : Bool := !decide (o.man = t.man) || !decide (o.ship = t.ship)
end Go.Proofs.Ytmkaeohmdcoanaa
open Go Go.RM
namespace Go.Proofs.Ytmkaeohmdcoanaa
set_option maxRecDepth 100000
set_option maxHeartbeats 4000000
abbrev withC (s : Stores) (c : Cargo) : Stores := ⟨s.men, s.kinds, s.cargos ++ [c]⟩
theorem cargos_deep : ∀ L : List Cargo, deepL ((L.map eCargo).flatten) = true
  | [] => rfl
  | t :: L => by
    rw [List.map_cons, List.flatten_cons]
    exact deepL_append rfl (cargos_deep L)
theorem cargos_one : ∀ L : List Cargo, ((L.map eCargo).flatten).all AV.one = true
  | [] => rfl
  | t :: L => by
    rw [List.map_cons, List.flatten_cons, List.all_append, cargos_one L]
    rfl
theorem with_c (one : Bool) (s : Stores) (c : Cargo) (h : s.cargos.length ≤ 1000) : Pu one 47 [.ag (eStores s), .ag (eCargo c)] (.ag (eStores (withC s c))) := by
  show Pu one 47 [.ag [.sl (s.men.map eI) false, .sl (s.kinds.map eKind) false, .sl (s.cargos.map eCargo) false], .ag (eCargo c)] (.ag [.sl (s.men.map eI) false, .sl (s.kinds.map eKind) false, .sl ((s.cargos ++ [c]).map eCargo) false])
  have hd : deepL ((s.cargos.map eCargo).flatten) = true := cargos_deep s.cargos
  have ho := cargos_one s.cargos
  have hall : ∀ el ∈ s.cargos.map eCargo, el.length = 3 := fun el hel => by obtain ⟨y, _, rfl⟩ := List.mem_map.1 hel; rfl
  have hfl : (s.cargos.map eCargo).flatten.length = (s.cargos.map eCargo).length * 3 := flatten_len hall
  have hlen : (s.cargos.map eCargo).length ≤ 1000 := by rw [List.length_map]; exact h
  rw [show (s.cargos ++ [c]).map eCargo = s.cargos.map eCargo ++ [eCargo c] by simp]
  generalize s.cargos.map eCargo = cs at *
  have fin : ∀ (v n : Nat) (hp : List AB), n = cs.length → hp[2]? = some (.cells (cs.flatten ++ [eCargo c].flatten) 3 v) → Fz hp (.ag [.sl (s.men.map eI) false, .sl (s.kinds.map eKind) false, .osl 2 v 0 (n + 1) (n + 1 + 1)]) (.ag [.sl (s.men.map eI) false, .sl (s.kinds.map eKind) false, .sl (cs ++ [eCargo c]) false]) := by
    intro v n hp hn hv
    subst hn
    refine Fz.ag rfl ?_
    intro j a b ha hb
    match j, ha, hb with
    | 0, ha, hb => cases ha; cases hb; exact Fz.deep rfl
    | 1, ha, hb => cases ha; cases hb; exact Fz.deep rfl
    | 2, ha, hb =>
      cases ha
      cases hb
      refine Fz.row (es := 3) hv ?_ ?_ ?_ ?_ ?_ (fun h => Bool.noConfusion h)
      · rw [List.length_append, hfl]
        show 0 + (cs.length + 1) * 3 ≤ cs.length * 3 + 3
        omega
      · simp
      · intro el hel
        rcases List.mem_append.1 hel with h1 | h1
        · exact hall el h1
        · rw [List.mem_singleton.1 h1]; rfl
      · rw [List.flatten_append, List.drop_zero, List.take_of_length_le]
        rw [List.length_append, hfl]
        show cs.length * 3 + 3 ≤ _
        omega
      · rw [List.flatten_append]
        exact deepL_append hd rfl
    | j + 3, ha, hb => cases ha
  by_cases hne : cs = []
  · subst hne
    refine PureV.body (fn := Try.f47) rfl rfl rfl rfl ?_
    refine wpC_sound (mu := fun t => Nat.beq t 2 || Nat.beq t 5) ?_
    repeat' (first |with_reducible (first|refine RM.c2 ?_|refine RM.c4 ?_|refine RM.c5 ?_|refine RM.c9 ?_|refine RM.o1 ?_|refine RM.o2 ?_|refine RM.o3 ?_|refine RM.o4 ?_|refine RM.o5 ?_) |((with_reducible show force _ _);first|refine RM.f2 rfl ?_|refine RM.f7 rfl ?_) |((with_reducible show wpOne _ _ _ _ _ _ _ _ _ _ _ _);refine RM.o8 rfl ?_) |((with_reducible show wpDOne _ _ _ _ _ _ _ _ _ _);refine RM.p9 rfl ?_) |(refine ⟨_, rfl, ?_⟩) |(refine ⟨_, _, rfl, by decide, ?_⟩) |(refine ⟨rfl, rfl, rfl, ?_⟩) |(refine ⟨_, _, rfl, _, rfl, ?_⟩) |(refine And.intro (by kernel_rfl) ?_) |fail)
    refine ⟨[], ⟨fun el hel => (by cases hel), rfl⟩, rfl, _, rfl, rfl, Or.inl rfl, And.intro (by decide) (by decide), fun _ => ?_, fun h => absurd rfl h⟩
    repeat' (first |with_reducible (first|refine RM.o3 ?_|refine RM.o4 ?_|refine RM.o5 ?_) |((with_reducible show force _ _);first|refine RM.f2 rfl ?_|refine RM.f5 rfl ?_|refine RM.f8 rfl ?_) |((with_reducible show wpDOne _ _ _ _ _ _ _ _ _ _);refine RM.p9 rfl ?_) |(refine ⟨_, rfl, ?_⟩) |(refine ⟨rfl, rfl, rfl, ?_⟩) |(refine ⟨rfl, rfl, ?_⟩) |(refine And.intro (Nat.le_of_ble_eq_true rfl) ?_) |(refine And.intro (by kernel_rfl) ?_) |fail)
    refine ⟨[eCargo c], ⟨fun el hel => by rw [List.mem_singleton.1 hel]; rfl, rfl⟩, rfl, _, rfl, rfl, Or.inl rfl, And.intro (by show (0 + 1) * 24 ≤ _; decide) (by show 0 + 1 ≤ _; decide), fun hn => absurd hn (by simp), fun _ => ?_⟩
    repeat' (first |with_reducible (first|refine RM.c2 ?_|refine RM.c4 ?_|refine RM.c7 ?_|refine RM.c9 ?_|refine RM.o1 ?_|refine RM.o2 ?_|refine RM.o3 ?_|refine RM.o4 ?_|refine RM.o5 ?_|refine RM.o6 ?_) |((with_reducible show force _ _);first|refine RM.f5 rfl ?_|refine RM.f7 rfl ?_|refine RM.f8 rfl ?_|refine RM.g2 rfl ?_) |((with_reducible show wpOne _ _ _ _ _ _ _ _ _ _ _ _);refine RM.o8 rfl ?_) |((with_reducible show wpDOne _ _ _ _ _ _ _ _ _ _);refine RM.p9 rfl ?_) |(refine ⟨_, rfl, ?_⟩) |(refine ⟨_, _, rfl, by decide, ?_⟩) |(refine And.intro (by kernel_rfl) ?_) |(refine ⟨_, _, rfl, rfl, rfl, rfl, Nat.le_of_ble_eq_true rfl, ?_⟩) |(refine ⟨_, _, rfl, Nat.le_of_ble_eq_true rfl, ?_⟩) |fail)
    exact ⟨[_], ⟨fin 1 0 _ rfl rfl, trivial⟩, rfl⟩
  · refine PureV.body (fn := Try.f47) rfl rfl rfl rfl ?_
    refine wpC_sound (mu := fun t => Nat.beq t 2 || Nat.beq t 5) ?_
    repeat' (first |with_reducible (first|refine RM.c2 ?_|refine RM.c4 ?_|refine RM.c5 ?_|refine RM.c9 ?_|refine RM.o1 ?_|refine RM.o2 ?_|refine RM.o3 ?_|refine RM.o4 ?_|refine RM.o5 ?_) |((with_reducible show force _ _);first|refine RM.f2 rfl ?_|refine RM.f7 rfl ?_) |((with_reducible show wpOne _ _ _ _ _ _ _ _ _ _ _ _);refine RM.o8 rfl ?_) |((with_reducible show wpDOne _ _ _ _ _ _ _ _ _ _);refine RM.p9 rfl ?_) |(refine ⟨_, rfl, ?_⟩) |(refine ⟨_, _, rfl, by decide, ?_⟩) |(refine ⟨rfl, rfl, rfl, ?_⟩) |(refine ⟨_, _, rfl, _, rfl, ?_⟩) |(refine And.intro (by kernel_rfl) ?_) |fail)
    refine ⟨cs, ⟨hall, rfl⟩, ho, _, rfl, rfl, Or.inl rfl, And.intro (by show (0 + cs.length) * 24 ≤ _; omega) (by show 0 + cs.length ≤ _; omega), fun h => absurd h hne, fun _ => ?_⟩
    repeat' (first |with_reducible (first|refine RM.o3 ?_|refine RM.o4 ?_|refine RM.o5 ?_) |((with_reducible show force _ _);first|refine RM.f2 rfl ?_|refine RM.f5 rfl ?_|refine RM.f8 rfl ?_) |((with_reducible show wpDOne _ _ _ _ _ _ _ _ _ _);refine RM.p9 rfl ?_) |(refine ⟨_, rfl, ?_⟩) |(refine ⟨rfl, rfl, rfl, ?_⟩) |(refine ⟨rfl, rfl, ?_⟩) |(refine And.intro (Nat.le_of_ble_eq_true rfl) ?_) |(refine And.intro (by kernel_rfl) ?_) |fail)
    refine ⟨[eCargo c], ⟨fun el hel => by rw [List.mem_singleton.1 hel]; rfl, rfl⟩, rfl, _, rfl, (by show (([] : List AV) ++ cs.flatten).length = (0 + cs.length) * 3; rw [List.nil_append, hfl, Nat.zero_add]), Or.inr rfl, And.intro (by show (0 + cs.length + 1) * 24 ≤ _; omega) (by show 0 + cs.length + 1 ≤ _; omega), fun hn => absurd hn (by simp), fun _ => ?_⟩
    repeat' (first |with_reducible (first|refine RM.c2 ?_|refine RM.c4 ?_|refine RM.c7 ?_|refine RM.c9 ?_|refine RM.o1 ?_|refine RM.o2 ?_|refine RM.o3 ?_|refine RM.o4 ?_|refine RM.o5 ?_|refine RM.o6 ?_) |((with_reducible show force _ _);first|refine RM.f5 rfl ?_|refine RM.f7 rfl ?_|refine RM.f8 rfl ?_|refine RM.g2 rfl ?_) |((with_reducible show wpOne _ _ _ _ _ _ _ _ _ _ _ _);refine RM.o8 rfl ?_) |((with_reducible show wpDOne _ _ _ _ _ _ _ _ _ _);refine RM.p9 rfl ?_) |(refine ⟨_, rfl, ?_⟩) |(refine ⟨_, _, rfl, by decide, ?_⟩) |(refine And.intro (by kernel_rfl) ?_) |(refine ⟨_, _, rfl, rfl, rfl, rfl, Nat.le_of_ble_eq_true rfl, ?_⟩) |(refine ⟨_, _, rfl, Nat.le_of_ble_eq_true rfl, ?_⟩) |fail)
    exact ⟨[_], ⟨fin 2 (0 + cs.length) _ (Nat.zero_add _) rfl, trivial⟩, rfl⟩
end Go.Proofs.Ytmkaeohmdcoanaa
open Go Go.RM
namespace Go.Proofs.Ytmkaeohmdcoanaa
set_option maxRecDepth 100000
theorem truthOk_iff {k : Kind} {t : Truth} : truthOk k t = true ↔ (k.first.lo ≤ t.first ∧ t.first ≤ k.first.hi) ∧ (k.man.lo ≤ t.man ∧ t.man ≤ k.man.hi) ∧ k.ship.lo ≤ t.ship ∧ t.ship ≤ k.ship.hi := by
  unfold truthOk
  simp only [Bool.and_eq_true, inB_iff]
theorem all_iff {men : List Int} {k : Kind} {row : List Int} {l : List Count} {i : Nat} {t : Truth} : t ∈ allOf men k row l i ↔ (truthOk k t = true ∧ agr men k row l i t = true) := by
  unfold allOf pastN
  rw [List.mem_filter, List.mem_map]
  constructor
  · rintro ⟨⟨q, hq, rfl⟩, ha⟩
    rw [List.mem_range] at hq
    refine ⟨?_, ha⟩
    have hP : 0 < spanN k.ship := by
      apply Nat.pos_of_ne_zero
      intro h0
      rw [h0, Nat.mul_zero] at hq
      exact absurd hq (Nat.not_lt_zero _)
    have hM : 0 < spanN k.man := by
      apply Nat.pos_of_ne_zero
      intro h0
      rw [h0, Nat.mul_zero, Nat.zero_mul] at hq
      exact absurd hq (Nat.not_lt_zero _)
    have h1 : q / spanN k.ship % spanN k.man < spanN k.man := Nat.mod_lt _ hM
    have h2 : q % spanN k.ship < spanN k.ship := Nat.mod_lt _ hP
    have h3 : q / spanN k.ship / spanN k.man < spanN k.first := by
      rw [Nat.div_lt_iff_lt_mul hM, Nat.div_lt_iff_lt_mul hP]
      exact hq
    rw [truthOk_iff]
    unfold truthQ
    dsimp only
    generalize q / spanN k.ship % spanN k.man = x at *
    generalize q % spanN k.ship = y at *
    generalize q / spanN k.ship / spanN k.man = z at *
    clear hq hP hM ha
    unfold spanN at *
    omega
  · rintro ⟨ht, ha⟩
    refine ⟨?_, ha⟩
    rw [truthOk_iff] at ht
    obtain ⟨a, b, c⟩ := t
    dsimp only at ht
    obtain ⟨x, rfl⟩ : ∃ x : Nat, a = k.first.lo + x := ⟨(a - k.first.lo).toNat, by omega⟩
    obtain ⟨y, rfl⟩ : ∃ x : Nat, b = k.man.lo + x := ⟨(b - k.man.lo).toNat, by omega⟩
    obtain ⟨z, rfl⟩ : ∃ x : Nat, c = k.ship.lo + x := ⟨(c - k.ship.lo).toNat, by omega⟩
    have hx : x < spanN k.first := by unfold spanN; omega
    have hy : y < spanN k.man := by unfold spanN; omega
    have hz : z < spanN k.ship := by unfold spanN; omega
    refine ⟨(x * spanN k.man + y) * spanN k.ship + z, ?_, truthQ_at k hy hz⟩
    rw [List.mem_range]
    have q1 : (x + 1) * spanN k.man ≤ spanN k.first * spanN k.man := Nat.mul_le_mul_right _ hx
    rw [Nat.add_mul, Nat.one_mul] at q1
    have q2 : (x * spanN k.man + y + 1) * spanN k.ship ≤ spanN k.first * spanN k.man * spanN k.ship := Nat.mul_le_mul_right _ (by omega)
    rw [Nat.add_mul, Nat.one_mul] at q2
    omega
end Go.Proofs.Ytmkaeohmdcoanaa
open Go Go.RM
namespace Go.Proofs.Ytmkaeohmdcoanaa
set_option maxRecDepth 100000
set_option maxHeartbeats 4000000
end Go.Proofs.Ytmkaeohmdcoanaa
open Go Go.RM
namespace Go.Proofs.Ytmkaeohmdcoanaa
set_option maxRecDepth 100000
set_option maxHeartbeats 4000000
theorem good_with {s : Stores} (hg : Good s) (h8 : s.cargos.length ≤ 8) {d i : Nat} (hd : d < s.men.length) (hi : i < s.kinds.length) {n : Int} (hn : 0 ≤ n ∧ n ≤ 300) : Good (withC s ⟨d, i, n⟩) := by
  have hz := sizes_9 hg.sizes
  refine ⟨⟨hz.1, hz.2.1, ?_⟩, hg.men, hg.kinds, fun c hc => ?_⟩
  · show (s.cargos ++ [(⟨d, i, n⟩ : Cargo)]).length ≤ 9
    rw [List.length_append]
    show s.cargos.length + 1 ≤ 9
    omega
  · rcases List.mem_append.1 hc with hc | hc
    · exact hg.cargos c hc
    · rw [List.mem_singleton.1 hc]
      dsimp only
      omega
theorem row_with (s : Stores) (i d : Nat) (n : Int) : cargoRow i (withC s ⟨d, i, n⟩).cargos = (cargoRow i s.cargos).set d ((cargoRow i s.cargos).getD d 0 + n) := by
  show cargoRow i (s.cargos ++ [_]) = _
  rw [cargoRow_snoc]
  unfold addCargo
  rw [if_pos rfl]
  rfl
end Go.Proofs.Ytmkaeohmdcoanaa
open Go Go.RM
namespace Go.Proofs.Ytmkaeohmdcoanaa
set_option maxRecDepth 100000
set_option maxHeartbeats 4000000
theorem truthAny {k : Kind} (h : KindGood k) (a b c : Int) : truthOk k (anyT k a b c) = true := by
  have hs := h.spans
  have h1 := amongI_in hs.1 a
  have h2 := amongI_in hs.2.1 b
  have h3 := amongI_in hs.2.2 c
  unfold truthOk anyT
  simp only [Bool.and_eq_true, inB_iff]
  exact ⟨h1, h2, h3⟩
theorem modN {a : Int} {n : Nat} (hn : 0 < n) : ∃ i : Nat, i < n ∧ a % (n : Int) = i := by
  have h1 := Int.emod_nonneg a (show (n : Int) ≠ 0 by omega)
  have h2 := Int.emod_lt_of_pos a (show 0 < (n : Int) by omega)
  exact ⟨(a % (n : Int)).toNat, by omega, by omega⟩
def agrL (l : List Count) (i : Nat) (L : List Int) : Bool := l.all fun c => !decide (c.kind = (i : Int)) || cntIn L c
theorem agrees44_c (one : Bool) (l : List Count) (i : Nat) (L : List Int) (hl : l.length ≤ 8) (hd : ∀ c ∈ l, 0 ≤ c.day ∧ c.day < L.length) :
    Pu one 44 [.sl (l.map eCount) false, I64 i, .sl (L.map eI) false] (BB (agrL l i L)) := by
  have el : ((l.map eCount).length : Int) = l.length := by simp
  unfold agrL
  generalize hff : (fun c : Count => !decide (c.kind = (i : Int)) || cntIn L c) = ff
  have hfa : ∀ c : Count, ff c = (!decide (c.kind = (i : Int)) || cntIn L c) := fun c => by rw [← hff]
  refine PureV.body (fn := Try.f44) rfl rfl rfl rfl ?_
  refine wpC_sound (mu := fun _ => false) ?_
  repeat' (first |with_reducible (first|refine RM.c2 ?_|refine RM.c3 ?_|refine RM.c4 ?_|refine RM.c9 ?_|refine RM.o1 ?_|refine RM.o2 ?_|refine RM.o4 ?_|refine RM.o5 ?_|refine RM.p3 ?_) |((with_reducible show force _ _);refine RM.f1 rfl ?_) |((with_reducible show wpOne _ _ _ _ _ _ _ _ _ _ _ _);refine RM.o8 rfl ?_) |fail)
  refine SemC.weaker (Weaker.to (l := [(0, .sl (l.map eCount) false), (1, I64 i), (2, .sl (L.map eI) false), (7, I64 (0 : Nat))]) (hp := []) 0 rfl ⟨rfl, rfl, rfl, rfl, trivial⟩ (Nat.zero_le _) rfl rfl) ?_
  refine SemC.loop (fun j : Nat => j ≤ l.length ∧ (l.take j).all ff = true) (fun j => ⟨mkFr [(0, .sl (l.map eCount) false), (1, I64 i), (2, .sl (L.map eI) false), (7, I64 (j : Nat))], [], Amb.none, false, 0⟩) (fun j => l.length - j) ?_ 0 ⟨Nat.zero_le _, rfl⟩
  rintro j ⟨hj, hno⟩
  refine wpC_sound (mu := fun _ => false) ?_
  repeat' (first |with_reducible (first|refine RM.c2 ?_|refine RM.c4 ?_|refine RM.c9 ?_|refine RM.o1 ?_|refine RM.o2 ?_|refine RM.o4 ?_|refine RM.o5 ?_|refine RM.p2 ?_|refine RM.p5 ?_|refine RM.p6 ?_) |((with_reducible show force _ _);first|refine RM.f1 rfl ?_|refine RM.f2 rfl ?_) |((with_reducible show wpOne _ _ _ _ _ _ _ _ _ _ _ _);refine RM.o8 rfl ?_) |((with_reducible show wpBin _ _ _ _ _ _ _ _ _);refine RM.b6 rfl rfl ?_) |((with_reducible show wpLen _ _ _ _ _);refine RM.l1 rfl ?_) |fail)
  refine RM.e1 rfl ⟨fun hc => ?_, fun hc => ?_⟩
  · have hlt : j < l.length := by simpa only [el, decide_eq_true_eq, Int.ofNat_lt] using hc
    have hat := all_take (f := ff) hlt
    have hagc := agrees_c one l[j] L (hd _ (List.getElem_mem hlt))
    rw [hno, Bool.true_and, hfa] at hat
    by_cases hk : l[j].kind = (i : Int)
    · have d1 : decide (l[j].kind = (i : Int)) = true := decide_eq_true hk
      rw [d1, Bool.not_true, Bool.false_or] at hat
      cases hb : cntIn L l[j] with
      | true =>
        rw [hb] at hat hagc
        repeat' (first |with_reducible (first|refine RM.c1 ?_|refine RM.c2 ?_|refine RM.c3 ?_|refine RM.c4 ?_|refine RM.c9 ?_|refine RM.d3 ?_|refine RM.o1 ?_|refine RM.o2 ?_|refine RM.o4 ?_|refine RM.o5 ?_|refine RM.o7 ?_|refine RM.o9 ?_|refine RM.p1 ?_|refine RM.p2 ?_|refine RM.p3 ?_|refine RM.p4 ?_|refine RM.p5 ?_) |((with_reducible show force _ _);first|refine RM.f1 rfl ?_|refine RM.f2 rfl ?_|refine RM.f3 rfl ?_|refine RM.f4 rfl ?_|refine RM.f5 rfl ?_) |((with_reducible show wpOne _ _ _ _ _ _ _ _ _ _ _ _);refine RM.o8 rfl ?_) |((with_reducible show wpGuard _ _ _ _ _);refine wpGuard_yes rfl rfl (by assumption) ?_) |((with_reducible show wpC _ _ _ _ (.cond _ _ _) _ _);refine RM.e3 rfl rfl ?_) |((with_reducible show wpPick _ _ _ _ _);refine RM.k1 rfl ?_) |((with_reducible show wpPickB _ _ _ _ _);refine RM.k2 (by assumption) ?_) |((with_reducible show wpBin _ _ _ _ _ _ _ _ _);first|refine RM.b4 rfl rfl ?_|refine RM.b1 rfl rfl (by omega) ?_) |((with_reducible show RM.wpOp _ _ _ _ _ _);refine RM.n3 rfl ?_) |(refine ⟨_, rfl, ?_⟩) |(refine ⟨_, _, rfl, by decide, ?_⟩) |(refine And.intro (Nat.le_of_ble_eq_true rfl) ?_) |(refine ⟨eCount l[j], ⟨by omega, map_at hlt⟩, rfl, ?_⟩) |(refine PureV.call hagc rfl rfl ?_) |fail)
        exact ⟨j + 1, ⟨hlt, hat⟩, (by dsimp only; omega), Weaker.to 0 rfl ⟨rfl, rfl, rfl, i64c (by simp), trivial⟩ (Nat.zero_le _) rfl rfl⟩
      | false =>
        rw [hb] at hagc
        have hall : l.all ff = false := by
          apply Bool.eq_false_iff.2
          intro h
          have h1 := List.all_eq_true.1 h _ (List.getElem_mem hlt)
          rw [hfa, d1, hb] at h1
          exact absurd h1 (by decide)
        rw [hall]
        repeat' (first |with_reducible (first|refine RM.c1 ?_|refine RM.c2 ?_|refine RM.c3 ?_|refine RM.c4 ?_|refine RM.c7 ?_|refine RM.c9 ?_|refine RM.d1 ?_|refine RM.d4 ?_|refine RM.o1 ?_|refine RM.o2 ?_|refine RM.o4 ?_|refine RM.o5 ?_|refine RM.o7 ?_|refine RM.o9 ?_|refine RM.p1 ?_|refine RM.p2 ?_|refine RM.p3 ?_|refine RM.p4 ?_|refine RM.p5 ?_|refine RM.q1 ?_) |((with_reducible show force _ _);first|refine RM.f1 rfl ?_|refine RM.f2 rfl ?_|refine RM.f3 rfl ?_|refine RM.f4 rfl ?_|refine RM.f5 rfl ?_) |((with_reducible show wpOne _ _ _ _ _ _ _ _ _ _ _ _);refine RM.o8 rfl ?_) |((with_reducible show wpGuard _ _ _ _ _);refine wpGuard_yes rfl rfl (by assumption) ?_) |((with_reducible show wpC _ _ _ _ (.cond _ _ _) _ _);refine RM.e2 rfl rfl ?_) |((with_reducible show wpPick _ _ _ _ _);refine RM.k1 rfl ?_) |((with_reducible show wpPickB _ _ _ _ _);refine RM.k2 (by assumption) ?_) |((with_reducible show wpBin _ _ _ _ _ _ _ _ _);refine RM.b4 rfl rfl ?_) |((with_reducible show RM.wpOp _ _ _ _ _ _);refine RM.n3 rfl ?_) |(refine ⟨_, rfl, ?_⟩) |(refine ⟨_, _, rfl, by decide, ?_⟩) |(refine And.intro (Nat.le_of_ble_eq_true rfl) ?_) |(refine ⟨eCount l[j], ⟨by omega, map_at hlt⟩, rfl, ?_⟩) |(refine PureV.call hagc rfl rfl ?_) |fail)
        exact ⟨[_], ⟨Fz.deep rfl, trivial⟩, rfl⟩
    · have d1 : decide (l[j].kind = (i : Int)) = false := decide_eq_false hk
      rw [d1, Bool.not_false, Bool.true_or] at hat
      repeat' (first |with_reducible (first|refine RM.c1 ?_|refine RM.c2 ?_|refine RM.c3 ?_|refine RM.c4 ?_|refine RM.c9 ?_|refine RM.d3 ?_|refine RM.o1 ?_|refine RM.o2 ?_|refine RM.o4 ?_|refine RM.o5 ?_|refine RM.p2 ?_|refine RM.p3 ?_|refine RM.p4 ?_|refine RM.p5 ?_) |((with_reducible show force _ _);first|refine RM.f1 rfl ?_|refine RM.f2 rfl ?_|refine RM.f3 rfl ?_) |((with_reducible show wpOne _ _ _ _ _ _ _ _ _ _ _ _);refine RM.o8 rfl ?_) |((with_reducible show wpGuard _ _ _ _ _);refine wpGuard_no rfl rfl (by assumption) ?_) |((with_reducible show wpC _ _ _ _ (.cond _ _ _) _ _);refine RM.e3 rfl rfl ?_) |((with_reducible show wpPick _ _ _ _ _);refine RM.k1 rfl ?_) |((with_reducible show wpPickB _ _ _ _ _);refine RM.k3 (by assumption) ?_) |((with_reducible show wpBin _ _ _ _ _ _ _ _ _);first|refine RM.b4 rfl rfl ?_|refine RM.b1 rfl rfl (by omega) ?_) |(refine ⟨_, rfl, ?_⟩) |(refine ⟨_, _, rfl, by decide, ?_⟩) |(refine ⟨eCount l[j], ⟨by omega, map_at hlt⟩, rfl, ?_⟩) |fail)
      exact ⟨j + 1, ⟨hlt, hat⟩, (by dsimp only; omega), Weaker.to 0 rfl ⟨rfl, rfl, rfl, i64c (by simp), trivial⟩ (Nat.zero_le _) rfl rfl⟩
  · have hjl : l.take j = l := List.take_of_length_le (by rw [el, decide_eq_false_iff_not] at hc; omega)
    rw [hjl] at hno
    rw [hno]
    repeat' (first |with_reducible (first|refine RM.c2 ?_|refine RM.c4 ?_|refine RM.c6 ?_|refine RM.c7 ?_|refine RM.c9 ?_|refine RM.d2 ?_|refine RM.o1 ?_|refine RM.o2 ?_|refine RM.o4 ?_|refine RM.o5 ?_|refine RM.p3 ?_|refine RM.q2 ?_) |((with_reducible show force _ _);refine RM.f1 rfl ?_) |((with_reducible show wpOne _ _ _ _ _ _ _ _ _ _ _ _);refine RM.o8 rfl ?_) |((with_reducible show blockK _ _ _ _);refine RM.d5 rfl ?_) |fail)
    exact ⟨[_], ⟨Fz.deep rfl, trivial⟩, rfl⟩
theorem follow_l (one : Bool) {s : Stores} (hg : Good s) {i : Nat} (hi : i < s.kinds.length) {t : Truth} (h : RunOk s.men s.kinds[i] (cargoRow i s.cargos) t) :
    ∃ u b : Int, Pu one 42 [.ag (eStores s), I64 i, .ag (eTruth t), I64 s.men.length] (.tp [.sl ((lvl s.men s.kinds[i] (cargoRow i s.cargos) t).map eI) false, I64 (shortF s.men s.kinds[i] (cargoRow i s.cargos) t), I64 u, I64 b]) := by
  have := follow_c one s hg i hi t s.men.length h
  rw [show ((List.range (s.men.length + 1)).map fun j => eI (haveAt s.men s.kinds[i] (cargoRow i s.cargos) t s.men.length j)) = (lvl s.men s.kinds[i] (cargoRow i s.cargos) t).map eI by unfold lvl; rw [List.map_map]; rfl] at this
  exact ⟨_, _, this⟩
end Go.Proofs.Ytmkaeohmdcoanaa
open Go Go.RM
namespace Go.Proofs.Ytmkaeohmdcoanaa
set_option maxRecDepth 100000
set_option maxHeartbeats 4000000
theorem any_false {α : Type} {f : α → Bool} {l : List α} (h : ∀ t ∈ l, f t = false) : l.any f = false := by
  apply Bool.eq_false_iff.2
  intro hh
  obtain ⟨t, ht, h1⟩ := List.any_eq_true.1 hh
  rw [h t ht] at h1
  cases h1
end Go.Proofs.Ytmkaeohmdcoanaa
open Go Go.RM
namespace Go.Proofs.Ytmkaeohmdcoanaa
set_option maxRecDepth 100000
set_option maxHeartbeats 4000000
theorem shortAt_le (men : List Int) (k : Kind) (row : List Int) (t : Truth) (down : Int) : shortAt men k row t down men.length ≤ men.length := by
  rcases shortAt_or men k row t down men.length with h | h <;> omega
end Go.Proofs.Ytmkaeohmdcoanaa
open Go Go.RM
namespace Go.Proofs.Ytmkaeohmdcoanaa
set_option maxRecDepth 100000
set_option maxHeartbeats 4000000
theorem spared_c (one : Bool) (s : Stores) (l : List Count) (h0 : cntsErr s l = 0) (i : Nat) (hi : i < s.kinds.length) (d : Nat) (hd : d < s.men.length) (n : Int) (hn : 0 ≤ n ∧ n ≤ 300) :
    Pu one 46 [.ag (eStores s), .sl (l.map eCount) false, I64 i, I64 d, I64 n] (BB (lastsWith s s.kinds[i] (cargoRow i s.cargos) (allS s l i s.kinds[i]) d n)) := by
  unfold lastsWith
  have h8 := sizes8 h0
  have hr8 := row8 h0 i
  have hwi := with_c one s ⟨d, i, n⟩ (by omega)
  obtain ⟨hg, hl8, hlc⟩ := cnts_good h0
  have hh := holdOk h0 hi
  have em : ((s.men.map eI).length : Int) = s.men.length := by simp
  have k1 := hh.kind.first
  have k2 := hh.kind.man
  have k3 := hh.kind.ship
  have hidx : (s.kinds.map eKind)[((i : Nat) : Int).toNat]? = some (eKind s.kinds[i]) := map_at hi
  have hfl := fun t h => follow_l one hg hi (t := t) h
  have hmm := sizes_9 hg.sizes
  have hfd : ∀ t, RunOk s.men s.kinds[i] (cargoRow i s.cargos) t → ∃ (L : List (List AV)) (u b : Int), Pu one 42 [.ag (eStores (withC s ⟨d, i, n⟩)), I64 i, .ag (eTruth t), I64 s.men.length] (.tp [.sl L false, I64 (shortAt s.men s.kinds[i] ((cargoRow i s.cargos).set d ((cargoRow i s.cargos).getD d 0 + n)) t s.men.length s.men.length), I64 u, I64 b]) := fun t h => by
    have key := follow_c one (withC s ⟨d, i, n⟩) (good_with hg h8 hd hi hn) i hi t s.men.length (by rw [row_with]; exact h.more hr8 (by omega) hn)
    rw [row_with] at key
    exact ⟨_, _, _, key⟩
  have hagc := fun t => agrees44_c one l i (lvl s.men s.kinds[i] (cargoRow i s.cargos) t) hl8 (fun c hc => by rw [lvl_len]; have := hlc c hc; omega)
  have hrun : ∀ n m p : Int, s.kinds[i].first.lo ≤ n ∧ n ≤ s.kinds[i].first.hi → s.kinds[i].man.lo ≤ m ∧ m ≤ s.kinds[i].man.hi → s.kinds[i].ship.lo ≤ p ∧ p ≤ s.kinds[i].ship.hi → RunOk s.men s.kinds[i] (cargoRow i s.cargos) ⟨n, m, p⟩ := fun n m p a b c => hh.run a b c
  have hiff : ∀ t, t ∈ allS s l i s.kinds[i] ↔ truthOk s.kinds[i] t = true ∧ agrL l i (lvl s.men s.kinds[i] (cargoRow i s.cargos) t) = true := fun t => all_iff
  have hwo := short_worse s.men s.kinds[i] ((cargoRow i s.cargos).set d ((cargoRow i s.cargos).getD d 0 + n)) s.men.length
  have hsd : ∀ t, runsShort s.men s.kinds[i] ((cargoRow i s.cargos).set d ((cargoRow i s.cargos).getD d 0 + n)) s.men.length t = decide (shortAt s.men s.kinds[i] ((cargoRow i s.cargos).set d ((cargoRow i s.cargos).getD d 0 + n)) t s.men.length s.men.length < ((s.men.map eI).length : Int)) := fun t => by rw [em]; rfl
  clear hh
  generalize allS s l i s.kinds[i] = A at *
  clear hr8
  generalize (cargoRow i s.cargos).set d ((cargoRow i s.cargos).getD d 0 + n) = row' at *
  generalize cargoRow i s.cargos = row at *
  generalize s.kinds[i] = k at *
  have hfl : ∀ t, RunOk s.men k row t → ∃ u b : Int, Pu one 42 [.ag (eStores s), I64 i, .ag (eTruth t), I64 ((s.men.map eI).length : Int)] (.tp [.sl ((lvl s.men k row t).map eI) false, I64 (shortF s.men k row t), I64 u, I64 b]) := by rw [em]; exact hfl
  have hfd : ∀ t, RunOk s.men k row t → ∃ (L : List (List AV)) (u b : Int), Pu one 42 [.ag (eStores (withC s ⟨d, i, n⟩)), I64 i, .ag (eTruth t), I64 ((s.men.map eI).length : Int)] (.tp [.sl L false, I64 (shortAt s.men k row' t s.men.length s.men.length), I64 u, I64 b]) := by rw [em]; exact hfd
  generalize runsShort s.men k row' s.men.length = R at *
  refine PureV.body (fn := Try.f46) rfl rfl rfl rfl ?_
  refine wpC_sound (mu := fun _ => false) ?_
  repeat' (first |with_reducible (first|refine RM.c2 ?_|refine RM.c3 ?_|refine RM.c4 ?_|refine RM.c9 ?_|refine RM.o1 ?_|refine RM.o2 ?_|refine RM.o4 ?_|refine RM.o5 ?_|refine RM.o6 ?_|refine RM.o7 ?_|refine RM.o9 ?_|refine RM.p1 ?_|refine RM.p2 ?_|refine RM.p3 ?_) |((with_reducible show force _ _);first|refine RM.f1 rfl ?_|refine RM.f2 rfl ?_|refine RM.f3 rfl ?_|refine RM.f4 rfl ?_|refine RM.f5 rfl ?_|refine RM.f7 rfl ?_|refine RM.g2 rfl ?_) |((with_reducible show wpOne _ _ _ _ _ _ _ _ _ _ _ _);refine RM.o8 rfl ?_) |(refine ⟨_, rfl, ?_⟩) |(refine ⟨_, _, rfl, by decide, ?_⟩) |(refine ⟨rfl, rfl, rfl, ?_⟩) |(refine ⟨_, _, rfl, _, rfl, ?_⟩) |(refine And.intro (Nat.le_of_ble_eq_true rfl) ?_) |(refine And.intro (by kernel_rfl) ?_) |(refine ⟨_, _, rfl, rfl, rfl, rfl, Nat.le_of_ble_eq_true rfl, ?_⟩) |(refine PureV.call hwi rfl rfl ?_) |(refine ⟨eKind k, ⟨by omega, hidx⟩, rfl, ?_⟩) |fail)
  refine SemC.weaker (Weaker.to (l := [(1, .sl (l.map eCount) false), (2, I64 i), (5, .pt (eStores s) 0), (11, .ptr 0 0 0), (12, .ptr 1 0 0), (13, I64 (k.man.lo))]) (hp := [.cells (eStores (withC s ⟨d, i, n⟩)) 0 0, .cells (eKind k) 0 0]) 2 rfl ⟨rfl, rfl, rfl, rfl, rfl, rfl, trivial⟩ (Nat.zero_le _) rfl rfl) ?_
  refine SemC.loop (fun m : Int => (k.man.lo ≤ m ∧ m ≤ k.man.hi + 1) ∧ ∀ t ∈ A, t.man < m → R t = false) (fun m => ⟨mkFr [(1, .sl (l.map eCount) false), (2, I64 i), (5, .pt (eStores s) 0), (11, .ptr 0 0 0), (12, .ptr 1 0 0), (13, I64 (m))], [.cells (eStores (withC s ⟨d, i, n⟩)) 0 0, .cells (eKind k) 0 0], Amb.none, false, 0⟩) (fun m => (k.man.hi + 1 - m).toNat) ?_ k.man.lo ⟨by omega, fun t ht hlt => by have := truthOk_iff.1 ((hiff t).1 ht).1; omega⟩
  rintro m ⟨hm, hmR⟩
  refine wpC_sound (mu := fun _ => false) ?_
  repeat' (first |with_reducible (first|refine RM.c2 ?_|refine RM.c4 ?_|refine RM.c9 ?_|refine RM.o1 ?_|refine RM.o2 ?_|refine RM.o4 ?_|refine RM.o5 ?_|refine RM.p2 ?_|refine RM.p5 ?_) |((with_reducible show force _ _);first|refine RM.f1 rfl ?_|refine RM.f7 rfl ?_) |((with_reducible show wpOne _ _ _ _ _ _ _ _ _ _ _ _);refine RM.o8 rfl ?_) |((with_reducible show wpBin _ _ _ _ _ _ _ _ _);refine RM.b7 rfl rfl ?_) |(refine ⟨_, _, rfl, by decide, ?_⟩) |(refine ⟨_, _, rfl, _, rfl, ?_⟩) |fail)
  refine RM.e1 rfl ⟨fun hc => ?_, fun hc => ?_⟩
  · rw [decide_eq_true_eq] at hc
    repeat' (first |with_reducible (first|refine RM.c1 ?_|refine RM.c2 ?_|refine RM.c3 ?_|refine RM.c4 ?_|refine RM.c9 ?_|refine RM.o1 ?_|refine RM.o2 ?_|refine RM.o4 ?_|refine RM.o5 ?_|refine RM.p3 ?_) |((with_reducible show force _ _);first|refine RM.f1 rfl ?_|refine RM.f7 rfl ?_) |((with_reducible show wpOne _ _ _ _ _ _ _ _ _ _ _ _);refine RM.o8 rfl ?_) |(refine ⟨_, _, rfl, by decide, ?_⟩) |(refine ⟨_, _, rfl, _, rfl, ?_⟩) |fail)
    refine SemC.weaker (Weaker.to (l := [(1, .sl (l.map eCount) false), (2, I64 i), (5, .pt (eStores s) 0), (11, .ptr 0 0 0), (12, .ptr 1 0 0), (13, I64 (m)), (14, I64 (k.ship.lo))]) (hp := [.cells (eStores (withC s ⟨d, i, n⟩)) 0 0, .cells (eKind k) 0 0]) 2 rfl ⟨rfl, rfl, rfl, rfl, rfl, rfl, rfl, trivial⟩ (Nat.zero_le _) rfl rfl) ?_
    refine SemC.loop (fun p : Int => (k.ship.lo ≤ p ∧ p ≤ k.ship.hi + 1) ∧ ∀ t ∈ A, t.man = m → t.ship < p → R t = false) (fun p => ⟨mkFr [(1, .sl (l.map eCount) false), (2, I64 i), (5, .pt (eStores s) 0), (11, .ptr 0 0 0), (12, .ptr 1 0 0), (13, I64 (m)), (14, I64 (p))], [.cells (eStores (withC s ⟨d, i, n⟩)) 0 0, .cells (eKind k) 0 0], Amb.none, false, 0⟩) (fun p => (k.ship.hi + 1 - p).toNat) ?_ k.ship.lo ⟨by omega, fun t ht _ hlt => by have := truthOk_iff.1 ((hiff t).1 ht).1; omega⟩
    rintro p ⟨hp, hpR⟩
    refine wpC_sound (mu := fun _ => false) ?_
    repeat' (first |with_reducible (first|refine RM.c2 ?_|refine RM.c4 ?_|refine RM.c9 ?_|refine RM.o1 ?_|refine RM.o2 ?_|refine RM.o4 ?_|refine RM.o5 ?_|refine RM.p2 ?_|refine RM.p5 ?_) |((with_reducible show force _ _);first|refine RM.f1 rfl ?_|refine RM.f7 rfl ?_) |((with_reducible show wpOne _ _ _ _ _ _ _ _ _ _ _ _);refine RM.o8 rfl ?_) |((with_reducible show wpBin _ _ _ _ _ _ _ _ _);refine RM.b7 rfl rfl ?_) |(refine ⟨_, _, rfl, by decide, ?_⟩) |(refine ⟨_, _, rfl, _, rfl, ?_⟩) |fail)
    refine RM.e1 rfl ⟨fun hc2 => ?_, fun hc2 => ?_⟩
    · rw [decide_eq_true_eq] at hc2
      repeat' (first |with_reducible (first|refine RM.c1 ?_|refine RM.c2 ?_|refine RM.c3 ?_|refine RM.c4 ?_|refine RM.c9 ?_|refine RM.o1 ?_|refine RM.o2 ?_|refine RM.o4 ?_|refine RM.o5 ?_|refine RM.p3 ?_) |((with_reducible show force _ _);first|refine RM.f1 rfl ?_|refine RM.f7 rfl ?_) |((with_reducible show wpOne _ _ _ _ _ _ _ _ _ _ _ _);refine RM.o8 rfl ?_) |(refine ⟨_, _, rfl, by decide, ?_⟩) |(refine ⟨_, _, rfl, _, rfl, ?_⟩) |fail)
      refine SemC.weaker (Weaker.to (l := [(1, .sl (l.map eCount) false), (2, I64 i), (5, .pt (eStores s) 0), (11, .ptr 0 0 0), (12, .ptr 1 0 0), (13, I64 (m)), (14, I64 (p)), (15, I64 (k.first.lo))]) (hp := [.cells (eStores (withC s ⟨d, i, n⟩)) 0 0, .cells (eKind k) 0 0]) 2 rfl ⟨rfl, rfl, rfl, rfl, rfl, rfl, rfl, rfl, trivial⟩ (Nat.zero_le _) rfl rfl) ?_
      refine SemC.loop (fun a : Int => (k.first.lo ≤ a ∧ a ≤ k.first.hi + 1) ∧ ∀ t ∈ A, t.man = m → t.ship = p → a ≤ t.first) (fun a => ⟨mkFr [(1, .sl (l.map eCount) false), (2, I64 i), (5, .pt (eStores s) 0), (11, .ptr 0 0 0), (12, .ptr 1 0 0), (13, I64 (m)), (14, I64 (p)), (15, I64 (a))], [.cells (eStores (withC s ⟨d, i, n⟩)) 0 0, .cells (eKind k) 0 0], Amb.none, false, 0⟩) (fun a => (k.first.hi + 1 - a).toNat) ?_ k.first.lo ⟨by omega, fun t ht _ _ => by have := truthOk_iff.1 ((hiff t).1 ht).1; omega⟩
      rintro a ⟨ha, haR⟩
      refine wpC_sound (mu := fun _ => false) ?_
      repeat' (first |with_reducible (first|refine RM.c2 ?_|refine RM.c4 ?_|refine RM.c9 ?_|refine RM.o1 ?_|refine RM.o2 ?_|refine RM.o4 ?_|refine RM.o5 ?_|refine RM.p2 ?_|refine RM.p5 ?_) |((with_reducible show force _ _);first|refine RM.f1 rfl ?_|refine RM.f7 rfl ?_) |((with_reducible show wpOne _ _ _ _ _ _ _ _ _ _ _ _);refine RM.o8 rfl ?_) |((with_reducible show wpBin _ _ _ _ _ _ _ _ _);refine RM.b7 rfl rfl ?_) |(refine ⟨_, _, rfl, by decide, ?_⟩) |(refine ⟨_, _, rfl, _, rfl, ?_⟩) |fail)
      refine RM.e1 rfl ⟨fun hc3 => ?_, fun hc3 => ?_⟩
      · rw [decide_eq_true_eq] at hc3
        have hrn := hrun a m p (by omega) (by omega) (by omega)
        obtain ⟨u1, b1, hfl⟩ := hfl ⟨a, m, p⟩ hrn
        obtain ⟨Lw, u2, b2, hfd⟩ := hfd ⟨a, m, p⟩ hrn
        have hagc := hagc ⟨a, m, p⟩
        have hsd := hsd ⟨a, m, p⟩
        have hok : truthOk k ⟨a, m, p⟩ = true := truthOk_iff.2 ⟨by dsimp only; omega, by dsimp only; omega, by dsimp only; omega⟩
        have hin := hiff ⟨a, m, p⟩
        cases hag : agrL l i (lvl s.men k row ⟨a, m, p⟩) with
        | false =>
          rw [hag] at hagc
          repeat' (first |with_reducible (first|refine RM.c1 ?_|refine RM.c2 ?_|refine RM.c3 ?_|refine RM.c4 ?_|refine RM.c6 ?_|refine RM.c9 ?_|refine RM.d2 ?_|refine RM.o1 ?_|refine RM.o2 ?_|refine RM.o4 ?_|refine RM.o5 ?_|refine RM.o6 ?_|refine RM.o7 ?_|refine RM.o9 ?_|refine RM.p1 ?_|refine RM.p2 ?_|refine RM.p3 ?_|refine RM.p5 ?_|refine RM.p6 ?_) |((with_reducible show force _ _);first|refine RM.f1 rfl ?_|refine RM.f2 rfl ?_|refine RM.f3 rfl ?_|refine RM.f4 rfl ?_|refine RM.f5 rfl ?_|refine RM.f6 rfl ?_|refine RM.f7 rfl ?_|refine RM.g2 rfl ?_) |((with_reducible show wpOne _ _ _ _ _ _ _ _ _ _ _ _);refine RM.o8 rfl ?_) |((with_reducible show wpC _ _ _ _ (.cond _ _ _) _ _);refine RM.e2 rfl rfl ?_) |((with_reducible show wpBin _ _ _ _ _ _ _ _ _);refine RM.b1 rfl rfl (by omega) ?_) |((with_reducible show wpLen _ _ _ _ _);refine RM.l1 rfl ?_) |((with_reducible show blockK _ _ _ _);refine RM.d5 rfl ?_) |((with_reducible show RM.wpOp _ _ _ _ _ _);refine RM.n3 rfl ?_) |(refine ⟨_, rfl, ?_⟩) |(refine ⟨_, _, rfl, by decide, ?_⟩) |(refine And.intro (Nat.le_of_ble_eq_true rfl) ?_) |(refine And.intro (by kernel_rfl) ?_) |(refine ⟨_, _, rfl, rfl, rfl, rfl, Nat.le_of_ble_eq_true rfl, ?_⟩) |(refine ⟨_, _, rfl, Nat.le_of_ble_eq_true rfl, ?_⟩) |(refine PureV.call hfl rfl rfl ?_) |(refine PureV.call hagc rfl rfl ?_) |fail)
          refine ⟨a + 1, ⟨by omega, fun t ht h1 h2 => ?_⟩, (by dsimp only; omega), Weaker.to 2 rfl ⟨rfl, rfl, rfl, rfl, rfl, rfl, rfl, rfl, trivial⟩ (Nat.zero_le _) rfl rfl⟩
          have h3 := haR t ht h1 h2
          by_cases h4 : t.first = a
          · exfalso
            obtain ⟨ta, tm, tp⟩ := t
            dsimp only at h1 h2 h4
            subst h1 h2 h4
            have := (hin.1 ht).2
            rw [hag] at this
            cases this
          · omega
        | true =>
          rw [hag] at hagc
          cases hR : R ⟨a, m, p⟩ with
          | true =>
            rw [hR] at hsd
            have hany : A.any R = true := List.any_eq_true.2 ⟨_, hin.2 ⟨hok, hag⟩, hR⟩
            rw [hany]
            have hsd := hsd.symm
            repeat' (first |with_reducible (first|refine RM.c1 ?_|refine RM.c2 ?_|refine RM.c3 ?_|refine RM.c4 ?_|refine RM.c7 ?_|refine RM.c9 ?_|refine RM.d1 ?_|refine RM.d4 ?_|refine RM.o1 ?_|refine RM.o2 ?_|refine RM.o4 ?_|refine RM.o5 ?_|refine RM.o6 ?_|refine RM.o7 ?_|refine RM.o9 ?_|refine RM.p1 ?_|refine RM.p2 ?_|refine RM.p3 ?_|refine RM.p5 ?_|refine RM.p6 ?_|refine RM.q1 ?_) |((with_reducible show force _ _);first|refine RM.f1 rfl ?_|refine RM.f2 rfl ?_|refine RM.f3 rfl ?_|refine RM.f4 rfl ?_|refine RM.f5 rfl ?_|refine RM.f6 rfl ?_|refine RM.f7 rfl ?_|refine RM.g2 rfl ?_) |((with_reducible show wpOne _ _ _ _ _ _ _ _ _ _ _ _);refine RM.o8 rfl ?_) |((with_reducible show wpC _ _ _ _ (.cond _ _ _) _ _);first|refine RM.e3 rfl rfl ?_|refine RM.e2 rfl (by assumption) ?_) |((with_reducible show wpBin _ _ _ _ _ _ _ _ _);refine RM.b6 rfl rfl ?_) |((with_reducible show wpLen _ _ _ _ _);refine RM.l1 rfl ?_) |((with_reducible show RM.wpOp _ _ _ _ _ _);refine RM.n3 rfl ?_) |(refine ⟨_, rfl, ?_⟩) |(refine ⟨_, _, rfl, by decide, ?_⟩) |(refine And.intro (Nat.le_of_ble_eq_true rfl) ?_) |(refine And.intro (by kernel_rfl) ?_) |(refine ⟨_, _, rfl, rfl, rfl, rfl, Nat.le_of_ble_eq_true rfl, ?_⟩) |(refine ⟨_, _, rfl, Nat.le_of_ble_eq_true rfl, ?_⟩) |(refine PureV.call hfl rfl rfl ?_) |(refine PureV.call hagc rfl rfl ?_) |(refine PureV.call hfd rfl rfl ?_) |fail)
            exact ⟨[_], ⟨Fz.deep rfl, trivial⟩, rfl⟩
          | false =>
            rw [hR] at hsd
            have hsd := hsd.symm
            repeat' (first |with_reducible (first|refine RM.c1 ?_|refine RM.c2 ?_|refine RM.c3 ?_|refine RM.c4 ?_|refine RM.c6 ?_|refine RM.c9 ?_|refine RM.d2 ?_|refine RM.d3 ?_|refine RM.o1 ?_|refine RM.o2 ?_|refine RM.o4 ?_|refine RM.o5 ?_|refine RM.o6 ?_|refine RM.o7 ?_|refine RM.o9 ?_|refine RM.p1 ?_|refine RM.p2 ?_|refine RM.p3 ?_|refine RM.p5 ?_|refine RM.p6 ?_|refine RM.q2 ?_) |((with_reducible show force _ _);first|refine RM.f1 rfl ?_|refine RM.f2 rfl ?_|refine RM.f3 rfl ?_|refine RM.f4 rfl ?_|refine RM.f5 rfl ?_|refine RM.f6 rfl ?_|refine RM.f7 rfl ?_|refine RM.g2 rfl ?_) |((with_reducible show wpOne _ _ _ _ _ _ _ _ _ _ _ _);refine RM.o8 rfl ?_) |((with_reducible show wpC _ _ _ _ (.cond _ _ _) _ _);first|refine RM.e3 rfl rfl ?_|refine RM.e3 rfl (by assumption) ?_) |((with_reducible show wpBin _ _ _ _ _ _ _ _ _);first|refine RM.b6 rfl rfl ?_|refine RM.b1 rfl rfl (by omega) ?_) |((with_reducible show wpLen _ _ _ _ _);refine RM.l1 rfl ?_) |((with_reducible show blockK _ _ _ _);first|refine RM.d5 rfl ?_|refine RM.d6 rfl ?_) |((with_reducible show RM.wpOp _ _ _ _ _ _);refine RM.n3 rfl ?_) |(refine ⟨_, rfl, ?_⟩) |(refine ⟨_, _, rfl, by decide, ?_⟩) |(refine And.intro (Nat.le_of_ble_eq_true rfl) ?_) |(refine And.intro (by kernel_rfl) ?_) |(refine ⟨_, _, rfl, rfl, rfl, rfl, Nat.le_of_ble_eq_true rfl, ?_⟩) |(refine ⟨_, _, rfl, Nat.le_of_ble_eq_true rfl, ?_⟩) |(refine PureV.call hfl rfl rfl ?_) |(refine PureV.call hagc rfl rfl ?_) |(refine PureV.call hfd rfl rfl ?_) |fail)
            refine ⟨p + 1, ⟨by omega, fun t ht h1 h2 => ?_⟩, (by dsimp only; omega), Weaker.to 2 rfl ⟨rfl, rfl, rfl, rfl, rfl, rfl, rfl, trivial⟩ (Nat.zero_le _) rfl rfl⟩
            by_cases h3 : t.ship < p
            · exact hpR t ht h1 h3
            · have h4 := haR t ht h1 (by omega)
              cases h5 : R t with
              | false => rfl
              | true => rw [hwo ⟨a, m, p⟩ t h1.symm (by dsimp only; omega) h4 h5] at hR; cases hR
      · rw [decide_eq_false_iff_not] at hc3
        repeat' (first |with_reducible (first|refine RM.c4 ?_|refine RM.c6 ?_|refine RM.c9 ?_|refine RM.d2 ?_|refine RM.d3 ?_|refine RM.o1 ?_|refine RM.o2 ?_|refine RM.o4 ?_|refine RM.o5 ?_|refine RM.p2 ?_|refine RM.p3 ?_|refine RM.p5 ?_|refine RM.q2 ?_) |((with_reducible show force _ _);refine RM.f1 rfl ?_) |((with_reducible show wpOne _ _ _ _ _ _ _ _ _ _ _ _);refine RM.o8 rfl ?_) |((with_reducible show wpBin _ _ _ _ _ _ _ _ _);refine RM.b1 rfl rfl (by omega) ?_) |((with_reducible show blockK _ _ _ _);refine RM.d5 rfl ?_) |fail)
        refine ⟨p + 1, ⟨by omega, fun t ht h1 h2 => ?_⟩, (by dsimp only; omega), Weaker.to 2 rfl ⟨rfl, rfl, rfl, rfl, rfl, rfl, rfl, trivial⟩ (Nat.zero_le _) rfl rfl⟩
        by_cases h3 : t.ship < p
        · exact hpR t ht h1 h3
        · have h4 := haR t ht h1 (by omega)
          have h5 := truthOk_iff.1 ((hiff t).1 ht).1
          omega
    · rw [decide_eq_false_iff_not] at hc2
      repeat' (first |with_reducible (first|refine RM.c4 ?_|refine RM.c6 ?_|refine RM.c9 ?_|refine RM.d2 ?_|refine RM.d3 ?_|refine RM.o1 ?_|refine RM.o2 ?_|refine RM.o4 ?_|refine RM.o5 ?_|refine RM.p2 ?_|refine RM.p3 ?_|refine RM.p5 ?_|refine RM.q2 ?_) |((with_reducible show force _ _);refine RM.f1 rfl ?_) |((with_reducible show wpOne _ _ _ _ _ _ _ _ _ _ _ _);refine RM.o8 rfl ?_) |((with_reducible show wpBin _ _ _ _ _ _ _ _ _);refine RM.b1 rfl rfl (by omega) ?_) |((with_reducible show blockK _ _ _ _);refine RM.d5 rfl ?_) |fail)
      refine ⟨m + 1, ⟨by omega, fun t ht h1 => ?_⟩, (by dsimp only; omega), Weaker.to 2 rfl ⟨rfl, rfl, rfl, rfl, rfl, rfl, trivial⟩ (Nat.zero_le _) rfl rfl⟩
      by_cases h3 : t.man < m
      · exact hmR t ht h3
      · have h5 := truthOk_iff.1 ((hiff t).1 ht).1
        exact hpR t ht (by omega) (by omega)
  · rw [decide_eq_false_iff_not] at hc
    have hany : A.any R = false := any_false fun t ht => hmR t ht (by have := truthOk_iff.1 ((hiff t).1 ht).1; omega)
    rw [hany]
    repeat' (first |with_reducible (first|refine RM.c2 ?_|refine RM.c4 ?_|refine RM.c6 ?_|refine RM.c7 ?_|refine RM.c9 ?_|refine RM.d2 ?_|refine RM.o1 ?_|refine RM.o2 ?_|refine RM.o4 ?_|refine RM.o5 ?_|refine RM.p3 ?_|refine RM.q2 ?_) |((with_reducible show force _ _);refine RM.f1 rfl ?_) |((with_reducible show wpOne _ _ _ _ _ _ _ _ _ _ _ _);refine RM.o8 rfl ?_) |((with_reducible show blockK _ _ _ _);refine RM.d5 rfl ?_) |fail)
    exact ⟨[_], ⟨Fz.deep rfl, trivial⟩, rfl⟩
end Go.Proofs.Ytmkaeohmdcoanaa
open Go Go.RM
namespace Go.Proofs.Ytmkaeohmdcoanaa
set_option maxRecDepth 100000
set_option maxHeartbeats 4000000
theorem cargo_facts (s : Stores) (h : s.Ok) (l : List Count) (h0 : cntsErr s l = 0) (i : Nat) (hi : i < s.kinds.length) (d : Nat) (hd : d < s.men.length) :
    (Pu true 29 [.ag (eStores s), .sl (l.map eCount) false, I64 i, I64 d] (.tp [I64 0, I64 9]) ∧ (allS s l i s.kinds[i] ≠ [] → ∀ n : Nat, n ≤ 300 → lastsWith s s.kinds[i] (cargoRow i s.cargos) (allS s l i s.kinds[i]) d n = false)) ∨
    ∃ r : Nat, Pu true 29 [.ag (eStores s), .sl (l.map eCount) false, I64 i, I64 d] (.tp [I64 r, I64 0]) ∧ r ≤ 300 ∧ allS s l i s.kinds[i] ≠ [] ∧ lastsWith s s.kinds[i] (cargoRow i s.cargos) (allS s l i s.kinds[i]) d r = true ∧
      ∀ n : Nat, n < r → lastsWith s s.kinds[i] (cargoRow i s.cargos) (allS s l i s.kinds[i]) d n = false := by
  by_cases hz : allS s l i s.kinds[i] = []
  · exact .inl ⟨cargo_none true s h l h0 i hi d hd (nil_iff.2 hz), fun h => absurd hz h⟩
  · have h1 := cargo_okT true s h l h0 i hi d hd (fun h => hz (nil_iff.1 h)) _ rfl
    have hl := cargo_least s l i s.kinds[i] (cargoRow i s.cargos) d
    have he : (fun n : Nat => lastsWith s s.kinds[i] (cargoRow i s.cargos) (worstR (allS s l i s.kinds[i])) d n) = fun n : Nat => lastsWith s s.kinds[i] (cargoRow i s.cargos) (allS s l i s.kinds[i]) d n := by
      funext n
      unfold lastsWith
      rw [any_worst (short_worse _ _ _ _) (all_sorted _ _ _ _ _)]
    rw [he] at hl
    generalize bs (fun n => lastsWith s s.kinds[i] (cargoRow i s.cargos) (lows s l i s.kinds[i]) d n) 0 301 = r at *
    by_cases hr : 300 < r
    · rw [if_pos hr] at h1
      exact .inl ⟨h1, fun _ n hn => hl.below n (by omega)⟩
    · rw [if_neg hr] at h1
      exact .inr ⟨r, h1, by omega, hz, hl.here (by omega), fun n hn => hl.below n hn⟩
theorem enough_law (s : Stores) (h : s.Ok) (l : List Count) (hl : l.length ≤ maxLen) (kd a b c : Int) (taken : List (List AV)) (x y : Int) (hkd : 0 ≤ kd ∧ kd ≤ 255) (ha : U16ok a) (hb : U16ok b) (hc : U16ok c) (hx : 0 ≤ x ∧ x ≤ 255) (hy : U16ok y) : Pu true 11 [.ag (eStores s), .sl (l.map eCount) false, .ag [.fl (.int .u8 kd), U16 a, U16 b, U16 c, .sl taken false, .fl (.int .u8 x), U16 y]] (BB true) := by
  have haw := aw_c true
  have hcn := rcounts_c true s h l hl
  by_cases he : cntsErr s l = 0
  · rw [he] at hcn
    obtain ⟨hg, hl8, hlc⟩ := cnts_good he
    have h8 := sizes_9 hg.sizes
    have hc8 := sizes8 he
    have hr8 := row8 he
    have em : ((s.men.map eI).length : Int) = s.men.length := by simp
    have ek : ((s.kinds.map eKind).length : Int) = s.kinds.length := by simp
    obtain ⟨i, hi, hki⟩ := modN (a := kd) (n := (s.kinds.map eKind).length) (by simp; omega)
    rw [List.length_map] at hi
    obtain ⟨d, hd, hxd⟩ := modN (a := x) (n := (s.men.map eI).length) (by simp; omega)
    rw [List.length_map] at hd
    have hh := holdOk he hi
    have hkg := hg.kinds _ (List.getElem_mem hi)
    have hay := any_c true s.kinds[i] hkg a b c ha hb hc
    have ht := truthAny hkg a b c
    generalize anyT s.kinds[i] a b c = t at *
    have ht2 := truthOk_iff.1 ht
    have hrn := hh.run ht2.1 ht2.2.1 ht2.2.2
    obtain ⟨u1, b1, hfo⟩ := follow_l true hg hi hrn
    rw [← em] at hfo
    have hll := lvl_len s.men s.kinds[i] (cargoRow i s.cargos) t
    have hagr := agrees44_c true l i (lvl s.men s.kinds[i] (cargoRow i s.cargos) t) hl8 (fun c hc => by rw [hll]; have := hlc c hc; omega)
    have hspn := fun n hn => spared_c true s l he i hi d hd n hn
    have hwin := fun n : Nat => with_c true s ⟨d, i, n⟩ (by omega)
    have hfwn : ∀ n : Nat, n ≤ 300 → ∃ (L : List (List AV)) (u b : Int), Pu true 42 [.ag (eStores (withC s ⟨d, i, n⟩)), I64 i, .ag (eTruth t), I64 ((s.men.map eI).length : Int)] (.tp [.sl L false, I64 (shortAt s.men s.kinds[i] ((cargoRow i s.cargos).set d ((cargoRow i s.cargos).getD d 0 + (n : Int))) t s.men.length s.men.length), I64 u, I64 b]) := fun n hn => by
      have key := follow_c true (withC s ⟨d, i, n⟩) (good_with hg hc8 hd hi (by omega)) i hi t s.men.length (by rw [row_with]; exact hrn.more (hr8 i) (by omega) (by omega))
      rw [row_with] at key
      rw [em]
      exact ⟨_, _, _, key⟩
    have hmem : agrL l i (lvl s.men s.kinds[i] (cargoRow i s.cargos) t) = true → t ∈ allS s l i s.kinds[i] := fun h => all_iff.2 ⟨ht, h⟩
    have hidx : (s.kinds.map eKind)[((i : Nat) : Int).toNat]? = some (eKind s.kinds[i]) := map_at hi
    have hcf := cargo_facts s h l he i hi d hd
    have hsl := fun n : Int => shortAt_le s.men s.kinds[i] ((cargoRow i s.cargos).set d ((cargoRow i s.cargos).getD d 0 + n)) t s.men.length
    have hlw : ∀ n : Int, lastsWith s s.kinds[i] (cargoRow i s.cargos) (allS s l i s.kinds[i]) d n = true → t ∈ allS s l i s.kinds[i] → (s.men.length : Int) ≤ shortAt s.men s.kinds[i] ((cargoRow i s.cargos).set d ((cargoRow i s.cargos).getD d 0 + n)) t s.men.length s.men.length := by
      intro n h1 h2
      unfold lastsWith at h1
      rw [Bool.not_eq_true', List.any_eq_false] at h1
      have h3 := h1 t h2
      unfold runsShort at h3
      rw [decide_eq_true_eq] at h3
      omega
    clear hh hkg ht hrn hr8
    generalize lastsWith s s.kinds[i] (cargoRow i s.cargos) (allS s l i s.kinds[i]) d = Q at *
    generalize allS s l i s.kinds[i] = A at *
    generalize cargoRow i s.cargos = row at *
    generalize s.kinds[i] = k at *
    generalize lvl s.men k row t = lv at *
    generalize shortF s.men k row t = sh at *
    cases hag : agrL l i lv with
    | false =>
      rw [hag] at hagr
      have hsp := hspn 0 (by omega)
      have hwi := hwin 0
      obtain ⟨Lw, u2, b2, hfw⟩ := hfwn 0 (by omega)
      rcases hcf with ⟨hca, _⟩ | ⟨m, hca, hm, _⟩
      · refine PureV.body (fn := Try.f11) rfl rfl rfl rfl ?_
        refine wpC_sound (mu := fun _ => false) ?_
        repeat' (first |(refine ⟨_, cv8 hkd, rfl, ?_⟩) |(refine ⟨_, cv8 hx, rfl, ?_⟩) |with_reducible (first|refine RM.c1 ?_|refine RM.c2 ?_|refine RM.c4 ?_|refine RM.c5 ?_|refine RM.c9 ?_|refine RM.o1 ?_|refine RM.o2 ?_|refine RM.o3 ?_|refine RM.o4 ?_|refine RM.o5 ?_|refine RM.o7 ?_|refine RM.o9 ?_|refine RM.p1 ?_|refine RM.p2 ?_|refine RM.p3 ?_|refine RM.p5 ?_|refine RM.p6 ?_) |((with_reducible show force _ _);first|refine RM.f1 rfl ?_|refine RM.f2 rfl ?_|refine RM.f3 rfl ?_|refine RM.f4 rfl ?_|refine RM.f5 rfl ?_) |((with_reducible show wpOne _ _ _ _ _ _ _ _ _ _ _ _);refine RM.o8 rfl ?_) |((with_reducible show wpDOne _ _ _ _ _ _ _ _ _ _);refine RM.p9 rfl ?_) |((with_reducible show wpC _ _ _ _ (.cond _ _ _) _ _);refine RM.e3 rfl rfl ?_) |((with_reducible show wpBin _ _ _ _ _ _ _ _ _);first|refine RM.b5 rfl rfl ?_|refine RM.r1 rfl rfl (by omega) ?_) |((with_reducible show wpLen _ _ _ _ _);refine RM.l1 rfl ?_) |(refine ⟨_, rfl, ?_⟩) |(refine ⟨_, _, rfl, by decide, ?_⟩) |(refine ⟨rfl, rfl, rfl, ?_⟩) |(refine And.intro (Nat.le_of_ble_eq_true rfl) ?_) |(refine And.intro (by kernel_rfl) ?_) |(refine PureV.call hcn rfl rfl ?_) |fail)
        rw [hki, hxd]
        repeat' (first |(refine ⟨_, hay, ?_⟩) |with_reducible (first|refine RM.c2 ?_|refine RM.c4 ?_|refine RM.c5 ?_|refine RM.c7 ?_|refine RM.c9 ?_|refine RM.d1 ?_|refine RM.o1 ?_|refine RM.o2 ?_|refine RM.o3 ?_|refine RM.o4 ?_|refine RM.o5 ?_|refine RM.o6 ?_|refine RM.o7 ?_|refine RM.o9 ?_|refine RM.p1 ?_|refine RM.p2 ?_|refine RM.p3 ?_|refine RM.p4 ?_|refine RM.p5 ?_|refine RM.p6 ?_|refine RM.n1 ?_) |((with_reducible show force _ _);first|refine RM.f1 rfl ?_|refine RM.f2 rfl ?_|refine RM.f3 rfl ?_|refine RM.f4 rfl ?_|refine RM.f5 rfl ?_|refine RM.f6 rfl ?_|refine RM.f7 rfl ?_|refine RM.g2 rfl ?_) |((with_reducible show wpOne _ _ _ _ _ _ _ _ _ _ _ _);refine RM.o8 rfl ?_) |((with_reducible show wpDOne _ _ _ _ _ _ _ _ _ _);refine RM.p9 rfl ?_) |((with_reducible show wpGuard _ _ _ _ _);refine wpGuard_yes rfl rfl rfl ?_) |((with_reducible show wpC _ _ _ _ (.cond _ _ _) _ _);refine RM.e2 rfl rfl ?_) |((with_reducible show wpPick _ _ _ _ _);refine RM.k1 rfl ?_) |((with_reducible show wpPickB _ _ _ _ _);first|refine RM.k2 rfl ?_|refine RM.k3 rfl ?_) |((with_reducible show wpBin _ _ _ _ _ _ _ _ _);refine RM.b4 rfl rfl ?_) |((with_reducible show wpLen _ _ _ _ _);refine RM.l1 rfl ?_) |((with_reducible show RM.wpOp _ _ _ _ _ _);refine RM.n3 rfl ?_) |(refine ⟨_, rfl, ?_⟩) |(refine ⟨_, _, rfl, by decide, ?_⟩) |(refine ⟨rfl, rfl, ?_⟩) |(refine And.intro (Nat.le_of_ble_eq_true rfl) ?_) |(refine And.intro (by kernel_rfl) ?_) |(refine ⟨_, _, rfl, rfl, rfl, rfl, Nat.le_of_ble_eq_true rfl, ?_⟩) |(refine ⟨_, _, rfl, Nat.le_of_ble_eq_true rfl, ?_⟩) |(refine ⟨eKind k, ⟨by omega, hidx⟩, rfl, ?_⟩) |(refine PureV.call hca rfl rfl ?_) |(refine PureV.call hfo rfl rfl ?_) |(refine PureV.call hagr rfl rfl ?_) |(refine PureV.call haw rfl rfl ?_) |fail)
        exact ⟨[_], ⟨Fz.deep rfl, trivial⟩, rfl⟩
      · refine PureV.body (fn := Try.f11) rfl rfl rfl rfl ?_
        refine wpC_sound (mu := fun _ => false) ?_
        repeat' (first |(refine ⟨_, cv8 hkd, rfl, ?_⟩) |(refine ⟨_, cv8 hx, rfl, ?_⟩) |with_reducible (first|refine RM.c1 ?_|refine RM.c2 ?_|refine RM.c4 ?_|refine RM.c5 ?_|refine RM.c9 ?_|refine RM.o1 ?_|refine RM.o2 ?_|refine RM.o3 ?_|refine RM.o4 ?_|refine RM.o5 ?_|refine RM.o7 ?_|refine RM.o9 ?_|refine RM.p1 ?_|refine RM.p2 ?_|refine RM.p3 ?_|refine RM.p5 ?_|refine RM.p6 ?_) |((with_reducible show force _ _);first|refine RM.f1 rfl ?_|refine RM.f2 rfl ?_|refine RM.f3 rfl ?_|refine RM.f4 rfl ?_|refine RM.f5 rfl ?_) |((with_reducible show wpOne _ _ _ _ _ _ _ _ _ _ _ _);refine RM.o8 rfl ?_) |((with_reducible show wpDOne _ _ _ _ _ _ _ _ _ _);refine RM.p9 rfl ?_) |((with_reducible show wpC _ _ _ _ (.cond _ _ _) _ _);refine RM.e3 rfl rfl ?_) |((with_reducible show wpBin _ _ _ _ _ _ _ _ _);first|refine RM.b5 rfl rfl ?_|refine RM.r1 rfl rfl (by omega) ?_) |((with_reducible show wpLen _ _ _ _ _);refine RM.l1 rfl ?_) |(refine ⟨_, rfl, ?_⟩) |(refine ⟨_, _, rfl, by decide, ?_⟩) |(refine ⟨rfl, rfl, rfl, ?_⟩) |(refine And.intro (Nat.le_of_ble_eq_true rfl) ?_) |(refine And.intro (by kernel_rfl) ?_) |(refine PureV.call hcn rfl rfl ?_) |fail)
        rw [hki, hxd]
        repeat' (first |(refine ⟨_, hay, ?_⟩) |with_reducible (first|refine RM.c2 ?_|refine RM.c4 ?_|refine RM.c5 ?_|refine RM.c7 ?_|refine RM.c9 ?_|refine RM.d1 ?_|refine RM.o1 ?_|refine RM.o2 ?_|refine RM.o3 ?_|refine RM.o4 ?_|refine RM.o5 ?_|refine RM.o6 ?_|refine RM.o7 ?_|refine RM.o9 ?_|refine RM.p1 ?_|refine RM.p2 ?_|refine RM.p3 ?_|refine RM.p4 ?_|refine RM.p5 ?_|refine RM.p6 ?_|refine RM.n1 ?_) |((with_reducible show force _ _);first|refine RM.f1 rfl ?_|refine RM.f2 rfl ?_|refine RM.f3 rfl ?_|refine RM.f4 rfl ?_|refine RM.f5 rfl ?_|refine RM.f6 rfl ?_|refine RM.f7 rfl ?_|refine RM.g2 rfl ?_) |((with_reducible show wpOne _ _ _ _ _ _ _ _ _ _ _ _);refine RM.o8 rfl ?_) |((with_reducible show wpDOne _ _ _ _ _ _ _ _ _ _);refine RM.p9 rfl ?_) |((with_reducible show wpGuard _ _ _ _ _);first|refine wpGuard_yes rfl rfl rfl ?_|refine wpGuard_no rfl rfl rfl ?_) |((with_reducible show wpC _ _ _ _ (.cond _ _ _) _ _);refine RM.e2 rfl rfl ?_) |((with_reducible show wpPick _ _ _ _ _);refine RM.k1 rfl ?_) |((with_reducible show wpPickB _ _ _ _ _);refine RM.k2 rfl ?_) |((with_reducible show wpBin _ _ _ _ _ _ _ _ _);refine RM.b4 rfl rfl ?_) |((with_reducible show wpLen _ _ _ _ _);refine RM.l1 rfl ?_) |((with_reducible show RM.wpOp _ _ _ _ _ _);refine RM.n3 rfl ?_) |(refine ⟨_, rfl, ?_⟩) |(refine ⟨_, _, rfl, by decide, ?_⟩) |(refine ⟨rfl, rfl, ?_⟩) |(refine And.intro (Nat.le_of_ble_eq_true rfl) ?_) |(refine And.intro (by kernel_rfl) ?_) |(refine ⟨_, _, rfl, rfl, rfl, rfl, Nat.le_of_ble_eq_true rfl, ?_⟩) |(refine ⟨_, _, rfl, Nat.le_of_ble_eq_true rfl, ?_⟩) |(refine ⟨eKind k, ⟨by omega, hidx⟩, rfl, ?_⟩) |(refine PureV.call hca rfl rfl ?_) |(refine PureV.call hfo rfl rfl ?_) |(refine PureV.call hagr rfl rfl ?_) |(refine PureV.call haw rfl rfl ?_) |fail)
        exact ⟨[_], ⟨Fz.deep rfl, trivial⟩, rfl⟩
    | true =>
      rw [hag] at hagr
      have htA := hmem hag
      rcases hcf with ⟨hca, hsome⟩ | ⟨m, hca, hm, _, hyes, hno⟩
      · have hsp := hspn 300 (by omega)
        have h1 : Q 300 = false := hsome (List.ne_nil_of_mem htA) 300 (Nat.le_refl _)
        rw [h1] at hsp
        have hwi := hwin 0
        obtain ⟨Lw, u2, b2, hfw⟩ := hfwn 0 (by omega)
        refine PureV.body (fn := Try.f11) rfl rfl rfl rfl ?_
        refine wpC_sound (mu := fun _ => false) ?_
        repeat' (first |(refine ⟨_, cv8 hkd, rfl, ?_⟩) |(refine ⟨_, cv8 hx, rfl, ?_⟩) |with_reducible (first|refine RM.c1 ?_|refine RM.c2 ?_|refine RM.c4 ?_|refine RM.c5 ?_|refine RM.c9 ?_|refine RM.o1 ?_|refine RM.o2 ?_|refine RM.o3 ?_|refine RM.o4 ?_|refine RM.o5 ?_|refine RM.o7 ?_|refine RM.o9 ?_|refine RM.p1 ?_|refine RM.p2 ?_|refine RM.p3 ?_|refine RM.p5 ?_|refine RM.p6 ?_) |((with_reducible show force _ _);first|refine RM.f1 rfl ?_|refine RM.f2 rfl ?_|refine RM.f3 rfl ?_|refine RM.f4 rfl ?_|refine RM.f5 rfl ?_) |((with_reducible show wpOne _ _ _ _ _ _ _ _ _ _ _ _);refine RM.o8 rfl ?_) |((with_reducible show wpDOne _ _ _ _ _ _ _ _ _ _);refine RM.p9 rfl ?_) |((with_reducible show wpC _ _ _ _ (.cond _ _ _) _ _);refine RM.e3 rfl rfl ?_) |((with_reducible show wpBin _ _ _ _ _ _ _ _ _);first|refine RM.b5 rfl rfl ?_|refine RM.r1 rfl rfl (by omega) ?_) |((with_reducible show wpLen _ _ _ _ _);refine RM.l1 rfl ?_) |(refine ⟨_, rfl, ?_⟩) |(refine ⟨_, _, rfl, by decide, ?_⟩) |(refine ⟨rfl, rfl, rfl, ?_⟩) |(refine And.intro (Nat.le_of_ble_eq_true rfl) ?_) |(refine And.intro (by kernel_rfl) ?_) |(refine PureV.call hcn rfl rfl ?_) |fail)
        rw [hki, hxd]
        repeat' (first |(refine ⟨_, hay, ?_⟩) |with_reducible (first|refine RM.c1 ?_|refine RM.c2 ?_|refine RM.c4 ?_|refine RM.c5 ?_|refine RM.c7 ?_|refine RM.c9 ?_|refine RM.d1 ?_|refine RM.o1 ?_|refine RM.o2 ?_|refine RM.o3 ?_|refine RM.o4 ?_|refine RM.o5 ?_|refine RM.o6 ?_|refine RM.o7 ?_|refine RM.o9 ?_|refine RM.p1 ?_|refine RM.p2 ?_|refine RM.p3 ?_|refine RM.p4 ?_|refine RM.p5 ?_|refine RM.p6 ?_|refine RM.n1 ?_) |((with_reducible show force _ _);first|refine RM.f1 rfl ?_|refine RM.f2 rfl ?_|refine RM.f3 rfl ?_|refine RM.f4 rfl ?_|refine RM.f5 rfl ?_|refine RM.f6 rfl ?_|refine RM.f7 rfl ?_|refine RM.g2 rfl ?_) |((with_reducible show wpOne _ _ _ _ _ _ _ _ _ _ _ _);refine RM.o8 rfl ?_) |((with_reducible show wpDOne _ _ _ _ _ _ _ _ _ _);refine RM.p9 rfl ?_) |((with_reducible show wpGuard _ _ _ _ _);refine wpGuard_yes rfl rfl rfl ?_) |((with_reducible show wpC _ _ _ _ (.cond _ _ _) _ _);first|refine RM.e2 rfl rfl ?_|refine RM.e3 rfl rfl ?_) |((with_reducible show wpPick _ _ _ _ _);refine RM.k1 rfl ?_) |((with_reducible show wpPickB _ _ _ _ _);refine RM.k2 rfl ?_) |((with_reducible show wpBin _ _ _ _ _ _ _ _ _);first|refine RM.b4 rfl rfl ?_|refine RM.b5 rfl rfl ?_) |((with_reducible show wpLen _ _ _ _ _);refine RM.l1 rfl ?_) |((with_reducible show RM.wpOp _ _ _ _ _ _);refine RM.n3 rfl ?_) |(refine ⟨_, rfl, ?_⟩) |(refine ⟨_, _, rfl, by decide, ?_⟩) |(refine ⟨rfl, rfl, ?_⟩) |(refine And.intro (Nat.le_of_ble_eq_true rfl) ?_) |(refine And.intro (by kernel_rfl) ?_) |(refine ⟨_, _, rfl, rfl, rfl, rfl, Nat.le_of_ble_eq_true rfl, ?_⟩) |(refine ⟨_, _, rfl, Nat.le_of_ble_eq_true rfl, ?_⟩) |(refine ⟨eKind k, ⟨by omega, hidx⟩, rfl, ?_⟩) |(refine PureV.call hca rfl rfl ?_) |(refine PureV.call hfo rfl rfl ?_) |(refine PureV.call hagr rfl rfl ?_) |(refine PureV.call haw rfl rfl ?_) |(refine PureV.call hsp rfl rfl ?_) |fail)
        exact ⟨[_], ⟨Fz.deep rfl, trivial⟩, rfl⟩
      · have hwi := hwin m
        obtain ⟨Lw, u2, b2, hfw⟩ := hfwn m hm
        have hge := hlw m hyes htA
        have hle := hsl m
        clear hlw hsl hfwn
        generalize shortAt s.men k (row.set d (row.getD d 0 + (m : Int))) t s.men.length s.men.length = sm at *
        have d1 : decide (sm < ((s.men.map eI).length : Int)) = false := decide_eq_false (by omega)
        have d2 : decide ((300 : Int) < (m : Int)) = false := decide_eq_false (by omega)
        have d3 : decide ((m : Int) < 0) = false := decide_eq_false (by omega)
        by_cases hm0 : m = 0
        · have d4 : decide ((m : Int) = 0) = true := decide_eq_true (by omega)
          have hsp := hspn 0 (by omega)
          refine PureV.body (fn := Try.f11) rfl rfl rfl rfl ?_
          refine wpC_sound (mu := fun _ => false) ?_
          repeat' (first |(refine ⟨_, cv8 hkd, rfl, ?_⟩) |(refine ⟨_, cv8 hx, rfl, ?_⟩) |with_reducible (first|refine RM.c1 ?_|refine RM.c2 ?_|refine RM.c4 ?_|refine RM.c5 ?_|refine RM.c9 ?_|refine RM.o1 ?_|refine RM.o2 ?_|refine RM.o3 ?_|refine RM.o4 ?_|refine RM.o5 ?_|refine RM.o7 ?_|refine RM.o9 ?_|refine RM.p1 ?_|refine RM.p2 ?_|refine RM.p3 ?_|refine RM.p5 ?_|refine RM.p6 ?_) |((with_reducible show force _ _);first|refine RM.f1 rfl ?_|refine RM.f2 rfl ?_|refine RM.f3 rfl ?_|refine RM.f4 rfl ?_|refine RM.f5 rfl ?_) |((with_reducible show wpOne _ _ _ _ _ _ _ _ _ _ _ _);refine RM.o8 rfl ?_) |((with_reducible show wpDOne _ _ _ _ _ _ _ _ _ _);refine RM.p9 rfl ?_) |((with_reducible show wpC _ _ _ _ (.cond _ _ _) _ _);refine RM.e3 rfl rfl ?_) |((with_reducible show wpBin _ _ _ _ _ _ _ _ _);first|refine RM.b5 rfl rfl ?_|refine RM.r1 rfl rfl (by omega) ?_) |((with_reducible show wpLen _ _ _ _ _);refine RM.l1 rfl ?_) |(refine ⟨_, rfl, ?_⟩) |(refine ⟨_, _, rfl, by decide, ?_⟩) |(refine ⟨rfl, rfl, rfl, ?_⟩) |(refine And.intro (Nat.le_of_ble_eq_true rfl) ?_) |(refine And.intro (by kernel_rfl) ?_) |(refine PureV.call hcn rfl rfl ?_) |fail)
          rw [hki, hxd]
          repeat' (first |(refine ⟨_, hay, ?_⟩) |(refine ⟨_, haw, ?_⟩) |with_reducible (first|refine RM.c1 ?_|refine RM.c2 ?_|refine RM.c4 ?_|refine RM.c5 ?_|refine RM.c7 ?_|refine RM.c9 ?_|refine RM.o1 ?_|refine RM.o2 ?_|refine RM.o3 ?_|refine RM.o4 ?_|refine RM.o5 ?_|refine RM.o6 ?_|refine RM.o7 ?_|refine RM.o9 ?_|refine RM.p1 ?_|refine RM.p2 ?_|refine RM.p3 ?_|refine RM.p4 ?_|refine RM.p5 ?_|refine RM.p6 ?_|refine RM.n1 ?_) |((with_reducible show force _ _);first|refine RM.f1 rfl ?_|refine RM.f2 rfl ?_|refine RM.f3 rfl ?_|refine RM.f4 rfl ?_|refine RM.f5 rfl ?_|refine RM.f6 rfl ?_|refine RM.f7 rfl ?_|refine RM.g2 rfl ?_) |((with_reducible show wpOne _ _ _ _ _ _ _ _ _ _ _ _);refine RM.o8 rfl ?_) |((with_reducible show wpDOne _ _ _ _ _ _ _ _ _ _);refine RM.p9 rfl ?_) |((with_reducible show wpGuard _ _ _ _ _);first|refine wpGuard_yes rfl rfl rfl ?_|refine wpGuard_yes rfl rfl (by assumption) ?_|refine wpGuard_no rfl rfl (by assumption) ?_) |((with_reducible show wpC _ _ _ _ (.cond _ _ _) _ _);first|refine RM.e3 rfl rfl ?_|refine RM.e3 rfl (by assumption) ?_) |((with_reducible show wpPick _ _ _ _ _);refine RM.k1 rfl ?_) |((with_reducible show wpPickB _ _ _ _ _);first|refine RM.k2 rfl ?_|refine RM.k3 rfl ?_|refine RM.k2 (by assumption) ?_|refine RM.k3 (by assumption) ?_) |((with_reducible show wpBin _ _ _ _ _ _ _ _ _);first|refine RM.b4 rfl rfl ?_|refine RM.b5 rfl rfl ?_|refine RM.b6 rfl rfl ?_|refine RM.b8 rfl rfl ?_) |((with_reducible show wpLen _ _ _ _ _);refine RM.l1 rfl ?_) |((with_reducible show RM.wpOp _ _ _ _ _ _);refine RM.n3 rfl ?_) |(refine ⟨_, rfl, ?_⟩) |(refine ⟨_, _, rfl, by decide, ?_⟩) |(refine ⟨rfl, rfl, ?_⟩) |(refine And.intro (Nat.le_of_ble_eq_true rfl) ?_) |(refine And.intro (by kernel_rfl) ?_) |(refine ⟨_, _, rfl, rfl, rfl, rfl, Nat.le_of_ble_eq_true rfl, ?_⟩) |(refine ⟨_, _, rfl, Nat.le_of_ble_eq_true rfl, ?_⟩) |(refine ⟨eKind k, ⟨by omega, hidx⟩, rfl, ?_⟩) |(refine PureV.call hca rfl rfl ?_) |(refine PureV.call hfo rfl rfl ?_) |(refine PureV.call hagr rfl rfl ?_) |(refine PureV.call hwi rfl rfl ?_) |(refine PureV.call hfw rfl rfl ?_) |fail)
          exact ⟨[_], ⟨Fz.deep rfl, trivial⟩, rfl⟩
        · have d4 : decide ((m : Int) = 0) = false := decide_eq_false (by omega)
          unfold U16ok at hy
          have x1 := Int.emod_nonneg y (show (m : Int) ≠ 0 by omega)
          have x2 := Int.emod_lt_of_pos y (show 0 < (m : Int) by omega)
          have hsp := hspn (y % (m : Int)) (by omega)
          obtain ⟨n, hn⟩ : ∃ n : Nat, y % (m : Int) = n := ⟨(y % (m : Int)).toNat, by omega⟩
          have h1 := hno n (by omega)
          rw [← hn] at h1
          rw [h1] at hsp
          refine PureV.body (fn := Try.f11) rfl rfl rfl rfl ?_
          refine wpC_sound (mu := fun _ => false) ?_
          repeat' (first |(refine ⟨_, cv8 hkd, rfl, ?_⟩) |(refine ⟨_, cv8 hx, rfl, ?_⟩) |with_reducible (first|refine RM.c1 ?_|refine RM.c2 ?_|refine RM.c4 ?_|refine RM.c5 ?_|refine RM.c9 ?_|refine RM.o1 ?_|refine RM.o2 ?_|refine RM.o3 ?_|refine RM.o4 ?_|refine RM.o5 ?_|refine RM.o7 ?_|refine RM.o9 ?_|refine RM.p1 ?_|refine RM.p2 ?_|refine RM.p3 ?_|refine RM.p5 ?_|refine RM.p6 ?_) |((with_reducible show force _ _);first|refine RM.f1 rfl ?_|refine RM.f2 rfl ?_|refine RM.f3 rfl ?_|refine RM.f4 rfl ?_|refine RM.f5 rfl ?_) |((with_reducible show wpOne _ _ _ _ _ _ _ _ _ _ _ _);refine RM.o8 rfl ?_) |((with_reducible show wpDOne _ _ _ _ _ _ _ _ _ _);refine RM.p9 rfl ?_) |((with_reducible show wpC _ _ _ _ (.cond _ _ _) _ _);refine RM.e3 rfl rfl ?_) |((with_reducible show wpBin _ _ _ _ _ _ _ _ _);first|refine RM.b5 rfl rfl ?_|refine RM.r1 rfl rfl (by omega) ?_) |((with_reducible show wpLen _ _ _ _ _);refine RM.l1 rfl ?_) |(refine ⟨_, rfl, ?_⟩) |(refine ⟨_, _, rfl, by decide, ?_⟩) |(refine ⟨rfl, rfl, rfl, ?_⟩) |(refine And.intro (Nat.le_of_ble_eq_true rfl) ?_) |(refine And.intro (by kernel_rfl) ?_) |(refine PureV.call hcn rfl rfl ?_) |fail)
          rw [hki, hxd]
          repeat' (first |(refine ⟨_, hay, ?_⟩) |(refine ⟨_, cv16 hy, rfl, ?_⟩) |(refine ⟨_, hsp, ?_⟩) |(refine ⟨_, haw, ?_⟩) |with_reducible (first|refine RM.c1 ?_|refine RM.c2 ?_|refine RM.c4 ?_|refine RM.c5 ?_|refine RM.c7 ?_|refine RM.c9 ?_|refine RM.o1 ?_|refine RM.o2 ?_|refine RM.o3 ?_|refine RM.o4 ?_|refine RM.o5 ?_|refine RM.o6 ?_|refine RM.o7 ?_|refine RM.o9 ?_|refine RM.p1 ?_|refine RM.p2 ?_|refine RM.p3 ?_|refine RM.p4 ?_|refine RM.p5 ?_|refine RM.p6 ?_|refine RM.n1 ?_) |((with_reducible show force _ _);first|refine RM.f1 rfl ?_|refine RM.f2 rfl ?_|refine RM.f3 rfl ?_|refine RM.f4 rfl ?_|refine RM.f5 rfl ?_|refine RM.f6 rfl ?_|refine RM.f7 rfl ?_|refine RM.g2 rfl ?_) |((with_reducible show wpOne _ _ _ _ _ _ _ _ _ _ _ _);refine RM.o8 rfl ?_) |((with_reducible show wpDOne _ _ _ _ _ _ _ _ _ _);refine RM.p9 rfl ?_) |((with_reducible show wpGuard _ _ _ _ _);first|refine wpGuard_yes rfl rfl rfl ?_|refine wpGuard_yes rfl rfl (by assumption) ?_) |((with_reducible show wpC _ _ _ _ (.cond _ _ _) _ _);first|refine RM.e3 rfl rfl ?_|refine RM.e3 rfl (by assumption) ?_) |((with_reducible show wpPick _ _ _ _ _);refine RM.k1 rfl ?_) |((with_reducible show wpPickB _ _ _ _ _);first|refine RM.k2 rfl ?_|refine RM.k3 rfl ?_|refine RM.k3 (by assumption) ?_) |((with_reducible show wpBin _ _ _ _ _ _ _ _ _);first|refine RM.b4 rfl rfl ?_|refine RM.b5 rfl rfl ?_|refine RM.b6 rfl rfl ?_|refine RM.b8 rfl rfl ?_|refine RM.r1 rfl rfl (by omega) ?_) |((with_reducible show wpLen _ _ _ _ _);refine RM.l1 rfl ?_) |((with_reducible show RM.wpOp _ _ _ _ _ _);refine RM.n3 rfl ?_) |(refine ⟨_, rfl, ?_⟩) |(refine ⟨_, _, rfl, by decide, ?_⟩) |(refine ⟨rfl, rfl, ?_⟩) |(refine And.intro (Nat.le_of_ble_eq_true rfl) ?_) |(refine And.intro (by kernel_rfl) ?_) |(refine ⟨_, _, rfl, rfl, rfl, rfl, Nat.le_of_ble_eq_true rfl, ?_⟩) |(refine ⟨_, _, rfl, Nat.le_of_ble_eq_true rfl, ?_⟩) |(refine ⟨eKind k, ⟨by omega, hidx⟩, rfl, ?_⟩) |(refine PureV.call hca rfl rfl ?_) |(refine PureV.call hfo rfl rfl ?_) |(refine PureV.call hagr rfl rfl ?_) |(refine PureV.call hwi rfl rfl ?_) |(refine PureV.call hfw rfl rfl ?_) |fail)
          exact ⟨[_], ⟨Fz.deep rfl, trivial⟩, rfl⟩
  · have hask : askErr s l 0 = cntsErr s l := by unfold askErr; rw [if_pos he]
    have hca := cargo_err true s h l hl 0 0 (by rw [hask]; exact he)
    rw [hask] at hca
    have d1 : (!decide (cntsErr s l = 0)) = true := by simpa using he
    refine PureV.body (fn := Try.f11) rfl rfl rfl rfl ?_
    refine wpC_sound (mu := fun _ => false) ?_
    repeat' (first |with_reducible (first|refine RM.c2 ?_|refine RM.c4 ?_|refine RM.c7 ?_|refine RM.c9 ?_|refine RM.d1 ?_|refine RM.o1 ?_|refine RM.o2 ?_|refine RM.o4 ?_|refine RM.o5 ?_|refine RM.o7 ?_|refine RM.o9 ?_|refine RM.p1 ?_|refine RM.p2 ?_|refine RM.p3 ?_|refine RM.p4 ?_|refine RM.p5 ?_) |((with_reducible show force _ _);first|refine RM.f1 rfl ?_|refine RM.f2 rfl ?_|refine RM.f3 rfl ?_|refine RM.f4 rfl ?_|refine RM.f5 rfl ?_|refine RM.f6 rfl ?_) |((with_reducible show wpOne _ _ _ _ _ _ _ _ _ _ _ _);refine RM.o8 rfl ?_) |((with_reducible show wpGuard _ _ _ _ _);refine wpGuard_yes rfl rfl (by assumption) ?_) |((with_reducible show wpC _ _ _ _ (.cond _ _ _) _ _);refine RM.e2 rfl (by assumption) ?_) |((with_reducible show wpPick _ _ _ _ _);refine RM.k1 rfl ?_) |((with_reducible show wpPickB _ _ _ _ _);refine RM.k2 (by assumption) ?_) |((with_reducible show wpBin _ _ _ _ _ _ _ _ _);refine RM.b5 rfl rfl ?_) |(refine ⟨_, rfl, ?_⟩) |(refine ⟨rfl, rfl, rfl, ?_⟩) |(refine And.intro (Nat.le_of_ble_eq_true rfl) ?_) |(refine PureV.call hcn rfl rfl ?_) |(refine PureV.call hca rfl rfl ?_) |(refine PureV.call haw rfl rfl ?_) |fail)
    exact ⟨[_], ⟨Fz.deep rfl, trivial⟩, rfl⟩
end Go.Proofs.Ytmkaeohmdcoanaa
namespace Go.Proofs.Ytmkaeohmdcoanaa
open Go.RM
set_option maxRecDepth 1000000
noncomputable def tabA : List XE := [x_a1, x_a2, x_a3, x_a4, x_a5, x_a6, x_a7, x_a8]
theorem xs_tabA : ∀ e ∈ tabA, XSound TT e := by
  unfold tabA
  simp only [List.mem_cons, List.not_mem_nil, or_false]
  rintro e (rfl | rfl | rfl | rfl | rfl | rfl | rfl | rfl)
  · exact xs_a1
  · exact xs_a2
  · exact xs_a3
  · exact xs_a4
  · exact xs_a5
  · exact xs_a6
  · exact xs_a7
  · exact xs_a8
theorem xs_aw : XSound TT x_aw := xe_add tt_ok tt_mixed xs_tabA 1000 (by kernel_rfl)
theorem xs_TB : ∀ e ∈ TB, XSound TT e := fun e he => by
  obtain rfl := List.mem_singleton.1 he
  exact xs_aw
end Go.Proofs.Ytmkaeohmdcoanaa
open Go Go.RM
namespace Go.Proofs.Ytmkaeohmdcoanaa
open Go.ChangeShapes Go.WideShapes Go.ChangeAt Go.RowKit
theorem try_own : ownKnob Try.prog.godebug = none := by kernel_rfl
theorem try_laid : laidOutB Try.prog = true := by kernel_rfl
theorem wf8 {n : Int} (h : (Lit.int .u8 n).wf = true) : 0 ≤ n ∧ n ≤ 255 := by
  simp only [Lit.wf, Bool.and_eq_true, decide_eq_true_eq] at h
  exact h
theorem wf16 {n : Int} (h : (Lit.int .u16 n).wf = true) : 0 ≤ n ∧ n ≤ 65535 := by
  simp only [Lit.wf, Bool.and_eq_true, decide_eq_true_eq] at h
  exact h
abbrev sh8 : Sh := .int .u8
abbrev sh16 : Sh := .int .u16
abbrev shPast : Sh := .cons sh8 (.cons (.arr 3 sh16) (.cons (.slice sh8) .nil))
theorem tv8 {l : List AV} (h : TV sh8 l) : ∃ n, (0 ≤ n ∧ n ≤ 255) ∧ l = [.fl (.int .u8 n)] := by
  obtain ⟨n, hn, rfl⟩ := tvK h
  exact ⟨n, wf8 hn, rfl⟩
theorem tv16 {l : List AV} (h : TV sh16 l) : ∃ n, (0 ≤ n ∧ n ≤ 65535) ∧ l = [.fl (.int .u16 n)] := by
  obtain ⟨n, hn, rfl⟩ := tvK h
  exact ⟨n, wf16 hn, rfl⟩
theorem tvA3 {l : List AV} (h : TV (.arr 3 sh16) l) : ∃ a b c, ((0 ≤ a ∧ a ≤ 65535) ∧ (0 ≤ b ∧ b ≤ 65535) ∧ (0 ≤ c ∧ c ≤ 65535)) ∧ l = [.fl (.int .u16 a), .fl (.int .u16 b), .fl (.int .u16 c)] := by
  obtain ⟨els, hl, he, rfl⟩ := tvA h
  match els, hl with
  | [x, y, z], _ =>
    obtain ⟨a, ha, rfl⟩ := tv16 (he x (by simp))
    obtain ⟨b, hb, rfl⟩ := tv16 (he y (by simp))
    obtain ⟨c, hc, rfl⟩ := tv16 (he z (by simp))
    exact ⟨a, b, c, ⟨ha, hb, hc⟩, rfl⟩
theorem tvPast {l : List AV} (h : TV shPast l) : ∃ (kd a b c : Int) (taken : List (List AV)), ((0 ≤ kd ∧ kd ≤ 255) ∧ (0 ≤ a ∧ a ≤ 65535) ∧ (0 ≤ b ∧ b ≤ 65535) ∧ (0 ≤ c ∧ c ≤ 65535)) ∧ (taken.length ≤ maxLen ∧ ∀ el ∈ taken, TV sh8 el) ∧ l = [.fl (.int .u8 kd), .fl (.int .u16 a), .fl (.int .u16 b), .fl (.int .u16 c), .sl taken false] := by
  obtain ⟨_, _, h1, k1, rfl⟩ := tvC h
  obtain ⟨_, _, h2, k2, rfl⟩ := tvC k1
  obtain ⟨_, _, h3, k3, rfl⟩ := tvC k2
  obtain rfl := tvN k3
  obtain ⟨kd, hk, rfl⟩ := tv8 h1
  obtain ⟨a, b, c, hh, rfl⟩ := tvA3 h2
  obtain ⟨els, hl, he, rfl⟩ := tvL h3
  exact ⟨kd, a, b, c, els, ⟨hk, hh⟩, ⟨hl, he⟩, rfl⟩
end Go.Proofs.Ytmkaeohmdcoanaa
open Go Go.RM
namespace Go.Proofs.Ytmkaeohmdcoanaa
abbrev shLoaded : Sh := .cons shPast (.cons sh8 (.cons sh16 .nil))
theorem tvLoaded {l : List AV} (h : TV shLoaded l) : ∃ (kd a b c : Int) (taken : List (List AV)) (x y : Int), ((0 ≤ kd ∧ kd ≤ 255) ∧ (0 ≤ a ∧ a ≤ 65535) ∧ (0 ≤ b ∧ b ≤ 65535) ∧ (0 ≤ c ∧ c ≤ 65535)) ∧ (0 ≤ x ∧ x ≤ 255) ∧ (0 ≤ y ∧ y ≤ 65535) ∧
    l = [.fl (.int .u8 kd), .fl (.int .u16 a), .fl (.int .u16 b), .fl (.int .u16 c), .sl taken false, .fl (.int .u8 x), .fl (.int .u16 y)] := by
  obtain ⟨_, _, h1, k1, rfl⟩ := tvC h
  obtain ⟨_, _, h2, k2, rfl⟩ := tvC k1
  obtain ⟨_, _, h3, k3, rfl⟩ := tvC k2
  obtain rfl := tvN k3
  obtain ⟨kd, a, b, c, taken, hh, _, rfl⟩ := tvPast h1
  obtain ⟨x, hx, rfl⟩ := tv8 h2
  obtain ⟨y, hy, rfl⟩ := tv16 h3
  exact ⟨kd, a, b, c, taken, x, y, hh, hx, hy, rfl⟩
end Go.Proofs.Ytmkaeohmdcoanaa
