/-
  Contracts of the program's functions and of the document's. Lemmas alone; their conditions stand in them.
-/
import Derived.Test.YtmkaeohmdcoanaaA2
import Derived.Test.YtmkaeohmdcoanaaX1
import Derived.Test.YtmkaeohmdcoanaaK1
import Derived.Test.YtmkaeohmdcoanaaRows
open Go Go.RM
namespace Go.Proofs.Ytmkaeohmdcoanaa
set_option maxRecDepth 100000
set_option maxHeartbeats 4000000
theorem sizes8 {s : Stores} {l : List Count} (h : cntsErr s l = 0) : s.cargos.length ≤ 8 := by
  unfold cntsErr at h
  by_cases h1 : (chk s).2.2 = 0
  · cases hb : sizesBad s with
    | true => rw [chk_1 hb] at h1; exact absurd h1 (by decide)
    | false => exact (sizes_ok hb).2.2
  · rw [if_pos h1] at h; exact absurd h h1
theorem row8 {s : Stores} {l : List Count} (h : cntsErr s l = 0) (i : Int) : RowOk 8 (cargoRow i s.cargos) := by
  have hg := (cnts_good h).1
  have h8 := sizes8 h
  have h9 := sizes_9 hg.sizes
  have := cargoRow_ok (k := i) (cs := s.cargos) (fun c hc => by have := hg.cargos c hc; omega)
  exact ⟨this.len, fun x hx => by have := this.bnd x hx; omega⟩
theorem RowOk.more {row : List Int} (h : RowOk 8 row) {d : Nat} (hd : d < 30) {n : Int} (hn : 0 ≤ n ∧ n ≤ 300) : RowOk 9 (row.set d (row.getD d 0 + n)) := by
  have hg := h.get hd
  refine ⟨by rw [List.length_set]; exact h.len, fun x hx => ?_⟩
  rcases List.mem_or_eq_of_mem_set hx with hx | rfl
  · have := h.bnd x hx; omega
  · omega
theorem RunOk.more {men : List Int} {k : Kind} {row : List Int} {t : Truth} (h : RunOk men k row t) (hr : RowOk 8 row) {d : Nat} (hd : d < 30) {n : Int} (hn : 0 ≤ n ∧ n ≤ 300) : RunOk men k (row.set d (row.getD d 0 + n)) t :=
  ⟨h.men30, h.men, hr.more hd hn, h.room, h.ration, h.first, h.man, h.ship⟩
abbrev lows (s : Stores) (l : List Count) (i : Nat) (k : Kind) : List Truth := (truthsL s.men k (cargoRow i s.cargos) (cntsOf l i)).map Prod.fst
def lastsWith (s : Stores) (k : Kind) (row : List Int) (L : List Truth) (d : Nat) (n : Int) : Bool := !L.any (runsShort s.men k (row.set d (row.getD d 0 + n)) s.men.length)
theorem cargoLeast_c (one : Bool) (s : Stores) (l : List Count) (h0 : cntsErr s l = 0) (i : Nat) (hi : i < s.kinds.length) (d : Nat) (hd : d < s.men.length) :
    Pu one 72 [I64 0, I64 300, .fn 73 [] [.pt (eHoldV s s.kinds[i] (cargoRow i s.cargos) (.sl ((cntsOf l i).map eCount) false)) 0, .pt [I64 d] 0, .pt [.sl ((lows s l i s.kinds[i]).map eTruth) false] 0]]
      (I64 (bs (fun n => lastsWith s s.kinds[i] (cargoRow i s.cargos) (lows s l i s.kinds[i]) d n) 0 301 : Nat)) := by
  have hh := holdOk h0 hi
  have hr8 := row8 h0 i
  have h30 := hh.row.len
  have h9 := sizes_9 hh.good.sizes
  have hget := hr8.get (d := d) (by omega)
  have hlen : (lows s l i s.kinds[i]).length ≤ maxLen := by rw [List.length_map]; have := truthsL_len hh; unfold maxLen; omega
  have hrun : ∀ t ∈ lows s l i s.kinds[i], RunOk s.men s.kinds[i] (cargoRow i s.cargos) t := fun t ht => by
    obtain ⟨y, hy, rfl⟩ := List.mem_map.1 ht
    exact (truthsL_run hh hy).1.1
  have key := least_c one 73 [] [.pt (eHoldV s s.kinds[i] (cargoRow i s.cargos) (.sl ((cntsOf l i).map eCount) false)) 0, .pt [I64 d] 0, .pt [.sl ((lows s l i s.kinds[i]).map eTruth) false] 0] rfl 0 301 (by omega) (by omega) (lastsWith s s.kinds[i] (cargoRow i s.cargos) (lows s l i s.kinds[i]) d) fun n hn => by
    rw [Int.zero_add]
    exact cargo1_c true d n h30 (by omega) (by omega) (fun t ht => (hrun t ht).more hr8 (by omega) (by omega)) hlen
  simp only [Int.zero_add] at key
  exact key
end Go.Proofs.Ytmkaeohmdcoanaa
open Go Go.RM
namespace Go.Proofs.Ytmkaeohmdcoanaa
set_option maxRecDepth 100000
set_option maxHeartbeats 4000000
theorem cargo_none (one : Bool) (s : Stores) (h : s.Ok) (l : List Count) (h0 : cntsErr s l = 0) (i : Nat) (hi : i < s.kinds.length) (d : Nat) (hd : d < s.men.length) (he : truthsL s.men s.kinds[i] (cargoRow i s.cargos) (cntsOf l i) = []) :
    Pu one 29 [.ag (eStores s), .sl (l.map eCount) false, I64 i, I64 d] (.tp [I64 0, I64 9]) := by
  have em : ((s.men.map eI).length : Int) = s.men.length := by simp
  have hh := holdOk h0 hi
  have hen := enter_ok one s h l h0 i hi
  have h30 := hh.row.len
  have hkn := known_c one hh
  have h9 := sizes_9 hh.good.sizes
  rw [if_pos he] at hkn
  have hou := outside_c one 0 (((s.men.map eI).length : Int) - 1) [eI d] true rfl (Nat.le_of_ble_eq_true rfl)
  rw [show outB 0 (((s.men.map eI).length : Int) - 1) ([eI (d : Int)].map unI) = false by rw [em]; show outB 0 ((s.men.length : Int) - 1) [(d : Int)] = false; rw [outB_one, inB_iff.2 (by omega)]; rfl] at hou
  generalize cargoRow i s.cargos = row at *
  generalize s.kinds[i] = k at *
  refine PureV.body (fn := Try.f29) rfl rfl rfl rfl ?_
  refine wpC_sound (mu := fun _ => false) ?_
  repeat' (first |(refine stH h30 rfl rfl rfl rfl ?_) |(refine ldHO h30 rfl rfl ?_) |with_reducible (first|refine RM.c1 ?_|refine RM.c2 ?_|refine RM.c3 ?_|refine RM.c4 ?_|refine RM.c7 ?_|refine RM.c9 ?_|refine RM.d1 ?_|refine RM.d3 ?_|refine RM.o1 ?_|refine RM.o2 ?_|refine RM.o4 ?_|refine RM.o5 ?_|refine RM.o6 ?_|refine RM.o7 ?_|refine RM.o9 ?_|refine RM.p1 ?_|refine RM.p2 ?_|refine RM.p3 ?_|refine RM.p5 ?_|refine RM.p6 ?_) |((with_reducible show force _ _);first|refine RM.f1 rfl ?_|refine RM.f2 rfl ?_|refine RM.f3 rfl ?_|refine RM.f4 rfl ?_|refine RM.f5 rfl ?_|refine RM.f6 rfl ?_|refine RM.f7 rfl ?_|refine RM.g2 rfl ?_) |((with_reducible show wpOne _ _ _ _ _ _ _ _ _ _ _ _);refine RM.o8 rfl ?_) |((with_reducible show wpC _ _ _ _ (.cond _ _ _) _ _);first|refine RM.e2 rfl rfl ?_|refine RM.e3 rfl rfl ?_) |((with_reducible show wpBin _ _ _ _ _ _ _ _ _);first|refine RM.b5 rfl rfl ?_|refine RM.b2 rfl rfl (by omega) ?_) |((with_reducible show wpLen _ _ _ _ _);refine RM.l1 rfl ?_) |(refine ⟨_, rfl, ?_⟩) |(refine ⟨_, _, rfl, by decide, ?_⟩) |(refine ⟨rfl, rfl, rfl, ?_⟩) |(refine ⟨rfl, rfl, ?_⟩) |(refine ⟨_, _, rfl, _, rfl, ?_⟩) |(refine And.intro (Nat.le_of_ble_eq_true rfl) ?_) |(refine And.intro (by kernel_rfl) ?_) |(refine PureV.call hen rfl rfl ?_) |(refine PureV.call hou rfl rfl ?_) |(refine PureV.call hkn rfl (hdeep rfl) ?_) |fail)
  exact ⟨[_, _], ⟨Fz.deep rfl, Fz.deep rfl, trivial⟩, rfl⟩
theorem cargo_okT (one : Bool) (s : Stores) (h : s.Ok) (l : List Count) (h0 : cntsErr s l = 0) (i : Nat) (hi : i < s.kinds.length) (d : Nat) (hd : d < s.men.length) (he : truthsL s.men s.kinds[i] (cargoRow i s.cargos) (cntsOf l i) ≠ []) (r : Nat)
    (hr : bs (fun n => lastsWith s s.kinds[i] (cargoRow i s.cargos) (lows s l i s.kinds[i]) d n) 0 301 = r) :
    Pu one 29 [.ag (eStores s), .sl (l.map eCount) false, I64 i, I64 d] (if 300 < r then .tp [I64 0, I64 9] else .tp [I64 r, I64 0]) := by
  have em : ((s.men.map eI).length : Int) = s.men.length := by simp
  have hh := holdOk h0 hi
  have hen := enter_ok one s h l h0 i hi
  have h30 := hh.row.len
  have hkn := known_c one hh
  have h9 := sizes_9 hh.good.sizes
  rw [if_neg he] at hkn
  have hw := worst_c one hh
  have hle := cargoLeast_c one s l h0 i hi d hd
  rw [hr] at hle
  have hou := outside_c one 0 (((s.men.map eI).length : Int) - 1) [eI d] true rfl (Nat.le_of_ble_eq_true rfl)
  rw [show outB 0 (((s.men.map eI).length : Int) - 1) ([eI (d : Int)].map unI) = false by rw [em]; show outB 0 ((s.men.length : Int) - 1) [(d : Int)] = false; rw [outB_one, inB_iff.2 (by omega)]; rfl] at hou
  clear hr he hh
  unfold lows at hle
  generalize (truthsL s.men s.kinds[i] (cargoRow i s.cargos) (cntsOf l i)).map Prod.fst = L at *
  generalize cargoRow i s.cargos = row at *
  generalize s.kinds[i] = k at *
  have fin : ∀ v, (if 300 < r then AV.tp [I64 0, I64 9] else .tp [I64 r, I64 0]) = v → Pu one 29 [.ag (eStores s), .sl (l.map eCount) false, I64 i, I64 d] v := by
    intro v hv
    have hvd : v.deep = true := by rw [← hv]; split <;> rfl
    refine PureV.body (fn := Try.f29) rfl rfl rfl hvd ?_
    refine RM.c2s (mu := fun _ => false) ?_
    repeat' (first |with_reducible (first|refine RM.c4 ?_|refine RM.c9 ?_|refine RM.o1 ?_|refine RM.o2 ?_|refine RM.o4 ?_|refine RM.o5 ?_|refine RM.p3 ?_) |((with_reducible show force _ _);first|refine RM.f1 rfl ?_|refine RM.f3 rfl ?_) |((with_reducible show wpOne _ _ _ _ _ _ _ _ _ _ _ _);refine RM.o8 rfl ?_) |(refine ⟨rfl, rfl, rfl, ?_⟩) |fail)
    refine RM.c2s (mu := fun _ => false) ?_
    repeat' (first |(refine stH (s := s) (k := k) (row := row) h30 rfl rfl rfl rfl ?_) |with_reducible (first|refine RM.c4 ?_|refine RM.c9 ?_|refine RM.o1 ?_|refine RM.o2 ?_|refine RM.o4 ?_|refine RM.o5 ?_|refine RM.o6 ?_|refine RM.o7 ?_|refine RM.o9 ?_|refine RM.p1 ?_|refine RM.p2 ?_|refine RM.p3 ?_) |((with_reducible show force _ _);first|refine RM.f1 rfl ?_|refine RM.f2 rfl ?_|refine RM.f4 rfl ?_|refine RM.f5 rfl ?_|refine RM.f6 rfl ?_|refine RM.f7 rfl ?_|refine RM.g2 rfl ?_) |((with_reducible show wpOne _ _ _ _ _ _ _ _ _ _ _ _);refine RM.o8 rfl ?_) |(refine ⟨_, rfl, ?_⟩) |(refine And.intro (Nat.le_of_ble_eq_true rfl) ?_) |(refine And.intro (by kernel_rfl) ?_) |(refine PureV.call hen rfl rfl ?_) |fail)
    refine RM.c2s (mu := fun _ => false) ?_
    repeat' (first |with_reducible (first|refine RM.c1 ?_|refine RM.c2 ?_|refine RM.c3 ?_|refine RM.c4 ?_|refine RM.c9 ?_|refine RM.d3 ?_|refine RM.o1 ?_|refine RM.o2 ?_|refine RM.o4 ?_|refine RM.o5 ?_|refine RM.o7 ?_|refine RM.o9 ?_|refine RM.p1 ?_|refine RM.p2 ?_|refine RM.p3 ?_|refine RM.p5 ?_|refine RM.p6 ?_) |((with_reducible show force _ _);first|refine RM.f1 rfl ?_|refine RM.f2 rfl ?_|refine RM.f4 rfl ?_|refine RM.f7 rfl ?_) |((with_reducible show wpOne _ _ _ _ _ _ _ _ _ _ _ _);refine RM.o8 rfl ?_) |((with_reducible show wpC _ _ _ _ (.cond _ _ _) _ _);refine RM.e3 rfl rfl ?_) |((with_reducible show wpBin _ _ _ _ _ _ _ _ _);first|refine RM.b5 rfl rfl ?_|refine RM.b2 rfl rfl (by omega) ?_) |((with_reducible show wpLen _ _ _ _ _);refine RM.l1 rfl ?_) |(refine ⟨_, rfl, ?_⟩) |(refine ⟨_, _, rfl, by decide, ?_⟩) |(refine ⟨rfl, rfl, rfl, ?_⟩) |(refine ⟨rfl, rfl, ?_⟩) |(refine ⟨_, _, rfl, _, rfl, ?_⟩) |(refine PureV.call hou rfl rfl ?_) |fail)
    refine RM.c2s (mu := fun _ => false) ?_
    repeat' (first |(refine ldHO (s := s) (k := k) (row := row) h30 rfl rfl ?_) |with_reducible (first|refine RM.c1 ?_|refine RM.c2 ?_|refine RM.c4 ?_|refine RM.c9 ?_|refine RM.o1 ?_|refine RM.o2 ?_|refine RM.o4 ?_|refine RM.o5 ?_|refine RM.o7 ?_|refine RM.o9 ?_|refine RM.p1 ?_|refine RM.p2 ?_|refine RM.p3 ?_|refine RM.p5 ?_) |((with_reducible show force _ _);first|refine RM.f1 rfl ?_|refine RM.f4 rfl ?_|refine RM.f5 rfl ?_) |((with_reducible show wpOne _ _ _ _ _ _ _ _ _ _ _ _);refine RM.o8 rfl ?_) |((with_reducible show wpC _ _ _ _ (.cond _ _ _) _ _);refine RM.e3 rfl rfl ?_) |((with_reducible show wpBin _ _ _ _ _ _ _ _ _);refine RM.b5 rfl rfl ?_) |(refine PureV.call hkn rfl (hdeep rfl) ?_) |fail)
    refine RM.c2s (mu := fun _ => false) ?_
    repeat' (first |(refine ldHO (s := s) (k := k) (row := row) h30 rfl rfl ?_) |with_reducible (first|refine RM.c4 ?_|refine RM.c9 ?_|refine RM.o1 ?_|refine RM.o2 ?_|refine RM.o4 ?_|refine RM.o5 ?_|refine RM.o6 ?_|refine RM.o7 ?_|refine RM.o9 ?_|refine RM.p1 ?_) |((with_reducible show force _ _);first|refine RM.f4 rfl ?_|refine RM.f5 rfl ?_|refine RM.f7 rfl ?_|refine RM.g2 rfl ?_) |((with_reducible show wpOne _ _ _ _ _ _ _ _ _ _ _ _);refine RM.o8 rfl ?_) |(refine And.intro (by kernel_rfl) ?_) |(refine ⟨_, _, rfl, rfl, rfl, rfl, Nat.le_of_ble_eq_true rfl, ?_⟩) |(refine PureV.call hw rfl (hdeep rfl) ?_) |fail)
    refine SemC.weaker (Weaker.giveUp 0 (l := [(7, .pt [I64 d] 0), (10, .pt (eHoldV s k row (.sl ((cntsOf l i).map eCount) false)) 0), (12, .ptr 1 0 0)]) (hp := [.gone, .cells [.sl (L.map eTruth) false] 0 0]) rfl (Nat.le_refl _) (eHold_deep (s := s) (k := k) (row := row) (c := .sl ((cntsOf l i).map eCount) false) rfl) ⟨.same rfl, .ptr, .same rfl, trivial⟩ rfl rfl) ?_
    refine SemC.weaker (Weaker.giveUp 1 (l := [(7, .pt [I64 d] 0), (10, .pt (eHoldV s k row (.sl ((cntsOf l i).map eCount) false)) 0), (12, .pt [.sl (L.map eTruth) false] 0)]) (hp := [.gone, .gone]) rfl (Nat.zero_le _) rfl ⟨.same rfl, .same rfl, .ptr, trivial⟩ rfl rfl) ?_
    by_cases h3 : 300 < r
    · rw [if_pos h3] at hv
      subst hv
      have d1 : decide ((300 : Int) < r) = true := decide_eq_true (by omega)
      refine wpC_sound (mu := fun _ => false) ?_
      repeat' (first |with_reducible (first|refine RM.c2 ?_|refine RM.c4 ?_|refine RM.c7 ?_|refine RM.c9 ?_|refine RM.d1 ?_|refine RM.o1 ?_|refine RM.o2 ?_|refine RM.o4 ?_|refine RM.o5 ?_|refine RM.o7 ?_|refine RM.o9 ?_|refine RM.p1 ?_|refine RM.p2 ?_|refine RM.p3 ?_|refine RM.p5 ?_|refine RM.p7 ?_) |((with_reducible show force _ _);first|refine RM.f1 rfl ?_|refine RM.f3 rfl ?_|refine RM.f4 rfl ?_) |((with_reducible show wpOne _ _ _ _ _ _ _ _ _ _ _ _);refine RM.o8 rfl ?_) |((with_reducible show wpC _ _ _ _ (.cond _ _ _) _ _);refine RM.e2 rfl (by assumption) ?_) |((with_reducible show wpBin _ _ _ _ _ _ _ _ _);refine RM.b8 rfl rfl ?_) |(refine PureV.call hle rfl rfl ?_) |fail)
      exact ⟨[_, _], ⟨Fz.deep rfl, Fz.deep rfl, trivial⟩, rfl⟩
    · rw [if_neg h3] at hv
      subst hv
      have d1 : decide ((300 : Int) < r) = false := decide_eq_false (by omega)
      refine wpC_sound (mu := fun _ => false) ?_
      repeat' (first |with_reducible (first|refine RM.c1 ?_|refine RM.c2 ?_|refine RM.c4 ?_|refine RM.c7 ?_|refine RM.c9 ?_|refine RM.o1 ?_|refine RM.o2 ?_|refine RM.o4 ?_|refine RM.o5 ?_|refine RM.o7 ?_|refine RM.o9 ?_|refine RM.p1 ?_|refine RM.p2 ?_|refine RM.p3 ?_|refine RM.p5 ?_|refine RM.p7 ?_) |((with_reducible show force _ _);first|refine RM.f1 rfl ?_|refine RM.f3 rfl ?_|refine RM.f4 rfl ?_) |((with_reducible show wpOne _ _ _ _ _ _ _ _ _ _ _ _);refine RM.o8 rfl ?_) |((with_reducible show wpC _ _ _ _ (.cond _ _ _) _ _);refine RM.e3 rfl (by assumption) ?_) |((with_reducible show wpBin _ _ _ _ _ _ _ _ _);refine RM.b8 rfl rfl ?_) |(refine PureV.call hle rfl rfl ?_) |fail)
      exact ⟨[_, _], ⟨Fz.deep rfl, Fz.deep rfl, trivial⟩, rfl⟩
  exact fin _ rfl
end Go.Proofs.Ytmkaeohmdcoanaa
open Go Go.RM
namespace Go.Proofs.Ytmkaeohmdcoanaa
set_option maxRecDepth 100000
def worstStep (out : List Truth) (t : Truth) : List Truth := if (out.all fun o => !decide (o.man = t.man) || !decide (o.ship = t.ship)) = true then out ++ [t] else out
def worstR (L : List Truth) : List Truth := L.foldl worstStep []
theorem worstStep_acc {acc : List Truth} {x t : Truth} (h : t ∈ acc) : t ∈ worstStep acc x := by
  unfold worstStep
  split
  · exact List.mem_append_left _ h
  · exact h
theorem worst_acc : ∀ {L : List Truth} {acc : List Truth} {t : Truth}, t ∈ acc → t ∈ L.foldl worstStep acc
  | [], _, _, h => h
  | _ :: L, _, _, h => worst_acc (L := L) (worstStep_acc h)
theorem worst_mem : ∀ {L : List Truth} {acc : List Truth} {t : Truth}, t ∈ L.foldl worstStep acc → t ∈ acc ∨ t ∈ L
  | [], _, _, h => .inl h
  | x :: L, acc, t, h => by
    rcases worst_mem (L := L) h with h | h
    · unfold worstStep at h
      split at h
      · rcases List.mem_append.1 h with h | h
        · exact .inl h
        · exact .inr (by rw [List.mem_singleton.1 h]; exact List.mem_cons_self ..)
      · exact .inl h
    · exact .inr (List.mem_cons_of_mem _ h)
theorem worst_cover : ∀ {L : List Truth} {acc : List Truth}, (∀ a ∈ acc, ∀ b ∈ L, a.first ≤ b.first) → L.Pairwise (fun a b => a.first ≤ b.first) → ∀ u ∈ L, ∃ t ∈ L.foldl worstStep acc, t.man = u.man ∧ t.ship = u.ship ∧ t.first ≤ u.first
  | [], _, _, _, u, hu => by cases hu
  | x :: L, acc, hacc, hs, u, hu => by
    rw [List.pairwise_cons] at hs
    have hx : ∃ t ∈ worstStep acc x, t.man = x.man ∧ t.ship = x.ship ∧ t.first ≤ x.first := by
      unfold worstStep
      split
      · exact ⟨x, by simp, rfl, rfl, Int.le_refl _⟩
      · rename_i hn
        rw [List.all_eq_true] at hn
        apply Classical.byContradiction
        intro hne
        apply hn
        intro o ho
        cases h1 : decide (o.man = x.man) with
        | false => rfl
        | true =>
          cases h2 : decide (o.ship = x.ship) with
          | false => rfl
          | true =>
            rw [decide_eq_true_eq] at h1 h2
            exact absurd ⟨o, ho, h1, h2, hacc o ho x (List.mem_cons_self ..)⟩ hne
    rcases List.mem_cons.1 hu with rfl | hu
    · obtain ⟨t, ht, h⟩ := hx
      exact ⟨t, worst_acc (L := L) ht, h⟩
    · refine worst_cover (L := L) (fun a ha b hb => ?_) hs.2 u hu
      unfold worstStep at ha
      split at ha
      · rcases List.mem_append.1 ha with ha | ha
        · exact hacc a ha b (List.mem_cons_of_mem _ hb)
        · rw [List.mem_singleton.1 ha]; exact hs.1 b hb
      · exact hacc a ha b (List.mem_cons_of_mem _ hb)
/-- What is worse with less at first. -/
def Worse (P : Truth → Bool) : Prop := ∀ t u : Truth, t.man = u.man → t.ship = u.ship → t.first ≤ u.first → P u = true → P t = true
theorem bool_iff {a b : Bool} (h : a = true ↔ b = true) : a = b := by
  cases a <;> cases b <;> simp_all
theorem any_worst {P : Truth → Bool} (hP : Worse P) {L : List Truth} (hs : L.Pairwise (fun a b => a.first ≤ b.first)) : (worstR L).any P = L.any P := by
  apply bool_iff
  rw [List.any_eq_true, List.any_eq_true]
  constructor
  · rintro ⟨t, ht, h⟩
    rcases worst_mem ht with h0 | h0
    · cases h0
    · exact ⟨t, h0, h⟩
  · rintro ⟨u, hu, h⟩
    obtain ⟨t, ht, h1, h2, h3⟩ := worst_cover (acc := []) (fun a ha => by cases ha) hs u hu
    exact ⟨t, ht, hP t u h1 h2 h3 h⟩
theorem all_sorted (men : List Int) (k : Kind) (row : List Int) (l : List Count) (i : Nat) : (allOf men k row l i).Pairwise (fun a b => a.first ≤ b.first) := by
  unfold allOf pastN
  refine List.Pairwise.filter _ ?_
  rw [List.pairwise_map]
  refine List.Pairwise.imp ?_ List.pairwise_lt_range
  intro a b hab
  unfold truthQ
  have h1 : a / spanN k.ship / spanN k.man ≤ b / spanN k.ship / spanN k.man := Nat.div_le_div_right (Nat.div_le_div_right (Nat.le_of_lt hab))
  dsimp only
  omega
theorem any_lows {P : Truth → Bool} (hP : Worse P) {s : Stores} {l : List Count} {i : Nat} {k : Kind} : (lows s l i k).any P = (allS s l i k).any P := by
  apply bool_iff
  rw [List.any_eq_true, List.any_eq_true]
  constructor
  · rintro ⟨t, ht, h⟩
    obtain ⟨y, hy, rfl⟩ := List.mem_map.1 ht
    exact ⟨y.1, (pair_all hy).1, h⟩
  · rintro ⟨u, hu, h⟩
    obtain ⟨y, hy, ⟨h1, _⟩, ⟨h3, h4⟩, _⟩ := all_pair hu
    exact ⟨y.1, List.mem_map.2 ⟨y, hy, rfl⟩, hP y.1 u h3 h4 h1 h⟩
theorem short_worse (men : List Int) (k : Kind) (row : List Int) (down : Int) : Worse (runsShort men k row down) := by
  rintro ⟨a, m, p⟩ ⟨b, m', p'⟩ h1 h2 h3 h
  dsimp only at h1 h2 h3
  subst h1 h2
  unfold runsShort at h ⊢
  rw [decide_eq_true_eq] at h ⊢
  exact Int.lt_of_le_of_lt (short_up h3 down _) h
/-- The two ways to whether a kind lasts. -/
theorem lasts_two (s : Stores) (l : List Count) (i : Nat) (k : Kind) (row : List Int) (down : Int) : (lows s l i k).any (runsShort s.men k row down) = (worstR (allS s l i k)).any (runsShort s.men k row down) := by
  rw [any_lows (short_worse _ _ _ _), any_worst (short_worse _ _ _ _) (all_sorted _ _ _ _ _)]
theorem have_row {men : List Int} {k : Kind} {row row' : List Int} {t : Truth} (h : ∀ i, row.getD i 0 ≤ row'.getD i 0) (down : Int) : ∀ i, haveAt men k row t down i ≤ haveAt men k row' t down i
  | 0 => Int.le_refl _
  | i + 1 => by
    have ih := have_row (men := men) (k := k) (t := t) h down i
    have hi := h i
    show max 0 (rawAt men k row t down i _) ≤ max 0 (rawAt men k row' t down i _)
    unfold rawAt
    generalize haveAt men k row t down i = a at *
    generalize haveAt men k row' t down i = b at *
    generalize row.getD i 0 = c at *
    generalize row'.getD i 0 = d at *
    omega
theorem short_row {men : List Int} {k : Kind} {row row' : List Int} {t : Truth} (h : ∀ i, row.getD i 0 ≤ row'.getD i 0) (down : Int) : ∀ i, shortAt men k row t down i ≤ shortAt men k row' t down i
  | 0 => Int.le_refl _
  | i + 1 => by
    have ih := short_row (men := men) (k := k) (t := t) h down i
    have hh := have_row (men := men) (k := k) (t := t) h down i
    have hi := h i
    have hr : rawAt men k row t down i (haveAt men k row t down i) ≤ rawAt men k row' t down i (haveAt men k row' t down i) := by
      unfold rawAt
      generalize haveAt men k row t down i = a at *
      generalize haveAt men k row' t down i = b at *
      generalize row.getD i 0 = c at *
      generalize row'.getD i 0 = d at *
      omega
    show (if _ < 0 then _ else _) ≤ (if _ < 0 then _ else _)
    split <;> split <;> omega
theorem row_more {row : List Int} {d : Nat} {n n' : Int} (h : n ≤ n') (i : Nat) : (row.set d (row.getD d 0 + n)).getD i 0 ≤ (row.set d (row.getD d 0 + n')).getD i 0 := by
  rw [List.getD_eq_getElem?_getD, List.getD_eq_getElem?_getD (l := row.set d (row.getD d 0 + n')), List.getElem?_set, List.getElem?_set]
  split
  · split
    · dsimp only [Option.getD_some]; omega
    · exact Int.le_refl _
  · exact Int.le_refl _
theorem lastsWith_more {s : Stores} {k : Kind} {row : List Int} {L : List Truth} {d : Nat} {n n' : Int} (h : n ≤ n') (hl : lastsWith s k row L d n = true) : lastsWith s k row L d n' = true := by
  unfold lastsWith at hl ⊢
  rw [Bool.not_eq_true', List.any_eq_false] at hl ⊢
  intro t ht hs
  apply hl t ht
  unfold runsShort at hs ⊢
  rw [decide_eq_true_eq] at hs ⊢
  exact Int.lt_of_le_of_lt (short_row (row_more h) _ _) hs
/-- The least amount, and none below. -/
structure IsLeast (p : Nat → Bool) (n r : Nat) : Prop where
  le : r ≤ n
  below : ∀ a, a < r → p a = false
  here : r < n → p r = true
theorem cargo_least (s : Stores) (l : List Count) (i : Nat) (k : Kind) (row : List Int) (d : Nat) :
    IsLeast (fun n => lastsWith s k row (worstR (allS s l i k)) d n) 301 (bs (fun n => lastsWith s k row (lows s l i k) d n) 0 301) := by
  have he : (fun n : Nat => lastsWith s k row (worstR (allS s l i k)) d n) = fun n : Nat => lastsWith s k row (lows s l i k) d n := by
    funext n
    unfold lastsWith
    rw [lasts_two]
  rw [he]
  have b0 := bs_least (fun n : Nat => lastsWith s k row (lows s l i k) d n) 0 301 (Nat.zero_le _) (fun a b _ h _ hp => lastsWith_more (by omega) hp)
  exact ⟨(bs_in _ 0 301 (Nat.zero_le _)).2, fun a ha => b0.1 a (Nat.zero_le _) ha, b0.2⟩
/-- The greatest number below n that does; below 0: none does. -/
def lastD (q : Nat → Bool) : Nat → Int
  | 0 => -1
  | m + 1 => if q m = true then m else lastD q m
end Go.Proofs.Ytmkaeohmdcoanaa
open Go Go.RM
namespace Go.Proofs.Ytmkaeohmdcoanaa
set_option maxRecDepth 100000
set_option maxHeartbeats 4000000
def other (t o : Truth) : Bool := !decide (o.man = t.man) || !decide (o.ship = t.ship)
end Go.Proofs.Ytmkaeohmdcoanaa
open Go Go.RM
namespace Go.Proofs.Ytmkaeohmdcoanaa
set_option maxRecDepth 100000
set_option maxHeartbeats 4000000
end Go.Proofs.Ytmkaeohmdcoanaa
open Go Go.RM
namespace Go.Proofs.Ytmkaeohmdcoanaa
set_option maxRecDepth 100000
theorem truthOk_iff {k : Kind} {t : Truth} : truthOk k t = true ↔ (k.first.lo ≤ t.first ∧ t.first ≤ k.first.hi) ∧ (k.man.lo ≤ t.man ∧ t.man ≤ k.man.hi) ∧ k.ship.lo ≤ t.ship ∧ t.ship ≤ k.ship.hi := by
  unfold truthOk
  simp only [Bool.and_eq_true, inB_iff]
theorem all_iff {men : List Int} {k : Kind} {row : List Int} {l : List Count} {i : Nat} {t : Truth} : t ∈ allOf men k row l i ↔ (truthOk k t = true ∧ agr men k row l i t = true) := by
  unfold allOf pastN
  rw [List.mem_filter, List.mem_map]
  constructor
  · rintro ⟨⟨q, hq, rfl⟩, ha⟩
    rw [List.mem_range] at hq
    refine ⟨?_, ha⟩
    have hP : 0 < spanN k.ship := by
      apply Nat.pos_of_ne_zero
      intro h0
      rw [h0, Nat.mul_zero] at hq
      exact absurd hq (Nat.not_lt_zero _)
    have hM : 0 < spanN k.man := by
      apply Nat.pos_of_ne_zero
      intro h0
      rw [h0, Nat.mul_zero, Nat.zero_mul] at hq
      exact absurd hq (Nat.not_lt_zero _)
    have h1 : q / spanN k.ship % spanN k.man < spanN k.man := Nat.mod_lt _ hM
    have h2 : q % spanN k.ship < spanN k.ship := Nat.mod_lt _ hP
    have h3 : q / spanN k.ship / spanN k.man < spanN k.first := by
      rw [Nat.div_lt_iff_lt_mul hM, Nat.div_lt_iff_lt_mul hP]
      exact hq
    rw [truthOk_iff]
    unfold truthQ
    dsimp only
    generalize q / spanN k.ship % spanN k.man = x at *
    generalize q % spanN k.ship = y at *
    generalize q / spanN k.ship / spanN k.man = z at *
    clear hq hP hM ha
    unfold spanN at *
    omega
  · rintro ⟨ht, ha⟩
    refine ⟨?_, ha⟩
    rw [truthOk_iff] at ht
    obtain ⟨a, b, c⟩ := t
    dsimp only at ht
    obtain ⟨x, rfl⟩ : ∃ x : Nat, a = k.first.lo + x := ⟨(a - k.first.lo).toNat, by omega⟩
    obtain ⟨y, rfl⟩ : ∃ x : Nat, b = k.man.lo + x := ⟨(b - k.man.lo).toNat, by omega⟩
    obtain ⟨z, rfl⟩ : ∃ x : Nat, c = k.ship.lo + x := ⟨(c - k.ship.lo).toNat, by omega⟩
    have hx : x < spanN k.first := by unfold spanN; omega
    have hy : y < spanN k.man := by unfold spanN; omega
    have hz : z < spanN k.ship := by unfold spanN; omega
    refine ⟨(x * spanN k.man + y) * spanN k.ship + z, ?_, truthQ_at k hy hz⟩
    rw [List.mem_range]
    have q1 : (x + 1) * spanN k.man ≤ spanN k.first * spanN k.man := Nat.mul_le_mul_right _ hx
    rw [Nat.add_mul, Nat.one_mul] at q1
    have q2 : (x * spanN k.man + y + 1) * spanN k.ship ≤ spanN k.first * spanN k.man * spanN k.ship := Nat.mul_le_mul_right _ (by omega)
    rw [Nat.add_mul, Nat.one_mul] at q2
    omega
theorem short_bnd (men : List Int) (k : Kind) (row : List Int) (t : Truth) : 0 ≤ shortF men k row t ∧ shortF men k row t ≤ men.length := by
  rcases shortAt_or men k row t men.length men.length with h | h
  · unfold shortF
    rw [h]
    omega
  · unfold shortF
    omega
/-- The earliest way, of all. -/
theorem earl_facts {s : Stores} {k : Kind} {row : List Int} {l : List Count} {i : Nat} :
    (allOf s.men k row l i = [] ∧ (earl s.men.length (shortF s.men k row) (truthsL s.men k row (cntsOf l i))).e = 9) ∨
    (∃ t n, (earl s.men.length (shortF s.men k row) (truthsL s.men k row (cntsOf l i))) = ⟨t, n, 0⟩ ∧ t ∈ allOf s.men k row l i ∧ n = shortF s.men k row t ∧ ∀ u ∈ allOf s.men k row l i, n ≤ shortF s.men k row u) := by
  have hs := earl_spec s.men k row (cntsOf l i) (shortF s.men k row) s.men.length (fun t => (short_bnd _ _ _ t).2) (spanN k.man * spanN k.ship)
  change (truthsL s.men k row (cntsOf l i) = [] ∧ earl s.men.length (shortF s.men k row) (truthsL s.men k row (cntsOf l i)) = _) ∨ _ at hs
  rcases hs with ⟨h1, h2⟩ | ⟨h1, ⟨z, hz, h2⟩, h3, h4⟩
  · exact .inl ⟨nil_iff.1 h1, by rw [h2]⟩
  · refine .inr ⟨z.1, shortF s.men k row z.1, ?_, (pair_all hz).1, rfl, fun u hu => ?_⟩
    · change (earl s.men.length (shortF s.men k row) (truthsL s.men k row (cntsOf l i))).e = 0 at h1
      change (earl s.men.length (shortF s.men k row) (truthsL s.men k row (cntsOf l i))).t = z.1 at h2
      change (earl s.men.length (shortF s.men k row) (truthsL s.men k row (cntsOf l i))).day = shortF s.men k row (earl s.men.length (shortF s.men k row) (truthsL s.men k row (cntsOf l i))).t at h3
      rw [h2] at h3
      generalize earl s.men.length (shortF s.men k row) (truthsL s.men k row (cntsOf l i)) = e at *
      obtain ⟨a, b, c⟩ := e
      dsimp only at h1 h2 h3
      rw [h1, h2, h3]
    · obtain ⟨y, hy, ⟨y1, _⟩, ⟨y2, y3⟩, _⟩ := all_pair hu
      have h5 := h4 y hy
      change Le (shortF s.men k row) (earl s.men.length (shortF s.men k row) (truthsL s.men k row (cntsOf l i))).t y.1 at h5
      change (earl s.men.length (shortF s.men k row) (truthsL s.men k row (cntsOf l i))).t = z.1 at h2
      rw [h2] at h5
      have h6 : shortF s.men k row y.1 ≤ shortF s.men k row u := shortF_up y1 y2 y3
      unfold Le at h5
      omega
end Go.Proofs.Ytmkaeohmdcoanaa
open Go Go.RM
namespace Go.Proofs.Ytmkaeohmdcoanaa
set_option maxRecDepth 100000
set_option maxHeartbeats 4000000
def rationV (r : Int) : AV := if r < 0 then .tp [I64 0, I64 9] else .tp [I64 r, I64 0]
theorem rationV_deep (r : Int) : (rationV r).deep = true := by
  unfold rationV
  split <;> rfl
theorem ration_none (one : Bool) (s : Stores) (h : s.Ok) (l : List Count) (h0 : cntsErr s l = 0) (i : Nat) (hi : i < s.kinds.length) (he : truthsL s.men s.kinds[i] (cargoRow i s.cargos) (cntsOf l i) = []) :
    Pu one 31 [.ag (eStores s), .sl (l.map eCount) false, I64 i] (.tp [I64 0, I64 9]) := by
  have hh := holdOk h0 hi
  have hen := enter_ok one s h l h0 i hi
  have h30 := hh.row.len
  have hkn := known_c one hh
  rw [if_pos he] at hkn
  generalize cargoRow i s.cargos = row at *
  generalize s.kinds[i] = k at *
  refine PureV.body (fn := Try.f31) rfl rfl rfl rfl ?_
  refine wpC_sound (mu := fun _ => false) ?_
  repeat' (first |(refine stH h30 rfl rfl rfl rfl ?_) |(refine ldHO h30 rfl rfl ?_) |with_reducible (first|refine RM.c2 ?_|refine RM.c4 ?_|refine RM.c7 ?_|refine RM.c9 ?_|refine RM.d1 ?_|refine RM.o1 ?_|refine RM.o2 ?_|refine RM.o4 ?_|refine RM.o5 ?_|refine RM.o6 ?_|refine RM.o7 ?_|refine RM.o9 ?_|refine RM.p1 ?_|refine RM.p2 ?_|refine RM.p3 ?_|refine RM.p5 ?_) |((with_reducible show force _ _);first|refine RM.f1 rfl ?_|refine RM.f2 rfl ?_|refine RM.f3 rfl ?_|refine RM.f4 rfl ?_|refine RM.f5 rfl ?_|refine RM.f6 rfl ?_|refine RM.f7 rfl ?_|refine RM.g2 rfl ?_) |((with_reducible show wpOne _ _ _ _ _ _ _ _ _ _ _ _);refine RM.o8 rfl ?_) |((with_reducible show wpC _ _ _ _ (.cond _ _ _) _ _);refine RM.e2 rfl rfl ?_) |((with_reducible show wpBin _ _ _ _ _ _ _ _ _);first|refine RM.b4 rfl rfl ?_|refine RM.b5 rfl rfl ?_) |(refine ⟨_, rfl, ?_⟩) |(refine ⟨rfl, rfl, rfl, ?_⟩) |(refine And.intro (Nat.le_of_ble_eq_true rfl) ?_) |(refine And.intro (by kernel_rfl) ?_) |(refine PureV.call hen rfl rfl ?_) |(refine PureV.call hkn rfl (hdeep rfl) ?_) |fail)
  exact ⟨[_, _], ⟨Fz.deep rfl, Fz.deep rfl, trivial⟩, rfl⟩
theorem ration_okT (one : Bool) (s : Stores) (h : s.Ok) (l : List Count) (h0 : cntsErr s l = 0) (i : Nat) (hi : i < s.kinds.length) (he : truthsL s.men s.kinds[i] (cargoRow i s.cargos) (cntsOf l i) ≠ []) (r : Int)
    (hr : lastD (fun d => !(lows s l i s.kinds[i]).any (runsShort s.men s.kinds[i] (cargoRow i s.cargos) d)) (s.men.length + 1) = r) :
    Pu one 31 [.ag (eStores s), .sl (l.map eCount) false, I64 i] (rationV r) := by
  have em : ((s.men.map eI).length : Int) = s.men.length := by simp
  have hh := holdOk h0 hi
  have hen := enter_ok one s h l h0 i hi
  have h30 := hh.row.len
  have hkn := known_c one hh
  rw [if_neg he] at hkn
  have hw := worst_c one hh
  have hlen : (lows s l i s.kinds[i]).length ≤ maxLen := by rw [List.length_map]; have := truthsL_len hh; unfold maxLen; omega
  have hrun : ∀ t ∈ lows s l i s.kinds[i], RunOk s.men s.kinds[i] (cargoRow i s.cargos) t := fun t ht => by
    obtain ⟨y, hy, rfl⟩ := List.mem_map.1 ht
    exact (truthsL_run hh hy).1.1
  have hla := fun d : Nat => lasts_c one (s := s) (k := s.kinds[i]) (row := cargoRow i s.cargos) (cnts := (cntsOf l i).map eCount) (L := lows s l i s.kinds[i]) (full := false) (down := d) hrun hlen
  have hm9 := sizes_9 hh.good.sizes
  unfold lows at hr hla hrun
  clear he hh hrun
  generalize (truthsL s.men s.kinds[i] (cargoRow i s.cargos) (cntsOf l i)).map Prod.fst = L at *
  generalize cargoRow i s.cargos = row at *
  generalize s.kinds[i] = k at *
  refine PureV.body (fn := Try.f31) rfl rfl rfl (rationV_deep r) ?_
  refine wpC_sound (mu := fun _ => false) ?_
  repeat' (first |(refine stH (s := s) (k := k) (row := row) h30 rfl rfl rfl rfl ?_) |(refine ldHO (s := s) (k := k) (row := row) h30 rfl rfl ?_) |with_reducible (first|refine RM.c1 ?_|refine RM.c2 ?_|refine RM.c3 ?_|refine RM.c4 ?_|refine RM.c9 ?_|refine RM.o1 ?_|refine RM.o2 ?_|refine RM.o4 ?_|refine RM.o5 ?_|refine RM.o6 ?_|refine RM.o7 ?_|refine RM.o9 ?_|refine RM.p1 ?_|refine RM.p2 ?_|refine RM.p3 ?_|refine RM.p5 ?_|refine RM.p6 ?_) |((with_reducible show force _ _);first|refine RM.f1 rfl ?_|refine RM.f2 rfl ?_|refine RM.f3 rfl ?_|refine RM.f4 rfl ?_|refine RM.f5 rfl ?_|refine RM.f6 rfl ?_|refine RM.f7 rfl ?_|refine RM.g2 rfl ?_) |((with_reducible show wpOne _ _ _ _ _ _ _ _ _ _ _ _);refine RM.o8 rfl ?_) |((with_reducible show wpC _ _ _ _ (.cond _ _ _) _ _);first|refine RM.e2 rfl rfl ?_|refine RM.e3 rfl rfl ?_) |((with_reducible show wpBin _ _ _ _ _ _ _ _ _);first|refine RM.b4 rfl rfl ?_|refine RM.b5 rfl rfl ?_) |((with_reducible show wpLen _ _ _ _ _);refine RM.l1 rfl ?_) |(refine ⟨_, rfl, ?_⟩) |(refine ⟨_, _, rfl, by decide, ?_⟩) |(refine ⟨rfl, rfl, rfl, ?_⟩) |(refine ⟨_, _, rfl, _, rfl, ?_⟩) |(refine And.intro (Nat.le_of_ble_eq_true rfl) ?_) |(refine And.intro (by kernel_rfl) ?_) |(refine PureV.call hen rfl rfl ?_) |(refine PureV.call hkn rfl (hdeep rfl) ?_) |(refine PureV.call hw rfl (hdeep rfl) ?_) |fail)
  rw [em]
  have hin : ([.cells (eHoldV s k row (.sl ((cntsOf l i).map eCount) false)) 0 0] : List AB).all (AB.inb 1) = true := by
    show (inbL 1 (eHoldV s k row (.sl ((cntsOf l i).map eCount) false)) && true) = true
    rw [show inbL 1 (eHoldV s k row (.sl ((cntsOf l i).map eCount) false)) = true from deep_inb 1 (.ag _) (eHold_deep (s := s) (k := k) (row := row) (c := .sl ((cntsOf l i).map eCount) false) rfl)]
    rfl
  refine SemC.weaker (Weaker.to (l := [(8, .ptr 0 0 0), (10, .sl (L.map eTruth) false), (11, I64 (s.men.length))]) (hp := [.cells (eHoldV s k row (.sl ((cntsOf l i).map eCount) false)) 0 0]) 1 rfl ⟨rfl, rfl, rfl, trivial⟩ (Nat.zero_le _) rfl hin) ?_
  refine SemC.loop (fun x : Int => ∃ m : Nat, x = (m : Int) - 1 ∧ m ≤ s.men.length + 1 ∧ lastD (fun d => !L.any (runsShort s.men k row d)) m = r) (fun x => ⟨mkFr [(8, .ptr 0 0 0), (10, .sl (L.map eTruth) false), (11, I64 (x))], [.cells (eHoldV s k row (.sl ((cntsOf l i).map eCount) false)) 0 0], Amb.none, false, 0⟩) (fun x => (x + 1).toNat) ?_ (s.men.length : Int) ⟨s.men.length + 1, by omega, Nat.le_refl _, hr⟩
  rintro x ⟨m, hx, hm, hq⟩
  refine wpC_sound (mu := fun _ => false) ?_
  repeat' (first |with_reducible (first|refine RM.c2 ?_|refine RM.c4 ?_|refine RM.c9 ?_|refine RM.o1 ?_|refine RM.o2 ?_|refine RM.o4 ?_|refine RM.o5 ?_|refine RM.p2 ?_|refine RM.p5 ?_) |((with_reducible show force _ _);refine RM.f1 rfl ?_) |((with_reducible show wpOne _ _ _ _ _ _ _ _ _ _ _ _);refine RM.o8 rfl ?_) |((with_reducible show wpBin _ _ _ _ _ _ _ _ _);refine RM.b9 rfl rfl ?_) |fail)
  refine RM.e1 rfl ⟨fun hc => ?_, fun hc => ?_⟩
  · rw [decide_eq_true_eq] at hc
    obtain ⟨d, rfl⟩ : ∃ d : Nat, x = d := ⟨x.toNat, by omega⟩
    have hmd : m = d + 1 := by omega
    subst hmd
    have hla := hla d
    unfold lastD at hq
    cases hb : !L.any (runsShort s.men k row (d : Int)) with
    | true =>
      rw [hb] at hla
      rw [hb, if_pos rfl] at hq
      have hv : rationV r = .tp [I64 d, I64 0] := by
        unfold rationV
        rw [if_neg (by omega), hq]
      rw [hv]
      repeat' (first |(refine ldHO (s := s) (k := k) (row := row) h30 rfl rfl ?_) |with_reducible (first|refine RM.c1 ?_|refine RM.c2 ?_|refine RM.c3 ?_|refine RM.c4 ?_|refine RM.c7 ?_|refine RM.c9 ?_|refine RM.d1 ?_|refine RM.d4 ?_|refine RM.o1 ?_|refine RM.o2 ?_|refine RM.o4 ?_|refine RM.o5 ?_|refine RM.o7 ?_|refine RM.o9 ?_|refine RM.p1 ?_|refine RM.p2 ?_|refine RM.p3 ?_|refine RM.q1 ?_) |((with_reducible show force _ _);first|refine RM.f1 rfl ?_|refine RM.f2 rfl ?_|refine RM.f4 rfl ?_|refine RM.f5 rfl ?_) |((with_reducible show wpOne _ _ _ _ _ _ _ _ _ _ _ _);refine RM.o8 rfl ?_) |((with_reducible show wpC _ _ _ _ (.cond _ _ _) _ _);refine RM.e2 rfl rfl ?_) |(refine PureV.call hla rfl (hdeep rfl) ?_) |fail)
      exact ⟨[_, _], ⟨Fz.deep rfl, Fz.deep rfl, trivial⟩, rfl⟩
    | false =>
      rw [hb] at hla
      rw [hb, if_neg (by decide)] at hq
      repeat' (first |(refine ldHO (s := s) (k := k) (row := row) h30 rfl rfl ?_) |with_reducible (first|refine RM.c1 ?_|refine RM.c2 ?_|refine RM.c3 ?_|refine RM.c4 ?_|refine RM.c9 ?_|refine RM.d3 ?_|refine RM.o1 ?_|refine RM.o2 ?_|refine RM.o4 ?_|refine RM.o5 ?_|refine RM.o7 ?_|refine RM.o9 ?_|refine RM.p1 ?_|refine RM.p2 ?_|refine RM.p3 ?_|refine RM.p5 ?_) |((with_reducible show force _ _);first|refine RM.f1 rfl ?_|refine RM.f2 rfl ?_|refine RM.f4 rfl ?_|refine RM.f5 rfl ?_) |((with_reducible show wpOne _ _ _ _ _ _ _ _ _ _ _ _);refine RM.o8 rfl ?_) |((with_reducible show wpC _ _ _ _ (.cond _ _ _) _ _);refine RM.e3 rfl rfl ?_) |((with_reducible show wpBin _ _ _ _ _ _ _ _ _);refine RM.b2 rfl rfl (by omega) ?_) |(refine PureV.call hla rfl (hdeep rfl) ?_) |fail)
      exact ⟨(d : Int) - 1, ⟨d, rfl, by omega, hq⟩, (by dsimp only; omega), Weaker.to 1 rfl ⟨rfl, rfl, rfl, trivial⟩ (Nat.zero_le _) rfl hin⟩
  · rw [decide_eq_false_iff_not] at hc
    have hm0 : m = 0 := by omega
    subst hm0
    have hv : rationV r = .tp [I64 0, I64 9] := by
      unfold rationV
      rw [if_pos (by rw [← hq]; show (-1 : Int) < 0; decide)]
    rw [hv]
    repeat' (first |with_reducible (first|refine RM.c2 ?_|refine RM.c4 ?_|refine RM.c6 ?_|refine RM.c7 ?_|refine RM.c9 ?_|refine RM.d2 ?_|refine RM.o1 ?_|refine RM.o2 ?_|refine RM.o4 ?_|refine RM.o5 ?_|refine RM.p3 ?_|refine RM.q2 ?_) |((with_reducible show force _ _);refine RM.f1 rfl ?_) |((with_reducible show wpOne _ _ _ _ _ _ _ _ _ _ _ _);refine RM.o8 rfl ?_) |((with_reducible show blockK _ _ _ _);refine RM.d5 rfl ?_) |fail)
    exact ⟨[_, _], ⟨Fz.deep rfl, Fz.deep rfl, trivial⟩, rfl⟩
end Go.Proofs.Ytmkaeohmdcoanaa
open Go Go.RM
namespace Go.Proofs.Ytmkaeohmdcoanaa
set_option maxRecDepth 100000
set_option maxHeartbeats 4000000
end Go.Proofs.Ytmkaeohmdcoanaa
open Go Go.RM
namespace Go.Proofs.Ytmkaeohmdcoanaa
set_option maxRecDepth 100000
set_option maxHeartbeats 4000000
theorem modN {a : Int} {n : Nat} (hn : 0 < n) : ∃ i : Nat, i < n ∧ a % (n : Int) = i := by
  have h1 := Int.emod_nonneg a (show (n : Int) ≠ 0 by omega)
  have h2 := Int.emod_lt_of_pos a (show 0 < (n : Int) by omega)
  exact ⟨(a % (n : Int)).toNat, by omega, by omega⟩
end Go.Proofs.Ytmkaeohmdcoanaa
open Go Go.RM
namespace Go.Proofs.Ytmkaeohmdcoanaa
set_option maxRecDepth 100000
set_option maxHeartbeats 4000000
theorem any_false {α : Type} {f : α → Bool} {l : List α} (h : ∀ t ∈ l, f t = false) : l.any f = false := by
  apply Bool.eq_false_iff.2
  intro hh
  obtain ⟨t, ht, h1⟩ := List.any_eq_true.1 hh
  rw [h t ht] at h1
  cases h1
end Go.Proofs.Ytmkaeohmdcoanaa
open Go Go.RM
namespace Go.Proofs.Ytmkaeohmdcoanaa
set_option maxRecDepth 100000
set_option maxHeartbeats 4000000
theorem lastD_facts (q : Nat → Bool) : ∀ n, (lastD q n = -1 ∧ ∀ d, d < n → q d = false) ∨ ∃ m : Nat, lastD q n = m ∧ m < n ∧ q m = true ∧ ∀ d, m < d → d < n → q d = false
  | 0 => .inl ⟨rfl, fun d h => absurd h (Nat.not_lt_zero _)⟩
  | n + 1 => by
    unfold lastD
    cases hq : q n with
    | true => exact .inr ⟨n, if_pos rfl, Nat.lt_succ_self _, hq, fun d h1 h2 => by omega⟩
    | false =>
      rw [if_neg (by decide)]
      rcases lastD_facts q n with ⟨h1, h2⟩ | ⟨m, h1, h2, h3, h4⟩
      · refine .inl ⟨h1, fun d hd => ?_⟩
        by_cases h : d = n
        · rw [h]; exact hq
        · exact h2 d (by omega)
      · refine .inr ⟨m, h1, by omega, h3, fun d hd hn => ?_⟩
        by_cases h : d = n
        · rw [h]; exact hq
        · exact h4 d hd (by omega)
/-- What Ration says of all truths. -/
theorem ration_facts (s : Stores) (h : s.Ok) (l : List Count) (h0 : cntsErr s l = 0) (i : Nat) (hi : i < s.kinds.length) :
    (Pu true 31 [.ag (eStores s), .sl (l.map eCount) false, I64 i] (.tp [I64 0, I64 9]) ∧ (allS s l i s.kinds[i] ≠ [] → ∀ d : Nat, d ≤ s.men.length → (allS s l i s.kinds[i]).any (runsShort s.men s.kinds[i] (cargoRow i s.cargos) d) = true)) ∨
    ∃ m : Nat, Pu true 31 [.ag (eStores s), .sl (l.map eCount) false, I64 i] (.tp [I64 m, I64 0]) ∧ m ≤ s.men.length ∧ allS s l i s.kinds[i] ≠ [] ∧ (allS s l i s.kinds[i]).any (runsShort s.men s.kinds[i] (cargoRow i s.cargos) m) = false ∧
      ∀ d : Nat, m < d → d ≤ s.men.length → (allS s l i s.kinds[i]).any (runsShort s.men s.kinds[i] (cargoRow i s.cargos) d) = true := by
  by_cases hz : allS s l i s.kinds[i] = []
  · exact .inl ⟨ration_none true s h l h0 i hi (nil_iff.2 hz), fun h => absurd hz h⟩
  · have h3 := ration_okT true s h l h0 i hi (fun h => hz (nil_iff.1 h)) _ rfl
    have he : (fun d : Nat => !(lows s l i s.kinds[i]).any (runsShort s.men s.kinds[i] (cargoRow i s.cargos) d)) = fun d : Nat => !(allS s l i s.kinds[i]).any (runsShort s.men s.kinds[i] (cargoRow i s.cargos) d) := by
      funext d
      rw [any_lows (short_worse _ _ _ _)]
    rw [he] at h3
    rcases lastD_facts (fun d : Nat => !(allS s l i s.kinds[i]).any (runsShort s.men s.kinds[i] (cargoRow i s.cargos) d)) (s.men.length + 1) with ⟨q1, q2⟩ | ⟨m, q1, q2, q3, q4⟩
    · rw [q1] at h3
      refine .inl ⟨h3, fun _ d hd => ?_⟩
      have := q2 d (by omega)
      simpa using this
    · rw [q1] at h3
      unfold rationV at h3
      rw [if_neg (by omega)] at h3
      refine .inr ⟨m, h3, by omega, hz, by simpa using q3, fun d h1 h2 => ?_⟩
      have := q4 d h1 (by omega)
      simpa using this
end Go.Proofs.Ytmkaeohmdcoanaa
open Go Go.RM
namespace Go.Proofs.Ytmkaeohmdcoanaa
set_option maxRecDepth 100000
set_option maxHeartbeats 4000000
end Go.Proofs.Ytmkaeohmdcoanaa
open Go Go.RM
namespace Go.Proofs.Ytmkaeohmdcoanaa
set_option maxRecDepth 100000
set_option maxHeartbeats 4000000
theorem cargo_facts (s : Stores) (h : s.Ok) (l : List Count) (h0 : cntsErr s l = 0) (i : Nat) (hi : i < s.kinds.length) (d : Nat) (hd : d < s.men.length) :
    (Pu true 29 [.ag (eStores s), .sl (l.map eCount) false, I64 i, I64 d] (.tp [I64 0, I64 9]) ∧ (allS s l i s.kinds[i] ≠ [] → ∀ n : Nat, n ≤ 300 → lastsWith s s.kinds[i] (cargoRow i s.cargos) (allS s l i s.kinds[i]) d n = false)) ∨
    ∃ r : Nat, Pu true 29 [.ag (eStores s), .sl (l.map eCount) false, I64 i, I64 d] (.tp [I64 r, I64 0]) ∧ r ≤ 300 ∧ allS s l i s.kinds[i] ≠ [] ∧ lastsWith s s.kinds[i] (cargoRow i s.cargos) (allS s l i s.kinds[i]) d r = true ∧
      ∀ n : Nat, n < r → lastsWith s s.kinds[i] (cargoRow i s.cargos) (allS s l i s.kinds[i]) d n = false := by
  by_cases hz : allS s l i s.kinds[i] = []
  · exact .inl ⟨cargo_none true s h l h0 i hi d hd (nil_iff.2 hz), fun h => absurd hz h⟩
  · have h1 := cargo_okT true s h l h0 i hi d hd (fun h => hz (nil_iff.1 h)) _ rfl
    have hl := cargo_least s l i s.kinds[i] (cargoRow i s.cargos) d
    have he : (fun n : Nat => lastsWith s s.kinds[i] (cargoRow i s.cargos) (worstR (allS s l i s.kinds[i])) d n) = fun n : Nat => lastsWith s s.kinds[i] (cargoRow i s.cargos) (allS s l i s.kinds[i]) d n := by
      funext n
      unfold lastsWith
      rw [any_worst (short_worse _ _ _ _) (all_sorted _ _ _ _ _)]
    rw [he] at hl
    generalize bs (fun n => lastsWith s s.kinds[i] (cargoRow i s.cargos) (lows s l i s.kinds[i]) d n) 0 301 = r at *
    by_cases hr : 300 < r
    · rw [if_pos hr] at h1
      exact .inl ⟨h1, fun _ n hn => hl.below n (by omega)⟩
    · rw [if_neg hr] at h1
      exact .inr ⟨r, h1, by omega, hz, hl.here (by omega), fun n hn => hl.below n hn⟩
end Go.Proofs.Ytmkaeohmdcoanaa
open Go Go.RM
namespace Go.Proofs.Ytmkaeohmdcoanaa
set_option maxRecDepth 100000
theorem cnts_zero {s : Stores} {l : List Count} : cntsErr s l = 0 ↔ ((chk s).2.2 = 0 ∧ l.length ≤ 8 ∧ ∀ c ∈ l, cntErr s c = 0) := by
  unfold cntsErr
  by_cases h1 : (chk s).2.2 = 0
  · rw [if_neg (by simpa using h1)]
    by_cases h2 : 8 < (l.length : Int)
    · rw [if_pos h2]
      exact ⟨fun h => absurd h (by decide), fun h => by omega⟩
    · rw [if_neg h2]
      constructor
      · intro h
        refine ⟨h1, by omega, fun c hc => ?_⟩
        obtain ⟨i, hi, rfl⟩ := List.getElem_of_mem hc
        have := firstN_zero h i hi
        unfold cntE at this
        simpa only [List.getElem?_eq_getElem hi] using this
      · rintro ⟨_, _, h⟩
        rw [firstN_none]
        intro i hi
        unfold cntE
        simp only [List.getElem?_eq_getElem hi]
        exact h _ (List.getElem_mem hi)
  · rw [if_pos h1]
    exact ⟨fun h => absurd h h1, fun h => absurd h.1 h1⟩
theorem cnts_less {s : Stores} {l m : List Count} (h : cntsErr s (l ++ m) = 0) : cntsErr s l = 0 := by
  rw [cnts_zero] at h ⊢
  rw [List.length_append] at h
  exact ⟨h.1, by omega, fun c hc => h.2.2 c (List.mem_append_left _ hc)⟩
theorem all_less {s : Stores} {l m : List Count} {i : Nat} {k : Kind} {t : Truth} (h : t ∈ allS s (l ++ m) i k) : t ∈ allS s l i k := by
  rw [all_iff] at h ⊢
  refine ⟨h.1, ?_⟩
  have h2 := h.2
  unfold agr at h2 ⊢
  rw [List.all_append, Bool.and_eq_true] at h2
  exact h2.1
theorem lvRef_facts (lf : Truth → Int) (L : List Truth) (h : L ≠ []) : (∀ u ∈ L, (lvRef lf L).lo ≤ lf u ∧ lf u ≤ (lvRef lf L).hi) ∧ (∃ u ∈ L, lf u = (lvRef lf L).lo) ∧ ∃ u ∈ L, lf u = (lvRef lf L).hi := by
  cases L with
  | nil => exact absurd rfl h
  | cons t L =>
    have hf := fold_span lf lf (t :: L) ⟨lf t, lf t⟩
    change ((lvRef lf (t :: L)).lo ≤ _ ∧ _) ∧ _ at hf
    obtain ⟨⟨_, h2⟩, h3, ⟨_, h5⟩, h6⟩ := hf
    refine ⟨fun u hu => ⟨h2 u hu, h5 u hu⟩, ?_, ?_⟩
    · rcases h3 with h3 | ⟨y, hy, h3⟩
      · exact ⟨t, by simp, h3.symm⟩
      · exact ⟨y, hy, h3.symm⟩
    · rcases h6 with h6 | ⟨y, hy, h6⟩
      · exact ⟨t, by simp, h6.symm⟩
      · exact ⟨y, hy, h6.symm⟩
theorem level_facts (s : Stores) (h : s.Ok) (l : List Count) (h0 : cntsErr s l = 0) (i : Nat) (hi : i < s.kinds.length) (d : Nat) (hd : d ≤ s.men.length) :
    (allS s l i s.kinds[i] = [] ∧ Pu true 23 [.ag (eStores s), .sl (l.map eCount) false, I64 i, I64 d] (.tp [.ag (eSpan ⟨0, 0⟩), I64 9])) ∨
    ∃ z : Span, Pu true 23 [.ag (eStores s), .sl (l.map eCount) false, I64 i, I64 d] (.tp [.ag (eSpan z), I64 0]) ∧ allS s l i s.kinds[i] ≠ [] ∧ (∀ u ∈ allS s l i s.kinds[i], z.lo ≤ levelAt s.men s.kinds[i] (cargoRow i s.cargos) d u ∧ levelAt s.men s.kinds[i] (cargoRow i s.cargos) d u ≤ z.hi) ∧
      (∃ u ∈ allS s l i s.kinds[i], levelAt s.men s.kinds[i] (cargoRow i s.cargos) d u = z.lo) ∧ ∃ u ∈ allS s l i s.kinds[i], levelAt s.men s.kinds[i] (cargoRow i s.cargos) d u = z.hi := by
  have hold := holdOk h0 hi
  have q1 := level_ok true s h l h0 i hi d hd
  unfold levelOf at q1
  rw [level_eq hold hd] at q1
  change Pu true 23 _ (.tp [.ag (eSpan (lvRef (levelAt s.men s.kinds[i] (cargoRow i s.cargos) d) (allS s l i s.kinds[i]))), I64 (if allS s l i s.kinds[i] = [] then 9 else 0)]) at q1
  by_cases hz : allS s l i s.kinds[i] = []
  · rw [if_pos hz, hz] at q1
    exact .inl ⟨hz, q1⟩
  · rw [if_neg hz] at q1
    have hf := lvRef_facts (levelAt s.men s.kinds[i] (cargoRow i s.cargos) d) _ hz
    exact .inr ⟨_, q1, hz, hf⟩
theorem lasts_facts (s : Stores) (h : s.Ok) (l : List Count) (h0 : cntsErr s l = 0) (i : Nat) (hi : i < s.kinds.length) :
    (allS s l i s.kinds[i] = [] ∧ Pu true 25 [.ag (eStores s), .sl (l.map eCount) false, I64 i] (.tp [I64 0, I64 9])) ∨
    ∃ n : Int, Pu true 25 [.ag (eStores s), .sl (l.map eCount) false, I64 i] (.tp [I64 n, I64 0]) ∧ (0 ≤ n ∧ n ≤ s.men.length) ∧ (∃ t ∈ allS s l i s.kinds[i], n = shortF s.men s.kinds[i] (cargoRow i s.cargos) t) ∧
      ∀ u ∈ allS s l i s.kinds[i], n ≤ shortF s.men s.kinds[i] (cargoRow i s.cargos) u := by
  have hla := lasts_ok true s h l h0 i hi
  unfold earlOf at hla
  rcases earl_facts (s := s) (k := s.kinds[i]) (row := cargoRow i s.cargos) (l := l) (i := i) with ⟨hn, h9⟩ | ⟨v, n, hz, hv, hvn, hlow⟩
  · rw [h9, if_neg (by decide)] at hla
    exact .inl ⟨hn, hla⟩
  · rw [hz, if_pos rfl] at hla
    exact .inr ⟨n, hla, by rw [hvn]; exact short_bnd _ _ _ _, ⟨v, hv, hvn⟩, hlow⟩
end Go.Proofs.Ytmkaeohmdcoanaa
open Go Go.RM
namespace Go.Proofs.Ytmkaeohmdcoanaa
set_option maxRecDepth 100000
theorem counts_deep : ∀ L : List Count, deepL ((L.map eCount).flatten) = true
  | [] => rfl
  | t :: L => by
    rw [List.map_cons, List.flatten_cons]
    exact deepL_append rfl (counts_deep L)
theorem counts_one : ∀ L : List Count, ((L.map eCount).flatten).all AV.one = true
  | [] => rfl
  | t :: L => by
    rw [List.map_cons, List.flatten_cons, List.all_append, counts_one L]
    rfl
theorem counts_flen (L : List Count) : ((L.map eCount).flatten).length = L.length * 4 := by
  rw [flatten_len (es := 4) fun el he => by obtain ⟨t, _, rfl⟩ := List.mem_map.1 he; rfl, List.length_map]
end Go.Proofs.Ytmkaeohmdcoanaa
open Go Go.RM
namespace Go.Proofs.Ytmkaeohmdcoanaa
set_option maxRecDepth 100000
set_option maxHeartbeats 4000000
theorem any_less {s : Stores} {l m : List Count} {i : Nat} {k : Kind} {f : Truth → Bool} (h : (allS s l i k).any f = false) : (allS s (l ++ m) i k).any f = false :=
  any_false fun t ht => by
    rw [List.any_eq_false] at h
    exact Bool.eq_false_iff.2 (h t (all_less ht))
theorem tighter_c (s : Stores) (h : s.Ok) (l : List Count) (hl : l.length ≤ 4398046511103) (c : Count) (x y : Int) (hx : 0 ≤ x ∧ x ≤ 255) (hy : 0 ≤ y ∧ y ≤ 255) : Pu true 15 [.ag (eStores s), .sl (l.map eCount) false, .ag [I64 c.day, I64 c.kind, I64 c.amount.lo, I64 c.amount.hi, .fl (.int .u8 x), .fl (.int .u8 y)]] (BB true) := by
  have haw := aw_c true
  have hcn := rcounts_c true s h (l ++ [c]) (by rw [List.length_append]; unfold maxLen; show l.length + 1 ≤ _; omega)
  by_cases hm : cntsErr s (l ++ [c]) = 0
  · rw [hm] at hcn
    have he := cnts_less hm
    obtain ⟨hg, hl8, hlc⟩ := cnts_good he
    have h8 := sizes_9 hg.sizes
    have em : ((s.men.map eI).length : Int) = s.men.length := by simp
    have ek : ((s.kinds.map eKind).length : Int) = s.kinds.length := by simp
    obtain ⟨i, hi, hki⟩ := modN (a := x) (n := (s.kinds.map eKind).length) (by simp; omega)
    rw [List.length_map] at hi
    obtain ⟨d, hd, hkd⟩ := modN (a := y) (n := (s.men.map eI).length) (by simp; omega)
    rw [List.length_map] at hd
    have v1 := level_facts s h l he i hi d (by omega)
    have v2 := level_facts s h (l ++ [c]) hm i hi d (by omega)
    have hms : ∀ u, u ∈ allS s (l ++ [c]) i s.kinds[i] → u ∈ allS s l i s.kinds[i] := fun u h => all_less h
    rcases v1 with ⟨z1, hv1⟩ | ⟨b1, hv1, n1, w1, w2, w3⟩
    · rcases v2 with ⟨z2, hv2⟩ | ⟨b2, hv2, n2, q1, q2, q3⟩
      · refine PureV.body (fn := Try.f15) rfl rfl rfl rfl ?_
        refine RM.c2s (mu := fun _ => false) ?_
        repeat' (first |with_reducible (first|refine RM.c4 ?_|refine RM.c9 ?_|refine RM.o1 ?_|refine RM.o2 ?_|refine RM.o4 ?_|refine RM.o5 ?_|refine RM.p3 ?_) |((with_reducible show force _ _);first|refine RM.f1 rfl ?_|refine RM.f3 rfl ?_) |((with_reducible show wpOne _ _ _ _ _ _ _ _ _ _ _ _);refine RM.o8 rfl ?_) |(refine ⟨rfl, rfl, rfl, ?_⟩) |fail)
        have hb1 : (0 + (l.map eCount).length) * 32 ≤ 140737488355328 ∧ 0 + (l.map eCount).length ≤ 9223372036854775807 := by rw [List.length_map]; omega
        have hb2 : (0 + (l.map eCount).length + 1) * 32 ≤ 140737488355328 ∧ 0 + (l.map eCount).length + 1 ≤ 9223372036854775807 := by rw [List.length_map]; omega
        have hq1 : (([] : List AV) ++ (l.map eCount).flatten).length = (0 + (l.map eCount).length) * 4 := by rw [List.nil_append, counts_flen, List.length_map]; omega
        refine RM.c2s (mu := fun t => Nat.beq t 22) ?_
        repeat' (first |(refine RM.appG (cs := []) (n := 0) (c := 0) (els := l.map eCount) rfl rfl rfl rfl rfl (fun el hel => (by obtain ⟨t, _, rfl⟩ := List.mem_map.1 hel; rfl)) (counts_one l) rfl rfl (.inl rfl) hb1 (fun v c' hc' => ?_)) |(refine RM.appG (cs := [] ++ (l.map eCount).flatten) (n := 0 + (l.map eCount).length) (els := [eCount c]) rfl rfl rfl rfl rfl (fun el hel => by rw [List.mem_singleton.1 hel]; rfl) rfl rfl hq1 hc' hb2 (fun v9 c9 hc9 => ?_)) |with_reducible (first|refine RM.c5 ?_|refine RM.c9 ?_|refine RM.o3 ?_|refine RM.o4 ?_|refine RM.o5 ?_|refine RM.p2 ?_|refine RM.p3 ?_) |((with_reducible show force _ _);first|refine RM.f2 rfl ?_|refine RM.f3 rfl ?_|refine RM.f5 rfl ?_|refine RM.f8 rfl ?_) |((with_reducible show wpDOne _ _ _ _ _ _ _ _ _ _);refine RM.p9 rfl ?_) |(refine ⟨_, rfl, ?_⟩) |(refine ⟨_, _, rfl, by decide, ?_⟩) |(refine ⟨rfl, rfl, rfl, ?_⟩) |(refine ⟨rfl, rfl, ?_⟩) |(refine And.intro (Nat.le_of_ble_eq_true rfl) ?_) |(refine And.intro (by kernel_rfl) ?_) |fail)
        refine SemC.weaker (Weaker.giveUp 0 (l := [(1, .sl (l.map eCount) false), (3, .pt (eStores s) 0), (5, .pt [I64 c.day, I64 c.kind, I64 c.amount.lo, I64 c.amount.hi, .fl (.int .u8 x), .fl (.int .u8 y)] 0), (7, .sl ((l ++ [c]).map eCount) false)]) (hp := [.gone]) rfl (Nat.zero_le _) (by show deepL (([] : List AV) ++ (l.map eCount).flatten ++ [eCount c].flatten) = true; exact deepL_append (counts_deep l) rfl)
          ⟨.same rfl, .same rfl, .same rfl, .row 4 (by show 0 + (0 + (l.map eCount).length + 1) * 4 ≤ (([] : List AV) ++ (l.map eCount).flatten ++ [eCount c].flatten).length; rw [List.nil_append, List.length_append, counts_flen, List.length_map]; show _ ≤ l.length * 4 + 4; omega) (by rw [List.length_map, List.length_append, List.length_map]; show l.length + 1 = 0 + l.length + 1; omega)
            (fun el hel => by obtain ⟨t, _, rfl⟩ := List.mem_map.1 hel; rfl) (by rw [List.drop_zero, List.take_of_length_le (by show (([] : List AV) ++ (l.map eCount).flatten ++ [eCount c].flatten).length ≤ _; rw [List.nil_append, List.length_append, counts_flen]; show l.length * 4 + 4 ≤ (0 + (l.map eCount).length + 1) * 4; rw [List.length_map]; omega), List.map_append, List.flatten_append]; rfl) (fun h => Bool.noConfusion h), trivial⟩ rfl rfl) ?_
        refine wpC_sound (mu := fun _ => false) ?_
        repeat' (first |(refine ⟨_, cv8 hx, rfl, ?_⟩) |(refine ⟨_, cv8 hy, rfl, ?_⟩) |with_reducible (first|refine RM.c1 ?_|refine RM.c2 ?_|refine RM.c4 ?_|refine RM.c5 ?_|refine RM.c9 ?_|refine RM.o1 ?_|refine RM.o2 ?_|refine RM.o3 ?_|refine RM.o4 ?_|refine RM.o5 ?_|refine RM.o7 ?_|refine RM.o9 ?_|refine RM.p1 ?_|refine RM.p2 ?_|refine RM.p3 ?_|refine RM.p5 ?_|refine RM.p6 ?_) |((with_reducible show force _ _);first|refine RM.f1 rfl ?_|refine RM.f2 rfl ?_|refine RM.f3 rfl ?_|refine RM.f4 rfl ?_|refine RM.f5 rfl ?_) |((with_reducible show wpOne _ _ _ _ _ _ _ _ _ _ _ _);refine RM.o8 rfl ?_) |((with_reducible show wpDOne _ _ _ _ _ _ _ _ _ _);refine RM.p9 rfl ?_) |((with_reducible show wpC _ _ _ _ (.cond _ _ _) _ _);refine RM.e3 rfl rfl ?_) |((with_reducible show wpBin _ _ _ _ _ _ _ _ _);first|refine RM.b5 rfl rfl ?_|refine RM.r1 rfl rfl (by omega) ?_) |((with_reducible show wpLen _ _ _ _ _);refine RM.l1 rfl ?_) |(refine ⟨_, rfl, ?_⟩) |(refine ⟨_, _, rfl, by decide, ?_⟩) |(refine And.intro (Nat.le_of_ble_eq_true rfl) ?_) |(refine And.intro (by kernel_rfl) ?_) |(refine PureV.call hcn rfl rfl ?_) |fail)
        rw [hki, hkd]
        repeat' (first |with_reducible (first|refine RM.c2 ?_|refine RM.c4 ?_|refine RM.c7 ?_|refine RM.c9 ?_|refine RM.d1 ?_|refine RM.o1 ?_|refine RM.o2 ?_|refine RM.o4 ?_|refine RM.o5 ?_|refine RM.o6 ?_|refine RM.o7 ?_|refine RM.o9 ?_|refine RM.p1 ?_|refine RM.p2 ?_|refine RM.p3 ?_|refine RM.p4 ?_|refine RM.p5 ?_) |((with_reducible show force _ _);first|refine RM.f1 rfl ?_|refine RM.f2 rfl ?_|refine RM.f4 rfl ?_|refine RM.f5 rfl ?_|refine RM.f6 rfl ?_|refine RM.f7 rfl ?_|refine RM.g2 rfl ?_) |((with_reducible show wpOne _ _ _ _ _ _ _ _ _ _ _ _);refine RM.o8 rfl ?_) |((with_reducible show wpGuard _ _ _ _ _);refine wpGuard_yes rfl rfl rfl ?_) |((with_reducible show wpC _ _ _ _ (.cond _ _ _) _ _);refine RM.e2 rfl rfl ?_) |((with_reducible show wpPick _ _ _ _ _);refine RM.k1 rfl ?_) |((with_reducible show wpPickB _ _ _ _ _);first|refine RM.k2 rfl ?_|refine RM.k3 rfl ?_) |((with_reducible show wpBin _ _ _ _ _ _ _ _ _);first|refine RM.b4 rfl rfl ?_|refine RM.b5 rfl rfl ?_) |(refine ⟨_, rfl, ?_⟩) |(refine ⟨_, _, rfl, by decide, ?_⟩) |(refine ⟨rfl, rfl, ?_⟩) |(refine And.intro (Nat.le_of_ble_eq_true rfl) ?_) |(refine And.intro (by kernel_rfl) ?_) |(refine PureV.call hv1 rfl rfl ?_) |(refine PureV.call hv2 rfl rfl ?_) |(refine PureV.call haw rfl rfl ?_) |fail)
        exact ⟨[_], ⟨Fz.deep rfl, trivial⟩, rfl⟩
      · obtain ⟨u, hu, _⟩ := q2
        have := hms u hu
        rw [z1] at this
        cases this
    · rcases v2 with ⟨z2, hv2⟩ | ⟨b2, hv2, n2, q1, q2, q3⟩
      · refine PureV.body (fn := Try.f15) rfl rfl rfl rfl ?_
        refine RM.c2s (mu := fun _ => false) ?_
        repeat' (first |with_reducible (first|refine RM.c4 ?_|refine RM.c9 ?_|refine RM.o1 ?_|refine RM.o2 ?_|refine RM.o4 ?_|refine RM.o5 ?_|refine RM.p3 ?_) |((with_reducible show force _ _);first|refine RM.f1 rfl ?_|refine RM.f3 rfl ?_) |((with_reducible show wpOne _ _ _ _ _ _ _ _ _ _ _ _);refine RM.o8 rfl ?_) |(refine ⟨rfl, rfl, rfl, ?_⟩) |fail)
        have hb1 : (0 + (l.map eCount).length) * 32 ≤ 140737488355328 ∧ 0 + (l.map eCount).length ≤ 9223372036854775807 := by rw [List.length_map]; omega
        have hb2 : (0 + (l.map eCount).length + 1) * 32 ≤ 140737488355328 ∧ 0 + (l.map eCount).length + 1 ≤ 9223372036854775807 := by rw [List.length_map]; omega
        have hq1 : (([] : List AV) ++ (l.map eCount).flatten).length = (0 + (l.map eCount).length) * 4 := by rw [List.nil_append, counts_flen, List.length_map]; omega
        refine RM.c2s (mu := fun t => Nat.beq t 22) ?_
        repeat' (first |(refine RM.appG (cs := []) (n := 0) (c := 0) (els := l.map eCount) rfl rfl rfl rfl rfl (fun el hel => (by obtain ⟨t, _, rfl⟩ := List.mem_map.1 hel; rfl)) (counts_one l) rfl rfl (.inl rfl) hb1 (fun v c' hc' => ?_)) |(refine RM.appG (cs := [] ++ (l.map eCount).flatten) (n := 0 + (l.map eCount).length) (els := [eCount c]) rfl rfl rfl rfl rfl (fun el hel => by rw [List.mem_singleton.1 hel]; rfl) rfl rfl hq1 hc' hb2 (fun v9 c9 hc9 => ?_)) |with_reducible (first|refine RM.c5 ?_|refine RM.c9 ?_|refine RM.o3 ?_|refine RM.o4 ?_|refine RM.o5 ?_|refine RM.p2 ?_|refine RM.p3 ?_) |((with_reducible show force _ _);first|refine RM.f2 rfl ?_|refine RM.f3 rfl ?_|refine RM.f5 rfl ?_|refine RM.f8 rfl ?_) |((with_reducible show wpDOne _ _ _ _ _ _ _ _ _ _);refine RM.p9 rfl ?_) |(refine ⟨_, rfl, ?_⟩) |(refine ⟨_, _, rfl, by decide, ?_⟩) |(refine ⟨rfl, rfl, rfl, ?_⟩) |(refine ⟨rfl, rfl, ?_⟩) |(refine And.intro (Nat.le_of_ble_eq_true rfl) ?_) |(refine And.intro (by kernel_rfl) ?_) |fail)
        refine SemC.weaker (Weaker.giveUp 0 (l := [(1, .sl (l.map eCount) false), (3, .pt (eStores s) 0), (5, .pt [I64 c.day, I64 c.kind, I64 c.amount.lo, I64 c.amount.hi, .fl (.int .u8 x), .fl (.int .u8 y)] 0), (7, .sl ((l ++ [c]).map eCount) false)]) (hp := [.gone]) rfl (Nat.zero_le _) (by show deepL (([] : List AV) ++ (l.map eCount).flatten ++ [eCount c].flatten) = true; exact deepL_append (counts_deep l) rfl)
          ⟨.same rfl, .same rfl, .same rfl, .row 4 (by show 0 + (0 + (l.map eCount).length + 1) * 4 ≤ (([] : List AV) ++ (l.map eCount).flatten ++ [eCount c].flatten).length; rw [List.nil_append, List.length_append, counts_flen, List.length_map]; show _ ≤ l.length * 4 + 4; omega) (by rw [List.length_map, List.length_append, List.length_map]; show l.length + 1 = 0 + l.length + 1; omega)
            (fun el hel => by obtain ⟨t, _, rfl⟩ := List.mem_map.1 hel; rfl) (by rw [List.drop_zero, List.take_of_length_le (by show (([] : List AV) ++ (l.map eCount).flatten ++ [eCount c].flatten).length ≤ _; rw [List.nil_append, List.length_append, counts_flen]; show l.length * 4 + 4 ≤ (0 + (l.map eCount).length + 1) * 4; rw [List.length_map]; omega), List.map_append, List.flatten_append]; rfl) (fun h => Bool.noConfusion h), trivial⟩ rfl rfl) ?_
        refine wpC_sound (mu := fun _ => false) ?_
        repeat' (first |(refine ⟨_, cv8 hx, rfl, ?_⟩) |(refine ⟨_, cv8 hy, rfl, ?_⟩) |with_reducible (first|refine RM.c1 ?_|refine RM.c2 ?_|refine RM.c4 ?_|refine RM.c5 ?_|refine RM.c9 ?_|refine RM.o1 ?_|refine RM.o2 ?_|refine RM.o3 ?_|refine RM.o4 ?_|refine RM.o5 ?_|refine RM.o7 ?_|refine RM.o9 ?_|refine RM.p1 ?_|refine RM.p2 ?_|refine RM.p3 ?_|refine RM.p5 ?_|refine RM.p6 ?_) |((with_reducible show force _ _);first|refine RM.f1 rfl ?_|refine RM.f2 rfl ?_|refine RM.f3 rfl ?_|refine RM.f4 rfl ?_|refine RM.f5 rfl ?_) |((with_reducible show wpOne _ _ _ _ _ _ _ _ _ _ _ _);refine RM.o8 rfl ?_) |((with_reducible show wpDOne _ _ _ _ _ _ _ _ _ _);refine RM.p9 rfl ?_) |((with_reducible show wpC _ _ _ _ (.cond _ _ _) _ _);refine RM.e3 rfl rfl ?_) |((with_reducible show wpBin _ _ _ _ _ _ _ _ _);first|refine RM.b5 rfl rfl ?_|refine RM.r1 rfl rfl (by omega) ?_) |((with_reducible show wpLen _ _ _ _ _);refine RM.l1 rfl ?_) |(refine ⟨_, rfl, ?_⟩) |(refine ⟨_, _, rfl, by decide, ?_⟩) |(refine And.intro (Nat.le_of_ble_eq_true rfl) ?_) |(refine And.intro (by kernel_rfl) ?_) |(refine PureV.call hcn rfl rfl ?_) |fail)
        rw [hki, hkd]
        repeat' (first |with_reducible (first|refine RM.c2 ?_|refine RM.c4 ?_|refine RM.c7 ?_|refine RM.c9 ?_|refine RM.d1 ?_|refine RM.o1 ?_|refine RM.o2 ?_|refine RM.o4 ?_|refine RM.o5 ?_|refine RM.o6 ?_|refine RM.o7 ?_|refine RM.o9 ?_|refine RM.p1 ?_|refine RM.p2 ?_|refine RM.p3 ?_|refine RM.p4 ?_|refine RM.p5 ?_) |((with_reducible show force _ _);first|refine RM.f1 rfl ?_|refine RM.f2 rfl ?_|refine RM.f4 rfl ?_|refine RM.f5 rfl ?_|refine RM.f6 rfl ?_|refine RM.f7 rfl ?_|refine RM.g2 rfl ?_) |((with_reducible show wpOne _ _ _ _ _ _ _ _ _ _ _ _);refine RM.o8 rfl ?_) |((with_reducible show wpGuard _ _ _ _ _);first|refine wpGuard_yes rfl rfl rfl ?_|refine wpGuard_no rfl rfl rfl ?_) |((with_reducible show wpC _ _ _ _ (.cond _ _ _) _ _);refine RM.e2 rfl rfl ?_) |((with_reducible show wpPick _ _ _ _ _);refine RM.k1 rfl ?_) |((with_reducible show wpPickB _ _ _ _ _);refine RM.k2 rfl ?_) |((with_reducible show wpBin _ _ _ _ _ _ _ _ _);first|refine RM.b4 rfl rfl ?_|refine RM.b5 rfl rfl ?_) |(refine ⟨_, rfl, ?_⟩) |(refine ⟨_, _, rfl, by decide, ?_⟩) |(refine ⟨rfl, rfl, ?_⟩) |(refine And.intro (Nat.le_of_ble_eq_true rfl) ?_) |(refine And.intro (by kernel_rfl) ?_) |(refine ⟨_, _, rfl, rfl, rfl, rfl, Nat.le_of_ble_eq_true rfl, ?_⟩) |(refine PureV.call hv1 rfl rfl ?_) |(refine PureV.call hv2 rfl rfl ?_) |(refine PureV.call haw rfl rfl ?_) |fail)
        exact ⟨[_], ⟨Fz.deep rfl, trivial⟩, rfl⟩
      · -- the levels
        have g1 : decide (b2.lo < b1.lo) = false := decide_eq_false (by
          obtain ⟨u, hu, hq⟩ := q2
          have := w1 u (hms u hu)
          omega)
        have g2 : decide (b1.hi < b2.hi) = false := decide_eq_false (by
          obtain ⟨u, hu, hq⟩ := q3
          have := w1 u (hms u hu)
          omega)
        -- the days
        obtain ⟨m1, hl1, hb1, _, low1⟩ : ∃ n : Int, Pu true 25 [.ag (eStores s), .sl (l.map eCount) false, I64 i] (.tp [I64 n, I64 0]) ∧ (0 ≤ n ∧ n ≤ s.men.length) ∧ (∃ t ∈ allS s l i s.kinds[i], n = shortF s.men s.kinds[i] (cargoRow i s.cargos) t) ∧ ∀ u ∈ allS s l i s.kinds[i], n ≤ shortF s.men s.kinds[i] (cargoRow i s.cargos) u := by
          rcases lasts_facts s h l he i hi with ⟨hz, _⟩ | hz
          · exact absurd hz n1
          · exact hz
        obtain ⟨m2, hl2, hb2, ⟨t2, ht2, hmt⟩, _⟩ : ∃ n : Int, Pu true 25 [.ag (eStores s), .sl ((l ++ [c]).map eCount) false, I64 i] (.tp [I64 n, I64 0]) ∧ (0 ≤ n ∧ n ≤ s.men.length) ∧ (∃ t ∈ allS s (l ++ [c]) i s.kinds[i], n = shortF s.men s.kinds[i] (cargoRow i s.cargos) t) ∧ ∀ u ∈ allS s (l ++ [c]) i s.kinds[i], n ≤ shortF s.men s.kinds[i] (cargoRow i s.cargos) u := by
          rcases lasts_facts s h (l ++ [c]) hm i hi with ⟨hz, _⟩ | hz
          · exact absurd hz n2
          · exact hz
        have g3 : decide (m2 < m1) = false := decide_eq_false (by
          have := low1 t2 (hms t2 ht2)
          omega)
        -- the cargo
        obtain ⟨r1, e1, r2, e2, hc1, hc2, hce⟩ : ∃ r1 e1 r2 e2 : Int, Pu true 29 [.ag (eStores s), .sl (l.map eCount) false, I64 i, I64 d] (.tp [I64 r1, I64 e1]) ∧ Pu true 29 [.ag (eStores s), .sl ((l ++ [c]).map eCount) false, I64 i, I64 d] (.tp [I64 r2, I64 e2]) ∧ (e1 = 9 ∨ e1 = 0 ∧ e2 = 0 ∧ r2 ≤ r1) := by
          rcases cargo_facts s h l he i hi d hd with ⟨c1, _⟩ | ⟨r1, c1, hr1, _, yes1, _⟩
          · rcases cargo_facts s h (l ++ [c]) hm i hi d hd with ⟨c2, _⟩ | ⟨r2, c2, _⟩
            · exact ⟨_, _, _, _, c1, c2, .inl rfl⟩
            · exact ⟨_, _, _, _, c1, c2, .inl rfl⟩
          · have yes2 : lastsWith s s.kinds[i] (cargoRow i s.cargos) (allS s (l ++ [c]) i s.kinds[i]) d r1 = true := by
              unfold lastsWith at yes1 ⊢
              rw [Bool.not_eq_true'] at yes1 ⊢
              exact any_less yes1
            rcases cargo_facts s h (l ++ [c]) hm i hi d hd with ⟨c2, no2⟩ | ⟨r2, c2, _, _, _, no2⟩
            · have := no2 n2 r1 hr1
              rw [yes2] at this
              cases this
            · refine ⟨_, _, _, _, c1, c2, .inr ⟨rfl, rfl, ?_⟩⟩
              have : ¬ r1 < r2 := fun hlt => by
                have := no2 r1 hlt
                rw [yes2] at this
                cases this
              omega
        -- the rations
        obtain ⟨p1, f1, p2, f2, hd1, hd2, hde⟩ : ∃ r1 e1 r2 e2 : Int, Pu true 31 [.ag (eStores s), .sl (l.map eCount) false, I64 i] (.tp [I64 r1, I64 e1]) ∧ Pu true 31 [.ag (eStores s), .sl ((l ++ [c]).map eCount) false, I64 i] (.tp [I64 r2, I64 e2]) ∧ (e1 = 9 ∨ e1 = 0 ∧ e2 = 0 ∧ r1 ≤ r2) := by
          rcases ration_facts s h l he i hi with ⟨c1, _⟩ | ⟨r1, c1, hr1, _, yes1, _⟩
          · rcases ration_facts s h (l ++ [c]) hm i hi with ⟨c2, _⟩ | ⟨r2, c2, _⟩
            · exact ⟨_, _, _, _, c1, c2, .inl rfl⟩
            · exact ⟨_, _, _, _, c1, c2, .inl rfl⟩
          · have yes2 := any_less (m := [c]) yes1
            rcases ration_facts s h (l ++ [c]) hm i hi with ⟨c2, no2⟩ | ⟨r2, c2, _, _, _, no2⟩
            · have := no2 n2 r1 hr1
              rw [yes2] at this
              cases this
            · refine ⟨_, _, _, _, c1, c2, .inr ⟨rfl, rfl, ?_⟩⟩
              have : ¬ r2 < r1 := fun hlt => by
                have := no2 r1 hlt hr1
                rw [yes2] at this
                cases this
              omega
        clear w1 w2 w3 q1 q2 q3 low1 hms hlc
        rcases hce with rfl | ⟨rfl, rfl, hc3⟩
        · rcases hde with rfl | ⟨rfl, rfl, hd3⟩
          · refine PureV.body (fn := Try.f15) rfl rfl rfl rfl ?_
            refine RM.c2s (mu := fun _ => false) ?_
            repeat' (first |with_reducible (first|refine RM.c4 ?_|refine RM.c9 ?_|refine RM.o1 ?_|refine RM.o2 ?_|refine RM.o4 ?_|refine RM.o5 ?_|refine RM.p3 ?_) |((with_reducible show force _ _);first|refine RM.f1 rfl ?_|refine RM.f3 rfl ?_) |((with_reducible show wpOne _ _ _ _ _ _ _ _ _ _ _ _);refine RM.o8 rfl ?_) |(refine ⟨rfl, rfl, rfl, ?_⟩) |fail)
            have hb1 : (0 + (l.map eCount).length) * 32 ≤ 140737488355328 ∧ 0 + (l.map eCount).length ≤ 9223372036854775807 := by rw [List.length_map]; omega
            have hb2 : (0 + (l.map eCount).length + 1) * 32 ≤ 140737488355328 ∧ 0 + (l.map eCount).length + 1 ≤ 9223372036854775807 := by rw [List.length_map]; omega
            have hq1 : (([] : List AV) ++ (l.map eCount).flatten).length = (0 + (l.map eCount).length) * 4 := by rw [List.nil_append, counts_flen, List.length_map]; omega
            refine RM.c2s (mu := fun t => Nat.beq t 22) ?_
            repeat' (first |(refine RM.appG (cs := []) (n := 0) (c := 0) (els := l.map eCount) rfl rfl rfl rfl rfl (fun el hel => (by obtain ⟨t, _, rfl⟩ := List.mem_map.1 hel; rfl)) (counts_one l) rfl rfl (.inl rfl) hb1 (fun v c' hc' => ?_)) |(refine RM.appG (cs := [] ++ (l.map eCount).flatten) (n := 0 + (l.map eCount).length) (els := [eCount c]) rfl rfl rfl rfl rfl (fun el hel => by rw [List.mem_singleton.1 hel]; rfl) rfl rfl hq1 hc' hb2 (fun v9 c9 hc9 => ?_)) |with_reducible (first|refine RM.c5 ?_|refine RM.c9 ?_|refine RM.o3 ?_|refine RM.o4 ?_|refine RM.o5 ?_|refine RM.p2 ?_|refine RM.p3 ?_) |((with_reducible show force _ _);first|refine RM.f2 rfl ?_|refine RM.f3 rfl ?_|refine RM.f5 rfl ?_|refine RM.f8 rfl ?_) |((with_reducible show wpDOne _ _ _ _ _ _ _ _ _ _);refine RM.p9 rfl ?_) |(refine ⟨_, rfl, ?_⟩) |(refine ⟨_, _, rfl, by decide, ?_⟩) |(refine ⟨rfl, rfl, rfl, ?_⟩) |(refine ⟨rfl, rfl, ?_⟩) |(refine And.intro (Nat.le_of_ble_eq_true rfl) ?_) |(refine And.intro (by kernel_rfl) ?_) |fail)
            refine SemC.weaker (Weaker.giveUp 0 (l := [(1, .sl (l.map eCount) false), (3, .pt (eStores s) 0), (5, .pt [I64 c.day, I64 c.kind, I64 c.amount.lo, I64 c.amount.hi, .fl (.int .u8 x), .fl (.int .u8 y)] 0), (7, .sl ((l ++ [c]).map eCount) false)]) (hp := [.gone]) rfl (Nat.zero_le _) (by show deepL (([] : List AV) ++ (l.map eCount).flatten ++ [eCount c].flatten) = true; exact deepL_append (counts_deep l) rfl)
              ⟨.same rfl, .same rfl, .same rfl, .row 4 (by show 0 + (0 + (l.map eCount).length + 1) * 4 ≤ (([] : List AV) ++ (l.map eCount).flatten ++ [eCount c].flatten).length; rw [List.nil_append, List.length_append, counts_flen, List.length_map]; show _ ≤ l.length * 4 + 4; omega) (by rw [List.length_map, List.length_append, List.length_map]; show l.length + 1 = 0 + l.length + 1; omega)
                (fun el hel => by obtain ⟨t, _, rfl⟩ := List.mem_map.1 hel; rfl) (by rw [List.drop_zero, List.take_of_length_le (by show (([] : List AV) ++ (l.map eCount).flatten ++ [eCount c].flatten).length ≤ _; rw [List.nil_append, List.length_append, counts_flen]; show l.length * 4 + 4 ≤ (0 + (l.map eCount).length + 1) * 4; rw [List.length_map]; omega), List.map_append, List.flatten_append]; rfl) (fun h => Bool.noConfusion h), trivial⟩ rfl rfl) ?_
            refine wpC_sound (mu := fun _ => false) ?_
            repeat' (first |(refine ⟨_, cv8 hx, rfl, ?_⟩) |(refine ⟨_, cv8 hy, rfl, ?_⟩) |with_reducible (first|refine RM.c1 ?_|refine RM.c2 ?_|refine RM.c4 ?_|refine RM.c5 ?_|refine RM.c9 ?_|refine RM.o1 ?_|refine RM.o2 ?_|refine RM.o3 ?_|refine RM.o4 ?_|refine RM.o5 ?_|refine RM.o7 ?_|refine RM.o9 ?_|refine RM.p1 ?_|refine RM.p2 ?_|refine RM.p3 ?_|refine RM.p5 ?_|refine RM.p6 ?_) |((with_reducible show force _ _);first|refine RM.f1 rfl ?_|refine RM.f2 rfl ?_|refine RM.f3 rfl ?_|refine RM.f4 rfl ?_|refine RM.f5 rfl ?_) |((with_reducible show wpOne _ _ _ _ _ _ _ _ _ _ _ _);refine RM.o8 rfl ?_) |((with_reducible show wpDOne _ _ _ _ _ _ _ _ _ _);refine RM.p9 rfl ?_) |((with_reducible show wpC _ _ _ _ (.cond _ _ _) _ _);refine RM.e3 rfl rfl ?_) |((with_reducible show wpBin _ _ _ _ _ _ _ _ _);first|refine RM.b5 rfl rfl ?_|refine RM.r1 rfl rfl (by omega) ?_) |((with_reducible show wpLen _ _ _ _ _);refine RM.l1 rfl ?_) |(refine ⟨_, rfl, ?_⟩) |(refine ⟨_, _, rfl, by decide, ?_⟩) |(refine And.intro (Nat.le_of_ble_eq_true rfl) ?_) |(refine And.intro (by kernel_rfl) ?_) |(refine PureV.call hcn rfl rfl ?_) |fail)
            rw [hki, hkd]
            repeat' (first |with_reducible (first|refine RM.c1 ?_|refine RM.c2 ?_|refine RM.c4 ?_|refine RM.c7 ?_|refine RM.c9 ?_|refine RM.o1 ?_|refine RM.o2 ?_|refine RM.o4 ?_|refine RM.o5 ?_|refine RM.o6 ?_|refine RM.o7 ?_|refine RM.o9 ?_|refine RM.p1 ?_|refine RM.p2 ?_|refine RM.p3 ?_|refine RM.p4 ?_|refine RM.p5 ?_) |((with_reducible show force _ _);first|refine RM.f1 rfl ?_|refine RM.f2 rfl ?_|refine RM.f4 rfl ?_|refine RM.f5 rfl ?_|refine RM.f6 rfl ?_|refine RM.f7 rfl ?_|refine RM.g2 rfl ?_) |((with_reducible show wpOne _ _ _ _ _ _ _ _ _ _ _ _);refine RM.o8 rfl ?_) |((with_reducible show wpGuard _ _ _ _ _);first|refine wpGuard_yes rfl rfl rfl ?_|refine wpGuard_no rfl rfl rfl ?_|refine wpGuard_skip rfl rfl ?_|refine wpGuard_yes rfl rfl (by assumption) ?_) |((with_reducible show wpC _ _ _ _ (.cond _ _ _) _ _);first|refine RM.e3 rfl rfl ?_|refine RM.e3 rfl (by assumption) ?_) |((with_reducible show wpPick _ _ _ _ _);refine RM.k1 rfl ?_) |((with_reducible show wpPickB _ _ _ _ _);first|refine RM.k2 rfl ?_|refine RM.k3 rfl ?_|refine RM.k3 (by assumption) ?_) |((with_reducible show wpBin _ _ _ _ _ _ _ _ _);first|refine RM.b4 rfl rfl ?_|refine RM.b5 rfl rfl ?_|refine RM.b6 rfl rfl ?_|refine RM.b8 rfl rfl ?_) |(refine ⟨_, rfl, ?_⟩) |(refine ⟨_, _, rfl, by decide, ?_⟩) |(refine ⟨_, _, rfl, _, rfl, ?_⟩) |(refine And.intro (Nat.le_of_ble_eq_true rfl) ?_) |(refine And.intro (by kernel_rfl) ?_) |(refine ⟨_, _, rfl, rfl, rfl, rfl, Nat.le_of_ble_eq_true rfl, ?_⟩) |(refine PureV.call hv1 rfl rfl ?_) |(refine PureV.call hv2 rfl rfl ?_) |(refine PureV.call haw rfl rfl ?_) |(refine PureV.call hl1 rfl rfl ?_) |(refine PureV.call hl2 rfl rfl ?_) |(refine PureV.call hc1 rfl rfl ?_) |(refine PureV.call hc2 rfl rfl ?_) |(refine PureV.call hd1 rfl rfl ?_) |(refine PureV.call hd2 rfl rfl ?_) |fail)
            exact ⟨[_], ⟨Fz.deep rfl, trivial⟩, rfl⟩
          · have g4 : decide (p1 ≤ p2) = true := decide_eq_true hd3
            refine PureV.body (fn := Try.f15) rfl rfl rfl rfl ?_
            refine RM.c2s (mu := fun _ => false) ?_
            repeat' (first |with_reducible (first|refine RM.c4 ?_|refine RM.c9 ?_|refine RM.o1 ?_|refine RM.o2 ?_|refine RM.o4 ?_|refine RM.o5 ?_|refine RM.p3 ?_) |((with_reducible show force _ _);first|refine RM.f1 rfl ?_|refine RM.f3 rfl ?_) |((with_reducible show wpOne _ _ _ _ _ _ _ _ _ _ _ _);refine RM.o8 rfl ?_) |(refine ⟨rfl, rfl, rfl, ?_⟩) |fail)
            have hb1 : (0 + (l.map eCount).length) * 32 ≤ 140737488355328 ∧ 0 + (l.map eCount).length ≤ 9223372036854775807 := by rw [List.length_map]; omega
            have hb2 : (0 + (l.map eCount).length + 1) * 32 ≤ 140737488355328 ∧ 0 + (l.map eCount).length + 1 ≤ 9223372036854775807 := by rw [List.length_map]; omega
            have hq1 : (([] : List AV) ++ (l.map eCount).flatten).length = (0 + (l.map eCount).length) * 4 := by rw [List.nil_append, counts_flen, List.length_map]; omega
            refine RM.c2s (mu := fun t => Nat.beq t 22) ?_
            repeat' (first |(refine RM.appG (cs := []) (n := 0) (c := 0) (els := l.map eCount) rfl rfl rfl rfl rfl (fun el hel => (by obtain ⟨t, _, rfl⟩ := List.mem_map.1 hel; rfl)) (counts_one l) rfl rfl (.inl rfl) hb1 (fun v c' hc' => ?_)) |(refine RM.appG (cs := [] ++ (l.map eCount).flatten) (n := 0 + (l.map eCount).length) (els := [eCount c]) rfl rfl rfl rfl rfl (fun el hel => by rw [List.mem_singleton.1 hel]; rfl) rfl rfl hq1 hc' hb2 (fun v9 c9 hc9 => ?_)) |with_reducible (first|refine RM.c5 ?_|refine RM.c9 ?_|refine RM.o3 ?_|refine RM.o4 ?_|refine RM.o5 ?_|refine RM.p2 ?_|refine RM.p3 ?_) |((with_reducible show force _ _);first|refine RM.f2 rfl ?_|refine RM.f3 rfl ?_|refine RM.f5 rfl ?_|refine RM.f8 rfl ?_) |((with_reducible show wpDOne _ _ _ _ _ _ _ _ _ _);refine RM.p9 rfl ?_) |(refine ⟨_, rfl, ?_⟩) |(refine ⟨_, _, rfl, by decide, ?_⟩) |(refine ⟨rfl, rfl, rfl, ?_⟩) |(refine ⟨rfl, rfl, ?_⟩) |(refine And.intro (Nat.le_of_ble_eq_true rfl) ?_) |(refine And.intro (by kernel_rfl) ?_) |fail)
            refine SemC.weaker (Weaker.giveUp 0 (l := [(1, .sl (l.map eCount) false), (3, .pt (eStores s) 0), (5, .pt [I64 c.day, I64 c.kind, I64 c.amount.lo, I64 c.amount.hi, .fl (.int .u8 x), .fl (.int .u8 y)] 0), (7, .sl ((l ++ [c]).map eCount) false)]) (hp := [.gone]) rfl (Nat.zero_le _) (by show deepL (([] : List AV) ++ (l.map eCount).flatten ++ [eCount c].flatten) = true; exact deepL_append (counts_deep l) rfl)
              ⟨.same rfl, .same rfl, .same rfl, .row 4 (by show 0 + (0 + (l.map eCount).length + 1) * 4 ≤ (([] : List AV) ++ (l.map eCount).flatten ++ [eCount c].flatten).length; rw [List.nil_append, List.length_append, counts_flen, List.length_map]; show _ ≤ l.length * 4 + 4; omega) (by rw [List.length_map, List.length_append, List.length_map]; show l.length + 1 = 0 + l.length + 1; omega)
                (fun el hel => by obtain ⟨t, _, rfl⟩ := List.mem_map.1 hel; rfl) (by rw [List.drop_zero, List.take_of_length_le (by show (([] : List AV) ++ (l.map eCount).flatten ++ [eCount c].flatten).length ≤ _; rw [List.nil_append, List.length_append, counts_flen]; show l.length * 4 + 4 ≤ (0 + (l.map eCount).length + 1) * 4; rw [List.length_map]; omega), List.map_append, List.flatten_append]; rfl) (fun h => Bool.noConfusion h), trivial⟩ rfl rfl) ?_
            refine wpC_sound (mu := fun _ => false) ?_
            repeat' (first |(refine ⟨_, cv8 hx, rfl, ?_⟩) |(refine ⟨_, cv8 hy, rfl, ?_⟩) |with_reducible (first|refine RM.c1 ?_|refine RM.c2 ?_|refine RM.c4 ?_|refine RM.c5 ?_|refine RM.c9 ?_|refine RM.o1 ?_|refine RM.o2 ?_|refine RM.o3 ?_|refine RM.o4 ?_|refine RM.o5 ?_|refine RM.o7 ?_|refine RM.o9 ?_|refine RM.p1 ?_|refine RM.p2 ?_|refine RM.p3 ?_|refine RM.p5 ?_|refine RM.p6 ?_) |((with_reducible show force _ _);first|refine RM.f1 rfl ?_|refine RM.f2 rfl ?_|refine RM.f3 rfl ?_|refine RM.f4 rfl ?_|refine RM.f5 rfl ?_) |((with_reducible show wpOne _ _ _ _ _ _ _ _ _ _ _ _);refine RM.o8 rfl ?_) |((with_reducible show wpDOne _ _ _ _ _ _ _ _ _ _);refine RM.p9 rfl ?_) |((with_reducible show wpC _ _ _ _ (.cond _ _ _) _ _);refine RM.e3 rfl rfl ?_) |((with_reducible show wpBin _ _ _ _ _ _ _ _ _);first|refine RM.b5 rfl rfl ?_|refine RM.r1 rfl rfl (by omega) ?_) |((with_reducible show wpLen _ _ _ _ _);refine RM.l1 rfl ?_) |(refine ⟨_, rfl, ?_⟩) |(refine ⟨_, _, rfl, by decide, ?_⟩) |(refine And.intro (Nat.le_of_ble_eq_true rfl) ?_) |(refine And.intro (by kernel_rfl) ?_) |(refine PureV.call hcn rfl rfl ?_) |fail)
            rw [hki, hkd]
            repeat' (first |with_reducible (first|refine RM.c1 ?_|refine RM.c2 ?_|refine RM.c4 ?_|refine RM.c7 ?_|refine RM.c9 ?_|refine RM.o1 ?_|refine RM.o2 ?_|refine RM.o4 ?_|refine RM.o5 ?_|refine RM.o6 ?_|refine RM.o7 ?_|refine RM.o9 ?_|refine RM.p1 ?_|refine RM.p2 ?_|refine RM.p3 ?_|refine RM.p4 ?_|refine RM.p5 ?_) |((with_reducible show force _ _);first|refine RM.f1 rfl ?_|refine RM.f2 rfl ?_|refine RM.f4 rfl ?_|refine RM.f5 rfl ?_|refine RM.f6 rfl ?_|refine RM.f7 rfl ?_|refine RM.g2 rfl ?_) |((with_reducible show wpOne _ _ _ _ _ _ _ _ _ _ _ _);refine RM.o8 rfl ?_) |((with_reducible show wpGuard _ _ _ _ _);first|refine wpGuard_yes rfl rfl rfl ?_|refine wpGuard_no rfl rfl rfl ?_|refine wpGuard_skip rfl rfl ?_|refine wpGuard_yes rfl rfl (by assumption) ?_) |((with_reducible show wpC _ _ _ _ (.cond _ _ _) _ _);first|refine RM.e3 rfl rfl ?_|refine RM.e3 rfl (by assumption) ?_) |((with_reducible show wpPick _ _ _ _ _);refine RM.k1 rfl ?_) |((with_reducible show wpPickB _ _ _ _ _);first|refine RM.k2 rfl ?_|refine RM.k3 rfl ?_|refine RM.k2 (by assumption) ?_|refine RM.k3 (by assumption) ?_) |((with_reducible show wpBin _ _ _ _ _ _ _ _ _);first|refine RM.b4 rfl rfl ?_|refine RM.b5 rfl rfl ?_|refine RM.b6 rfl rfl ?_|refine RM.b8 rfl rfl ?_|refine RM.b9 rfl rfl ?_) |(refine ⟨_, rfl, ?_⟩) |(refine ⟨_, _, rfl, by decide, ?_⟩) |(refine ⟨_, _, rfl, _, rfl, ?_⟩) |(refine And.intro (Nat.le_of_ble_eq_true rfl) ?_) |(refine And.intro (by kernel_rfl) ?_) |(refine ⟨_, _, rfl, rfl, rfl, rfl, Nat.le_of_ble_eq_true rfl, ?_⟩) |(refine PureV.call hv1 rfl rfl ?_) |(refine PureV.call hv2 rfl rfl ?_) |(refine PureV.call haw rfl rfl ?_) |(refine PureV.call hl1 rfl rfl ?_) |(refine PureV.call hl2 rfl rfl ?_) |(refine PureV.call hc1 rfl rfl ?_) |(refine PureV.call hc2 rfl rfl ?_) |(refine PureV.call hd1 rfl rfl ?_) |(refine PureV.call hd2 rfl rfl ?_) |fail)
            exact ⟨[_], ⟨Fz.deep rfl, trivial⟩, rfl⟩
        · have g5 : decide (r2 ≤ r1) = true := decide_eq_true hc3
          rcases hde with rfl | ⟨rfl, rfl, hd3⟩
          · refine PureV.body (fn := Try.f15) rfl rfl rfl rfl ?_
            refine RM.c2s (mu := fun _ => false) ?_
            repeat' (first |with_reducible (first|refine RM.c4 ?_|refine RM.c9 ?_|refine RM.o1 ?_|refine RM.o2 ?_|refine RM.o4 ?_|refine RM.o5 ?_|refine RM.p3 ?_) |((with_reducible show force _ _);first|refine RM.f1 rfl ?_|refine RM.f3 rfl ?_) |((with_reducible show wpOne _ _ _ _ _ _ _ _ _ _ _ _);refine RM.o8 rfl ?_) |(refine ⟨rfl, rfl, rfl, ?_⟩) |fail)
            have hb1 : (0 + (l.map eCount).length) * 32 ≤ 140737488355328 ∧ 0 + (l.map eCount).length ≤ 9223372036854775807 := by rw [List.length_map]; omega
            have hb2 : (0 + (l.map eCount).length + 1) * 32 ≤ 140737488355328 ∧ 0 + (l.map eCount).length + 1 ≤ 9223372036854775807 := by rw [List.length_map]; omega
            have hq1 : (([] : List AV) ++ (l.map eCount).flatten).length = (0 + (l.map eCount).length) * 4 := by rw [List.nil_append, counts_flen, List.length_map]; omega
            refine RM.c2s (mu := fun t => Nat.beq t 22) ?_
            repeat' (first |(refine RM.appG (cs := []) (n := 0) (c := 0) (els := l.map eCount) rfl rfl rfl rfl rfl (fun el hel => (by obtain ⟨t, _, rfl⟩ := List.mem_map.1 hel; rfl)) (counts_one l) rfl rfl (.inl rfl) hb1 (fun v c' hc' => ?_)) |(refine RM.appG (cs := [] ++ (l.map eCount).flatten) (n := 0 + (l.map eCount).length) (els := [eCount c]) rfl rfl rfl rfl rfl (fun el hel => by rw [List.mem_singleton.1 hel]; rfl) rfl rfl hq1 hc' hb2 (fun v9 c9 hc9 => ?_)) |with_reducible (first|refine RM.c5 ?_|refine RM.c9 ?_|refine RM.o3 ?_|refine RM.o4 ?_|refine RM.o5 ?_|refine RM.p2 ?_|refine RM.p3 ?_) |((with_reducible show force _ _);first|refine RM.f2 rfl ?_|refine RM.f3 rfl ?_|refine RM.f5 rfl ?_|refine RM.f8 rfl ?_) |((with_reducible show wpDOne _ _ _ _ _ _ _ _ _ _);refine RM.p9 rfl ?_) |(refine ⟨_, rfl, ?_⟩) |(refine ⟨_, _, rfl, by decide, ?_⟩) |(refine ⟨rfl, rfl, rfl, ?_⟩) |(refine ⟨rfl, rfl, ?_⟩) |(refine And.intro (Nat.le_of_ble_eq_true rfl) ?_) |(refine And.intro (by kernel_rfl) ?_) |fail)
            refine SemC.weaker (Weaker.giveUp 0 (l := [(1, .sl (l.map eCount) false), (3, .pt (eStores s) 0), (5, .pt [I64 c.day, I64 c.kind, I64 c.amount.lo, I64 c.amount.hi, .fl (.int .u8 x), .fl (.int .u8 y)] 0), (7, .sl ((l ++ [c]).map eCount) false)]) (hp := [.gone]) rfl (Nat.zero_le _) (by show deepL (([] : List AV) ++ (l.map eCount).flatten ++ [eCount c].flatten) = true; exact deepL_append (counts_deep l) rfl)
              ⟨.same rfl, .same rfl, .same rfl, .row 4 (by show 0 + (0 + (l.map eCount).length + 1) * 4 ≤ (([] : List AV) ++ (l.map eCount).flatten ++ [eCount c].flatten).length; rw [List.nil_append, List.length_append, counts_flen, List.length_map]; show _ ≤ l.length * 4 + 4; omega) (by rw [List.length_map, List.length_append, List.length_map]; show l.length + 1 = 0 + l.length + 1; omega)
                (fun el hel => by obtain ⟨t, _, rfl⟩ := List.mem_map.1 hel; rfl) (by rw [List.drop_zero, List.take_of_length_le (by show (([] : List AV) ++ (l.map eCount).flatten ++ [eCount c].flatten).length ≤ _; rw [List.nil_append, List.length_append, counts_flen]; show l.length * 4 + 4 ≤ (0 + (l.map eCount).length + 1) * 4; rw [List.length_map]; omega), List.map_append, List.flatten_append]; rfl) (fun h => Bool.noConfusion h), trivial⟩ rfl rfl) ?_
            refine wpC_sound (mu := fun _ => false) ?_
            repeat' (first |(refine ⟨_, cv8 hx, rfl, ?_⟩) |(refine ⟨_, cv8 hy, rfl, ?_⟩) |with_reducible (first|refine RM.c1 ?_|refine RM.c2 ?_|refine RM.c4 ?_|refine RM.c5 ?_|refine RM.c9 ?_|refine RM.o1 ?_|refine RM.o2 ?_|refine RM.o3 ?_|refine RM.o4 ?_|refine RM.o5 ?_|refine RM.o7 ?_|refine RM.o9 ?_|refine RM.p1 ?_|refine RM.p2 ?_|refine RM.p3 ?_|refine RM.p5 ?_|refine RM.p6 ?_) |((with_reducible show force _ _);first|refine RM.f1 rfl ?_|refine RM.f2 rfl ?_|refine RM.f3 rfl ?_|refine RM.f4 rfl ?_|refine RM.f5 rfl ?_) |((with_reducible show wpOne _ _ _ _ _ _ _ _ _ _ _ _);refine RM.o8 rfl ?_) |((with_reducible show wpDOne _ _ _ _ _ _ _ _ _ _);refine RM.p9 rfl ?_) |((with_reducible show wpC _ _ _ _ (.cond _ _ _) _ _);refine RM.e3 rfl rfl ?_) |((with_reducible show wpBin _ _ _ _ _ _ _ _ _);first|refine RM.b5 rfl rfl ?_|refine RM.r1 rfl rfl (by omega) ?_) |((with_reducible show wpLen _ _ _ _ _);refine RM.l1 rfl ?_) |(refine ⟨_, rfl, ?_⟩) |(refine ⟨_, _, rfl, by decide, ?_⟩) |(refine And.intro (Nat.le_of_ble_eq_true rfl) ?_) |(refine And.intro (by kernel_rfl) ?_) |(refine PureV.call hcn rfl rfl ?_) |fail)
            rw [hki, hkd]
            repeat' (first |with_reducible (first|refine RM.c1 ?_|refine RM.c2 ?_|refine RM.c4 ?_|refine RM.c7 ?_|refine RM.c9 ?_|refine RM.o1 ?_|refine RM.o2 ?_|refine RM.o4 ?_|refine RM.o5 ?_|refine RM.o6 ?_|refine RM.o7 ?_|refine RM.o9 ?_|refine RM.p1 ?_|refine RM.p2 ?_|refine RM.p3 ?_|refine RM.p4 ?_|refine RM.p5 ?_) |((with_reducible show force _ _);first|refine RM.f1 rfl ?_|refine RM.f2 rfl ?_|refine RM.f4 rfl ?_|refine RM.f5 rfl ?_|refine RM.f6 rfl ?_|refine RM.f7 rfl ?_|refine RM.g2 rfl ?_) |((with_reducible show wpOne _ _ _ _ _ _ _ _ _ _ _ _);refine RM.o8 rfl ?_) |((with_reducible show wpGuard _ _ _ _ _);first|refine wpGuard_yes rfl rfl rfl ?_|refine wpGuard_no rfl rfl rfl ?_|refine wpGuard_skip rfl rfl ?_|refine wpGuard_yes rfl rfl (by assumption) ?_) |((with_reducible show wpC _ _ _ _ (.cond _ _ _) _ _);first|refine RM.e3 rfl rfl ?_|refine RM.e3 rfl (by assumption) ?_) |((with_reducible show wpPick _ _ _ _ _);refine RM.k1 rfl ?_) |((with_reducible show wpPickB _ _ _ _ _);first|refine RM.k2 rfl ?_|refine RM.k3 rfl ?_|refine RM.k2 (by assumption) ?_|refine RM.k3 (by assumption) ?_) |((with_reducible show wpBin _ _ _ _ _ _ _ _ _);first|refine RM.b4 rfl rfl ?_|refine RM.b5 rfl rfl ?_|refine RM.b6 rfl rfl ?_|refine RM.b7 rfl rfl ?_|refine RM.b8 rfl rfl ?_) |(refine ⟨_, rfl, ?_⟩) |(refine ⟨_, _, rfl, by decide, ?_⟩) |(refine ⟨_, _, rfl, _, rfl, ?_⟩) |(refine And.intro (Nat.le_of_ble_eq_true rfl) ?_) |(refine And.intro (by kernel_rfl) ?_) |(refine ⟨_, _, rfl, rfl, rfl, rfl, Nat.le_of_ble_eq_true rfl, ?_⟩) |(refine PureV.call hv1 rfl rfl ?_) |(refine PureV.call hv2 rfl rfl ?_) |(refine PureV.call haw rfl rfl ?_) |(refine PureV.call hl1 rfl rfl ?_) |(refine PureV.call hl2 rfl rfl ?_) |(refine PureV.call hc1 rfl rfl ?_) |(refine PureV.call hc2 rfl rfl ?_) |(refine PureV.call hd1 rfl rfl ?_) |(refine PureV.call hd2 rfl rfl ?_) |fail)
            exact ⟨[_], ⟨Fz.deep rfl, trivial⟩, rfl⟩
          · have g4 : decide (p1 ≤ p2) = true := decide_eq_true hd3
            refine PureV.body (fn := Try.f15) rfl rfl rfl rfl ?_
            refine RM.c2s (mu := fun _ => false) ?_
            repeat' (first |with_reducible (first|refine RM.c4 ?_|refine RM.c9 ?_|refine RM.o1 ?_|refine RM.o2 ?_|refine RM.o4 ?_|refine RM.o5 ?_|refine RM.p3 ?_) |((with_reducible show force _ _);first|refine RM.f1 rfl ?_|refine RM.f3 rfl ?_) |((with_reducible show wpOne _ _ _ _ _ _ _ _ _ _ _ _);refine RM.o8 rfl ?_) |(refine ⟨rfl, rfl, rfl, ?_⟩) |fail)
            have hb1 : (0 + (l.map eCount).length) * 32 ≤ 140737488355328 ∧ 0 + (l.map eCount).length ≤ 9223372036854775807 := by rw [List.length_map]; omega
            have hb2 : (0 + (l.map eCount).length + 1) * 32 ≤ 140737488355328 ∧ 0 + (l.map eCount).length + 1 ≤ 9223372036854775807 := by rw [List.length_map]; omega
            have hq1 : (([] : List AV) ++ (l.map eCount).flatten).length = (0 + (l.map eCount).length) * 4 := by rw [List.nil_append, counts_flen, List.length_map]; omega
            refine RM.c2s (mu := fun t => Nat.beq t 22) ?_
            repeat' (first |(refine RM.appG (cs := []) (n := 0) (c := 0) (els := l.map eCount) rfl rfl rfl rfl rfl (fun el hel => (by obtain ⟨t, _, rfl⟩ := List.mem_map.1 hel; rfl)) (counts_one l) rfl rfl (.inl rfl) hb1 (fun v c' hc' => ?_)) |(refine RM.appG (cs := [] ++ (l.map eCount).flatten) (n := 0 + (l.map eCount).length) (els := [eCount c]) rfl rfl rfl rfl rfl (fun el hel => by rw [List.mem_singleton.1 hel]; rfl) rfl rfl hq1 hc' hb2 (fun v9 c9 hc9 => ?_)) |with_reducible (first|refine RM.c5 ?_|refine RM.c9 ?_|refine RM.o3 ?_|refine RM.o4 ?_|refine RM.o5 ?_|refine RM.p2 ?_|refine RM.p3 ?_) |((with_reducible show force _ _);first|refine RM.f2 rfl ?_|refine RM.f3 rfl ?_|refine RM.f5 rfl ?_|refine RM.f8 rfl ?_) |((with_reducible show wpDOne _ _ _ _ _ _ _ _ _ _);refine RM.p9 rfl ?_) |(refine ⟨_, rfl, ?_⟩) |(refine ⟨_, _, rfl, by decide, ?_⟩) |(refine ⟨rfl, rfl, rfl, ?_⟩) |(refine ⟨rfl, rfl, ?_⟩) |(refine And.intro (Nat.le_of_ble_eq_true rfl) ?_) |(refine And.intro (by kernel_rfl) ?_) |fail)
            refine SemC.weaker (Weaker.giveUp 0 (l := [(1, .sl (l.map eCount) false), (3, .pt (eStores s) 0), (5, .pt [I64 c.day, I64 c.kind, I64 c.amount.lo, I64 c.amount.hi, .fl (.int .u8 x), .fl (.int .u8 y)] 0), (7, .sl ((l ++ [c]).map eCount) false)]) (hp := [.gone]) rfl (Nat.zero_le _) (by show deepL (([] : List AV) ++ (l.map eCount).flatten ++ [eCount c].flatten) = true; exact deepL_append (counts_deep l) rfl)
              ⟨.same rfl, .same rfl, .same rfl, .row 4 (by show 0 + (0 + (l.map eCount).length + 1) * 4 ≤ (([] : List AV) ++ (l.map eCount).flatten ++ [eCount c].flatten).length; rw [List.nil_append, List.length_append, counts_flen, List.length_map]; show _ ≤ l.length * 4 + 4; omega) (by rw [List.length_map, List.length_append, List.length_map]; show l.length + 1 = 0 + l.length + 1; omega)
                (fun el hel => by obtain ⟨t, _, rfl⟩ := List.mem_map.1 hel; rfl) (by rw [List.drop_zero, List.take_of_length_le (by show (([] : List AV) ++ (l.map eCount).flatten ++ [eCount c].flatten).length ≤ _; rw [List.nil_append, List.length_append, counts_flen]; show l.length * 4 + 4 ≤ (0 + (l.map eCount).length + 1) * 4; rw [List.length_map]; omega), List.map_append, List.flatten_append]; rfl) (fun h => Bool.noConfusion h), trivial⟩ rfl rfl) ?_
            refine wpC_sound (mu := fun _ => false) ?_
            repeat' (first |(refine ⟨_, cv8 hx, rfl, ?_⟩) |(refine ⟨_, cv8 hy, rfl, ?_⟩) |with_reducible (first|refine RM.c1 ?_|refine RM.c2 ?_|refine RM.c4 ?_|refine RM.c5 ?_|refine RM.c9 ?_|refine RM.o1 ?_|refine RM.o2 ?_|refine RM.o3 ?_|refine RM.o4 ?_|refine RM.o5 ?_|refine RM.o7 ?_|refine RM.o9 ?_|refine RM.p1 ?_|refine RM.p2 ?_|refine RM.p3 ?_|refine RM.p5 ?_|refine RM.p6 ?_) |((with_reducible show force _ _);first|refine RM.f1 rfl ?_|refine RM.f2 rfl ?_|refine RM.f3 rfl ?_|refine RM.f4 rfl ?_|refine RM.f5 rfl ?_) |((with_reducible show wpOne _ _ _ _ _ _ _ _ _ _ _ _);refine RM.o8 rfl ?_) |((with_reducible show wpDOne _ _ _ _ _ _ _ _ _ _);refine RM.p9 rfl ?_) |((with_reducible show wpC _ _ _ _ (.cond _ _ _) _ _);refine RM.e3 rfl rfl ?_) |((with_reducible show wpBin _ _ _ _ _ _ _ _ _);first|refine RM.b5 rfl rfl ?_|refine RM.r1 rfl rfl (by omega) ?_) |((with_reducible show wpLen _ _ _ _ _);refine RM.l1 rfl ?_) |(refine ⟨_, rfl, ?_⟩) |(refine ⟨_, _, rfl, by decide, ?_⟩) |(refine And.intro (Nat.le_of_ble_eq_true rfl) ?_) |(refine And.intro (by kernel_rfl) ?_) |(refine PureV.call hcn rfl rfl ?_) |fail)
            rw [hki, hkd]
            repeat' (first |with_reducible (first|refine RM.c1 ?_|refine RM.c2 ?_|refine RM.c4 ?_|refine RM.c7 ?_|refine RM.c9 ?_|refine RM.o1 ?_|refine RM.o2 ?_|refine RM.o4 ?_|refine RM.o5 ?_|refine RM.o6 ?_|refine RM.o7 ?_|refine RM.o9 ?_|refine RM.p1 ?_|refine RM.p2 ?_|refine RM.p3 ?_|refine RM.p4 ?_|refine RM.p5 ?_) |((with_reducible show force _ _);first|refine RM.f1 rfl ?_|refine RM.f2 rfl ?_|refine RM.f4 rfl ?_|refine RM.f5 rfl ?_|refine RM.f6 rfl ?_|refine RM.f7 rfl ?_|refine RM.g2 rfl ?_) |((with_reducible show wpOne _ _ _ _ _ _ _ _ _ _ _ _);refine RM.o8 rfl ?_) |((with_reducible show wpGuard _ _ _ _ _);first|refine wpGuard_yes rfl rfl rfl ?_|refine wpGuard_yes rfl rfl (by assumption) ?_) |((with_reducible show wpC _ _ _ _ (.cond _ _ _) _ _);first|refine RM.e3 rfl rfl ?_|refine RM.e3 rfl (by assumption) ?_) |((with_reducible show wpPick _ _ _ _ _);refine RM.k1 rfl ?_) |((with_reducible show wpPickB _ _ _ _ _);first|refine RM.k2 rfl ?_|refine RM.k3 rfl ?_|refine RM.k2 (by assumption) ?_|refine RM.k3 (by assumption) ?_) |((with_reducible show wpBin _ _ _ _ _ _ _ _ _);first|refine RM.b4 rfl rfl ?_|refine RM.b5 rfl rfl ?_|refine RM.b6 rfl rfl ?_|refine RM.b7 rfl rfl ?_|refine RM.b8 rfl rfl ?_|refine RM.b9 rfl rfl ?_) |(refine ⟨_, rfl, ?_⟩) |(refine ⟨_, _, rfl, by decide, ?_⟩) |(refine ⟨_, _, rfl, _, rfl, ?_⟩) |(refine And.intro (Nat.le_of_ble_eq_true rfl) ?_) |(refine And.intro (by kernel_rfl) ?_) |(refine ⟨_, _, rfl, rfl, rfl, rfl, Nat.le_of_ble_eq_true rfl, ?_⟩) |(refine PureV.call hv1 rfl rfl ?_) |(refine PureV.call hv2 rfl rfl ?_) |(refine PureV.call haw rfl rfl ?_) |(refine PureV.call hl1 rfl rfl ?_) |(refine PureV.call hl2 rfl rfl ?_) |(refine PureV.call hc1 rfl rfl ?_) |(refine PureV.call hc2 rfl rfl ?_) |(refine PureV.call hd1 rfl rfl ?_) |(refine PureV.call hd2 rfl rfl ?_) |fail)
            exact ⟨[_], ⟨Fz.deep rfl, trivial⟩, rfl⟩
  · have d1 : (!decide (cntsErr s (l ++ [c]) = 0)) = true := by simpa using hm
    refine PureV.body (fn := Try.f15) rfl rfl rfl rfl ?_
    refine RM.c2s (mu := fun _ => false) ?_
    repeat' (first |with_reducible (first|refine RM.c4 ?_|refine RM.c9 ?_|refine RM.o1 ?_|refine RM.o2 ?_|refine RM.o4 ?_|refine RM.o5 ?_|refine RM.p3 ?_) |((with_reducible show force _ _);first|refine RM.f1 rfl ?_|refine RM.f3 rfl ?_) |((with_reducible show wpOne _ _ _ _ _ _ _ _ _ _ _ _);refine RM.o8 rfl ?_) |(refine ⟨rfl, rfl, rfl, ?_⟩) |fail)
    have hb1 : (0 + (l.map eCount).length) * 32 ≤ 140737488355328 ∧ 0 + (l.map eCount).length ≤ 9223372036854775807 := by rw [List.length_map]; omega
    have hb2 : (0 + (l.map eCount).length + 1) * 32 ≤ 140737488355328 ∧ 0 + (l.map eCount).length + 1 ≤ 9223372036854775807 := by rw [List.length_map]; omega
    have hq1 : (([] : List AV) ++ (l.map eCount).flatten).length = (0 + (l.map eCount).length) * 4 := by rw [List.nil_append, counts_flen, List.length_map]; omega
    refine RM.c2s (mu := fun t => Nat.beq t 22) ?_
    repeat' (first |(refine RM.appG (cs := []) (n := 0) (c := 0) (els := l.map eCount) rfl rfl rfl rfl rfl (fun el hel => (by obtain ⟨t, _, rfl⟩ := List.mem_map.1 hel; rfl)) (counts_one l) rfl rfl (.inl rfl) hb1 (fun v c' hc' => ?_)) |(refine RM.appG (cs := [] ++ (l.map eCount).flatten) (n := 0 + (l.map eCount).length) (els := [eCount c]) rfl rfl rfl rfl rfl (fun el hel => by rw [List.mem_singleton.1 hel]; rfl) rfl rfl hq1 hc' hb2 (fun v9 c9 hc9 => ?_)) |with_reducible (first|refine RM.c5 ?_|refine RM.c9 ?_|refine RM.o3 ?_|refine RM.o4 ?_|refine RM.o5 ?_|refine RM.p2 ?_|refine RM.p3 ?_) |((with_reducible show force _ _);first|refine RM.f2 rfl ?_|refine RM.f3 rfl ?_|refine RM.f5 rfl ?_|refine RM.f8 rfl ?_) |((with_reducible show wpDOne _ _ _ _ _ _ _ _ _ _);refine RM.p9 rfl ?_) |(refine ⟨_, rfl, ?_⟩) |(refine ⟨_, _, rfl, by decide, ?_⟩) |(refine ⟨rfl, rfl, rfl, ?_⟩) |(refine ⟨rfl, rfl, ?_⟩) |(refine And.intro (Nat.le_of_ble_eq_true rfl) ?_) |(refine And.intro (by kernel_rfl) ?_) |fail)
    refine SemC.weaker (Weaker.giveUp 0 (l := [(1, .sl (l.map eCount) false), (3, .pt (eStores s) 0), (5, .pt [I64 c.day, I64 c.kind, I64 c.amount.lo, I64 c.amount.hi, .fl (.int .u8 x), .fl (.int .u8 y)] 0), (7, .sl ((l ++ [c]).map eCount) false)]) (hp := [.gone]) rfl (Nat.zero_le _) (by show deepL (([] : List AV) ++ (l.map eCount).flatten ++ [eCount c].flatten) = true; exact deepL_append (counts_deep l) rfl)
      ⟨.same rfl, .same rfl, .same rfl, .row 4 (by show 0 + (0 + (l.map eCount).length + 1) * 4 ≤ (([] : List AV) ++ (l.map eCount).flatten ++ [eCount c].flatten).length; rw [List.nil_append, List.length_append, counts_flen, List.length_map]; show _ ≤ l.length * 4 + 4; omega) (by rw [List.length_map, List.length_append, List.length_map]; show l.length + 1 = 0 + l.length + 1; omega)
        (fun el hel => by obtain ⟨t, _, rfl⟩ := List.mem_map.1 hel; rfl) (by rw [List.drop_zero, List.take_of_length_le (by show (([] : List AV) ++ (l.map eCount).flatten ++ [eCount c].flatten).length ≤ _; rw [List.nil_append, List.length_append, counts_flen]; show l.length * 4 + 4 ≤ (0 + (l.map eCount).length + 1) * 4; rw [List.length_map]; omega), List.map_append, List.flatten_append]; rfl) (fun h => Bool.noConfusion h), trivial⟩ rfl rfl) ?_
    refine wpC_sound (mu := fun _ => false) ?_
    repeat' (first |with_reducible (first|refine RM.c2 ?_|refine RM.c4 ?_|refine RM.c7 ?_|refine RM.c9 ?_|refine RM.d1 ?_|refine RM.o1 ?_|refine RM.o2 ?_|refine RM.o4 ?_|refine RM.o5 ?_|refine RM.o7 ?_|refine RM.o9 ?_|refine RM.p1 ?_|refine RM.p2 ?_|refine RM.p3 ?_|refine RM.p5 ?_) |((with_reducible show force _ _);first|refine RM.f1 rfl ?_|refine RM.f2 rfl ?_|refine RM.f4 rfl ?_|refine RM.f5 rfl ?_) |((with_reducible show wpOne _ _ _ _ _ _ _ _ _ _ _ _);refine RM.o8 rfl ?_) |((with_reducible show wpC _ _ _ _ (.cond _ _ _) _ _);refine RM.e2 rfl (by assumption) ?_) |((with_reducible show wpBin _ _ _ _ _ _ _ _ _);refine RM.b5 rfl rfl ?_) |(refine And.intro (Nat.le_of_ble_eq_true rfl) ?_) |(refine PureV.call hcn rfl rfl ?_) |(refine PureV.call haw rfl rfl ?_) |fail)
    exact ⟨[_], ⟨Fz.deep rfl, trivial⟩, rfl⟩
end Go.Proofs.Ytmkaeohmdcoanaa
namespace Go.Proofs.Ytmkaeohmdcoanaa
open Go.RM
set_option maxRecDepth 1000000
noncomputable def tabA : List XE := [x_a1, x_a2, x_a3, x_a4, x_a5, x_a6, x_a7, x_a8]
theorem xs_tabA : ∀ e ∈ tabA, XSound TT e := by
  unfold tabA
  simp only [List.mem_cons, List.not_mem_nil, or_false]
  rintro e (rfl | rfl | rfl | rfl | rfl | rfl | rfl | rfl)
  · exact xs_a1
  · exact xs_a2
  · exact xs_a3
  · exact xs_a4
  · exact xs_a5
  · exact xs_a6
  · exact xs_a7
  · exact xs_a8
theorem xs_aw : XSound TT x_aw := xe_add tt_ok tt_mixed xs_tabA 1000 (by kernel_rfl)
theorem xs_TB : ∀ e ∈ TB, XSound TT e := fun e he => by
  obtain rfl := List.mem_singleton.1 he
  exact xs_aw
end Go.Proofs.Ytmkaeohmdcoanaa
open Go Go.RM
namespace Go.Proofs.Ytmkaeohmdcoanaa
open Go.ChangeShapes Go.WideShapes Go.ChangeAt Go.RowKit
theorem try_own : ownKnob Try.prog.godebug = none := by kernel_rfl
theorem try_laid : laidOutB Try.prog = true := by kernel_rfl
theorem wf8 {n : Int} (h : (Lit.int .u8 n).wf = true) : 0 ≤ n ∧ n ≤ 255 := by
  simp only [Lit.wf, Bool.and_eq_true, decide_eq_true_eq] at h
  exact h
abbrev sh8 : Sh := .int .u8
theorem tv8 {l : List AV} (h : TV sh8 l) : ∃ n, (0 ≤ n ∧ n ≤ 255) ∧ l = [.fl (.int .u8 n)] := by
  obtain ⟨n, hn, rfl⟩ := tvK h
  exact ⟨n, wf8 hn, rfl⟩
end Go.Proofs.Ytmkaeohmdcoanaa
open Go Go.RM
namespace Go.Proofs.Ytmkaeohmdcoanaa
abbrev shFurther : Sh := .cons shCount (.cons sh8 (.cons sh8 .nil))
theorem tvFurther {l : List AV} (h : TV shFurther l) : ∃ (c : Count) (x y : Int), ((0 ≤ x ∧ x ≤ 255) ∧ (0 ≤ y ∧ y ≤ 255)) ∧ l = eCount c ++ [.fl (.int .u8 x), .fl (.int .u8 y)] := by
  obtain ⟨_, _, h1, k1, rfl⟩ := tvC h
  obtain ⟨_, _, h2, k2, rfl⟩ := tvC k1
  obtain ⟨_, _, h3, k3, rfl⟩ := tvC k2
  obtain rfl := tvN k3
  obtain ⟨c, rfl⟩ := tvCount h1
  obtain ⟨x, hx, rfl⟩ := tv8 h2
  obtain ⟨y, hy, rfl⟩ := tv8 h3
  exact ⟨c, x, y, ⟨hx, hy⟩, rfl⟩
end Go.Proofs.Ytmkaeohmdcoanaa
