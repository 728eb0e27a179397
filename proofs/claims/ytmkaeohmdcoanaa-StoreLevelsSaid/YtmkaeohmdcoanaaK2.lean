/-
  Contracts of the program's functions and of the document's. Lemmas alone; their conditions stand in them.
-/
import Derived.Test.YtmkaeohmdcoanaaA2
import Derived.Test.YtmkaeohmdcoanaaX1
import Derived.Test.YtmkaeohmdcoanaaK1
import Derived.Laws.StructEq
import Derived.Test.YtmkaeohmdcoanaaRows
open Go Go.RM
namespace Go.Proofs.Ytmkaeohmdcoanaa
set_option maxRecDepth 100000
set_option maxHeartbeats 4000000

/-! ### Counts, and the hold of a kind -/

def cntErr (s : Stores) (c : Count) : Int :=
  if outB 0 ((s.kinds.length : Int) - 1) [c.kind] then 4
  else if outB 0 (s.men.length : Int) [c.day] || outB 0 600 [c.amount.lo, c.amount.hi] then 7
  else if decide (c.amount.hi < c.amount.lo) then 2 else 0
def cntE (s : Stores) (l : List Count) (i : Nat) : Int := match l[i]? with | some c => cntErr s c | none => 0
def cntsErr (s : Stores) (l : List Count) : Int :=
  if (chk s).2.2 ≠ 0 then (chk s).2.2 else if 8 < (l.length : Int) then 3 else (firstN l.length (cntE s l)).2

theorem counted1_c (s : Stores) (i : Int) (c : Count) (hk : s.kinds.length ≤ maxLen) (one : Bool) : PureV TT TB one (.fn 108 [] [.pt (eStores s) 0]) [I64 i, .ag (eCount c)] (I64 (cntErr s c)) := by
  unfold maxLen at hk
  unfold cntErr
  have e1 : ((s.kinds.map eKind).length : Int) = s.kinds.length := by simp
  have e2 : ((s.men.map eI).length : Int) = s.men.length := by simp
  refine PureV.body (fn := Try.f108) rfl rfl rfl rfl ?_
  refine wpC_sound (mu := fun _ => false) ?_
  repeat' (first |with_reducible (first|refine RM.c1 ?_|refine RM.c2 ?_|refine RM.c3 ?_|refine RM.c4 ?_|refine RM.c7 ?_|refine RM.c9 ?_|refine RM.d1 ?_|refine RM.d3 ?_|refine RM.d4 ?_|refine RM.o1 ?_|refine RM.o2 ?_|refine RM.o4 ?_|refine RM.o5 ?_|refine RM.o7 ?_|refine RM.o9 ?_|refine RM.p1 ?_|refine RM.p2 ?_|refine RM.p3 ?_|refine RM.p4 ?_|refine RM.p5 ?_|refine RM.p6 ?_) |((with_reducible show force _ _);first|refine RM.f1 rfl ?_|refine RM.f2 rfl ?_|refine RM.f3 rfl ?_|refine RM.f4 rfl ?_) |((with_reducible show wpOne _ _ _ _ _ _ _ _ _ _ _ _);refine RM.o8 rfl ?_) |((with_reducible show wpGuard _ _ _ _ _);first|refine wpGuard_yes rfl rfl (by assumption) ?_|refine wpGuard_no rfl rfl (by assumption) ?_) |((with_reducible show wpC _ _ _ _ (.cond _ _ _) _ _);refine RM.e2 rfl rfl ?_) |((with_reducible show wpPick _ _ _ _ _);refine RM.k1 rfl ?_) |((with_reducible show wpPickB _ _ _ _ _);first|refine RM.k2 (by assumption) ?_|refine RM.k3 (by assumption) ?_) |((with_reducible show wpBin _ _ _ _ _ _ _ _ _);first|refine RM.b8 rfl rfl ?_|refine RM.b2 rfl rfl (by omega) ?_) |((with_reducible show wpLen _ _ _ _ _);refine RM.l1 rfl ?_) |(refine ⟨_, rfl, ?_⟩) |(refine ⟨_, _, rfl, by decide, ?_⟩) |(refine ⟨rfl, rfl, rfl, ?_⟩) |(refine ⟨rfl, rfl, ?_⟩) |(refine PureV.call (outside_c one _ _ _ _ rfl (Nat.le_of_ble_eq_true rfl)) rfl rfl ?_) |((with_reducible show wpGuard _ _ _ _ _);refine wpGuard_split rfl rfl (fun h => ?_) (fun h => ?_)) |((with_reducible show wpC _ _ _ _ (.cond _ _ _) _ _);refine RM.e1 rfl ⟨fun h => ?_, fun h => ?_⟩) |fail)
  all_goals refine ⟨[_], ⟨Fz.deep rfl, trivial⟩, i64c ?_⟩
  all_goals simp_all [cells_fl, unI_fl]

theorem counted_c (one : Bool) (s : Stores) (h : s.Ok) (l : List Count) (hl : l.length ≤ maxLen) : Pu one 77 [.ag (eStores s), .sl (l.map eCount) false] (I64 (cntsErr s l)) := by
  have hc := check_c s h one
  have c3 := first107_c one 108 [] [.pt (eStores s) 0] rfl (cntE s l) l false hl (fun i hi => by
    unfold cntE
    simp only [List.getElem?_eq_getElem hi]
    exact counted1_c s i _ h.kinds one)
  have el : ((l.map eCount).length : Int) = l.length := by simp
  unfold cntsErr
  generalize chk s = c at hc ⊢
  generalize firstN l.length (cntE s l) = r at c3 ⊢
  by_cases h1 : c.2.2 = 0
  · rw [h1] at hc
    rw [if_neg (by simpa using h1)]
    by_cases h2 : 8 < (l.length : Int)
    · have d2 : decide ((8 : Int) < ((l.map eCount).length : Int)) = true := by rw [el]; exact decide_eq_true h2
      rw [if_pos h2]
      refine PureV.body (fn := Try.f77) rfl rfl rfl rfl ?_
      refine wpC_sound (mu := fun _ => false) ?_
      repeat' (first |with_reducible (first|refine RM.c1 ?_|refine RM.c2 ?_|refine RM.c4 ?_|refine RM.c7 ?_|refine RM.c9 ?_|refine RM.d1 ?_|refine RM.o1 ?_|refine RM.o2 ?_|refine RM.o4 ?_|refine RM.o5 ?_|refine RM.o7 ?_|refine RM.o9 ?_|refine RM.p1 ?_|refine RM.p2 ?_|refine RM.p3 ?_|refine RM.p5 ?_|refine RM.p6 ?_) |((with_reducible show force _ _);first|refine RM.f1 rfl ?_|refine RM.f2 rfl ?_|refine RM.f3 rfl ?_|refine RM.f4 rfl ?_|refine RM.f5 rfl ?_|refine RM.f6 rfl ?_) |((with_reducible show wpOne _ _ _ _ _ _ _ _ _ _ _ _);refine RM.o8 rfl ?_) |((with_reducible show wpC _ _ _ _ (.cond _ _ _) _ _);first|refine RM.e3 rfl rfl ?_|refine RM.e2 rfl (by assumption) ?_) |((with_reducible show wpBin _ _ _ _ _ _ _ _ _);first|refine RM.b5 rfl rfl ?_|refine RM.b8 rfl rfl ?_) |((with_reducible show wpLen _ _ _ _ _);refine RM.l1 rfl ?_) |(refine ⟨_, rfl, ?_⟩) |(refine ⟨rfl, rfl, rfl, ?_⟩) |(refine And.intro (Nat.le_of_ble_eq_true rfl) ?_) |(refine PureV.call hc rfl rfl ?_) |fail)
      exact ⟨[_], ⟨Fz.deep rfl, trivial⟩, rfl⟩
    · have d2 : decide ((8 : Int) < ((l.map eCount).length : Int)) = false := by rw [el]; exact decide_eq_false h2
      rw [if_neg h2]
      refine PureV.body (fn := Try.f77) rfl rfl rfl rfl ?_
      refine wpC_sound (mu := fun _ => false) ?_
      repeat' (first |with_reducible (first|refine RM.c1 ?_|refine RM.c2 ?_|refine RM.c4 ?_|refine RM.c7 ?_|refine RM.c9 ?_|refine RM.o1 ?_|refine RM.o2 ?_|refine RM.o4 ?_|refine RM.o5 ?_|refine RM.o7 ?_|refine RM.o9 ?_|refine RM.p1 ?_|refine RM.p2 ?_|refine RM.p3 ?_|refine RM.p5 ?_|refine RM.p6 ?_|refine RM.p7 ?_) |((with_reducible show force _ _);first|refine RM.f1 rfl ?_|refine RM.f2 rfl ?_|refine RM.f3 rfl ?_|refine RM.f4 rfl ?_|refine RM.f5 rfl ?_|refine RM.f6 rfl ?_) |((with_reducible show wpOne _ _ _ _ _ _ _ _ _ _ _ _);refine RM.o8 rfl ?_) |((with_reducible show wpC _ _ _ _ (.cond _ _ _) _ _);first|refine RM.e3 rfl rfl ?_|refine RM.e3 rfl (by assumption) ?_) |((with_reducible show wpBin _ _ _ _ _ _ _ _ _);first|refine RM.b5 rfl rfl ?_|refine RM.b8 rfl rfl ?_) |((with_reducible show wpLen _ _ _ _ _);refine RM.l1 rfl ?_) |(refine ⟨_, rfl, ?_⟩) |(refine ⟨rfl, rfl, rfl, ?_⟩) |(refine And.intro (Nat.le_of_ble_eq_true rfl) ?_) |(refine PureV.call hc rfl rfl ?_) |(refine PureV.call c3 rfl rfl ?_) |fail)
      exact ⟨[_], ⟨Fz.deep rfl, trivial⟩, rfl⟩
  · have d1 : (!decide (c.2.2 = 0)) = true := by simpa using h1
    rw [if_pos h1]
    refine PureV.body (fn := Try.f77) rfl rfl rfl rfl ?_
    refine wpC_sound (mu := fun _ => false) ?_
    repeat' (first |with_reducible (first|refine RM.c2 ?_|refine RM.c4 ?_|refine RM.c7 ?_|refine RM.c9 ?_|refine RM.d1 ?_|refine RM.o1 ?_|refine RM.o2 ?_|refine RM.o4 ?_|refine RM.o5 ?_|refine RM.o7 ?_|refine RM.o9 ?_|refine RM.p1 ?_|refine RM.p2 ?_|refine RM.p3 ?_|refine RM.p5 ?_) |((with_reducible show force _ _);first|refine RM.f1 rfl ?_|refine RM.f3 rfl ?_|refine RM.f4 rfl ?_|refine RM.f5 rfl ?_|refine RM.f6 rfl ?_) |((with_reducible show wpOne _ _ _ _ _ _ _ _ _ _ _ _);refine RM.o8 rfl ?_) |((with_reducible show wpC _ _ _ _ (.cond _ _ _) _ _);refine RM.e2 rfl (by assumption) ?_) |((with_reducible show wpBin _ _ _ _ _ _ _ _ _);refine RM.b5 rfl rfl ?_) |(refine ⟨_, rfl, ?_⟩) |(refine ⟨rfl, rfl, rfl, ?_⟩) |(refine And.intro (Nat.le_of_ble_eq_true rfl) ?_) |(refine PureV.call hc rfl rfl ?_) |fail)
    exact ⟨[_], ⟨Fz.deep rfl, trivial⟩, rfl⟩

theorem cnts_good {s : Stores} {l : List Count} (h : cntsErr s l = 0) : Good s ∧ l.length ≤ 8 ∧ ∀ c ∈ l, (0 ≤ c.kind ∧ c.kind < s.kinds.length) ∧ (0 ≤ c.day ∧ c.day ≤ s.men.length) ∧ (0 ≤ c.amount.lo ∧ c.amount.lo ≤ c.amount.hi ∧ c.amount.hi ≤ 600) := by
  unfold cntsErr at h
  by_cases h1 : (chk s).2.2 = 0
  · rw [if_neg (by simpa using h1)] at h
    by_cases h2 : 8 < (l.length : Int)
    · rw [if_pos h2] at h; exact absurd h (by decide)
    · rw [if_neg h2] at h
      refine ⟨chk_good h1, by omega, fun c hc => ?_⟩
      obtain ⟨i, hi, rfl⟩ := List.getElem_of_mem hc
      have := firstN_zero h i hi
      unfold cntE at this
      simp only [List.getElem?_eq_getElem hi] at this
      unfold cntErr at this
      split at this
      · exact absurd this (by decide)
      · rename_i h4
        split at this
        · exact absurd this (by decide)
        · rename_i h7
          split at this
          · exact absurd this (by decide)
          · rename_i h3
            simp only [Bool.not_eq_true, Bool.or_eq_false_iff, outB_false, decide_eq_false_iff_not, List.mem_cons, List.not_mem_nil, or_false, forall_eq_or_imp, forall_eq] at h4 h7 h3
            omega
  · rw [if_pos h1] at h; exact absurd h h1

def askErr (s : Stores) (l : List Count) (kd : Int) : Int := if cntsErr s l ≠ 0 then cntsErr s l else if inB kd 0 ((s.kinds.length : Int) - 1) = false then 4 else 0

def cntsOf (l : List Count) (i : Nat) : List Count := l.filter (fun c => decide (c.kind = (i : Int)))

theorem holdOk {s : Stores} {l : List Count} (h : cntsErr s l = 0) {i : Nat} (hi : i < s.kinds.length) : HoldOk s s.kinds[i] (cargoRow i s.cargos) (cntsOf l i) := by
  obtain ⟨hg, hl, hc⟩ := cnts_good h
  refine ⟨hg, hg.kinds _ (List.getElem_mem hi), hg.row i, fun c hx => ?_, ?_⟩
  · exact (hc c ((List.mem_filter.1 hx).1)).2.1
  · have := List.length_filter_le (fun c => decide (c.kind = (i : Int))) l
    unfold cntsOf
    omega

theorem enter_ok (one : Bool) (s : Stores) (h : s.Ok) (l : List Count) (h0 : cntsErr s l = 0) (i : Nat) (hi : i < s.kinds.length) :
    Pu one 63 [.ag (eStores s), .sl (l.map eCount) false, I64 i] (.tp [.ag (eHoldV s s.kinds[i] (cargoRow i s.cargos) (.sl ((cntsOf l i).map eCount) false)), I64 0]) := by
  obtain ⟨hg, hl, hc⟩ := cnts_good h0
  have hh := holdOk h0 hi
  have h30 := hh.row.len
  have h8 := sizes_ok hg.sizes
  have hcn := counted_c one s h l (by unfold maxLen; omega)
  rw [h0] at hcn
  have ek : ((s.kinds.map eKind).length : Int) = s.kinds.length := by simp
  have hop := open_c one s l false i hi (fun c hc => by have := hg.cargos c hc; omega) h8.2.2 (by omega)
  have hou := outside_c one 0 (((s.kinds.map eKind).length : Int) - 1) [eI i] true rfl (Nat.le_of_ble_eq_true rfl)
  rw [show outB 0 (((s.kinds.map eKind).length : Int) - 1) ([eI (i : Int)].map unI) = false by rw [ek]; show outB 0 ((s.kinds.length : Int) - 1) [(i : Int)] = false; rw [outB_one, inB_iff.2 (by omega)]; rfl] at hou
  refine PureV.body (fn := Try.f63) rfl rfl rfl (hdeep rfl) ?_
  refine wpC_sound (mu := fun _ => false) ?_
  repeat' (first |(refine ⟨_, _, rfl, rfl, holdd_one, hold_len h30, Nat.le_of_ble_eq_true rfl, ?_⟩) |with_reducible (first|refine RM.c1 ?_|refine RM.c2 ?_|refine RM.c4 ?_|refine RM.c7 ?_|refine RM.c9 ?_|refine RM.o1 ?_|refine RM.o2 ?_|refine RM.o4 ?_|refine RM.o5 ?_|refine RM.o6 ?_|refine RM.o7 ?_|refine RM.o9 ?_|refine RM.p1 ?_|refine RM.p2 ?_|refine RM.p3 ?_|refine RM.p5 ?_|refine RM.p6 ?_) |((with_reducible show force _ _);first|refine RM.f1 rfl ?_|refine RM.f2 rfl ?_|refine RM.f3 rfl ?_|refine RM.f4 rfl ?_|refine RM.f5 rfl ?_|refine RM.f7 rfl ?_|refine RM.g2 rfl ?_) |((with_reducible show wpOne _ _ _ _ _ _ _ _ _ _ _ _);refine RM.o8 rfl ?_) |((with_reducible show wpC _ _ _ _ (.cond _ _ _) _ _);refine RM.e3 rfl rfl ?_) |((with_reducible show wpBin _ _ _ _ _ _ _ _ _);first|refine RM.b5 rfl rfl ?_|refine RM.b2 rfl rfl (by omega) ?_) |((with_reducible show wpLen _ _ _ _ _);refine RM.l1 rfl ?_) |(refine ⟨_, rfl, ?_⟩) |(refine ⟨_, _, rfl, by decide, ?_⟩) |(refine ⟨rfl, rfl, rfl, ?_⟩) |(refine ⟨rfl, rfl, ?_⟩) |(refine And.intro (Nat.le_of_ble_eq_true rfl) ?_) |(refine And.intro (by kernel_rfl) ?_) |(refine PureV.call hcn rfl rfl ?_) |(refine PureV.call hou rfl rfl ?_) |(refine PureV.call hop rfl rfl ?_) |fail)
  rw [hold_over h30 (by rfl)]
  repeat' (first |(refine ⟨_, _, rfl, (by rw [hold_len h30]; exact Nat.le_refl _), ?_⟩) |fail)
  rw [hold_all h30]
  exact ⟨[_, _], ⟨Fz.deep (eHold_deep (c := .sl _ false) rfl), Fz.deep rfl, trivial⟩, rfl⟩

theorem enter_err (one : Bool) (s : Stores) (h : s.Ok) (l : List Count) (hl : l.length ≤ maxLen) (kd : Int) (he : askErr s l kd ≠ 0) : Pu one 63 [.ag (eStores s), .sl (l.map eCount) false, I64 kd] (.tp [.ag z109, I64 (askErr s l kd)]) := by
  have hcn := counted_c one s h l hl
  have ek : ((s.kinds.map eKind).length : Int) = s.kinds.length := by simp
  have hk := h.kinds
  unfold maxLen at hk
  unfold askErr at he ⊢
  by_cases h1 : cntsErr s l = 0
  · rw [if_neg (by simpa using h1)] at he ⊢
    have h2 : inB kd 0 ((s.kinds.length : Int) - 1) = false := by
      cases hb : inB kd 0 ((s.kinds.length : Int) - 1) with
      | false => rfl
      | true => rw [hb] at he; exact absurd rfl he
    rw [if_pos h2]
    rw [h1] at hcn
    have hou := outside_c one 0 (((s.kinds.map eKind).length : Int) - 1) [eI kd] true rfl (Nat.le_of_ble_eq_true rfl)
    rw [show outB 0 (((s.kinds.map eKind).length : Int) - 1) ([eI kd].map unI) = true by rw [ek]; show outB 0 ((s.kinds.length : Int) - 1) [kd] = true; rw [outB_one, h2]; rfl] at hou
    refine PureV.body (fn := Try.f63) rfl rfl rfl rfl ?_
    refine wpC_sound (mu := fun _ => false) ?_
    repeat' (first |with_reducible (first|refine RM.c1 ?_|refine RM.c2 ?_|refine RM.c4 ?_|refine RM.c7 ?_|refine RM.c9 ?_|refine RM.d1 ?_|refine RM.o1 ?_|refine RM.o2 ?_|refine RM.o4 ?_|refine RM.o5 ?_|refine RM.o6 ?_|refine RM.o7 ?_|refine RM.o9 ?_|refine RM.p1 ?_|refine RM.p2 ?_|refine RM.p3 ?_|refine RM.p5 ?_|refine RM.p6 ?_) |((with_reducible show force _ _);first|refine RM.f1 rfl ?_|refine RM.f2 rfl ?_|refine RM.f3 rfl ?_|refine RM.f4 rfl ?_|refine RM.f5 rfl ?_|refine RM.f7 rfl ?_|refine RM.g2 rfl ?_) |((with_reducible show wpOne _ _ _ _ _ _ _ _ _ _ _ _);refine RM.o8 rfl ?_) |((with_reducible show wpC _ _ _ _ (.cond _ _ _) _ _);first|refine RM.e2 rfl rfl ?_|refine RM.e3 rfl rfl ?_) |((with_reducible show wpBin _ _ _ _ _ _ _ _ _);first|refine RM.b5 rfl rfl ?_|refine RM.b2 rfl rfl (by omega) ?_) |((with_reducible show wpLen _ _ _ _ _);refine RM.l1 rfl ?_) |(refine ⟨_, rfl, ?_⟩) |(refine ⟨_, _, rfl, by decide, ?_⟩) |(refine ⟨rfl, rfl, rfl, ?_⟩) |(refine ⟨rfl, rfl, ?_⟩) |(refine And.intro (Nat.le_of_ble_eq_true rfl) ?_) |(refine And.intro (by kernel_rfl) ?_) |(refine PureV.call hcn rfl rfl ?_) |(refine PureV.call hou rfl rfl ?_) |fail)
    exact ⟨[_, _], ⟨Fz.deep rfl, Fz.deep rfl, trivial⟩, rfl⟩
  · rw [if_pos h1]
    have d1 : (!decide (cntsErr s l = 0)) = true := by simpa using h1
    refine PureV.body (fn := Try.f63) rfl rfl rfl rfl ?_
    refine wpC_sound (mu := fun _ => false) ?_
    repeat' (first |with_reducible (first|refine RM.c2 ?_|refine RM.c4 ?_|refine RM.c7 ?_|refine RM.c9 ?_|refine RM.d1 ?_|refine RM.o1 ?_|refine RM.o2 ?_|refine RM.o4 ?_|refine RM.o5 ?_|refine RM.o6 ?_|refine RM.o7 ?_|refine RM.o9 ?_|refine RM.p1 ?_|refine RM.p2 ?_|refine RM.p3 ?_|refine RM.p5 ?_) |((with_reducible show force _ _);first|refine RM.f1 rfl ?_|refine RM.f2 rfl ?_|refine RM.f3 rfl ?_|refine RM.f4 rfl ?_|refine RM.f5 rfl ?_|refine RM.f7 rfl ?_|refine RM.g2 rfl ?_) |((with_reducible show wpOne _ _ _ _ _ _ _ _ _ _ _ _);refine RM.o8 rfl ?_) |((with_reducible show wpC _ _ _ _ (.cond _ _ _) _ _);refine RM.e2 rfl (by assumption) ?_) |((with_reducible show wpBin _ _ _ _ _ _ _ _ _);refine RM.b5 rfl rfl ?_) |(refine ⟨_, _, rfl, by decide, ?_⟩) |(refine ⟨rfl, rfl, rfl, ?_⟩) |(refine ⟨rfl, rfl, ?_⟩) |(refine And.intro (Nat.le_of_ble_eq_true rfl) ?_) |(refine And.intro (by kernel_rfl) ?_) |(refine PureV.call hcn rfl rfl ?_) |fail)
    exact ⟨[_, _], ⟨Fz.deep rfl, Fz.deep rfl, trivial⟩, rfl⟩
end Go.Proofs.Ytmkaeohmdcoanaa
open Go Go.RM
namespace Go.Proofs.Ytmkaeohmdcoanaa
set_option maxRecDepth 100000
set_option maxHeartbeats 4000000

/-! ### The document's side: counts, truths -/

theorem cntErr_eq (s : Stores) (c : Count) : cntErr s c = if inB c.kind 0 ((s.kinds.length : Int) - 1) = false then 4 else if inB c.day 0 s.men.length = false then 7 else rangeErr 0 600 c.amount := by
  unfold cntErr rangeErr
  rw [outB_one, outB_one, outB_cons, outB_cons, outB_nil, Bool.or_false]
  cases inB c.kind 0 ((s.kinds.length : Int) - 1) <;> cases inB c.day 0 s.men.length <;> cases inB c.amount.lo 0 600 <;> cases inB c.amount.hi 0 600 <;> simp

theorem rcounts_c (one : Bool) (s : Stores) (h : s.Ok) (l : List Count) (hl : l.length ≤ maxLen) : Pu one 43 [.ag (eStores s), .sl (l.map eCount) false] (I64 (cntsErr s l)) := by
  have hc := rcheck_c s h one
  have el : ((l.map eCount).length : Int) = l.length := by simp
  have em : ((s.men.map eI).length : Int) = s.men.length := by simp
  have ek : ((s.kinds.map eKind).length : Int) = s.kinds.length := by simp
  have hk := h.kinds
  unfold maxLen at hk hl
  by_cases h1 : (chk s).2.2 = 0
  · rw [h1] at hc
    by_cases h2 : 8 < (l.length : Int)
    · have hv : cntsErr s l = 3 := by unfold cntsErr; rw [if_neg (by simpa using h1), if_pos h2]
      rw [hv]
      have d2 : decide ((8 : Int) < ((l.map eCount).length : Int)) = true := by rw [el]; exact decide_eq_true h2
      refine PureV.body (fn := Try.f43) rfl rfl rfl rfl ?_
      refine wpC_sound (mu := fun _ => false) ?_
      repeat' (first |with_reducible (first|refine RM.c2 ?_|refine RM.c3 ?_|refine RM.c4 ?_|refine RM.c9 ?_|refine RM.o1 ?_|refine RM.o2 ?_|refine RM.o4 ?_|refine RM.o5 ?_|refine RM.o7 ?_|refine RM.o9 ?_|refine RM.p1 ?_|refine RM.p2 ?_|refine RM.p3 ?_|refine RM.p4 ?_|refine RM.p5 ?_|refine RM.p6 ?_) |((with_reducible show force _ _);first|refine RM.f1 rfl ?_|refine RM.f2 rfl ?_|refine RM.f3 rfl ?_|refine RM.f4 rfl ?_|refine RM.f5 rfl ?_|refine RM.f6 rfl ?_) |((with_reducible show wpOne _ _ _ _ _ _ _ _ _ _ _ _);refine RM.o8 rfl ?_) |((with_reducible show wpGuard _ _ _ _ _);refine wpGuard_yes rfl rfl rfl ?_) |((with_reducible show wpC _ _ _ _ (.cond _ _ _) _ _);refine RM.e2 rfl (by assumption) ?_) |((with_reducible show wpPick _ _ _ _ _);refine RM.k1 rfl ?_) |((with_reducible show wpPickB _ _ _ _ _);refine RM.k2 rfl ?_) |((with_reducible show wpBin _ _ _ _ _ _ _ _ _);first|refine RM.b4 rfl rfl ?_|refine RM.b8 rfl rfl ?_) |((with_reducible show wpLen _ _ _ _ _);refine RM.l1 rfl ?_) |(refine ⟨_, rfl, ?_⟩) |(refine ⟨rfl, rfl, rfl, ?_⟩) |(refine And.intro (Nat.le_of_ble_eq_true rfl) ?_) |(refine PureV.call hc rfl rfl ?_) |fail)
      refine SemC.weaker (Weaker.to (l := [(1, .sl (l.map eCount) false), (2, .pt (eStores s) 0), (7, I64 3), (8, I64 0)]) 0 rfl ⟨rfl, rfl, rfl, rfl, trivial⟩ (Nat.le_refl _) rfl rfl) ?_
      refine SemC.loop (fun _ : Unit => True) (fun _ => ⟨mkFr [(1, .sl (l.map eCount) false), (2, .pt (eStores s) 0), (7, I64 3), (8, I64 0)], [], Amb.none, false, 0⟩) (fun _ => 0) ?_ () trivial
      intro _ _
      refine wpC_sound (mu := fun _ => false) ?_
      have d3 : decide ((0 : Int) < ((l.map eCount).length : Int)) = true := by rw [el]; exact decide_eq_true (by omega)
      repeat' (first |with_reducible (first|refine RM.c2 ?_|refine RM.c4 ?_|refine RM.c6 ?_|refine RM.c7 ?_|refine RM.c9 ?_|refine RM.d2 ?_|refine RM.o1 ?_|refine RM.o2 ?_|refine RM.o4 ?_|refine RM.o5 ?_|refine RM.p2 ?_|refine RM.p3 ?_|refine RM.p4 ?_|refine RM.p5 ?_|refine RM.p6 ?_|refine RM.q2 ?_) |((with_reducible show force _ _);first|refine RM.f1 rfl ?_|refine RM.f2 rfl ?_) |((with_reducible show wpOne _ _ _ _ _ _ _ _ _ _ _ _);refine RM.o8 rfl ?_) |((with_reducible show wpGuard _ _ _ _ _);refine wpGuard_yes rfl rfl (by assumption) ?_) |((with_reducible show wpC _ _ _ _ (.cond _ _ _) _ _);refine RM.e3 rfl rfl ?_) |((with_reducible show wpPick _ _ _ _ _);refine RM.k1 rfl ?_) |((with_reducible show wpPickB _ _ _ _ _);refine RM.k2 (by assumption) ?_) |((with_reducible show wpBin _ _ _ _ _ _ _ _ _);first|refine RM.b4 rfl rfl ?_|refine RM.b6 rfl rfl ?_) |((with_reducible show wpLen _ _ _ _ _);refine RM.l1 rfl ?_) |((with_reducible show blockK _ _ _ _);refine RM.d5 rfl ?_) |fail)
      exact ⟨[_], ⟨Fz.deep rfl, trivial⟩, rfl⟩
    · have hv : cntsErr s l = (firstN l.length (cntE s l)).2 := by unfold cntsErr; rw [if_neg (by simpa using h1), if_neg h2]
      rw [hv]
      have d2 : decide ((8 : Int) < ((l.map eCount).length : Int)) = false := by rw [el]; exact decide_eq_false h2
      refine PureV.body (fn := Try.f43) rfl rfl rfl rfl ?_
      refine wpC_sound (mu := fun _ => false) ?_
      repeat' (first |with_reducible (first|refine RM.c1 ?_|refine RM.c2 ?_|refine RM.c3 ?_|refine RM.c4 ?_|refine RM.c9 ?_|refine RM.o1 ?_|refine RM.o2 ?_|refine RM.o4 ?_|refine RM.o5 ?_|refine RM.o7 ?_|refine RM.o9 ?_|refine RM.p1 ?_|refine RM.p2 ?_|refine RM.p3 ?_|refine RM.p4 ?_|refine RM.p5 ?_|refine RM.p6 ?_) |((with_reducible show force _ _);first|refine RM.f1 rfl ?_|refine RM.f2 rfl ?_|refine RM.f3 rfl ?_|refine RM.f4 rfl ?_|refine RM.f5 rfl ?_|refine RM.f6 rfl ?_) |((with_reducible show wpOne _ _ _ _ _ _ _ _ _ _ _ _);refine RM.o8 rfl ?_) |((with_reducible show wpGuard _ _ _ _ _);refine wpGuard_yes rfl rfl rfl ?_) |((with_reducible show wpC _ _ _ _ (.cond _ _ _) _ _);refine RM.e3 rfl (by assumption) ?_) |((with_reducible show wpPick _ _ _ _ _);refine RM.k1 rfl ?_) |((with_reducible show wpPickB _ _ _ _ _);refine RM.k2 rfl ?_) |((with_reducible show wpBin _ _ _ _ _ _ _ _ _);first|refine RM.b4 rfl rfl ?_|refine RM.b8 rfl rfl ?_) |((with_reducible show wpLen _ _ _ _ _);refine RM.l1 rfl ?_) |(refine ⟨_, rfl, ?_⟩) |(refine ⟨rfl, rfl, rfl, ?_⟩) |(refine And.intro (Nat.le_of_ble_eq_true rfl) ?_) |(refine PureV.call hc rfl rfl ?_) |fail)
      refine SemC.weaker (Weaker.to (l := [(1, .sl (l.map eCount) false), (2, .pt (eStores s) 0), (7, I64 0), (8, I64 ((0 : Nat) : Int))]) 0 rfl ⟨rfl, rfl, rfl, rfl, trivial⟩ (Nat.le_refl _) rfl rfl) ?_
      refine SemC.loop (fun x : Nat × Int => x.1 ≤ l.length ∧ ((x.2 = 0 ∧ ∀ i, i < x.1 → cntE s l i = 0) ∨ (x.2 ≠ 0 ∧ (firstN l.length (cntE s l)).2 = x.2))) (fun x => ⟨mkFr [(1, .sl (l.map eCount) false), (2, .pt (eStores s) 0), (7, I64 x.2), (8, I64 (x.1 : Int))], [], Amb.none, false, 0⟩) (fun x => l.length - x.1) ?_ (0, 0) ⟨Nat.zero_le _, .inl ⟨rfl, fun i hi => absurd hi (Nat.not_lt_zero _)⟩⟩
      rintro ⟨k, e⟩ ⟨hk1, hst⟩
      dsimp only at hk1 hst
      change SemC TT TB one _ ⟨mkFr [(1, .sl (l.map eCount) false), (2, .pt (eStores s) 0), (7, I64 e), (8, I64 (k : Int))], [], Amb.none, false, 0⟩ _
      refine wpC_sound (mu := fun _ => false) ?_
      by_cases hlt : k < l.length
      · have d3 : decide ((k : Int) < ((l.map eCount).length : Int)) = true := by rw [el]; exact decide_eq_true (by omega)
        rcases hst with ⟨rfl, hprev⟩ | ⟨hne, hfin⟩
        · have hce : cntE s l k = cntErr s l[k] := by unfold cntE; simp only [List.getElem?_eq_getElem hlt]
          rw [cntErr_eq] at hce
          have hik := in58_c true l[k].kind 0 (((s.kinds.map eKind).length : Int) - 1)
          have hid := in58_c true l[k].day 0 ((s.men.map eI).length : Int)
          have hra := range_c one l[k].amount 0 600
          rw [ek] at hik
          rw [em] at hid
          cases b1 : inB l[k].kind 0 ((s.kinds.length : Int) - 1) with
          | false =>
            rw [b1, ← ek] at hik
            rw [if_pos b1] at hce
            repeat' (first |with_reducible (first|refine RM.c1 ?_|refine RM.c2 ?_|refine RM.c3 ?_|refine RM.c4 ?_|refine RM.c5 ?_|refine RM.c7 ?_|refine RM.c9 ?_|refine RM.d1 ?_|refine RM.d4 ?_|refine RM.o1 ?_|refine RM.o2 ?_|refine RM.o3 ?_|refine RM.o4 ?_|refine RM.o5 ?_|refine RM.o9 ?_|refine RM.p1 ?_|refine RM.p2 ?_|refine RM.p3 ?_|refine RM.p4 ?_|refine RM.p5 ?_|refine RM.p6 ?_|refine RM.n1 ?_|refine RM.q1 ?_) |((with_reducible show force _ _);first|refine RM.f1 rfl ?_|refine RM.f2 rfl ?_|refine RM.f3 rfl ?_|refine RM.f4 rfl ?_) |((with_reducible show wpOne _ _ _ _ _ _ _ _ _ _ _ _);refine RM.o8 rfl ?_) |((with_reducible show wpDOne _ _ _ _ _ _ _ _ _ _);refine RM.p9 rfl ?_) |((with_reducible show wpGuard _ _ _ _ _);refine wpGuard_yes rfl rfl (by assumption) ?_) |((with_reducible show wpC _ _ _ _ (.cond _ _ _) _ _);refine RM.e2 rfl rfl ?_) |((with_reducible show wpPick _ _ _ _ _);refine RM.k1 rfl ?_) |((with_reducible show wpPickB _ _ _ _ _);refine RM.k2 (by assumption) ?_) |((with_reducible show wpBin _ _ _ _ _ _ _ _ _);first|refine RM.b4 rfl rfl ?_|refine RM.b6 rfl rfl ?_|refine RM.b2 rfl rfl (by omega) ?_) |((with_reducible show wpLen _ _ _ _ _);refine RM.l1 rfl ?_) |((with_reducible show RM.wpOp _ _ _ _ _ _);refine RM.n3 rfl ?_) |(refine ⟨_, rfl, ?_⟩) |(refine ⟨_, _, rfl, by decide, ?_⟩) |(refine ⟨rfl, rfl, ?_⟩) |(refine And.intro (by kernel_rfl) ?_) |(refine ⟨eCount l[k], ⟨by omega, map_at hlt⟩, rfl, ?_⟩) |(refine ⟨_, hik, ?_⟩) |fail)
            exact ⟨[_], ⟨Fz.deep rfl, trivial⟩, by rw [firstN_here hlt hprev (by rw [hce]; decide), hce]; rfl⟩
          | true =>
            rw [b1, ← ek] at hik
            rw [if_neg (by rw [b1]; decide)] at hce
            cases b2 : inB l[k].day 0 s.men.length with
            | false =>
              rw [b2, ← em] at hid
              rw [if_pos b2] at hce
              repeat' (first |with_reducible (first|refine RM.c1 ?_|refine RM.c2 ?_|refine RM.c3 ?_|refine RM.c4 ?_|refine RM.c5 ?_|refine RM.c7 ?_|refine RM.c9 ?_|refine RM.d1 ?_|refine RM.d4 ?_|refine RM.o1 ?_|refine RM.o2 ?_|refine RM.o3 ?_|refine RM.o4 ?_|refine RM.o5 ?_|refine RM.o9 ?_|refine RM.p1 ?_|refine RM.p2 ?_|refine RM.p3 ?_|refine RM.p4 ?_|refine RM.p5 ?_|refine RM.p6 ?_|refine RM.n1 ?_|refine RM.q1 ?_) |((with_reducible show force _ _);first|refine RM.f1 rfl ?_|refine RM.f2 rfl ?_|refine RM.f3 rfl ?_|refine RM.f4 rfl ?_) |((with_reducible show wpOne _ _ _ _ _ _ _ _ _ _ _ _);refine RM.o8 rfl ?_) |((with_reducible show wpDOne _ _ _ _ _ _ _ _ _ _);refine RM.p9 rfl ?_) |((with_reducible show wpGuard _ _ _ _ _);refine wpGuard_yes rfl rfl (by assumption) ?_) |((with_reducible show wpC _ _ _ _ (.cond _ _ _) _ _);first|refine RM.e2 rfl rfl ?_|refine RM.e3 rfl rfl ?_) |((with_reducible show wpPick _ _ _ _ _);refine RM.k1 rfl ?_) |((with_reducible show wpPickB _ _ _ _ _);refine RM.k2 (by assumption) ?_) |((with_reducible show wpBin _ _ _ _ _ _ _ _ _);first|refine RM.b4 rfl rfl ?_|refine RM.b6 rfl rfl ?_|refine RM.b2 rfl rfl (by omega) ?_) |((with_reducible show wpLen _ _ _ _ _);refine RM.l1 rfl ?_) |((with_reducible show RM.wpOp _ _ _ _ _ _);refine RM.n3 rfl ?_) |(refine ⟨_, rfl, ?_⟩) |(refine ⟨_, _, rfl, by decide, ?_⟩) |(refine ⟨rfl, rfl, ?_⟩) |(refine And.intro (by kernel_rfl) ?_) |(refine ⟨eCount l[k], ⟨by omega, map_at hlt⟩, rfl, ?_⟩) |(refine ⟨_, hik, ?_⟩) |(refine ⟨_, hid, ?_⟩) |fail)
              exact ⟨[_], ⟨Fz.deep rfl, trivial⟩, by rw [firstN_here hlt hprev (by rw [hce]; decide), hce]; rfl⟩
            | true =>
              rw [b2, ← em] at hid
              rw [if_neg (by rw [b2]; decide)] at hce
              rw [← hce] at hra
              repeat' (first |with_reducible (first|refine RM.c1 ?_|refine RM.c2 ?_|refine RM.c3 ?_|refine RM.c4 ?_|refine RM.c5 ?_|refine RM.c9 ?_|refine RM.d3 ?_|refine RM.o1 ?_|refine RM.o2 ?_|refine RM.o3 ?_|refine RM.o4 ?_|refine RM.o5 ?_|refine RM.o7 ?_|refine RM.o9 ?_|refine RM.p1 ?_|refine RM.p2 ?_|refine RM.p3 ?_|refine RM.p4 ?_|refine RM.p5 ?_|refine RM.p6 ?_|refine RM.n1 ?_) |((with_reducible show force _ _);first|refine RM.f1 rfl ?_|refine RM.f2 rfl ?_|refine RM.f3 rfl ?_|refine RM.f4 rfl ?_|refine RM.f5 rfl ?_) |((with_reducible show wpOne _ _ _ _ _ _ _ _ _ _ _ _);refine RM.o8 rfl ?_) |((with_reducible show wpDOne _ _ _ _ _ _ _ _ _ _);refine RM.p9 rfl ?_) |((with_reducible show wpGuard _ _ _ _ _);refine wpGuard_yes rfl rfl (by assumption) ?_) |((with_reducible show wpC _ _ _ _ (.cond _ _ _) _ _);first|refine RM.e2 rfl rfl ?_|refine RM.e3 rfl rfl ?_) |((with_reducible show wpPick _ _ _ _ _);refine RM.k1 rfl ?_) |((with_reducible show wpPickB _ _ _ _ _);refine RM.k2 (by assumption) ?_) |((with_reducible show wpBin _ _ _ _ _ _ _ _ _);first|refine RM.b4 rfl rfl ?_|refine RM.b6 rfl rfl ?_|refine RM.b1 rfl rfl (by omega) ?_|refine RM.b2 rfl rfl (by omega) ?_) |((with_reducible show wpLen _ _ _ _ _);refine RM.l1 rfl ?_) |((with_reducible show RM.wpOp _ _ _ _ _ _);refine RM.n3 rfl ?_) |(refine ⟨_, rfl, ?_⟩) |(refine ⟨_, _, rfl, by decide, ?_⟩) |(refine ⟨rfl, rfl, ?_⟩) |(refine And.intro (Nat.le_of_ble_eq_true rfl) ?_) |(refine And.intro (by kernel_rfl) ?_) |(refine ⟨eCount l[k], ⟨by omega, map_at hlt⟩, rfl, ?_⟩) |(refine ⟨_, hik, ?_⟩) |(refine ⟨_, hid, ?_⟩) |(refine PureV.call hra rfl rfl ?_) |fail)
              refine ⟨(k + 1, cntE s l k), ⟨hlt, ?_⟩, (by dsimp only; omega), Weaker.to 0 rfl ⟨rfl, rfl, rfl, i64c (by simp), trivial⟩ (Nat.le_refl _) rfl rfl⟩
              by_cases hz : cntE s l k = 0
              · exact .inl ⟨hz, fun i hi => by
                  by_cases hik : i = k
                  · rw [hik]; exact hz
                  · exact hprev i (by dsimp only at hi; omega)⟩
              · exact .inr ⟨hz, by rw [firstN_here hlt hprev hz]⟩
        · have d4 : decide (e = 0) = false := decide_eq_false hne
          repeat' (first |with_reducible (first|refine RM.c2 ?_|refine RM.c4 ?_|refine RM.c6 ?_|refine RM.c7 ?_|refine RM.c9 ?_|refine RM.d2 ?_|refine RM.o1 ?_|refine RM.o2 ?_|refine RM.o4 ?_|refine RM.o5 ?_|refine RM.p2 ?_|refine RM.p3 ?_|refine RM.p4 ?_|refine RM.p5 ?_|refine RM.p6 ?_|refine RM.q2 ?_) |((with_reducible show force _ _);first|refine RM.f1 rfl ?_|refine RM.f2 rfl ?_) |((with_reducible show wpOne _ _ _ _ _ _ _ _ _ _ _ _);refine RM.o8 rfl ?_) |((with_reducible show wpGuard _ _ _ _ _);refine wpGuard_yes rfl rfl (by assumption) ?_) |((with_reducible show wpC _ _ _ _ (.cond _ _ _) _ _);refine RM.e3 rfl (by assumption) ?_) |((with_reducible show wpPick _ _ _ _ _);refine RM.k1 rfl ?_) |((with_reducible show wpPickB _ _ _ _ _);refine RM.k2 (by assumption) ?_) |((with_reducible show wpBin _ _ _ _ _ _ _ _ _);first|refine RM.b4 rfl rfl ?_|refine RM.b6 rfl rfl ?_) |((with_reducible show wpLen _ _ _ _ _);refine RM.l1 rfl ?_) |((with_reducible show blockK _ _ _ _);refine RM.d5 rfl ?_) |fail)
          exact ⟨[_], ⟨Fz.deep rfl, trivial⟩, by rw [hfin]; rfl⟩
      · have d3 : decide ((k : Int) < ((l.map eCount).length : Int)) = false := by rw [el]; exact decide_eq_false (by omega)
        repeat' (first |with_reducible (first|refine RM.c2 ?_|refine RM.c4 ?_|refine RM.c6 ?_|refine RM.c7 ?_|refine RM.c9 ?_|refine RM.d2 ?_|refine RM.o1 ?_|refine RM.o2 ?_|refine RM.o4 ?_|refine RM.o5 ?_|refine RM.p2 ?_|refine RM.p3 ?_|refine RM.p4 ?_|refine RM.p5 ?_|refine RM.p6 ?_|refine RM.q2 ?_) |((with_reducible show force _ _);first|refine RM.f1 rfl ?_|refine RM.f2 rfl ?_) |((with_reducible show wpOne _ _ _ _ _ _ _ _ _ _ _ _);refine RM.o8 rfl ?_) |((with_reducible show wpGuard _ _ _ _ _);refine wpGuard_no rfl rfl (by assumption) ?_) |((with_reducible show wpC _ _ _ _ (.cond _ _ _) _ _);refine RM.e3 rfl rfl ?_) |((with_reducible show wpPick _ _ _ _ _);refine RM.k1 rfl ?_) |((with_reducible show wpPickB _ _ _ _ _);refine RM.k3 (by assumption) ?_) |((with_reducible show wpBin _ _ _ _ _ _ _ _ _);refine RM.b6 rfl rfl ?_) |((with_reducible show wpLen _ _ _ _ _);refine RM.l1 rfl ?_) |((with_reducible show blockK _ _ _ _);refine RM.d5 rfl ?_) |fail)
        refine ⟨[_], ⟨Fz.deep rfl, trivial⟩, ?_⟩
        rcases hst with ⟨rfl, hprev⟩ | ⟨hne, hfin⟩
        · rw [firstN_none fun i hi => hprev i (by omega)]; rfl
        · rw [hfin]; rfl
  · have hv : cntsErr s l = (chk s).2.2 := by unfold cntsErr; rw [if_pos h1]
    rw [hv]
    have d1 : decide ((chk s).2.2 = 0) = false := decide_eq_false h1
    generalize chk s = c at *
    refine PureV.body (fn := Try.f43) rfl rfl rfl rfl ?_
    refine wpC_sound (mu := fun _ => false) ?_
    repeat' (first |with_reducible (first|refine RM.c1 ?_|refine RM.c2 ?_|refine RM.c3 ?_|refine RM.c4 ?_|refine RM.c9 ?_|refine RM.o1 ?_|refine RM.o2 ?_|refine RM.o4 ?_|refine RM.o5 ?_|refine RM.o7 ?_|refine RM.o9 ?_|refine RM.p1 ?_|refine RM.p2 ?_|refine RM.p3 ?_|refine RM.p4 ?_|refine RM.p5 ?_) |((with_reducible show force _ _);first|refine RM.f1 rfl ?_|refine RM.f3 rfl ?_|refine RM.f4 rfl ?_|refine RM.f5 rfl ?_|refine RM.f6 rfl ?_) |((with_reducible show wpOne _ _ _ _ _ _ _ _ _ _ _ _);refine RM.o8 rfl ?_) |((with_reducible show wpGuard _ _ _ _ _);refine wpGuard_no rfl rfl (by assumption) ?_) |((with_reducible show wpC _ _ _ _ (.cond _ _ _) _ _);refine RM.e3 rfl rfl ?_) |((with_reducible show wpPick _ _ _ _ _);refine RM.k1 rfl ?_) |((with_reducible show wpPickB _ _ _ _ _);refine RM.k3 (by assumption) ?_) |((with_reducible show wpBin _ _ _ _ _ _ _ _ _);refine RM.b4 rfl rfl ?_) |(refine ⟨_, rfl, ?_⟩) |(refine ⟨rfl, rfl, rfl, ?_⟩) |(refine And.intro (Nat.le_of_ble_eq_true rfl) ?_) |(refine PureV.call hc rfl rfl ?_) |fail)
    refine SemC.weaker (Weaker.to (l := [(1, .sl (l.map eCount) false), (2, .pt (eStores s) 0), (7, I64 c.2.2), (8, I64 0)]) 0 rfl ⟨rfl, rfl, rfl, rfl, trivial⟩ (Nat.le_refl _) rfl rfl) ?_
    refine SemC.loop (fun _ : Unit => True) (fun _ => ⟨mkFr [(1, .sl (l.map eCount) false), (2, .pt (eStores s) 0), (7, I64 c.2.2), (8, I64 0)], [], Amb.none, false, 0⟩) (fun _ => 0) ?_ () trivial
    intro _ _
    refine wpC_sound (mu := fun _ => false) ?_
    cases d3 : decide ((0 : Int) < ((l.map eCount).length : Int)) with
    | true =>
      repeat' (first |with_reducible (first|refine RM.c2 ?_|refine RM.c4 ?_|refine RM.c6 ?_|refine RM.c7 ?_|refine RM.c9 ?_|refine RM.d2 ?_|refine RM.o1 ?_|refine RM.o2 ?_|refine RM.o4 ?_|refine RM.o5 ?_|refine RM.p2 ?_|refine RM.p3 ?_|refine RM.p4 ?_|refine RM.p5 ?_|refine RM.p6 ?_|refine RM.q2 ?_) |((with_reducible show force _ _);first|refine RM.f1 rfl ?_|refine RM.f2 rfl ?_) |((with_reducible show wpOne _ _ _ _ _ _ _ _ _ _ _ _);refine RM.o8 rfl ?_) |((with_reducible show wpGuard _ _ _ _ _);refine wpGuard_yes rfl rfl (by assumption) ?_) |((with_reducible show wpC _ _ _ _ (.cond _ _ _) _ _);refine RM.e3 rfl (by assumption) ?_) |((with_reducible show wpPick _ _ _ _ _);refine RM.k1 rfl ?_) |((with_reducible show wpPickB _ _ _ _ _);refine RM.k2 (by assumption) ?_) |((with_reducible show wpBin _ _ _ _ _ _ _ _ _);first|refine RM.b4 rfl rfl ?_|refine RM.b6 rfl rfl ?_) |((with_reducible show wpLen _ _ _ _ _);refine RM.l1 rfl ?_) |((with_reducible show blockK _ _ _ _);refine RM.d5 rfl ?_) |fail)
      exact ⟨[_], ⟨Fz.deep rfl, trivial⟩, rfl⟩
    | false =>
      repeat' (first |with_reducible (first|refine RM.c2 ?_|refine RM.c4 ?_|refine RM.c6 ?_|refine RM.c7 ?_|refine RM.c9 ?_|refine RM.d2 ?_|refine RM.o1 ?_|refine RM.o2 ?_|refine RM.o4 ?_|refine RM.o5 ?_|refine RM.p2 ?_|refine RM.p3 ?_|refine RM.p4 ?_|refine RM.p5 ?_|refine RM.p6 ?_|refine RM.q2 ?_) |((with_reducible show force _ _);first|refine RM.f1 rfl ?_|refine RM.f2 rfl ?_) |((with_reducible show wpOne _ _ _ _ _ _ _ _ _ _ _ _);refine RM.o8 rfl ?_) |((with_reducible show wpGuard _ _ _ _ _);refine wpGuard_no rfl rfl (by assumption) ?_) |((with_reducible show wpC _ _ _ _ (.cond _ _ _) _ _);refine RM.e3 rfl rfl ?_) |((with_reducible show wpPick _ _ _ _ _);refine RM.k1 rfl ?_) |((with_reducible show wpPickB _ _ _ _ _);refine RM.k3 (by assumption) ?_) |((with_reducible show wpBin _ _ _ _ _ _ _ _ _);refine RM.b6 rfl rfl ?_) |((with_reducible show wpLen _ _ _ _ _);refine RM.l1 rfl ?_) |((with_reducible show blockK _ _ _ _);refine RM.d5 rfl ?_) |fail)
      exact ⟨[_], ⟨Fz.deep rfl, trivial⟩, rfl⟩

theorem asked_c (one : Bool) (s : Stores) (h : s.Ok) (l : List Count) (hl : l.length ≤ maxLen) (kd : Int) : Pu one 67 [.ag (eStores s), .sl (l.map eCount) false, I64 kd] (I64 (askErr s l kd)) := by
  have hc := rcounts_c one s h l hl
  have ek : ((s.kinds.map eKind).length : Int) = s.kinds.length := by simp
  have hk := h.kinds
  unfold maxLen at hk
  have hi := in58_c one kd 0 (((s.kinds.map eKind).length : Int) - 1)
  rw [ek] at hi
  unfold askErr
  by_cases h1 : cntsErr s l = 0
  · rw [if_neg (by simpa using h1)]
    rw [h1] at hc
    cases b : inB kd 0 ((s.kinds.length : Int) - 1) with
    | false =>
      rw [b, ← ek] at hi
      refine PureV.body (fn := Try.f67) rfl rfl rfl rfl ?_
      refine wpC_sound (mu := fun _ => false) ?_
      repeat' (first |with_reducible (first|refine RM.c2 ?_|refine RM.c4 ?_|refine RM.c7 ?_|refine RM.c9 ?_|refine RM.o1 ?_|refine RM.o2 ?_|refine RM.o4 ?_|refine RM.o5 ?_|refine RM.o7 ?_|refine RM.o9 ?_|refine RM.p1 ?_|refine RM.p2 ?_|refine RM.p3 ?_|refine RM.p4 ?_|refine RM.p5 ?_|refine RM.p6 ?_) |((with_reducible show force _ _);first|refine RM.f1 rfl ?_|refine RM.f2 rfl ?_|refine RM.f3 rfl ?_|refine RM.f4 rfl ?_|refine RM.f5 rfl ?_) |((with_reducible show wpOne _ _ _ _ _ _ _ _ _ _ _ _);refine RM.o8 rfl ?_) |((with_reducible show wpGuard _ _ _ _ _);refine wpGuard_yes rfl rfl rfl ?_) |((with_reducible show wpC _ _ _ _ (.cond _ _ _) _ _);refine RM.e2 rfl rfl ?_) |((with_reducible show wpPick _ _ _ _ _);refine RM.k1 rfl ?_) |((with_reducible show wpPickB _ _ _ _ _);refine RM.k2 rfl ?_) |((with_reducible show wpBin _ _ _ _ _ _ _ _ _);first|refine RM.b4 rfl rfl ?_|refine RM.b2 rfl rfl (by omega) ?_) |((with_reducible show wpLen _ _ _ _ _);refine RM.l1 rfl ?_) |((with_reducible show RM.wpOp _ _ _ _ _ _);refine RM.n3 rfl ?_) |(refine ⟨_, rfl, ?_⟩) |(refine ⟨_, _, rfl, by decide, ?_⟩) |(refine ⟨rfl, rfl, rfl, ?_⟩) |(refine And.intro (Nat.le_of_ble_eq_true rfl) ?_) |(refine PureV.call hc rfl rfl ?_) |(refine PureV.call hi rfl rfl ?_) |fail)
      exact ⟨[_], ⟨Fz.deep rfl, trivial⟩, rfl⟩
    | true =>
      rw [b, ← ek] at hi
      refine PureV.body (fn := Try.f67) rfl rfl rfl rfl ?_
      refine wpC_sound (mu := fun _ => false) ?_
      repeat' (first |with_reducible (first|refine RM.c1 ?_|refine RM.c2 ?_|refine RM.c4 ?_|refine RM.c7 ?_|refine RM.c9 ?_|refine RM.o1 ?_|refine RM.o2 ?_|refine RM.o4 ?_|refine RM.o5 ?_|refine RM.o7 ?_|refine RM.o9 ?_|refine RM.p1 ?_|refine RM.p2 ?_|refine RM.p3 ?_|refine RM.p4 ?_|refine RM.p5 ?_|refine RM.p6 ?_) |((with_reducible show force _ _);first|refine RM.f1 rfl ?_|refine RM.f2 rfl ?_|refine RM.f3 rfl ?_|refine RM.f4 rfl ?_|refine RM.f5 rfl ?_) |((with_reducible show wpOne _ _ _ _ _ _ _ _ _ _ _ _);refine RM.o8 rfl ?_) |((with_reducible show wpGuard _ _ _ _ _);refine wpGuard_yes rfl rfl rfl ?_) |((with_reducible show wpC _ _ _ _ (.cond _ _ _) _ _);refine RM.e3 rfl rfl ?_) |((with_reducible show wpPick _ _ _ _ _);refine RM.k1 rfl ?_) |((with_reducible show wpPickB _ _ _ _ _);refine RM.k2 rfl ?_) |((with_reducible show wpBin _ _ _ _ _ _ _ _ _);first|refine RM.b4 rfl rfl ?_|refine RM.b2 rfl rfl (by omega) ?_) |((with_reducible show wpLen _ _ _ _ _);refine RM.l1 rfl ?_) |((with_reducible show RM.wpOp _ _ _ _ _ _);refine RM.n3 rfl ?_) |(refine ⟨_, rfl, ?_⟩) |(refine ⟨_, _, rfl, by decide, ?_⟩) |(refine ⟨rfl, rfl, rfl, ?_⟩) |(refine And.intro (Nat.le_of_ble_eq_true rfl) ?_) |(refine PureV.call hc rfl rfl ?_) |(refine PureV.call hi rfl rfl ?_) |fail)
      exact ⟨[_], ⟨Fz.deep rfl, trivial⟩, rfl⟩
  · rw [if_pos h1]
    have d1 : decide (cntsErr s l = 0) = false := decide_eq_false h1
    refine PureV.body (fn := Try.f67) rfl rfl rfl rfl ?_
    refine wpC_sound (mu := fun _ => false) ?_
    repeat' (first |with_reducible (first|refine RM.c1 ?_|refine RM.c2 ?_|refine RM.c4 ?_|refine RM.c7 ?_|refine RM.c9 ?_|refine RM.o1 ?_|refine RM.o2 ?_|refine RM.o4 ?_|refine RM.o5 ?_|refine RM.o7 ?_|refine RM.o9 ?_|refine RM.p1 ?_|refine RM.p2 ?_|refine RM.p3 ?_|refine RM.p4 ?_|refine RM.p5 ?_) |((with_reducible show force _ _);first|refine RM.f1 rfl ?_|refine RM.f2 rfl ?_|refine RM.f3 rfl ?_|refine RM.f4 rfl ?_|refine RM.f5 rfl ?_) |((with_reducible show wpOne _ _ _ _ _ _ _ _ _ _ _ _);refine RM.o8 rfl ?_) |((with_reducible show wpGuard _ _ _ _ _);refine wpGuard_no rfl rfl (by assumption) ?_) |((with_reducible show wpC _ _ _ _ (.cond _ _ _) _ _);refine RM.e3 rfl rfl ?_) |((with_reducible show wpPick _ _ _ _ _);refine RM.k1 rfl ?_) |((with_reducible show wpPickB _ _ _ _ _);refine RM.k3 (by assumption) ?_) |((with_reducible show wpBin _ _ _ _ _ _ _ _ _);refine RM.b4 rfl rfl ?_) |(refine ⟨rfl, rfl, rfl, ?_⟩) |(refine And.intro (Nat.le_of_ble_eq_true rfl) ?_) |(refine PureV.call hc rfl rfl ?_) |fail)
    exact ⟨[_], ⟨Fz.deep rfl, trivial⟩, rfl⟩

def rangedE (e n lo hi : Int) : Int := if e = 0 then (if inB n lo hi = false then 7 else 0) else e
theorem ranged_c (one : Bool) (e n lo hi : Int) : Pu one 66 [I64 e, I64 n, I64 lo, I64 hi] (I64 (rangedE e n lo hi)) := by
  have hc := in58_c one n lo hi
  unfold rangedE
  by_cases h1 : e = 0
  · subst h1
    rw [if_pos rfl]
    cases b : inB n lo hi with
    | false =>
      rw [b] at hc
      refine PureV.body (fn := Try.f66) rfl rfl rfl rfl ?_
      refine wpC_sound (mu := fun _ => false) ?_
      repeat' (first |with_reducible (first|refine RM.c2 ?_|refine RM.c4 ?_|refine RM.c7 ?_|refine RM.c9 ?_|refine RM.d1 ?_|refine RM.o1 ?_|refine RM.o2 ?_|refine RM.o4 ?_|refine RM.o5 ?_|refine RM.o7 ?_|refine RM.o9 ?_|refine RM.p1 ?_|refine RM.p2 ?_|refine RM.p3 ?_|refine RM.p4 ?_|refine RM.p5 ?_) |((with_reducible show force _ _);first|refine RM.f1 rfl ?_|refine RM.f4 rfl ?_) |((with_reducible show wpOne _ _ _ _ _ _ _ _ _ _ _ _);refine RM.o8 rfl ?_) |((with_reducible show wpGuard _ _ _ _ _);refine wpGuard_yes rfl rfl rfl ?_) |((with_reducible show wpC _ _ _ _ (.cond _ _ _) _ _);refine RM.e2 rfl rfl ?_) |((with_reducible show wpPick _ _ _ _ _);refine RM.k1 rfl ?_) |((with_reducible show wpPickB _ _ _ _ _);refine RM.k2 rfl ?_) |((with_reducible show wpBin _ _ _ _ _ _ _ _ _);refine RM.b4 rfl rfl ?_) |((with_reducible show RM.wpOp _ _ _ _ _ _);refine RM.n3 rfl ?_) |(refine PureV.call hc rfl rfl ?_) |fail)
      exact ⟨[_], ⟨Fz.deep rfl, trivial⟩, rfl⟩
    | true =>
      rw [b] at hc
      refine PureV.body (fn := Try.f66) rfl rfl rfl rfl ?_
      refine wpC_sound (mu := fun _ => false) ?_
      repeat' (first |with_reducible (first|refine RM.c1 ?_|refine RM.c2 ?_|refine RM.c4 ?_|refine RM.c7 ?_|refine RM.c9 ?_|refine RM.o1 ?_|refine RM.o2 ?_|refine RM.o4 ?_|refine RM.o5 ?_|refine RM.o7 ?_|refine RM.o9 ?_|refine RM.p1 ?_|refine RM.p2 ?_|refine RM.p3 ?_|refine RM.p4 ?_|refine RM.p5 ?_) |((with_reducible show force _ _);first|refine RM.f1 rfl ?_|refine RM.f4 rfl ?_) |((with_reducible show wpOne _ _ _ _ _ _ _ _ _ _ _ _);refine RM.o8 rfl ?_) |((with_reducible show wpGuard _ _ _ _ _);refine wpGuard_yes rfl rfl rfl ?_) |((with_reducible show wpC _ _ _ _ (.cond _ _ _) _ _);refine RM.e3 rfl rfl ?_) |((with_reducible show wpPick _ _ _ _ _);refine RM.k1 rfl ?_) |((with_reducible show wpPickB _ _ _ _ _);refine RM.k2 rfl ?_) |((with_reducible show wpBin _ _ _ _ _ _ _ _ _);refine RM.b4 rfl rfl ?_) |((with_reducible show RM.wpOp _ _ _ _ _ _);refine RM.n3 rfl ?_) |(refine PureV.call hc rfl rfl ?_) |fail)
      exact ⟨[_], ⟨Fz.deep rfl, trivial⟩, rfl⟩
  · rw [if_neg h1]
    have d1 : decide (e = 0) = false := decide_eq_false h1
    refine PureV.body (fn := Try.f66) rfl rfl rfl rfl ?_
    refine wpC_sound (mu := fun _ => false) ?_
    repeat' (first |with_reducible (first|refine RM.c1 ?_|refine RM.c2 ?_|refine RM.c4 ?_|refine RM.c7 ?_|refine RM.c9 ?_|refine RM.o1 ?_|refine RM.o2 ?_|refine RM.o4 ?_|refine RM.o5 ?_|refine RM.p2 ?_|refine RM.p3 ?_|refine RM.p4 ?_|refine RM.p5 ?_) |((with_reducible show force _ _);refine RM.f1 rfl ?_) |((with_reducible show wpOne _ _ _ _ _ _ _ _ _ _ _ _);refine RM.o8 rfl ?_) |((with_reducible show wpGuard _ _ _ _ _);refine wpGuard_no rfl rfl (by assumption) ?_) |((with_reducible show wpC _ _ _ _ (.cond _ _ _) _ _);refine RM.e3 rfl rfl ?_) |((with_reducible show wpPick _ _ _ _ _);refine RM.k1 rfl ?_) |((with_reducible show wpPickB _ _ _ _ _);refine RM.k3 (by assumption) ?_) |((with_reducible show wpBin _ _ _ _ _ _ _ _ _);refine RM.b4 rfl rfl ?_) |fail)
    exact ⟨[_], ⟨Fz.deep rfl, trivial⟩, rfl⟩

def cntIn (lv : List Int) (c : Count) : Bool := inB (lv.getD c.day.toNat 0) c.amount.lo c.amount.hi
theorem agrees_c (one : Bool) (c : Count) (L : List Int) (h : 0 ≤ c.day ∧ c.day < L.length) : Pu one 87 [.ag (eCount c), .sl (L.map eI) false] (BB (cntIn L c)) := by
  have hc := in58_c true (L.getD c.day.toNat 0) c.amount.lo c.amount.hi
  unfold cntIn
  refine PureV.body (fn := Try.f87) rfl rfl rfl rfl ?_
  refine wpC_sound (mu := fun _ => false) ?_
  repeat' (first |with_reducible (first|refine RM.c2 ?_|refine RM.c4 ?_|refine RM.c5 ?_|refine RM.c7 ?_|refine RM.c9 ?_|refine RM.o1 ?_|refine RM.o2 ?_|refine RM.o3 ?_|refine RM.o4 ?_|refine RM.o5 ?_|refine RM.o9 ?_|refine RM.p1 ?_|refine RM.p2 ?_|refine RM.p3 ?_|refine RM.n1 ?_) |((with_reducible show force _ _);first|refine RM.f1 rfl ?_|refine RM.f2 rfl ?_|refine RM.f3 rfl ?_|refine RM.f4 rfl ?_) |((with_reducible show wpOne _ _ _ _ _ _ _ _ _ _ _ _);refine RM.o8 rfl ?_) |((with_reducible show wpDOne _ _ _ _ _ _ _ _ _ _);refine RM.p9 rfl ?_) |(refine ⟨_, rfl, ?_⟩) |(refine ⟨_, _, rfl, by decide, ?_⟩) |(refine ⟨rfl, rfl, rfl, ?_⟩) |(refine ⟨rfl, rfl, ?_⟩) |(refine And.intro (by kernel_rfl) ?_) |(refine ⟨eI _, ⟨h.1, getD_at h⟩, rfl, ?_⟩) |(refine ⟨_, hc, ?_⟩) |fail)
  exact ⟨[_], ⟨Fz.deep rfl, trivial⟩, rfl⟩
end Go.Proofs.Ytmkaeohmdcoanaa
open Go Go.RM
namespace Go.Proofs.Ytmkaeohmdcoanaa
set_option maxRecDepth 100000
set_option maxHeartbeats 4000000

/-! ### The document's side: all truths that agree -/

def agr (men : List Int) (k : Kind) (row : List Int) (l : List Count) (i : Nat) (t : Truth) : Bool := l.all fun c => !decide (c.kind = (i : Int)) || cntIn (lvl men k row t) c
def truthQ (k : Kind) (q : Nat) : Truth := ⟨k.first.lo + (q / spanN k.ship / spanN k.man : Nat), k.man.lo + (q / spanN k.ship % spanN k.man : Nat), k.ship.lo + (q % spanN k.ship : Nat)⟩
def pastN (men : List Int) (k : Kind) (row : List Int) (l : List Count) (i : Nat) (n : Nat) : List Truth := ((List.range n).map (truthQ k)).filter (agr men k row l i)
def allOf (men : List Int) (k : Kind) (row : List Int) (l : List Count) (i : Nat) : List Truth := pastN men k row l i (spanN k.first * spanN k.man * spanN k.ship)
theorem all_take {α : Type} {f : α → Bool} {l : List α} {j : Nat} (h : j < l.length) : (l.take (j + 1)).all f = ((l.take j).all f && f l[j]) := by
  rw [List.take_add_one, List.getElem?_eq_getElem h, List.all_append]
  simp

abbrev ePast (men : List Int) (k : Kind) (row : List Int) (t : Truth) : List AV := [I64 t.first, I64 t.man, I64 t.ship, .sl ((lvl men k row t).map eI) false, I64 (shortF men k row t)]

theorem pastN_succ (men : List Int) (k : Kind) (row : List Int) (l : List Count) (i n : Nat) : pastN men k row l i (n + 1) = if agr men k row l i (truthQ k n) = true then pastN men k row l i n ++ [truthQ k n] else pastN men k row l i n := by
  unfold pastN
  rw [List.range_succ, List.map_append, List.filter_append]
  by_cases h : agr men k row l i (truthQ k n) = true
  · rw [if_pos h]; simp [h]
  · rw [if_neg h]; simp [h]

theorem pastN_len (men : List Int) (k : Kind) (row : List Int) (l : List Count) (i n : Nat) : (pastN men k row l i n).length ≤ n := by
  unfold pastN
  have := List.length_filter_le (agr men k row l i) ((List.range n).map (truthQ k))
  simpa using this

theorem truthQ_at (k : Kind) {a m p : Nat} (hm : m < spanN k.man) (hp : p < spanN k.ship) : truthQ k ((a * spanN k.man + m) * spanN k.ship + p) = ⟨k.first.lo + a, k.man.lo + m, k.ship.lo + p⟩ := by
  unfold truthQ
  rw [Nat.mul_comm _ (spanN k.ship), Nat.mul_add_div (by omega), Nat.div_eq_of_lt hp, Nat.mul_add_mod, Nat.mod_eq_of_lt hp, Nat.add_zero, Nat.mul_comm a, Nat.mul_add_div (by omega), Nat.div_eq_of_lt hm, Nat.mul_add_mod, Nat.mod_eq_of_lt hm, Nat.add_zero]

theorem past_deep (men : List Int) (k : Kind) (row : List Int) : ∀ L : List Truth, deepL ((L.map (ePast men k row)).flatten) = true
  | [] => rfl
  | t :: L => by
    rw [List.map_cons, List.flatten_cons]
    exact deepL_append rfl (past_deep men k row L)

theorem past_flen (men : List Int) (k : Kind) (row : List Int) (L : List Truth) : ((L.map (ePast men k row)).flatten).length = L.length * 5 := by
  rw [flatten_len (es := 5) fun el he => by obtain ⟨t, _, rfl⟩ := List.mem_map.1 he; rfl, List.length_map]

abbrev pastB (men : List Int) (k : Kind) (row : List Int) (L : List Truth) : AB := .cells ((L.map (ePast men k row)).flatten) 5 L.length
abbrev pastV (L : List Truth) : AV := .osl 1 L.length 0 L.length (L.length + 1)

theorem past_inb (men : List Int) (k : Kind) (row : List Int) (L : List Truth) (b : AB) (hb : b.inb 2 = true) : ([b, pastB men k row L] : List AB).all (AB.inb 2) = true := by
  show (b.inb 2 && (inbL 2 ((L.map (ePast men k row)).flatten) && true)) = true
  rw [hb, show inbL 2 ((L.map (ePast men k row)).flatten) = true from deep_inb 2 (.ag _) (past_deep men k row L)]
  rfl
theorem past_inb3 (men : List Int) (k : Kind) (row : List Int) (L : List Truth) (b c : AB) (hb : b.inb 3 = true) (hc : c.inb 3 = true) : ([b, pastB men k row L, c] : List AB).all (AB.inb 3) = true := by
  show (b.inb 3 && (inbL 3 ((L.map (ePast men k row)).flatten) && (c.inb 3 && true))) = true
  rw [hb, hc, show inbL 3 ((L.map (ePast men k row)).flatten) = true from deep_inb 3 (.ag _) (past_deep men k row L)]
  rfl

theorem past_fz (men : List Int) (k : Kind) (row : List Int) (L : List Truth) (b : AB) : Fz [b, pastB men k row L] (pastV L) (.sl (L.map (ePast men k row)) false) :=
  Fz.row (es := 5) rfl (by rw [past_flen]; omega) (by simp) (fun el he => by obtain ⟨t, _, rfl⟩ := List.mem_map.1 he; rfl) (by rw [List.drop_zero, List.take_of_length_le (by rw [past_flen]; omega)]) (past_deep men k row L) (fun h => Bool.noConfusion h)

theorem pastB_snoc (men : List Int) (k : Kind) (row : List Int) (L : List Truth) (t : Truth) : pastB men k row (L ++ [t]) = .cells ((L.map (ePast men k row)).flatten ++ [ePast men k row t].flatten) 5 (L.length + 1) := by
  show AB.cells _ _ _ = _
  rw [List.map_append, List.flatten_append, List.length_append]
  rfl
theorem pastV_snoc (L : List Truth) (t : Truth) : pastV (L ++ [t]) = .osl 1 (L.length + 1) 0 (L.length + 1) (L.length + 1 + 1) := by
  show AV.osl _ _ _ _ _ = _
  rw [List.length_append]
  rfl

theorem rrun_l (one : Bool) {s : Stores} (hg : Good s) {i : Nat} (hi : i < s.kinds.length) {t : Truth} (h : RunOk s.men s.kinds[i] (cargoRow i s.cargos) t) :
    Pu one 62 [.ag (eStores s), I64 i, .ag (eTruth t), I64 s.men.length] (.tp [.sl ((lvl s.men s.kinds[i] (cargoRow i s.cargos) t).map eI) false, I64 (shortF s.men s.kinds[i] (cargoRow i s.cargos) t)]) := by
  have := rrun_c one s hg i hi t s.men.length h
  rw [show ((List.range (s.men.length + 1)).map fun j => eI (haveAt s.men s.kinds[i] (cargoRow i s.cargos) t s.men.length j)) = (lvl s.men s.kinds[i] (cargoRow i s.cargos) t).map eI by unfold lvl; rw [List.map_map]; rfl] at this
  exact this

theorem rtruths_c (one : Bool) (s : Stores) (l : List Count) (h0 : cntsErr s l = 0) (i : Nat) (hi : i < s.kinds.length) :
    Pu one 101 [.ag (eStores s), .sl (l.map eCount) false, I64 i] (.sl ((allOf s.men s.kinds[i] (cargoRow i s.cargos) l i).map (ePast s.men s.kinds[i] (cargoRow i s.cargos))) false) := by
  obtain ⟨hg, hl8, hlc⟩ := cnts_good h0
  have hh := holdOk h0 hi
  have em : ((s.men.map eI).length : Int) = s.men.length := by simp
  have el : ((l.map eCount).length : Int) = l.length := by simp
  have k1 := hh.kind.first
  have k2 := hh.kind.man
  have k3 := hh.kind.ship
  have hrr := fun t h => rrun_l one hg hi (t := t) h
  rw [← em] at hrr
  have hF : ((spanN s.kinds[i].first : Nat) : Int) = s.kinds[i].first.hi - s.kinds[i].first.lo + 1 := by unfold spanN; omega
  have hM : ((spanN s.kinds[i].man : Nat) : Int) = s.kinds[i].man.hi - s.kinds[i].man.lo + 1 := by unfold spanN; omega
  have hP : ((spanN s.kinds[i].ship : Nat) : Int) = s.kinds[i].ship.hi - s.kinds[i].ship.lo + 1 := by unfold spanN; omega
  have hrun : ∀ n m p : Int, s.kinds[i].first.lo ≤ n ∧ n ≤ s.kinds[i].first.hi → s.kinds[i].man.lo ≤ m ∧ m ≤ s.kinds[i].man.hi → s.kinds[i].ship.lo ≤ p ∧ p ≤ s.kinds[i].ship.hi → RunOk s.men s.kinds[i] (cargoRow i s.cargos) ⟨n, m, p⟩ := fun n m p a b c => hh.run a b c
  have hidx : (s.kinds.map eKind)[((i : Nat) : Int).toNat]? = some (eKind s.kinds[i]) := map_at hi
  clear hh
  unfold allOf
  generalize cargoRow i s.cargos = row at *
  generalize s.kinds[i] = k at *
  have hFM : spanN k.first * spanN k.man * spanN k.ship ≤ 301 * 7 * 13 := Nat.mul_le_mul (Nat.mul_le_mul (by omega) (by omega)) (by omega)
  refine PureV.body (fn := Try.f101) rfl rfl rfl rfl ?_
  refine wpC_sound (mu := fun _ => false) ?_
  repeat' (first |with_reducible (first|refine RM.c2 ?_|refine RM.c3 ?_|refine RM.c4 ?_|refine RM.c9 ?_|refine RM.o1 ?_|refine RM.o2 ?_|refine RM.o4 ?_|refine RM.o5 ?_|refine RM.o6 ?_|refine RM.p2 ?_|refine RM.p3 ?_) |((with_reducible show force _ _);first|refine RM.f1 rfl ?_|refine RM.f2 rfl ?_|refine RM.f3 rfl ?_|refine RM.f5 rfl ?_|refine RM.f7 rfl ?_|refine RM.g2 rfl ?_) |((with_reducible show wpOne _ _ _ _ _ _ _ _ _ _ _ _);refine RM.o8 rfl ?_) |(refine ⟨_, rfl, ?_⟩) |(refine ⟨_, _, rfl, by decide, ?_⟩) |(refine ⟨rfl, rfl, rfl, ?_⟩) |(refine ⟨_, _, rfl, _, rfl, ?_⟩) |(refine And.intro (Nat.le_of_ble_eq_true rfl) ?_) |(refine And.intro (by kernel_rfl) ?_) |(refine ⟨_, _, rfl, rfl, rfl, rfl, Nat.le_of_ble_eq_true rfl, ?_⟩) |(refine ⟨eKind k, ⟨by omega, hidx⟩, rfl, ?_⟩) |fail)
  refine SemC.weaker (Weaker.trans (Weaker.addNil 5) (Weaker.toS (l := [(1, .sl (l.map eCount) false), (2, I64 i), (3, .pt (eStores s) 0), (7, pastV (pastN s.men k row l i (0 * spanN k.man * spanN k.ship))), (8, .ptr 0 0 0), (9, I64 (k.first.lo + ((0 : Nat) : Int)))]) (hp := [.cells (eKind k) 0 0, pastB s.men k row (pastN s.men k row l i (0 * spanN k.man * spanN k.ship))]) 2 (by rw [Nat.zero_mul, Nat.zero_mul]; rfl) ⟨Soft.refl _, Soft.refl _, Soft.refl _, (by rw [Nat.zero_mul, Nat.zero_mul]; exact Soft.nilRow), Soft.refl _, Soft.of (i64c (by simp)), trivial⟩ (Nat.zero_le _) rfl (past_inb _ _ _ _ _ rfl))) ?_
  refine SemC.loop (fun a : Nat => a ≤ spanN k.first) (fun a => ⟨mkFr [(1, .sl (l.map eCount) false), (2, I64 i), (3, .pt (eStores s) 0), (7, pastV (pastN s.men k row l i (a * spanN k.man * spanN k.ship))), (8, .ptr 0 0 0), (9, I64 (k.first.lo + (a : Int)))], [.cells (eKind k) 0 0, pastB s.men k row (pastN s.men k row l i (a * spanN k.man * spanN k.ship))], Amb.none, false, 0⟩) (fun a => spanN k.first - a) ?_ 0 (Nat.zero_le _)
  intro a ha
  refine wpC_sound (mu := fun _ => false) ?_
  repeat' (first |with_reducible (first|refine RM.c2 ?_|refine RM.c4 ?_|refine RM.c9 ?_|refine RM.o1 ?_|refine RM.o2 ?_|refine RM.o4 ?_|refine RM.o5 ?_|refine RM.p2 ?_|refine RM.p5 ?_) |((with_reducible show force _ _);first|refine RM.f1 rfl ?_|refine RM.f7 rfl ?_) |((with_reducible show wpOne _ _ _ _ _ _ _ _ _ _ _ _);refine RM.o8 rfl ?_) |((with_reducible show wpBin _ _ _ _ _ _ _ _ _);refine RM.b7 rfl rfl ?_) |(refine ⟨_, _, rfl, by decide, ?_⟩) |(refine ⟨_, _, rfl, _, rfl, ?_⟩) |fail)
  refine RM.e1 rfl ⟨fun hc => ?_, fun hc => ?_⟩
  · rw [decide_eq_true_eq] at hc
    have ha1 : a < spanN k.first := by omega
    repeat' (first |with_reducible (first|refine RM.c1 ?_|refine RM.c2 ?_|refine RM.c3 ?_|refine RM.c4 ?_|refine RM.c9 ?_|refine RM.o1 ?_|refine RM.o2 ?_|refine RM.o4 ?_|refine RM.o5 ?_|refine RM.p3 ?_) |((with_reducible show force _ _);first|refine RM.f1 rfl ?_|refine RM.f7 rfl ?_) |((with_reducible show wpOne _ _ _ _ _ _ _ _ _ _ _ _);refine RM.o8 rfl ?_) |(refine ⟨_, _, rfl, by decide, ?_⟩) |(refine ⟨_, _, rfl, _, rfl, ?_⟩) |fail)
    refine SemC.weaker (Weaker.toS (l := [(1, .sl (l.map eCount) false), (2, I64 i), (3, .pt (eStores s) 0), (7, pastV (pastN s.men k row l i ((a * spanN k.man + 0) * spanN k.ship))), (8, .ptr 0 0 0), (9, I64 (k.first.lo + (a : Int))), (10, I64 (k.man.lo + ((0 : Nat) : Int)))]) (hp := [.cells (eKind k) 0 0, pastB s.men k row (pastN s.men k row l i ((a * spanN k.man + 0) * spanN k.ship))]) 2 rfl ⟨Soft.refl _, Soft.refl _, Soft.refl _, Soft.refl _, Soft.refl _, Soft.refl _, Soft.of (i64c (by simp)), trivial⟩ (Nat.zero_le _) rfl (past_inb _ _ _ _ _ rfl)) ?_
    refine SemC.loop (fun m : Nat => m ≤ spanN k.man) (fun m => ⟨mkFr [(1, .sl (l.map eCount) false), (2, I64 i), (3, .pt (eStores s) 0), (7, pastV (pastN s.men k row l i ((a * spanN k.man + m) * spanN k.ship))), (8, .ptr 0 0 0), (9, I64 (k.first.lo + (a : Int))), (10, I64 (k.man.lo + (m : Int)))], [.cells (eKind k) 0 0, pastB s.men k row (pastN s.men k row l i ((a * spanN k.man + m) * spanN k.ship))], Amb.none, false, 0⟩) (fun m => spanN k.man - m) ?_ 0 (Nat.zero_le _)
    intro m hm
    refine wpC_sound (mu := fun _ => false) ?_
    repeat' (first |with_reducible (first|refine RM.c2 ?_|refine RM.c4 ?_|refine RM.c9 ?_|refine RM.o1 ?_|refine RM.o2 ?_|refine RM.o4 ?_|refine RM.o5 ?_|refine RM.p2 ?_|refine RM.p5 ?_) |((with_reducible show force _ _);first|refine RM.f1 rfl ?_|refine RM.f7 rfl ?_) |((with_reducible show wpOne _ _ _ _ _ _ _ _ _ _ _ _);refine RM.o8 rfl ?_) |((with_reducible show wpBin _ _ _ _ _ _ _ _ _);refine RM.b7 rfl rfl ?_) |(refine ⟨_, _, rfl, by decide, ?_⟩) |(refine ⟨_, _, rfl, _, rfl, ?_⟩) |fail)
    refine RM.e1 rfl ⟨fun hc => ?_, fun hc => ?_⟩
    · rw [decide_eq_true_eq] at hc
      have hm1 : m < spanN k.man := by omega
      repeat' (first |with_reducible (first|refine RM.c1 ?_|refine RM.c2 ?_|refine RM.c3 ?_|refine RM.c4 ?_|refine RM.c9 ?_|refine RM.o1 ?_|refine RM.o2 ?_|refine RM.o4 ?_|refine RM.o5 ?_|refine RM.p3 ?_) |((with_reducible show force _ _);first|refine RM.f1 rfl ?_|refine RM.f7 rfl ?_) |((with_reducible show wpOne _ _ _ _ _ _ _ _ _ _ _ _);refine RM.o8 rfl ?_) |(refine ⟨_, _, rfl, by decide, ?_⟩) |(refine ⟨_, _, rfl, _, rfl, ?_⟩) |fail)
      refine SemC.weaker (Weaker.toS (l := [(1, .sl (l.map eCount) false), (2, I64 i), (3, .pt (eStores s) 0), (7, pastV (pastN s.men k row l i ((a * spanN k.man + m) * spanN k.ship + 0))), (8, .ptr 0 0 0), (9, I64 (k.first.lo + (a : Int))), (10, I64 (k.man.lo + (m : Int))), (11, I64 (k.ship.lo + ((0 : Nat) : Int)))]) (hp := [.cells (eKind k) 0 0, pastB s.men k row (pastN s.men k row l i ((a * spanN k.man + m) * spanN k.ship + 0))]) 2 rfl ⟨Soft.refl _, Soft.refl _, Soft.refl _, Soft.refl _, Soft.refl _, Soft.refl _, Soft.refl _, Soft.of (i64c (by simp)), trivial⟩ (Nat.zero_le _) rfl (past_inb _ _ _ _ _ rfl)) ?_
      refine SemC.loop (fun p : Nat => p ≤ spanN k.ship) (fun p => ⟨mkFr [(1, .sl (l.map eCount) false), (2, I64 i), (3, .pt (eStores s) 0), (7, pastV (pastN s.men k row l i ((a * spanN k.man + m) * spanN k.ship + p))), (8, .ptr 0 0 0), (9, I64 (k.first.lo + (a : Int))), (10, I64 (k.man.lo + (m : Int))), (11, I64 (k.ship.lo + (p : Int)))], [.cells (eKind k) 0 0, pastB s.men k row (pastN s.men k row l i ((a * spanN k.man + m) * spanN k.ship + p))], Amb.none, false, 0⟩) (fun p => spanN k.ship - p) ?_ 0 (Nat.zero_le _)
      intro p hp
      refine wpC_sound (mu := fun _ => false) ?_
      repeat' (first |with_reducible (first|refine RM.c2 ?_|refine RM.c4 ?_|refine RM.c9 ?_|refine RM.o1 ?_|refine RM.o2 ?_|refine RM.o4 ?_|refine RM.o5 ?_|refine RM.p2 ?_|refine RM.p5 ?_) |((with_reducible show force _ _);first|refine RM.f1 rfl ?_|refine RM.f7 rfl ?_) |((with_reducible show wpOne _ _ _ _ _ _ _ _ _ _ _ _);refine RM.o8 rfl ?_) |((with_reducible show wpBin _ _ _ _ _ _ _ _ _);refine RM.b7 rfl rfl ?_) |(refine ⟨_, _, rfl, by decide, ?_⟩) |(refine ⟨_, _, rfl, _, rfl, ?_⟩) |fail)
      refine RM.e1 rfl ⟨fun hc => ?_, fun hc => ?_⟩
      · rw [decide_eq_true_eq] at hc
        have hp1 : p < spanN k.ship := by omega
        have hq : (a * spanN k.man + m) * spanN k.ship + p < spanN k.first * spanN k.man * spanN k.ship := by
          have q1 : (a + 1) * spanN k.man ≤ spanN k.first * spanN k.man := Nat.mul_le_mul_right _ ha1
          rw [Nat.add_mul, Nat.one_mul] at q1
          have q2 : (a * spanN k.man + m + 1) * spanN k.ship ≤ spanN k.first * spanN k.man * spanN k.ship := Nat.mul_le_mul_right _ (by omega)
          rw [Nat.add_mul, Nat.one_mul] at q2
          omega
        have hsucc := pastN_succ s.men k row l i ((a * spanN k.man + m) * spanN k.ship + p)
        rw [truthQ_at k hm1 hp1] at hsucc
        have hlen := pastN_len s.men k row l i ((a * spanN k.man + m) * spanN k.ship + p)
        have hrr := hrr ⟨k.first.lo + a, k.man.lo + m, k.ship.lo + p⟩ (hrun _ _ _ (by omega) (by omega) (by omega))
        have hll := lvl_len s.men k row ⟨k.first.lo + a, k.man.lo + m, k.ship.lo + p⟩
        have hag : agr s.men k row l i ⟨k.first.lo + a, k.man.lo + m, k.ship.lo + p⟩ = l.all fun c => !decide (c.kind = (i : Int)) || cntIn (lvl s.men k row ⟨k.first.lo + a, k.man.lo + m, k.ship.lo + p⟩) c := rfl
        have hql : (pastN s.men k row l i ((a * spanN k.man + m) * spanN k.ship + p)).length ≤ 30000 := by omega
        generalize hLL : pastN s.men k row l i ((a * spanN k.man + m) * spanN k.ship + p) = L at *
        repeat' (first |with_reducible (first|refine RM.c1 ?_|refine RM.c2 ?_|refine RM.c3 ?_|refine RM.c4 ?_|refine RM.c9 ?_|refine RM.o1 ?_|refine RM.o2 ?_|refine RM.o4 ?_|refine RM.o5 ?_|refine RM.o6 ?_|refine RM.o7 ?_|refine RM.o9 ?_|refine RM.p1 ?_|refine RM.p2 ?_|refine RM.p3 ?_|refine RM.p6 ?_) |((with_reducible show force _ _);first|refine RM.f1 rfl ?_|refine RM.f2 rfl ?_|refine RM.f3 rfl ?_|refine RM.f4 rfl ?_|refine RM.f5 rfl ?_|refine RM.f6 rfl ?_|refine RM.f7 rfl ?_|refine RM.g2 rfl ?_) |((with_reducible show wpOne _ _ _ _ _ _ _ _ _ _ _ _);refine RM.o8 rfl ?_) |((with_reducible show wpLen _ _ _ _ _);refine RM.l1 rfl ?_) |(refine ⟨_, rfl, ?_⟩) |(refine ⟨_, _, rfl, by decide, ?_⟩) |(refine And.intro (Nat.le_of_ble_eq_true rfl) ?_) |(refine And.intro (by kernel_rfl) ?_) |(refine ⟨_, _, rfl, rfl, rfl, rfl, Nat.le_of_ble_eq_true rfl, ?_⟩) |(refine ⟨_, _, rfl, Nat.le_of_ble_eq_true rfl, ?_⟩) |(refine PureV.call hrr rfl rfl ?_) |fail)
        generalize hlv : lvl s.men k row ⟨k.first.lo + a, k.man.lo + m, k.ship.lo + p⟩ = lv at *
        generalize hff : (fun c : Count => !decide (c.kind = (i : Int)) || cntIn lv c) = ff at *
        refine SemC.weaker (Weaker.to (l := [(1, .sl (l.map eCount) false), (2, I64 i), (3, .pt (eStores s) 0), (7, pastV L), (8, .ptr 0 0 0), (9, I64 (k.first.lo + (a : Int))), (10, I64 (k.man.lo + (m : Int))), (11, I64 (k.ship.lo + (p : Int))), (12, .ptr 2 0 0), (13, .sl (lv.map eI) false), (14, I64 (shortF s.men k row ⟨k.first.lo + a, k.man.lo + m, k.ship.lo + p⟩)), (15, BB ((l.take 0).all ff)), (16, I64 ((0 : Nat) : Int))]) (hp := [.cells (eKind k) 0 0, pastB s.men k row L, .cells (eTruth ⟨k.first.lo + a, k.man.lo + m, k.ship.lo + p⟩) 0 0]) 3 rfl ⟨rfl, rfl, rfl, rfl, rfl, rfl, rfl, rfl, rfl, rfl, rfl, rfl, rfl, trivial⟩ (Nat.zero_le _) rfl (past_inb3 _ _ _ _ _ _ rfl rfl)) ?_
        refine SemC.loop (fun j : Nat => j ≤ l.length) (fun j => ⟨mkFr [(1, .sl (l.map eCount) false), (2, I64 i), (3, .pt (eStores s) 0), (7, pastV L), (8, .ptr 0 0 0), (9, I64 (k.first.lo + (a : Int))), (10, I64 (k.man.lo + (m : Int))), (11, I64 (k.ship.lo + (p : Int))), (12, .ptr 2 0 0), (13, .sl (lv.map eI) false), (14, I64 (shortF s.men k row ⟨k.first.lo + a, k.man.lo + m, k.ship.lo + p⟩)), (15, BB ((l.take j).all ff)), (16, I64 (j : Int))], [.cells (eKind k) 0 0, pastB s.men k row L, .cells (eTruth ⟨k.first.lo + a, k.man.lo + m, k.ship.lo + p⟩) 0 0], Amb.none, false, 0⟩) (fun j => l.length - j) ?_ 0 (Nat.zero_le _)
        intro j hj
        refine wpC_sound (mu := fun _ => false) ?_
        repeat' (first |with_reducible (first|refine RM.c2 ?_|refine RM.c4 ?_|refine RM.c9 ?_|refine RM.o1 ?_|refine RM.o2 ?_|refine RM.o4 ?_|refine RM.o5 ?_|refine RM.p2 ?_|refine RM.p5 ?_|refine RM.p6 ?_) |((with_reducible show force _ _);first|refine RM.f1 rfl ?_|refine RM.f2 rfl ?_) |((with_reducible show wpOne _ _ _ _ _ _ _ _ _ _ _ _);refine RM.o8 rfl ?_) |((with_reducible show wpBin _ _ _ _ _ _ _ _ _);refine RM.b6 rfl rfl ?_) |((with_reducible show wpLen _ _ _ _ _);refine RM.l1 rfl ?_) |fail)
        refine RM.e1 rfl ⟨fun hc => ?_, fun hc => ?_⟩
        · have hlt : j < l.length := by simpa only [el, decide_eq_true_eq, Int.ofNat_lt] using hc
          have hat := all_take (f := ff) hlt
          have hagc := agrees_c one l[j] lv (by have := hlc _ (List.getElem_mem hlt); omega)
          have hfj : ff l[j] = (!decide (l[j].kind = (i : Int)) || cntIn lv l[j]) := by rw [← hff]
          cases hb : (l.take j).all ff with
          | false =>
            rw [hb, Bool.false_and] at hat
            repeat' (first |with_reducible (first|refine RM.c1 ?_|refine RM.c2 ?_|refine RM.c3 ?_|refine RM.c4 ?_|refine RM.c9 ?_|refine RM.d3 ?_|refine RM.o1 ?_|refine RM.o2 ?_|refine RM.o4 ?_|refine RM.o5 ?_|refine RM.p2 ?_|refine RM.p3 ?_|refine RM.p4 ?_|refine RM.p5 ?_) |((with_reducible show force _ _);refine RM.f1 rfl ?_) |((with_reducible show wpOne _ _ _ _ _ _ _ _ _ _ _ _);refine RM.o8 rfl ?_) |((with_reducible show wpGuard _ _ _ _ _);first|refine wpGuard_no rfl rfl rfl ?_|refine wpGuard_skip rfl rfl ?_) |((with_reducible show wpPick _ _ _ _ _);refine RM.k1 rfl ?_) |((with_reducible show wpPickB _ _ _ _ _);refine RM.k3 rfl ?_) |((with_reducible show wpBin _ _ _ _ _ _ _ _ _);refine RM.b1 rfl rfl (by omega) ?_) |fail)
            exact ⟨j + 1, hlt, (by dsimp only; omega), Weaker.to 3 rfl ⟨rfl, rfl, rfl, rfl, rfl, rfl, rfl, rfl, rfl, rfl, rfl, bbc hat.symm, i64c (by simp), trivial⟩ (Nat.zero_le _) rfl (past_inb3 _ _ _ _ _ _ rfl rfl)⟩
          | true =>
            rw [hb, Bool.true_and, hfj] at hat
            by_cases hk : l[j].kind = (i : Int)
            · have d1 : (!decide (l[j].kind = (i : Int))) = false := by rw [decide_eq_true hk]; rfl
              rw [d1, Bool.false_or] at hat
              repeat' (first |with_reducible (first|refine RM.c1 ?_|refine RM.c2 ?_|refine RM.c3 ?_|refine RM.c4 ?_|refine RM.c9 ?_|refine RM.d3 ?_|refine RM.o1 ?_|refine RM.o2 ?_|refine RM.o4 ?_|refine RM.o5 ?_|refine RM.o7 ?_|refine RM.o9 ?_|refine RM.p1 ?_|refine RM.p2 ?_|refine RM.p3 ?_|refine RM.p4 ?_|refine RM.p5 ?_) |((with_reducible show force _ _);first|refine RM.f1 rfl ?_|refine RM.f2 rfl ?_|refine RM.f3 rfl ?_|refine RM.f4 rfl ?_|refine RM.f5 rfl ?_) |((with_reducible show wpOne _ _ _ _ _ _ _ _ _ _ _ _);refine RM.o8 rfl ?_) |((with_reducible show wpGuard _ _ _ _ _);first|refine wpGuard_yes rfl rfl rfl ?_|refine wpGuard_yes rfl rfl (by assumption) ?_) |((with_reducible show wpPick _ _ _ _ _);refine RM.k1 rfl ?_) |((with_reducible show wpPickB _ _ _ _ _);first|refine RM.k2 rfl ?_|refine RM.k3 (by assumption) ?_) |((with_reducible show wpBin _ _ _ _ _ _ _ _ _);first|refine RM.b5 rfl rfl ?_|refine RM.b1 rfl rfl (by omega) ?_) |(refine ⟨_, rfl, ?_⟩) |(refine ⟨_, _, rfl, by decide, ?_⟩) |(refine And.intro (Nat.le_of_ble_eq_true rfl) ?_) |(refine ⟨eCount l[j], ⟨by omega, map_at hlt⟩, rfl, ?_⟩) |(refine PureV.call hagc rfl rfl ?_) |fail)
              exact ⟨j + 1, hlt, (by dsimp only; omega), Weaker.to 3 rfl ⟨rfl, rfl, rfl, rfl, rfl, rfl, rfl, rfl, rfl, rfl, rfl, bbc hat.symm, i64c (by simp), trivial⟩ (Nat.zero_le _) rfl (past_inb3 _ _ _ _ _ _ rfl rfl)⟩
            · have d1 : (!decide (l[j].kind = (i : Int))) = true := by rw [decide_eq_false hk]; rfl
              rw [d1, Bool.true_or] at hat
              repeat' (first |with_reducible (first|refine RM.c1 ?_|refine RM.c2 ?_|refine RM.c3 ?_|refine RM.c4 ?_|refine RM.c9 ?_|refine RM.d3 ?_|refine RM.o1 ?_|refine RM.o2 ?_|refine RM.o4 ?_|refine RM.o5 ?_|refine RM.p2 ?_|refine RM.p3 ?_|refine RM.p4 ?_|refine RM.p5 ?_) |((with_reducible show force _ _);first|refine RM.f1 rfl ?_|refine RM.f2 rfl ?_|refine RM.f3 rfl ?_) |((with_reducible show wpOne _ _ _ _ _ _ _ _ _ _ _ _);refine RM.o8 rfl ?_) |((with_reducible show wpGuard _ _ _ _ _);first|refine wpGuard_yes rfl rfl rfl ?_|refine wpGuard_no rfl rfl (by assumption) ?_) |((with_reducible show wpPick _ _ _ _ _);refine RM.k1 rfl ?_) |((with_reducible show wpPickB _ _ _ _ _);first|refine RM.k2 rfl ?_|refine RM.k2 (by assumption) ?_) |((with_reducible show wpBin _ _ _ _ _ _ _ _ _);first|refine RM.b5 rfl rfl ?_|refine RM.b1 rfl rfl (by omega) ?_) |(refine ⟨_, rfl, ?_⟩) |(refine ⟨_, _, rfl, by decide, ?_⟩) |(refine ⟨eCount l[j], ⟨by omega, map_at hlt⟩, rfl, ?_⟩) |fail)
              exact ⟨j + 1, hlt, (by dsimp only; omega), Weaker.to 3 rfl ⟨rfl, rfl, rfl, rfl, rfl, rfl, rfl, rfl, rfl, rfl, rfl, bbc hat.symm, i64c (by simp), trivial⟩ (Nat.zero_le _) rfl (past_inb3 _ _ _ _ _ _ rfl rfl)⟩
        · have hjl : l.take j = l := List.take_of_length_le (by rw [el, decide_eq_false_iff_not] at hc; omega)
          rw [hjl]
          subst hlv
          cases hb : l.all ff with
          | true =>
            rw [hag, hb, if_pos rfl] at hsucc
            repeat' (first |with_reducible (first|refine RM.c2 ?_|refine RM.c4 ?_|refine RM.c6 ?_|refine RM.c9 ?_|refine RM.d2 ?_|refine RM.o1 ?_|refine RM.o2 ?_|refine RM.o4 ?_|refine RM.o5 ?_|refine RM.p2 ?_|refine RM.q2 ?_) |((with_reducible show force _ _);first|refine RM.f1 rfl ?_|refine RM.f2 rfl ?_|refine RM.f5 rfl ?_|refine RM.f8 rfl ?_) |((with_reducible show wpOne _ _ _ _ _ _ _ _ _ _ _ _);refine RM.o8 rfl ?_) |((with_reducible show wpC _ _ _ _ (.cond _ _ _) _ _);refine RM.e2 rfl rfl ?_) |((with_reducible show blockK _ _ _ _);refine RM.d5 rfl ?_) |(refine ⟨_, rfl, ?_⟩) |(refine ⟨rfl, rfl, rfl, ?_⟩) |(refine And.intro (by kernel_rfl) ?_) |(refine ⟨_, _, rfl, Nat.le_of_ble_eq_true rfl, ?_⟩) |fail)
            refine ⟨[ePast s.men k row ⟨k.first.lo + a, k.man.lo + m, k.ship.lo + p⟩], ⟨fun el hel => by rw [List.mem_singleton.1 hel]; rfl, rfl⟩, rfl, _, rfl, by rw [past_flen], Or.inr rfl, And.intro (by dsimp only [List.length]; omega) (by dsimp only [List.length]; omega), fun hn => absurd hn (by simp), fun _ => ?_⟩
            repeat' (first |with_reducible (first|refine RM.c4 ?_|refine RM.c9 ?_|refine RM.d3 ?_|refine RM.o1 ?_|refine RM.o2 ?_|refine RM.o4 ?_|refine RM.o5 ?_|refine RM.p2 ?_|refine RM.p3 ?_|refine RM.p5 ?_) |((with_reducible show force _ _);first|refine RM.f1 rfl ?_|refine RM.f8 rfl ?_) |((with_reducible show wpOne _ _ _ _ _ _ _ _ _ _ _ _);refine RM.o8 rfl ?_) |((with_reducible show wpBin _ _ _ _ _ _ _ _ _);refine RM.b1 rfl rfl (by omega) ?_) |fail)
            have e2 : pastN s.men k row l i ((a * spanN k.man + m) * spanN k.ship + (p + 1)) = L ++ [⟨k.first.lo + a, k.man.lo + m, k.ship.lo + p⟩] := hsucc
            refine ⟨p + 1, hp1, (by dsimp only; omega), ?_⟩
            show Weaker _ ⟨mkFr [(1, .sl (l.map eCount) false), (2, I64 i), (3, .pt (eStores s) 0), (7, pastV (pastN s.men k row l i ((a * spanN k.man + m) * spanN k.ship + (p + 1)))), (8, .ptr 0 0 0), (9, I64 (k.first.lo + (a : Int))), (10, I64 (k.man.lo + (m : Int))), (11, I64 (k.ship.lo + ((p + 1 : Nat) : Int)))], [.cells (eKind k) 0 0, pastB s.men k row (pastN s.men k row l i ((a * spanN k.man + m) * spanN k.ship + (p + 1)))], Amb.none, false, 0⟩
            rw [e2]
            exact Weaker.to 2 (by rw [pastB_snoc]; rfl) ⟨rfl, rfl, rfl, (by rw [pastV_snoc]; rfl), rfl, rfl, rfl, i64c (by simp; omega), trivial⟩ (Nat.zero_le _) rfl (past_inb _ _ _ _ _ rfl)
          | false =>
            rw [hag, hb, if_neg (by decide)] at hsucc
            repeat' (first |with_reducible (first|refine RM.c1 ?_|refine RM.c2 ?_|refine RM.c4 ?_|refine RM.c6 ?_|refine RM.c9 ?_|refine RM.d2 ?_|refine RM.d3 ?_|refine RM.o1 ?_|refine RM.o2 ?_|refine RM.o4 ?_|refine RM.o5 ?_|refine RM.p2 ?_|refine RM.p3 ?_|refine RM.p5 ?_|refine RM.q2 ?_) |((with_reducible show force _ _);refine RM.f1 rfl ?_) |((with_reducible show wpOne _ _ _ _ _ _ _ _ _ _ _ _);refine RM.o8 rfl ?_) |((with_reducible show wpC _ _ _ _ (.cond _ _ _) _ _);refine RM.e3 rfl rfl ?_) |((with_reducible show wpBin _ _ _ _ _ _ _ _ _);refine RM.b1 rfl rfl (by omega) ?_) |((with_reducible show blockK _ _ _ _);refine RM.d5 rfl ?_) |fail)
            have e2 : pastN s.men k row l i ((a * spanN k.man + m) * spanN k.ship + (p + 1)) = L := hsucc
            refine ⟨p + 1, hp1, (by dsimp only; omega), ?_⟩
            show Weaker _ ⟨mkFr [(1, .sl (l.map eCount) false), (2, I64 i), (3, .pt (eStores s) 0), (7, pastV (pastN s.men k row l i ((a * spanN k.man + m) * spanN k.ship + (p + 1)))), (8, .ptr 0 0 0), (9, I64 (k.first.lo + (a : Int))), (10, I64 (k.man.lo + (m : Int))), (11, I64 (k.ship.lo + ((p + 1 : Nat) : Int)))], [.cells (eKind k) 0 0, pastB s.men k row (pastN s.men k row l i ((a * spanN k.man + m) * spanN k.ship + (p + 1)))], Amb.none, false, 0⟩
            rw [e2]
            exact Weaker.to 2 rfl ⟨rfl, rfl, rfl, rfl, rfl, rfl, rfl, i64c (by simp; omega), trivial⟩ (Nat.zero_le _) rfl (past_inb _ _ _ _ _ rfl)
      · have hpP : p = spanN k.ship := by rw [decide_eq_false_iff_not] at hc; omega
        subst hpP
        repeat' (first |with_reducible (first|refine RM.c4 ?_|refine RM.c6 ?_|refine RM.c9 ?_|refine RM.d2 ?_|refine RM.d3 ?_|refine RM.o1 ?_|refine RM.o2 ?_|refine RM.o4 ?_|refine RM.o5 ?_|refine RM.p2 ?_|refine RM.p3 ?_|refine RM.p5 ?_|refine RM.q2 ?_) |((with_reducible show force _ _);refine RM.f1 rfl ?_) |((with_reducible show wpOne _ _ _ _ _ _ _ _ _ _ _ _);refine RM.o8 rfl ?_) |((with_reducible show wpBin _ _ _ _ _ _ _ _ _);refine RM.b1 rfl rfl (by omega) ?_) |((with_reducible show blockK _ _ _ _);refine RM.d5 rfl ?_) |fail)
        refine ⟨m + 1, hm1, (by dsimp only; omega), ?_⟩
        show Weaker _ ⟨mkFr [(1, .sl (l.map eCount) false), (2, I64 i), (3, .pt (eStores s) 0), (7, pastV (pastN s.men k row l i ((a * spanN k.man + (m + 1)) * spanN k.ship))), (8, .ptr 0 0 0), (9, I64 (k.first.lo + (a : Int))), (10, I64 (k.man.lo + ((m + 1 : Nat) : Int)))], [.cells (eKind k) 0 0, pastB s.men k row (pastN s.men k row l i ((a * spanN k.man + (m + 1)) * spanN k.ship))], Amb.none, false, 0⟩
        rw [← Nat.add_assoc, Nat.add_mul (a * spanN k.man + m), Nat.one_mul]
        exact Weaker.to 2 rfl ⟨rfl, rfl, rfl, rfl, rfl, rfl, i64c (by simp; omega), trivial⟩ (Nat.zero_le _) rfl (past_inb _ _ _ _ _ rfl)
    · have hmM : m = spanN k.man := by rw [decide_eq_false_iff_not] at hc; omega
      subst hmM
      repeat' (first |with_reducible (first|refine RM.c4 ?_|refine RM.c6 ?_|refine RM.c9 ?_|refine RM.d2 ?_|refine RM.d3 ?_|refine RM.o1 ?_|refine RM.o2 ?_|refine RM.o4 ?_|refine RM.o5 ?_|refine RM.p2 ?_|refine RM.p3 ?_|refine RM.p5 ?_|refine RM.q2 ?_) |((with_reducible show force _ _);refine RM.f1 rfl ?_) |((with_reducible show wpOne _ _ _ _ _ _ _ _ _ _ _ _);refine RM.o8 rfl ?_) |((with_reducible show wpBin _ _ _ _ _ _ _ _ _);refine RM.b1 rfl rfl (by omega) ?_) |((with_reducible show blockK _ _ _ _);refine RM.d5 rfl ?_) |fail)
      refine ⟨a + 1, ha1, (by dsimp only; omega), ?_⟩
      show Weaker _ ⟨mkFr [(1, .sl (l.map eCount) false), (2, I64 i), (3, .pt (eStores s) 0), (7, pastV (pastN s.men k row l i ((a + 1) * spanN k.man * spanN k.ship))), (8, .ptr 0 0 0), (9, I64 (k.first.lo + ((a + 1 : Nat) : Int)))], [.cells (eKind k) 0 0, pastB s.men k row (pastN s.men k row l i ((a + 1) * spanN k.man * spanN k.ship))], Amb.none, false, 0⟩
      rw [Nat.add_mul a, Nat.one_mul]
      exact Weaker.to 2 rfl ⟨rfl, rfl, rfl, rfl, rfl, i64c (by simp; omega), trivial⟩ (Nat.zero_le _) rfl (past_inb _ _ _ _ _ rfl)
  · have haF : a = spanN k.first := by rw [decide_eq_false_iff_not] at hc; omega
    subst haF
    repeat' (first |with_reducible (first|refine RM.c2 ?_|refine RM.c4 ?_|refine RM.c6 ?_|refine RM.c7 ?_|refine RM.c9 ?_|refine RM.d2 ?_|refine RM.o1 ?_|refine RM.o2 ?_|refine RM.o4 ?_|refine RM.o5 ?_|refine RM.p2 ?_|refine RM.p3 ?_|refine RM.q2 ?_) |((with_reducible show force _ _);refine RM.f8 rfl ?_) |((with_reducible show wpOne _ _ _ _ _ _ _ _ _ _ _ _);refine RM.o8 rfl ?_) |((with_reducible show blockK _ _ _ _);refine RM.d5 rfl ?_) |fail)
    exact ⟨[_], ⟨past_fz _ _ _ _ _, trivial⟩, rfl⟩
end Go.Proofs.Ytmkaeohmdcoanaa
open Go Go.RM
namespace Go.Proofs.Ytmkaeohmdcoanaa
set_option maxRecDepth 100000
set_option maxHeartbeats 4000000

/-! ### Lasts, Short, Level -/

theorem ldHO {own : Bool} {fr : Nat → AV} {hp : List AB} {K : AV → List AB → Prop} {x : Operand} {s : Stores} {k : Kind} {row : List Int} {c : AV} {j ver es : Nat} (h : row.length = 30) (hx : evA fr x = .ptr j ver 0) (hj : hp[j]? = some (.cells (eHoldV s k row c) es ver)) (hk : K (.ag (eHoldV s k row c)) hp) : RM.wpOp TT own (.load 109 x) fr hp K := by
  show wpLoad TT 109 (evA fr x) hp K
  rw [hx]
  refine ⟨_, es, hj, And.intro (by rw [hold_len h]; exact Nat.le_refl _) ?_⟩
  rw [hold_all h]
  exact hk

theorem stH {own : Bool} {fr : Nat → AV} {hp : List AB} {K : AV → List AB → Prop} {a x : Operand} {s : Stores} {k : Kind} {row : List Int} {f : List (List AV)} {b : Bool} {z : List AV} {j ver es : Nat} (h : row.length = 30) (ha : evA fr a = .ptr j ver 0) (hx : evA fr x = .ag (eHoldV s k row (.sl f b))) (hj : hp[j]? = some (.cells z es ver)) (hz : z.length = 43)
    (hk : K .junk (hp.set j (.cells (eHoldV s k row (.sl f b)) es ver))) : RM.wpOp TT own (.store 109 a x) fr hp K := by
  show force (evA fr x) fun v => wpStore TT 109 (evA fr a) v hp K
  rw [hx, ha]
  refine ⟨z, es, hj, rfl, holdd_one, hold_len h, by omega, ?_⟩
  rw [hold_over h hz]
  exact hk

def earlOf (s : Stores) (l : List Count) (i : Nat) (k : Kind) : Earl := earl s.men.length (shortF s.men k (cargoRow i s.cargos)) (truthsL s.men k (cargoRow i s.cargos) (cntsOf l i))

theorem earl_of (one : Bool) (s : Stores) (l : List Count) (h0 : cntsErr s l = 0) (i : Nat) (hi : i < s.kinds.length) :
    Pu one 68 [.ag (eHoldV s s.kinds[i] (cargoRow i s.cargos) (.sl ((cntsOf l i).map eCount) false))] (.tp [.ag (eTruth (earlOf s l i s.kinds[i]).t), I64 (earlOf s l i s.kinds[i]).day, I64 (earlOf s l i s.kinds[i]).e]) := earliest_c one (holdOk h0 hi)

theorem lasts_ok (one : Bool) (s : Stores) (h : s.Ok) (l : List Count) (h0 : cntsErr s l = 0) (i : Nat) (hi : i < s.kinds.length) :
    Pu one 25 [.ag (eStores s), .sl (l.map eCount) false, I64 i] (.tp [I64 (if (earlOf s l i s.kinds[i]).e = 0 then (earlOf s l i s.kinds[i]).day else 0), I64 (earlOf s l i s.kinds[i]).e]) := by
  have hen := enter_ok one s h l h0 i hi
  have hea := earl_of one s l h0 i hi
  have h30 := (holdOk h0 hi).row.len
  generalize earlOf s l i s.kinds[i] = z at hea ⊢
  generalize cargoRow i s.cargos = row at *
  generalize s.kinds[i] = k at *
  by_cases he : z.e = 0
  · rw [if_pos he]
    rw [he] at hea ⊢
    refine PureV.body (fn := Try.f25) rfl rfl rfl rfl ?_
    refine wpC_sound (mu := fun _ => false) ?_
    repeat' (first |(refine stH h30 rfl rfl rfl rfl ?_) |(refine ldHO h30 rfl rfl ?_) |with_reducible (first|refine RM.c1 ?_|refine RM.c2 ?_|refine RM.c4 ?_|refine RM.c7 ?_|refine RM.c9 ?_|refine RM.o1 ?_|refine RM.o2 ?_|refine RM.o4 ?_|refine RM.o5 ?_|refine RM.o6 ?_|refine RM.o7 ?_|refine RM.o9 ?_|refine RM.p1 ?_|refine RM.p2 ?_|refine RM.p3 ?_|refine RM.p5 ?_) |((with_reducible show force _ _);first|refine RM.f1 rfl ?_|refine RM.f2 rfl ?_|refine RM.f3 rfl ?_|refine RM.f4 rfl ?_|refine RM.f5 rfl ?_|refine RM.f6 rfl ?_|refine RM.f7 rfl ?_|refine RM.g2 rfl ?_) |((with_reducible show wpOne _ _ _ _ _ _ _ _ _ _ _ _);refine RM.o8 rfl ?_) |((with_reducible show wpC _ _ _ _ (.cond _ _ _) _ _);refine RM.e3 rfl rfl ?_) |((with_reducible show wpBin _ _ _ _ _ _ _ _ _);refine RM.b5 rfl rfl ?_) |(refine ⟨_, rfl, ?_⟩) |(refine ⟨rfl, rfl, rfl, ?_⟩) |(refine And.intro (Nat.le_of_ble_eq_true rfl) ?_) |(refine And.intro (by kernel_rfl) ?_) |(refine ⟨_, _, rfl, rfl, rfl, rfl, Nat.le_of_ble_eq_true rfl, ?_⟩) |(refine PureV.call hen rfl rfl ?_) |(refine PureV.call hea rfl (hdeep rfl) ?_) |fail)
    exact ⟨[_, _], ⟨Fz.deep rfl, Fz.deep rfl, trivial⟩, rfl⟩
  · rw [if_neg he]
    have d1 : (!decide (z.e = 0)) = true := by simpa using he
    refine PureV.body (fn := Try.f25) rfl rfl rfl rfl ?_
    refine wpC_sound (mu := fun _ => false) ?_
    repeat' (first |(refine stH h30 rfl rfl rfl rfl ?_) |(refine ldHO h30 rfl rfl ?_) |with_reducible (first|refine RM.c1 ?_|refine RM.c2 ?_|refine RM.c4 ?_|refine RM.c7 ?_|refine RM.c9 ?_|refine RM.d1 ?_|refine RM.o1 ?_|refine RM.o2 ?_|refine RM.o4 ?_|refine RM.o5 ?_|refine RM.o6 ?_|refine RM.o7 ?_|refine RM.o9 ?_|refine RM.p1 ?_|refine RM.p2 ?_|refine RM.p3 ?_|refine RM.p5 ?_) |((with_reducible show force _ _);first|refine RM.f1 rfl ?_|refine RM.f2 rfl ?_|refine RM.f3 rfl ?_|refine RM.f4 rfl ?_|refine RM.f5 rfl ?_|refine RM.f6 rfl ?_|refine RM.f7 rfl ?_|refine RM.g2 rfl ?_) |((with_reducible show wpOne _ _ _ _ _ _ _ _ _ _ _ _);refine RM.o8 rfl ?_) |((with_reducible show wpC _ _ _ _ (.cond _ _ _) _ _);first|refine RM.e3 rfl rfl ?_|refine RM.e2 rfl (by assumption) ?_) |((with_reducible show wpBin _ _ _ _ _ _ _ _ _);refine RM.b5 rfl rfl ?_) |(refine ⟨_, rfl, ?_⟩) |(refine ⟨rfl, rfl, rfl, ?_⟩) |(refine And.intro (Nat.le_of_ble_eq_true rfl) ?_) |(refine And.intro (by kernel_rfl) ?_) |(refine ⟨_, _, rfl, rfl, rfl, rfl, Nat.le_of_ble_eq_true rfl, ?_⟩) |(refine PureV.call hen rfl rfl ?_) |(refine PureV.call hea rfl (hdeep rfl) ?_) |fail)
    exact ⟨[_, _], ⟨Fz.deep rfl, Fz.deep rfl, trivial⟩, rfl⟩

theorem lasts_err (one : Bool) (s : Stores) (h : s.Ok) (l : List Count) (hl : l.length ≤ maxLen) (kd : Int) (he : askErr s l kd ≠ 0) : Pu one 25 [.ag (eStores s), .sl (l.map eCount) false, I64 kd] (.tp [I64 0, I64 (askErr s l kd)]) := by
  have hen := enter_err one s h l hl kd he
  have d1 : (!decide (askErr s l kd = 0)) = true := by simpa using he
  refine PureV.body (fn := Try.f25) rfl rfl rfl rfl ?_
  refine wpC_sound (mu := fun _ => false) ?_
  repeat' (first |with_reducible (first|refine RM.c2 ?_|refine RM.c4 ?_|refine RM.c7 ?_|refine RM.c9 ?_|refine RM.d1 ?_|refine RM.o1 ?_|refine RM.o2 ?_|refine RM.o4 ?_|refine RM.o5 ?_|refine RM.o6 ?_|refine RM.o7 ?_|refine RM.o9 ?_|refine RM.p1 ?_|refine RM.p2 ?_|refine RM.p3 ?_|refine RM.p5 ?_) |((with_reducible show force _ _);first|refine RM.f1 rfl ?_|refine RM.f2 rfl ?_|refine RM.f3 rfl ?_|refine RM.f4 rfl ?_|refine RM.f5 rfl ?_|refine RM.f6 rfl ?_|refine RM.f7 rfl ?_|refine RM.g2 rfl ?_) |((with_reducible show wpOne _ _ _ _ _ _ _ _ _ _ _ _);refine RM.o8 rfl ?_) |((with_reducible show wpC _ _ _ _ (.cond _ _ _) _ _);refine RM.e2 rfl (by assumption) ?_) |((with_reducible show wpBin _ _ _ _ _ _ _ _ _);refine RM.b5 rfl rfl ?_) |(refine ⟨_, rfl, ?_⟩) |(refine ⟨_, _, rfl, by decide, ?_⟩) |(refine ⟨rfl, rfl, rfl, ?_⟩) |(refine ⟨rfl, rfl, ?_⟩) |(refine And.intro (Nat.le_of_ble_eq_true rfl) ?_) |(refine And.intro (by kernel_rfl) ?_) |(refine PureV.call hen rfl rfl ?_) |fail)
  exact ⟨[_, _], ⟨Fz.deep rfl, Fz.deep rfl, trivial⟩, rfl⟩

def shortV (n : Nat) (z : Earl) : AV := if z.e = 0 then (if z.day = n then .tp [.ag (eTruth ⟨0, 0, 0⟩), I64 0, I64 4] else .tp [.ag (eTruth z.t), I64 z.day, I64 0]) else .tp [.ag (eTruth ⟨0, 0, 0⟩), I64 0, I64 z.e]

theorem shortr_ok (one : Bool) (s : Stores) (h : s.Ok) (l : List Count) (h0 : cntsErr s l = 0) (i : Nat) (hi : i < s.kinds.length) :
    Pu one 27 [.ag (eStores s), .sl (l.map eCount) false, I64 i] (shortV s.men.length (earlOf s l i s.kinds[i])) := by
  have em : ((s.men.map eI).length : Int) = s.men.length := by simp
  have hen := enter_ok one s h l h0 i hi
  have hea := earl_of one s l h0 i hi
  have h30 := (holdOk h0 hi).row.len
  generalize earlOf s l i s.kinds[i] = z at hea ⊢
  generalize cargoRow i s.cargos = row at *
  generalize s.kinds[i] = k at *
  unfold shortV
  by_cases he : z.e = 0
  · rw [if_pos he]
    rw [he] at hea
    by_cases hd : z.day = s.men.length
    · have d1 : decide (z.day = ((s.men.map eI).length : Int)) = true := by rw [em]; exact decide_eq_true hd
      rw [if_pos hd]
      refine PureV.body (fn := Try.f27) rfl rfl rfl rfl ?_
      refine wpC_sound (mu := fun _ => false) ?_
      repeat' (first |(refine stH h30 rfl rfl rfl rfl ?_) |(refine ldHO h30 rfl rfl ?_) |with_reducible (first|refine RM.c2 ?_|refine RM.c3 ?_|refine RM.c4 ?_|refine RM.c7 ?_|refine RM.c9 ?_|refine RM.d1 ?_|refine RM.d4 ?_|refine RM.o1 ?_|refine RM.o2 ?_|refine RM.o4 ?_|refine RM.o5 ?_|refine RM.o6 ?_|refine RM.o7 ?_|refine RM.o9 ?_|refine RM.p1 ?_|refine RM.p2 ?_|refine RM.p3 ?_|refine RM.p5 ?_|refine RM.p6 ?_) |((with_reducible show force _ _);first|refine RM.f1 rfl ?_|refine RM.f2 rfl ?_|refine RM.f3 rfl ?_|refine RM.f4 rfl ?_|refine RM.f5 rfl ?_|refine RM.f6 rfl ?_|refine RM.f7 rfl ?_|refine RM.g2 rfl ?_) |((with_reducible show wpOne _ _ _ _ _ _ _ _ _ _ _ _);refine RM.o8 rfl ?_) |((with_reducible show wpC _ _ _ _ (.cond _ _ _) _ _);first|refine RM.e2 rfl rfl ?_|refine RM.e3 rfl rfl ?_|refine RM.e2 rfl (by assumption) ?_) |((with_reducible show wpBin _ _ _ _ _ _ _ _ _);first|refine RM.b4 rfl rfl ?_|refine RM.b5 rfl rfl ?_) |((with_reducible show wpLen _ _ _ _ _);refine RM.l1 rfl ?_) |(refine ⟨_, rfl, ?_⟩) |(refine ⟨_, _, rfl, by decide, ?_⟩) |(refine ⟨rfl, rfl, rfl, ?_⟩) |(refine ⟨rfl, rfl, ?_⟩) |(refine ⟨_, _, rfl, _, rfl, ?_⟩) |(refine And.intro (Nat.le_of_ble_eq_true rfl) ?_) |(refine And.intro (by kernel_rfl) ?_) |(refine ⟨_, _, rfl, rfl, rfl, rfl, Nat.le_of_ble_eq_true rfl, ?_⟩) |(refine ⟨_, _, rfl, Nat.le_of_ble_eq_true rfl, ?_⟩) |(refine PureV.call hen rfl rfl ?_) |(refine PureV.call hea rfl (hdeep rfl) ?_) |fail)
      exact ⟨[_, _, _], ⟨Fz.deep rfl, Fz.deep rfl, Fz.deep rfl, trivial⟩, rfl⟩
    · have d1 : decide (z.day = ((s.men.map eI).length : Int)) = false := by rw [em]; exact decide_eq_false hd
      rw [if_neg hd]
      refine PureV.body (fn := Try.f27) rfl rfl rfl rfl ?_
      refine wpC_sound (mu := fun _ => false) ?_
      repeat' (first |(refine stH h30 rfl rfl rfl rfl ?_) |(refine ldHO h30 rfl rfl ?_) |with_reducible (first|refine RM.c1 ?_|refine RM.c2 ?_|refine RM.c3 ?_|refine RM.c4 ?_|refine RM.c7 ?_|refine RM.c9 ?_|refine RM.d3 ?_|refine RM.o1 ?_|refine RM.o2 ?_|refine RM.o4 ?_|refine RM.o5 ?_|refine RM.o6 ?_|refine RM.o7 ?_|refine RM.o9 ?_|refine RM.p1 ?_|refine RM.p2 ?_|refine RM.p3 ?_|refine RM.p5 ?_|refine RM.p6 ?_) |((with_reducible show force _ _);first|refine RM.f1 rfl ?_|refine RM.f2 rfl ?_|refine RM.f3 rfl ?_|refine RM.f4 rfl ?_|refine RM.f5 rfl ?_|refine RM.f6 rfl ?_|refine RM.f7 rfl ?_|refine RM.g2 rfl ?_) |((with_reducible show wpOne _ _ _ _ _ _ _ _ _ _ _ _);refine RM.o8 rfl ?_) |((with_reducible show wpC _ _ _ _ (.cond _ _ _) _ _);first|refine RM.e2 rfl rfl ?_|refine RM.e3 rfl rfl ?_|refine RM.e3 rfl (by assumption) ?_) |((with_reducible show wpBin _ _ _ _ _ _ _ _ _);first|refine RM.b4 rfl rfl ?_|refine RM.b5 rfl rfl ?_) |((with_reducible show wpLen _ _ _ _ _);refine RM.l1 rfl ?_) |(refine ⟨_, rfl, ?_⟩) |(refine ⟨_, _, rfl, by decide, ?_⟩) |(refine ⟨rfl, rfl, rfl, ?_⟩) |(refine ⟨_, _, rfl, _, rfl, ?_⟩) |(refine And.intro (Nat.le_of_ble_eq_true rfl) ?_) |(refine And.intro (by kernel_rfl) ?_) |(refine ⟨_, _, rfl, rfl, rfl, rfl, Nat.le_of_ble_eq_true rfl, ?_⟩) |(refine ⟨_, _, rfl, Nat.le_of_ble_eq_true rfl, ?_⟩) |(refine PureV.call hen rfl rfl ?_) |(refine PureV.call hea rfl (hdeep rfl) ?_) |fail)
      exact ⟨[_, _, _], ⟨Fz.deep rfl, Fz.deep rfl, Fz.deep rfl, trivial⟩, rfl⟩
  · rw [if_neg he]
    have d1 : (!decide (z.e = 0)) = true := by simpa using he
    refine PureV.body (fn := Try.f27) rfl rfl rfl rfl ?_
    refine wpC_sound (mu := fun _ => false) ?_
    repeat' (first |(refine stH h30 rfl rfl rfl rfl ?_) |(refine ldHO h30 rfl rfl ?_) |with_reducible (first|refine RM.c2 ?_|refine RM.c3 ?_|refine RM.c4 ?_|refine RM.c7 ?_|refine RM.c9 ?_|refine RM.d1 ?_|refine RM.d4 ?_|refine RM.o1 ?_|refine RM.o2 ?_|refine RM.o4 ?_|refine RM.o5 ?_|refine RM.o6 ?_|refine RM.o7 ?_|refine RM.o9 ?_|refine RM.p1 ?_|refine RM.p2 ?_|refine RM.p3 ?_|refine RM.p5 ?_) |((with_reducible show force _ _);first|refine RM.f1 rfl ?_|refine RM.f2 rfl ?_|refine RM.f3 rfl ?_|refine RM.f4 rfl ?_|refine RM.f5 rfl ?_|refine RM.f6 rfl ?_|refine RM.f7 rfl ?_|refine RM.g2 rfl ?_) |((with_reducible show wpOne _ _ _ _ _ _ _ _ _ _ _ _);refine RM.o8 rfl ?_) |((with_reducible show wpC _ _ _ _ (.cond _ _ _) _ _);first|refine RM.e2 rfl rfl ?_|refine RM.e2 rfl (by assumption) ?_) |((with_reducible show wpBin _ _ _ _ _ _ _ _ _);first|refine RM.b4 rfl rfl ?_|refine RM.b5 rfl rfl ?_) |(refine ⟨_, rfl, ?_⟩) |(refine ⟨_, _, rfl, by decide, ?_⟩) |(refine ⟨rfl, rfl, rfl, ?_⟩) |(refine ⟨rfl, rfl, ?_⟩) |(refine And.intro (Nat.le_of_ble_eq_true rfl) ?_) |(refine And.intro (by kernel_rfl) ?_) |(refine ⟨_, _, rfl, rfl, rfl, rfl, Nat.le_of_ble_eq_true rfl, ?_⟩) |(refine ⟨_, _, rfl, Nat.le_of_ble_eq_true rfl, ?_⟩) |(refine PureV.call hen rfl rfl ?_) |(refine PureV.call hea rfl (hdeep rfl) ?_) |fail)
    exact ⟨[_, _, _], ⟨Fz.deep rfl, Fz.deep rfl, Fz.deep rfl, trivial⟩, rfl⟩

theorem shortr_err (one : Bool) (s : Stores) (h : s.Ok) (l : List Count) (hl : l.length ≤ maxLen) (kd : Int) (he : askErr s l kd ≠ 0) : Pu one 27 [.ag (eStores s), .sl (l.map eCount) false, I64 kd] (.tp [.ag (eTruth ⟨0, 0, 0⟩), I64 0, I64 (askErr s l kd)]) := by
  have hen := enter_err one s h l hl kd he
  have d1 : (!decide (askErr s l kd = 0)) = true := by simpa using he
  have d2 : decide (askErr s l kd = 0) = false := by simpa using he
  refine PureV.body (fn := Try.f27) rfl rfl rfl rfl ?_
  refine wpC_sound (mu := fun _ => false) ?_
  repeat' (first |with_reducible (first|refine RM.c1 ?_|refine RM.c2 ?_|refine RM.c3 ?_|refine RM.c4 ?_|refine RM.c7 ?_|refine RM.c9 ?_|refine RM.d1 ?_|refine RM.d4 ?_|refine RM.o1 ?_|refine RM.o2 ?_|refine RM.o4 ?_|refine RM.o5 ?_|refine RM.o6 ?_|refine RM.o7 ?_|refine RM.o9 ?_|refine RM.p1 ?_|refine RM.p2 ?_|refine RM.p3 ?_|refine RM.p5 ?_) |((with_reducible show force _ _);first|refine RM.f1 rfl ?_|refine RM.f2 rfl ?_|refine RM.f3 rfl ?_|refine RM.f4 rfl ?_|refine RM.f5 rfl ?_|refine RM.f6 rfl ?_|refine RM.f7 rfl ?_|refine RM.g2 rfl ?_) |((with_reducible show wpOne _ _ _ _ _ _ _ _ _ _ _ _);refine RM.o8 rfl ?_) |((with_reducible show wpC _ _ _ _ (.cond _ _ _) _ _);first|refine RM.e2 rfl (by assumption) ?_|refine RM.e3 rfl (by assumption) ?_) |((with_reducible show wpBin _ _ _ _ _ _ _ _ _);first|refine RM.b4 rfl rfl ?_|refine RM.b5 rfl rfl ?_) |(refine ⟨_, rfl, ?_⟩) |(refine ⟨_, _, rfl, by decide, ?_⟩) |(refine ⟨rfl, rfl, rfl, ?_⟩) |(refine ⟨rfl, rfl, ?_⟩) |(refine And.intro (Nat.le_of_ble_eq_true rfl) ?_) |(refine And.intro (by kernel_rfl) ?_) |(refine PureV.call hen rfl rfl ?_) |fail)
  exact ⟨[_, _, _], ⟨Fz.deep rfl, Fz.deep rfl, Fz.deep rfl, trivial⟩, rfl⟩

/-- The range of what there can be in a morning. -/
def lvStep (lv : Truth → Int) (x : Span) (y : Truth × Truth) : Span := ⟨min x.lo (lv y.1), max x.hi (lv y.2)⟩
def lvRange (lv : Truth → Int) (L : List (Truth × Truth)) : Span := L.foldl (lvStep lv) ⟨601, -1⟩
def levelAt (men : List Int) (k : Kind) (row : List Int) (d : Nat) (t : Truth) : Int := (lvl men k row t).getD d 0
def levelOf (s : Stores) (l : List Count) (i : Nat) (k : Kind) (d : Nat) : Span := lvRange (levelAt s.men k (cargoRow i s.cargos) d) (truthsL s.men k (cargoRow i s.cargos) (cntsOf l i))
def levelV (x : Span) : AV := if x.hi < 0 then .tp [.ag (eSpan ⟨0, 0⟩), I64 9] else .tp [.ag (eSpan x), I64 0]

theorem level_err (one : Bool) (s : Stores) (h : s.Ok) (l : List Count) (hl : l.length ≤ maxLen) (kd day : Int) (he : askErr s l kd ≠ 0) : Pu one 23 [.ag (eStores s), .sl (l.map eCount) false, I64 kd, I64 day] (.tp [.ag (eSpan ⟨0, 0⟩), I64 (askErr s l kd)]) := by
  have hen := enter_err one s h l hl kd he
  have d1 : (!decide (askErr s l kd = 0)) = true := by simpa using he
  refine PureV.body (fn := Try.f23) rfl rfl rfl rfl ?_
  refine wpC_sound (mu := fun _ => false) ?_
  repeat' (first |with_reducible (first|refine RM.c2 ?_|refine RM.c3 ?_|refine RM.c4 ?_|refine RM.c7 ?_|refine RM.c9 ?_|refine RM.d1 ?_|refine RM.d4 ?_|refine RM.o1 ?_|refine RM.o2 ?_|refine RM.o4 ?_|refine RM.o5 ?_|refine RM.o6 ?_|refine RM.o7 ?_|refine RM.o9 ?_|refine RM.p1 ?_|refine RM.p2 ?_|refine RM.p3 ?_|refine RM.p5 ?_) |((with_reducible show force _ _);first|refine RM.f1 rfl ?_|refine RM.f2 rfl ?_|refine RM.f3 rfl ?_|refine RM.f4 rfl ?_|refine RM.f5 rfl ?_|refine RM.f6 rfl ?_|refine RM.f7 rfl ?_|refine RM.g2 rfl ?_) |((with_reducible show wpOne _ _ _ _ _ _ _ _ _ _ _ _);refine RM.o8 rfl ?_) |((with_reducible show wpC _ _ _ _ (.cond _ _ _) _ _);refine RM.e2 rfl (by assumption) ?_) |((with_reducible show wpBin _ _ _ _ _ _ _ _ _);refine RM.b5 rfl rfl ?_) |(refine ⟨_, rfl, ?_⟩) |(refine ⟨_, _, rfl, by decide, ?_⟩) |(refine ⟨rfl, rfl, rfl, ?_⟩) |(refine ⟨rfl, rfl, ?_⟩) |(refine And.intro (Nat.le_of_ble_eq_true rfl) ?_) |(refine And.intro (by kernel_rfl) ?_) |(refine PureV.call hen rfl rfl ?_) |fail)
  exact ⟨[_, _], ⟨Fz.deep rfl, Fz.deep rfl, trivial⟩, rfl⟩

theorem level_day (one : Bool) (s : Stores) (h : s.Ok) (l : List Count) (h0 : cntsErr s l = 0) (i : Nat) (hi : i < s.kinds.length) (day : Int) (hd : inB day 0 s.men.length = false) : Pu one 23 [.ag (eStores s), .sl (l.map eCount) false, I64 i, I64 day] (.tp [.ag (eSpan ⟨0, 0⟩), I64 7]) := by
  have em : ((s.men.map eI).length : Int) = s.men.length := by simp
  have hen := enter_ok one s h l h0 i hi
  have h30 := (holdOk h0 hi).row.len
  have hou := outside_c one 0 ((s.men.map eI).length : Int) [eI day] true rfl (Nat.le_of_ble_eq_true rfl)
  rw [show outB 0 ((s.men.map eI).length : Int) ([eI day].map unI) = true by rw [em]; show outB 0 (s.men.length : Int) [day] = true; rw [outB_one, hd]; rfl] at hou
  generalize cargoRow i s.cargos = row at *
  generalize s.kinds[i] = k at *
  refine PureV.body (fn := Try.f23) rfl rfl rfl rfl ?_
  refine wpC_sound (mu := fun _ => false) ?_
  repeat' (first |(refine stH h30 rfl rfl rfl rfl ?_) |with_reducible (first|refine RM.c2 ?_|refine RM.c3 ?_|refine RM.c4 ?_|refine RM.c7 ?_|refine RM.c9 ?_|refine RM.d1 ?_|refine RM.d4 ?_|refine RM.o1 ?_|refine RM.o2 ?_|refine RM.o4 ?_|refine RM.o5 ?_|refine RM.o6 ?_|refine RM.o7 ?_|refine RM.o9 ?_|refine RM.p1 ?_|refine RM.p2 ?_|refine RM.p3 ?_|refine RM.p5 ?_|refine RM.p6 ?_) |((with_reducible show force _ _);first|refine RM.f1 rfl ?_|refine RM.f2 rfl ?_|refine RM.f3 rfl ?_|refine RM.f4 rfl ?_|refine RM.f5 rfl ?_|refine RM.f6 rfl ?_|refine RM.f7 rfl ?_|refine RM.g2 rfl ?_) |((with_reducible show wpOne _ _ _ _ _ _ _ _ _ _ _ _);refine RM.o8 rfl ?_) |((with_reducible show wpC _ _ _ _ (.cond _ _ _) _ _);first|refine RM.e2 rfl rfl ?_|refine RM.e3 rfl rfl ?_) |((with_reducible show wpBin _ _ _ _ _ _ _ _ _);refine RM.b5 rfl rfl ?_) |((with_reducible show wpLen _ _ _ _ _);refine RM.l1 rfl ?_) |(refine ⟨_, rfl, ?_⟩) |(refine ⟨_, _, rfl, by decide, ?_⟩) |(refine ⟨rfl, rfl, rfl, ?_⟩) |(refine ⟨rfl, rfl, ?_⟩) |(refine ⟨_, _, rfl, _, rfl, ?_⟩) |(refine And.intro (Nat.le_of_ble_eq_true rfl) ?_) |(refine And.intro (by kernel_rfl) ?_) |(refine PureV.call hen rfl rfl ?_) |(refine PureV.call hou rfl rfl ?_) |fail)
  exact ⟨[_, _], ⟨Fz.deep rfl, Fz.deep rfl, trivial⟩, rfl⟩

theorem level_ok (one : Bool) (s : Stores) (h : s.Ok) (l : List Count) (h0 : cntsErr s l = 0) (i : Nat) (hi : i < s.kinds.length) (d : Nat) (hd : d ≤ s.men.length) : Pu one 23 [.ag (eStores s), .sl (l.map eCount) false, I64 i, I64 d] (levelV (levelOf s l i s.kinds[i] d)) := by
  have em : ((s.men.map eI).length : Int) = s.men.length := by simp
  have hh := holdOk h0 hi
  have hen := enter_ok one s h l h0 i hi
  have h30 := hh.row.len
  have htr := truths_c one (s := s) (k := s.kinds[i]) (row := cargoRow i s.cargos) (f := cntsOf l i)
  have hg := truths_g one hh
  have hru := fun (y : Truth × Truth) (hy : y ∈ truthsL s.men s.kinds[i] (cargoRow i s.cargos) (cntsOf l i)) => And.intro (run_l (one := one) (cnts := (cntsOf l i).map eCount) (truthsL_run hh hy).1.1) (run_l (one := one) (cnts := (cntsOf l i).map eCount) (truthsL_run hh hy).1.2)
  rw [← em] at hru
  have hou := outside_c one 0 ((s.men.map eI).length : Int) [eI d] true rfl (Nat.le_of_ble_eq_true rfl)
  rw [show outB 0 ((s.men.map eI).length : Int) ([eI (d : Int)].map unI) = false by rw [em]; show outB 0 (s.men.length : Int) [(d : Int)] = false; rw [outB_one, inB_iff.2 (by omega)]; rfl] at hou
  have hlv : ∀ t, (((lvl s.men s.kinds[i] (cargoRow i s.cargos) t).map eI))[((d : Nat) : Int).toNat]? = some (eI (levelAt s.men s.kinds[i] (cargoRow i s.cargos) d t)) := fun t => getD_at (d := (d : Int)) (by rw [lvl_len]; omega)
  unfold levelOf
  generalize truthsL s.men s.kinds[i] (cargoRow i s.cargos) (cntsOf l i) = L at hg hru ⊢
  generalize cargoRow i s.cargos = row at *
  generalize s.kinds[i] = k at *
  generalize hlf : levelAt s.men k row d = lf at *
  have fin : ∀ v, (if (lvRange lf L).hi < 0 then AV.tp [.ag (eSpan ⟨0, 0⟩), I64 9] else .tp [.ag (eSpan (lvRange lf L)), I64 0]) = v → Pu one 23 [.ag (eStores s), .sl (l.map eCount) false, I64 i, I64 d] v := by
    intro v hv
    have hvd : v.deep = true := by rw [← hv]; split <;> rfl
    refine PureV.body (fn := Try.f23) rfl rfl rfl hvd ?_
    refine wpC_sound (mu := fun _ => false) ?_
    repeat' (first |(refine stH h30 rfl rfl rfl rfl ?_) |(refine ldHO h30 rfl rfl ?_) |with_reducible (first|refine RM.c1 ?_|refine RM.c2 ?_|refine RM.c3 ?_|refine RM.c4 ?_|refine RM.c9 ?_|refine RM.d3 ?_|refine RM.o1 ?_|refine RM.o2 ?_|refine RM.o4 ?_|refine RM.o5 ?_|refine RM.o6 ?_|refine RM.o7 ?_|refine RM.o9 ?_|refine RM.p1 ?_|refine RM.p2 ?_|refine RM.p3 ?_|refine RM.p5 ?_|refine RM.p6 ?_) |((with_reducible show force _ _);first|refine RM.f1 rfl ?_|refine RM.f2 rfl ?_|refine RM.f3 rfl ?_|refine RM.f4 rfl ?_|refine RM.f5 rfl ?_|refine RM.f6 rfl ?_|refine RM.f7 rfl ?_|refine RM.g2 rfl ?_) |((with_reducible show wpOne _ _ _ _ _ _ _ _ _ _ _ _);refine RM.o8 rfl ?_) |((with_reducible show wpC _ _ _ _ (.cond _ _ _) _ _);refine RM.e3 rfl rfl ?_) |((with_reducible show wpBin _ _ _ _ _ _ _ _ _);refine RM.b5 rfl rfl ?_) |((with_reducible show wpLen _ _ _ _ _);refine RM.l1 rfl ?_) |(refine ⟨_, rfl, ?_⟩) |(refine ⟨_, _, rfl, by decide, ?_⟩) |(refine ⟨rfl, rfl, rfl, ?_⟩) |(refine ⟨rfl, rfl, ?_⟩) |(refine ⟨_, _, rfl, _, rfl, ?_⟩) |(refine And.intro (Nat.le_of_ble_eq_true rfl) ?_) |(refine And.intro (by kernel_rfl) ?_) |(refine PureV.call hen rfl rfl ?_) |(refine PureV.call hou rfl rfl ?_) |(refine PureV.call htr rfl (hdeep rfl) ?_) |fail)
    refine SemC.range (fun j => [.cells (eSpan (lvRange lf (L.take j))) 0 0, .cells (eHoldV s k row (.sl ((cntsOf l i).map eCount) false)) 0 0]) (fun _ => Amb.none) (fun _ => True) rfl hg rfl rfl trivial (fun j x hx _ => ?_) (fun _ => ?_)
    · obtain ⟨y, hy, rfl⟩ := pair_of hx
      have hru := hru y (List.mem_of_getElem? hy)
      have hn : lvRange lf (L.take (j + 1)) = lvStep lf (lvRange lf (L.take j)) y := take_step hy
      rw [hn]
      generalize lvRange lf (L.take j) = z at *
      refine ⟨rfl, ?_⟩
      refine wpC_sound (mu := fun _ => false) ?_
      repeat' (first |with_reducible (first|refine RM.c2 ?_|refine RM.c4 ?_|refine RM.c9 ?_|refine RM.o1 ?_|refine RM.o2 ?_|refine RM.o4 ?_|refine RM.o5 ?_|refine RM.o6 ?_) |((with_reducible show force _ _);first|refine RM.f7 rfl ?_|refine RM.g2 rfl ?_) |((with_reducible show wpOne _ _ _ _ _ _ _ _ _ _ _ _);refine RM.o8 rfl ?_) |(refine And.intro (by kernel_rfl) ?_) |(refine ⟨_, _, rfl, rfl, rfl, rfl, Nat.le_of_ble_eq_true rfl, ?_⟩) |fail)
      refine wpC_sound (mu := fun _ => false) ?_
      repeat' (first |(refine ldHO h30 rfl rfl ?_) |with_reducible (first|refine RM.c2 ?_|refine RM.c3 ?_|refine RM.c4 ?_|refine RM.c5 ?_|refine RM.c9 ?_|refine RM.d3 ?_|refine RM.o1 ?_|refine RM.o2 ?_|refine RM.o3 ?_|refine RM.o4 ?_|refine RM.o5 ?_|refine RM.o6 ?_|refine RM.o7 ?_|refine RM.o9 ?_|refine RM.p1 ?_|refine RM.p2 ?_|refine RM.p3 ?_|refine RM.p6 ?_) |((with_reducible show force _ _);first|refine RM.f1 rfl ?_|refine RM.f2 rfl ?_|refine RM.f3 rfl ?_|refine RM.f4 rfl ?_|refine RM.f5 rfl ?_|refine RM.f6 rfl ?_|refine RM.f7 rfl ?_|refine RM.g2 rfl ?_) |((with_reducible show wpOne _ _ _ _ _ _ _ _ _ _ _ _);refine RM.o8 rfl ?_) |((with_reducible show wpDOne _ _ _ _ _ _ _ _ _ _);refine RM.p9 rfl ?_) |((with_reducible show wpLen _ _ _ _ _);refine RM.l1 rfl ?_) |((with_reducible show RM.wpOp _ _ _ _ _ _);first|refine RM.n4 rfl rfl ?_|refine RM.n5 rfl rfl ?_) |(refine ⟨_, rfl, ?_⟩) |(refine ⟨_, _, rfl, by decide, ?_⟩) |(refine ⟨_, _, rfl, _, rfl, ?_⟩) |(refine And.intro (by omega) ?_) |(refine And.intro (by kernel_rfl) ?_) |(refine ⟨_, _, rfl, rfl, rfl, rfl, Nat.le_of_ble_eq_true rfl, ?_⟩) |(refine ⟨_, _, rfl, Nat.le_of_ble_eq_true rfl, ?_⟩) |(refine PureV.call hru.1 rfl (hdeep rfl) ?_) |(refine PureV.call hru.2 rfl (hdeep rfl) ?_) |(refine ⟨eI _, ⟨by omega, hlv _⟩, rfl, ?_⟩) |fail)
      exact ⟨_, Weaker.to (l := []) 2 rfl trivial (Nat.le_refl _) rfl (by
        show (true && (inbL 2 (eHoldV s k row (.sl ((cntsOf l i).map eCount) false)) && true)) = true
        rw [show inbL 2 (eHoldV s k row (.sl ((cntsOf l i).map eCount) false)) = true from deep_inb 2 (.ag (eHoldV s k row (.sl ((cntsOf l i).map eCount) false))) (eHold_deep rfl)]
        rfl)⟩
    · rw [show L.take (L.map ePair).length = L from List.take_of_length_le (by simp)]
      generalize lvRange lf L = z at *
      by_cases hz : z.hi < 0
      · have d1 := decide_eq_true hz
        rw [if_pos hz] at hv
        repeat' (first |with_reducible (first|refine RM.c2 ?_|refine RM.c4 ?_|refine RM.c7 ?_|refine RM.c9 ?_|refine RM.d1 ?_|refine RM.d3 ?_|refine RM.o1 ?_|refine RM.o2 ?_|refine RM.o4 ?_|refine RM.o5 ?_|refine RM.o6 ?_|refine RM.p3 ?_|refine RM.p5 ?_) |((with_reducible show force _ _);first|refine RM.f1 rfl ?_|refine RM.f5 rfl ?_|refine RM.f7 rfl ?_|refine RM.g2 rfl ?_) |((with_reducible show wpOne _ _ _ _ _ _ _ _ _ _ _ _);refine RM.o8 rfl ?_) |((with_reducible show wpC _ _ _ _ (.cond _ _ _) _ _);refine RM.e2 rfl (by assumption) ?_) |((with_reducible show wpBin _ _ _ _ _ _ _ _ _);refine RM.b6 rfl rfl ?_) |(refine ⟨_, rfl, ?_⟩) |(refine ⟨_, _, rfl, by decide, ?_⟩) |(refine ⟨rfl, rfl, ?_⟩) |(refine ⟨_, _, rfl, _, rfl, ?_⟩) |(refine And.intro (Nat.le_of_ble_eq_true rfl) ?_) |(refine And.intro (by kernel_rfl) ?_) |(refine ⟨_, _, rfl, Nat.le_of_ble_eq_true rfl, ?_⟩) |fail)
        exact ⟨[_, _], ⟨Fz.deep rfl, Fz.deep rfl, trivial⟩, hv⟩
      · have d1 := decide_eq_false hz
        rw [if_neg hz] at hv
        repeat' (first |with_reducible (first|refine RM.c1 ?_|refine RM.c2 ?_|refine RM.c4 ?_|refine RM.c7 ?_|refine RM.c9 ?_|refine RM.d3 ?_|refine RM.o1 ?_|refine RM.o2 ?_|refine RM.o4 ?_|refine RM.o5 ?_|refine RM.o6 ?_|refine RM.p3 ?_|refine RM.p5 ?_) |((with_reducible show force _ _);first|refine RM.f1 rfl ?_|refine RM.f5 rfl ?_|refine RM.f7 rfl ?_|refine RM.g2 rfl ?_) |((with_reducible show wpOne _ _ _ _ _ _ _ _ _ _ _ _);refine RM.o8 rfl ?_) |((with_reducible show wpC _ _ _ _ (.cond _ _ _) _ _);refine RM.e3 rfl (by assumption) ?_) |((with_reducible show wpBin _ _ _ _ _ _ _ _ _);refine RM.b6 rfl rfl ?_) |(refine ⟨_, _, rfl, by decide, ?_⟩) |(refine ⟨_, _, rfl, _, rfl, ?_⟩) |(refine ⟨_, _, rfl, rfl, rfl, rfl, Nat.le_of_ble_eq_true rfl, ?_⟩) |(refine ⟨_, _, rfl, Nat.le_of_ble_eq_true rfl, ?_⟩) |fail)
        exact ⟨[_, _], ⟨Fz.deep rfl, Fz.deep rfl, trivial⟩, hv⟩
  exact fin _ rfl
end Go.Proofs.Ytmkaeohmdcoanaa
open Go Go.RM
namespace Go.Proofs.Ytmkaeohmdcoanaa
set_option maxRecDepth 100000
set_option maxHeartbeats 4000000

/-! ### The document's side: what is made of the truths -/

abbrev allS (s : Stores) (l : List Count) (i : Nat) (k : Kind) : List Truth := allOf s.men k (cargoRow i s.cargos) l i
abbrev ePastS (s : Stores) (i : Nat) (k : Kind) : Truth → List AV := ePast s.men k (cargoRow i s.cargos)

theorem all_len (s : Stores) (l : List Count) (h0 : cntsErr s l = 0) (i : Nat) (hi : i < s.kinds.length) : (allS s l i s.kinds[i]).length ≤ 30000 := by
  have hh := holdOk h0 hi
  have k1 := hh.kind.first
  have k2 := hh.kind.man
  have k3 := hh.kind.ship
  have := pastN_len s.men s.kinds[i] (cargoRow i s.cargos) l i (spanN s.kinds[i].first * spanN s.kinds[i].man * spanN s.kinds[i].ship)
  have hFM : spanN s.kinds[i].first * spanN s.kinds[i].man * spanN s.kinds[i].ship ≤ 301 * 7 * 13 := Nat.mul_le_mul (Nat.mul_le_mul (by unfold spanN; omega) (by unfold spanN; omega)) (by unfold spanN; omega)
  unfold allS allOf
  omega

theorem rknown_err (one : Bool) (s : Stores) (x : AV) (kd e : Int) (he : e ≠ 0) : Pu one 65 [.ag (eStores s), x, I64 kd, I64 e] (.tp [.sl [] false, I64 e]) := by
  have d1 : (!decide (e = 0)) = true := by simpa using he
  refine PureV.body (fn := Try.f65) rfl rfl rfl rfl ?_
  refine wpC_sound (mu := fun _ => false) ?_
  repeat' (first |with_reducible (first|refine RM.c2 ?_|refine RM.c4 ?_|refine RM.c7 ?_|refine RM.c9 ?_|refine RM.d1 ?_|refine RM.o1 ?_|refine RM.o2 ?_|refine RM.o4 ?_|refine RM.o5 ?_|refine RM.p2 ?_|refine RM.p3 ?_|refine RM.p5 ?_) |((with_reducible show force _ _);first|refine RM.f1 rfl ?_|refine RM.f3 rfl ?_) |((with_reducible show wpOne _ _ _ _ _ _ _ _ _ _ _ _);refine RM.o8 rfl ?_) |((with_reducible show wpC _ _ _ _ (.cond _ _ _) _ _);refine RM.e2 rfl (by assumption) ?_) |((with_reducible show wpBin _ _ _ _ _ _ _ _ _);refine RM.b5 rfl rfl ?_) |(refine ⟨rfl, rfl, rfl, ?_⟩) |fail)
  exact ⟨[_, _], ⟨Fz.nil, Fz.deep rfl, trivial⟩, rfl⟩

theorem rknown_ok (one : Bool) (s : Stores) (l : List Count) (h0 : cntsErr s l = 0) (i : Nat) (hi : i < s.kinds.length) :
    Pu one 65 [.ag (eStores s), .sl (l.map eCount) false, I64 i, I64 0] (.tp [.sl ((allS s l i s.kinds[i]).map (ePastS s i s.kinds[i])) false, I64 (if allS s l i s.kinds[i] = [] then 9 else 0)]) := by
  have hr := rtruths_c one s l h0 i hi
  have hl := all_len s l h0 i hi
  unfold allS ePastS at *
  generalize allOf s.men s.kinds[i] (cargoRow i s.cargos) l i = L at *
  by_cases hL : L = []
  · subst hL
    refine PureV.body (fn := Try.f65) rfl rfl rfl rfl ?_
    refine wpC_sound (mu := fun _ => false) ?_
    repeat' (first |with_reducible (first|refine RM.c1 ?_|refine RM.c2 ?_|refine RM.c4 ?_|refine RM.c7 ?_|refine RM.c9 ?_|refine RM.d1 ?_|refine RM.o1 ?_|refine RM.o2 ?_|refine RM.o4 ?_|refine RM.o5 ?_|refine RM.o7 ?_|refine RM.o9 ?_|refine RM.p1 ?_|refine RM.p2 ?_|refine RM.p3 ?_|refine RM.p5 ?_|refine RM.p6 ?_) |((with_reducible show force _ _);first|refine RM.f1 rfl ?_|refine RM.f2 rfl ?_|refine RM.f3 rfl ?_|refine RM.f4 rfl ?_|refine RM.f5 rfl ?_) |((with_reducible show wpOne _ _ _ _ _ _ _ _ _ _ _ _);refine RM.o8 rfl ?_) |((with_reducible show wpC _ _ _ _ (.cond _ _ _) _ _);first|refine RM.e2 rfl rfl ?_|refine RM.e3 rfl rfl ?_) |((with_reducible show wpBin _ _ _ _ _ _ _ _ _);first|refine RM.b4 rfl rfl ?_|refine RM.b5 rfl rfl ?_) |((with_reducible show wpLen _ _ _ _ _);refine RM.l1 rfl ?_) |(refine ⟨rfl, rfl, rfl, ?_⟩) |(refine And.intro (Nat.le_of_ble_eq_true rfl) ?_) |(refine PureV.call hr rfl rfl ?_) |fail)
    exact ⟨[_, _], ⟨Fz.nil, Fz.deep rfl, trivial⟩, rfl⟩
  · rw [if_neg hL]
    have d1 : decide (((L.map (ePast s.men s.kinds[i] (cargoRow i s.cargos))).length : Int) = 0) = false := by
      have : 0 < L.length := List.length_pos_iff.2 hL
      simp only [List.length_map, decide_eq_false_iff_not]
      omega
    refine PureV.body (fn := Try.f65) rfl rfl rfl rfl ?_
    refine wpC_sound (mu := fun _ => false) ?_
    repeat' (first |with_reducible (first|refine RM.c1 ?_|refine RM.c2 ?_|refine RM.c4 ?_|refine RM.c7 ?_|refine RM.c9 ?_|refine RM.o1 ?_|refine RM.o2 ?_|refine RM.o4 ?_|refine RM.o5 ?_|refine RM.o7 ?_|refine RM.o9 ?_|refine RM.p1 ?_|refine RM.p2 ?_|refine RM.p3 ?_|refine RM.p5 ?_|refine RM.p6 ?_) |((with_reducible show force _ _);first|refine RM.f1 rfl ?_|refine RM.f2 rfl ?_|refine RM.f3 rfl ?_|refine RM.f4 rfl ?_|refine RM.f5 rfl ?_) |((with_reducible show wpOne _ _ _ _ _ _ _ _ _ _ _ _);refine RM.o8 rfl ?_) |((with_reducible show wpC _ _ _ _ (.cond _ _ _) _ _);first|refine RM.e3 rfl rfl ?_|refine RM.e3 rfl (by assumption) ?_) |((with_reducible show wpBin _ _ _ _ _ _ _ _ _);first|refine RM.b4 rfl rfl ?_|refine RM.b5 rfl rfl ?_) |((with_reducible show wpLen _ _ _ _ _);refine RM.l1 rfl ?_) |(refine ⟨rfl, rfl, rfl, ?_⟩) |(refine And.intro (Nat.le_of_ble_eq_true rfl) ?_) |(refine PureV.call hr rfl rfl ?_) |fail)
    exact ⟨[_, _], ⟨Fz.deep rfl, Fz.deep rfl, trivial⟩, rfl⟩

def earlR (n : Nat) (sh : Truth → Int) (L : List Truth) : Truth × Int := L.foldl (fun x t => if sh t < x.2 then (t, sh t) else x) (⟨0, 0, 0⟩, (n : Int))

theorem rearl_c (one : Bool) (s : Stores) (k : Kind) (row : List Int) (L : List Truth) (hL : L.length ≤ 30000) :
    Pu one 69 [.ag (eStores s), .sl (L.map (ePast s.men k row)) false] (.tp [.ag (eTruth (earlR s.men.length (shortF s.men k row) L).1), I64 (earlR s.men.length (shortF s.men k row) L).2]) := by
  have em : ((s.men.map eI).length : Int) = s.men.length := by simp
  have el : ((L.map (ePast s.men k row)).length : Int) = L.length := by simp
  refine PureV.body (fn := Try.f69) rfl rfl rfl rfl ?_
  refine wpC_sound (mu := fun _ => false) ?_
  repeat' (first |with_reducible (first|refine RM.c2 ?_|refine RM.c3 ?_|refine RM.c4 ?_|refine RM.c5 ?_|refine RM.c9 ?_|refine RM.o1 ?_|refine RM.o2 ?_|refine RM.o3 ?_|refine RM.o4 ?_|refine RM.o5 ?_|refine RM.o6 ?_|refine RM.p3 ?_|refine RM.p6 ?_) |((with_reducible show force _ _);first|refine RM.f1 rfl ?_|refine RM.f2 rfl ?_|refine RM.f3 rfl ?_|refine RM.f5 rfl ?_|refine RM.f7 rfl ?_|refine RM.g2 rfl ?_) |((with_reducible show wpOne _ _ _ _ _ _ _ _ _ _ _ _);refine RM.o8 rfl ?_) |((with_reducible show wpDOne _ _ _ _ _ _ _ _ _ _);refine RM.p9 rfl ?_) |((with_reducible show wpLen _ _ _ _ _);refine RM.l1 rfl ?_) |(refine ⟨_, rfl, ?_⟩) |(refine ⟨_, _, rfl, by decide, ?_⟩) |(refine ⟨rfl, rfl, rfl, ?_⟩) |(refine ⟨rfl, rfl, ?_⟩) |(refine And.intro (Nat.le_of_ble_eq_true rfl) ?_) |(refine And.intro (by kernel_rfl) ?_) |fail)
  rw [em]
  refine SemC.weaker (Weaker.to (l := [(1, .sl (L.map (ePast s.men k row)) false), (4, .ptr 0 0 0), (6, .ptr 1 0 0), (7, I64 s.men.length), (8, I64 ((0 : Nat) : Int))]) (hp := [.cells (eTruth ⟨0, 0, 0⟩) 0 0, .cells (eTruth ⟨0, 0, 0⟩) 0 0]) 2 rfl ⟨rfl, rfl, rfl, rfl, rfl, trivial⟩ (Nat.zero_le _) rfl rfl) ?_
  refine SemC.loop (fun j : Nat => j ≤ L.length) (fun j => ⟨mkFr [(1, .sl (L.map (ePast s.men k row)) false), (4, .ptr 0 0 0), (6, .ptr 1 0 0), (7, I64 (earlR s.men.length (shortF s.men k row) (L.take j)).2), (8, I64 (j : Int))], [.cells (eTruth ⟨0, 0, 0⟩) 0 0, .cells (eTruth (earlR s.men.length (shortF s.men k row) (L.take j)).1) 0 0], Amb.none, false, 0⟩) (fun j => L.length - j) ?_ 0 (Nat.zero_le _)
  intro j hj
  refine wpC_sound (mu := fun _ => false) ?_
  repeat' (first |with_reducible (first|refine RM.c2 ?_|refine RM.c4 ?_|refine RM.c9 ?_|refine RM.o1 ?_|refine RM.o2 ?_|refine RM.o4 ?_|refine RM.o5 ?_|refine RM.p2 ?_|refine RM.p5 ?_|refine RM.p6 ?_) |((with_reducible show force _ _);first|refine RM.f1 rfl ?_|refine RM.f2 rfl ?_) |((with_reducible show wpOne _ _ _ _ _ _ _ _ _ _ _ _);refine RM.o8 rfl ?_) |((with_reducible show wpBin _ _ _ _ _ _ _ _ _);refine RM.b6 rfl rfl ?_) |((with_reducible show wpLen _ _ _ _ _);refine RM.l1 rfl ?_) |fail)
  refine RM.e1 rfl ⟨fun hc => ?_, fun hc => ?_⟩
  · have hlt : j < L.length := by simpa only [el, decide_eq_true_eq, Int.ofNat_lt] using hc
    have hn : earlR s.men.length (shortF s.men k row) (L.take (j + 1)) = (if shortF s.men k row L[j] < (earlR s.men.length (shortF s.men k row) (L.take j)).2 then (L[j], shortF s.men k row L[j]) else earlR s.men.length (shortF s.men k row) (L.take j)) := take_step (List.getElem?_eq_getElem hlt)
    have hat : (L.map (ePast s.men k row))[((j : Nat) : Int).toNat]? = some (ePast s.men k row L[j]) := map_at hlt
    generalize earlR s.men.length (shortF s.men k row) (L.take j) = z at *
    by_cases h1 : shortF s.men k row L[j] < z.2
    · have d1 := decide_eq_true h1
      rw [if_pos h1] at hn
      repeat' (first |with_reducible (first|refine RM.c1 ?_|refine RM.c2 ?_|refine RM.c3 ?_|refine RM.c4 ?_|refine RM.c5 ?_|refine RM.c9 ?_|refine RM.d3 ?_|refine RM.o1 ?_|refine RM.o2 ?_|refine RM.o3 ?_|refine RM.o4 ?_|refine RM.o5 ?_|refine RM.o6 ?_|refine RM.p2 ?_|refine RM.p3 ?_|refine RM.p5 ?_) |((with_reducible show force _ _);first|refine RM.f1 rfl ?_|refine RM.f2 rfl ?_|refine RM.f3 rfl ?_|refine RM.f5 rfl ?_|refine RM.g2 rfl ?_) |((with_reducible show wpOne _ _ _ _ _ _ _ _ _ _ _ _);refine RM.o8 rfl ?_) |((with_reducible show wpDOne _ _ _ _ _ _ _ _ _ _);refine RM.p9 rfl ?_) |((with_reducible show wpC _ _ _ _ (.cond _ _ _) _ _);refine RM.e2 rfl (by assumption) ?_) |((with_reducible show wpBin _ _ _ _ _ _ _ _ _);first|refine RM.b6 rfl rfl ?_|refine RM.b1 rfl rfl (by omega) ?_) |(refine ⟨_, rfl, ?_⟩) |(refine ⟨_, _, rfl, by decide, ?_⟩) |(refine And.intro (Nat.le_of_ble_eq_true rfl) ?_) |(refine And.intro (by kernel_rfl) ?_) |(refine ⟨_, _, rfl, rfl, rfl, rfl, Nat.le_of_ble_eq_true rfl, ?_⟩) |(refine ⟨ePast s.men k row L[j], ⟨by omega, hat⟩, rfl, ?_⟩) |fail)
      refine ⟨j + 1, hlt, (by dsimp only; omega), ?_⟩
      show Weaker _ ⟨mkFr [(1, .sl (L.map (ePast s.men k row)) false), (4, .ptr 0 0 0), (6, .ptr 1 0 0), (7, I64 (earlR s.men.length (shortF s.men k row) (L.take (j + 1))).2), (8, I64 ((j + 1 : Nat) : Int))], [.cells (eTruth ⟨0, 0, 0⟩) 0 0, .cells (eTruth (earlR s.men.length (shortF s.men k row) (L.take (j + 1))).1) 0 0], Amb.none, false, 0⟩
      rw [hn]
      exact Weaker.to 2 rfl ⟨rfl, rfl, rfl, rfl, i64c (by simp), trivial⟩ (Nat.zero_le _) rfl rfl
    · have d1 := decide_eq_false h1
      rw [if_neg h1] at hn
      repeat' (first |with_reducible (first|refine RM.c1 ?_|refine RM.c2 ?_|refine RM.c3 ?_|refine RM.c4 ?_|refine RM.c9 ?_|refine RM.d3 ?_|refine RM.o1 ?_|refine RM.o2 ?_|refine RM.o4 ?_|refine RM.o5 ?_|refine RM.p2 ?_|refine RM.p3 ?_|refine RM.p5 ?_) |((with_reducible show force _ _);first|refine RM.f1 rfl ?_|refine RM.f2 rfl ?_|refine RM.f3 rfl ?_) |((with_reducible show wpOne _ _ _ _ _ _ _ _ _ _ _ _);refine RM.o8 rfl ?_) |((with_reducible show wpC _ _ _ _ (.cond _ _ _) _ _);refine RM.e3 rfl (by assumption) ?_) |((with_reducible show wpBin _ _ _ _ _ _ _ _ _);first|refine RM.b6 rfl rfl ?_|refine RM.b1 rfl rfl (by omega) ?_) |(refine ⟨_, rfl, ?_⟩) |(refine ⟨_, _, rfl, by decide, ?_⟩) |(refine ⟨ePast s.men k row L[j], ⟨by omega, hat⟩, rfl, ?_⟩) |fail)
      refine ⟨j + 1, hlt, (by dsimp only; omega), ?_⟩
      show Weaker _ ⟨mkFr [(1, .sl (L.map (ePast s.men k row)) false), (4, .ptr 0 0 0), (6, .ptr 1 0 0), (7, I64 (earlR s.men.length (shortF s.men k row) (L.take (j + 1))).2), (8, I64 ((j + 1 : Nat) : Int))], [.cells (eTruth ⟨0, 0, 0⟩) 0 0, .cells (eTruth (earlR s.men.length (shortF s.men k row) (L.take (j + 1))).1) 0 0], Amb.none, false, 0⟩
      rw [hn]
      exact Weaker.to 2 rfl ⟨rfl, rfl, rfl, rfl, i64c (by simp), trivial⟩ (Nat.zero_le _) rfl rfl
  · have hjl : L.take j = L := List.take_of_length_le (by rw [el, decide_eq_false_iff_not] at hc; omega)
    rw [hjl]
    repeat' (first |with_reducible (first|refine RM.c2 ?_|refine RM.c4 ?_|refine RM.c6 ?_|refine RM.c7 ?_|refine RM.c9 ?_|refine RM.d2 ?_|refine RM.o1 ?_|refine RM.o2 ?_|refine RM.o4 ?_|refine RM.o5 ?_|refine RM.o6 ?_|refine RM.p2 ?_|refine RM.p3 ?_|refine RM.q2 ?_) |((with_reducible show force _ _);first|refine RM.f1 rfl ?_|refine RM.f5 rfl ?_|refine RM.g2 rfl ?_) |((with_reducible show wpOne _ _ _ _ _ _ _ _ _ _ _ _);refine RM.o8 rfl ?_) |((with_reducible show blockK _ _ _ _);refine RM.d5 rfl ?_) |(refine ⟨_, _, rfl, rfl, rfl, rfl, Nat.le_of_ble_eq_true rfl, ?_⟩) |(refine ⟨_, _, rfl, Nat.le_of_ble_eq_true rfl, ?_⟩) |fail)
    exact ⟨[_, _], ⟨Fz.deep rfl, Fz.deep rfl, trivial⟩, rfl⟩

theorem rlasts_err (one : Bool) (s : Stores) (h : s.Ok) (l : List Count) (hl : l.length ≤ maxLen) (kd : Int) (he : askErr s l kd ≠ 0) : Pu one 26 [.ag (eStores s), .sl (l.map eCount) false, I64 kd] (.tp [I64 0, I64 (askErr s l kd)]) := by
  have ha := asked_c true s h l hl kd
  have hk := rknown_err true s (.sl (l.map eCount) false) kd _ he
  have d1 : (!decide (askErr s l kd = 0)) = true := by simpa using he
  refine PureV.body (fn := Try.f26) rfl rfl rfl rfl ?_
  refine wpC_sound (mu := fun _ => false) ?_
  repeat' (first |with_reducible (first|refine RM.c2 ?_|refine RM.c4 ?_|refine RM.c5 ?_|refine RM.c7 ?_|refine RM.c9 ?_|refine RM.d1 ?_|refine RM.o1 ?_|refine RM.o2 ?_|refine RM.o3 ?_|refine RM.o4 ?_|refine RM.o5 ?_|refine RM.o9 ?_|refine RM.p1 ?_|refine RM.p2 ?_|refine RM.p3 ?_|refine RM.p5 ?_|refine RM.n1 ?_) |((with_reducible show force _ _);first|refine RM.f1 rfl ?_|refine RM.f2 rfl ?_|refine RM.f3 rfl ?_|refine RM.f4 rfl ?_|refine RM.f5 rfl ?_|refine RM.f6 rfl ?_) |((with_reducible show wpOne _ _ _ _ _ _ _ _ _ _ _ _);refine RM.o8 rfl ?_) |((with_reducible show wpDOne _ _ _ _ _ _ _ _ _ _);refine RM.p9 rfl ?_) |((with_reducible show wpC _ _ _ _ (.cond _ _ _) _ _);refine RM.e2 rfl (by assumption) ?_) |((with_reducible show wpBin _ _ _ _ _ _ _ _ _);refine RM.b5 rfl rfl ?_) |(refine ⟨_, rfl, ?_⟩) |(refine ⟨rfl, rfl, rfl, ?_⟩) |(refine ⟨rfl, rfl, ?_⟩) |(refine And.intro (Nat.le_of_ble_eq_true rfl) ?_) |(refine And.intro (by kernel_rfl) ?_) |(refine ⟨_, ha, ?_⟩) |(refine ⟨_, hk, ?_⟩) |fail)
  exact ⟨[_, _], ⟨Fz.deep rfl, Fz.deep rfl, trivial⟩, rfl⟩

theorem ask_ok {s : Stores} {l : List Count} (h0 : cntsErr s l = 0) {i : Nat} (hi : i < s.kinds.length) : askErr s l i = 0 := by
  unfold askErr
  rw [if_neg (by simpa using h0), if_neg (by rw [inB_iff.2 (by omega)]; decide)]

theorem rlasts_ok (one : Bool) (s : Stores) (h : s.Ok) (l : List Count) (h0 : cntsErr s l = 0) (i : Nat) (hi : i < s.kinds.length) :
    Pu one 26 [.ag (eStores s), .sl (l.map eCount) false, I64 i] (.tp [I64 (if allS s l i s.kinds[i] = [] then 0 else (earlR s.men.length (shortF s.men s.kinds[i] (cargoRow i s.cargos)) (allS s l i s.kinds[i])).2), I64 (if allS s l i s.kinds[i] = [] then 9 else 0)]) := by
  obtain ⟨_, hl8, _⟩ := cnts_good h0
  have ha := asked_c true s h l (by unfold maxLen; omega) i
  rw [ask_ok h0 hi] at ha
  have hk := rknown_ok true s l h0 i hi
  have hL := all_len s l h0 i hi
  have he := rearl_c one s s.kinds[i] (cargoRow i s.cargos) (allS s l i s.kinds[i]) hL
  unfold ePastS at hk
  generalize allS s l i s.kinds[i] = L at *
  by_cases hz : L = []
  · rw [if_pos hz, if_pos hz]
    rw [if_pos hz] at hk
    refine PureV.body (fn := Try.f26) rfl rfl rfl rfl ?_
    refine wpC_sound (mu := fun _ => false) ?_
    repeat' (first |with_reducible (first|refine RM.c2 ?_|refine RM.c4 ?_|refine RM.c5 ?_|refine RM.c7 ?_|refine RM.c9 ?_|refine RM.d1 ?_|refine RM.o1 ?_|refine RM.o2 ?_|refine RM.o3 ?_|refine RM.o4 ?_|refine RM.o5 ?_|refine RM.o9 ?_|refine RM.p1 ?_|refine RM.p2 ?_|refine RM.p3 ?_|refine RM.p5 ?_|refine RM.n1 ?_) |((with_reducible show force _ _);first|refine RM.f1 rfl ?_|refine RM.f2 rfl ?_|refine RM.f3 rfl ?_|refine RM.f4 rfl ?_|refine RM.f5 rfl ?_|refine RM.f6 rfl ?_) |((with_reducible show wpOne _ _ _ _ _ _ _ _ _ _ _ _);refine RM.o8 rfl ?_) |((with_reducible show wpDOne _ _ _ _ _ _ _ _ _ _);refine RM.p9 rfl ?_) |((with_reducible show wpC _ _ _ _ (.cond _ _ _) _ _);refine RM.e2 rfl rfl ?_) |((with_reducible show wpBin _ _ _ _ _ _ _ _ _);refine RM.b5 rfl rfl ?_) |(refine ⟨_, rfl, ?_⟩) |(refine ⟨rfl, rfl, rfl, ?_⟩) |(refine ⟨rfl, rfl, ?_⟩) |(refine And.intro (Nat.le_of_ble_eq_true rfl) ?_) |(refine And.intro (by kernel_rfl) ?_) |(refine ⟨_, ha, ?_⟩) |(refine ⟨_, hk, ?_⟩) |fail)
    exact ⟨[_, _], ⟨Fz.deep rfl, Fz.deep rfl, trivial⟩, rfl⟩
  · rw [if_neg hz, if_neg hz]
    rw [if_neg hz] at hk
    refine PureV.body (fn := Try.f26) rfl rfl rfl rfl ?_
    refine wpC_sound (mu := fun _ => false) ?_
    repeat' (first |with_reducible (first|refine RM.c1 ?_|refine RM.c2 ?_|refine RM.c4 ?_|refine RM.c5 ?_|refine RM.c7 ?_|refine RM.c9 ?_|refine RM.o1 ?_|refine RM.o2 ?_|refine RM.o3 ?_|refine RM.o4 ?_|refine RM.o5 ?_|refine RM.o6 ?_|refine RM.o7 ?_|refine RM.o9 ?_|refine RM.p1 ?_|refine RM.p2 ?_|refine RM.p3 ?_|refine RM.p5 ?_|refine RM.n1 ?_) |((with_reducible show force _ _);first|refine RM.f1 rfl ?_|refine RM.f2 rfl ?_|refine RM.f3 rfl ?_|refine RM.f4 rfl ?_|refine RM.f5 rfl ?_|refine RM.f6 rfl ?_|refine RM.f7 rfl ?_|refine RM.g2 rfl ?_) |((with_reducible show wpOne _ _ _ _ _ _ _ _ _ _ _ _);refine RM.o8 rfl ?_) |((with_reducible show wpDOne _ _ _ _ _ _ _ _ _ _);refine RM.p9 rfl ?_) |((with_reducible show wpC _ _ _ _ (.cond _ _ _) _ _);refine RM.e3 rfl rfl ?_) |((with_reducible show wpBin _ _ _ _ _ _ _ _ _);refine RM.b5 rfl rfl ?_) |(refine ⟨_, rfl, ?_⟩) |(refine ⟨rfl, rfl, rfl, ?_⟩) |(refine ⟨rfl, rfl, ?_⟩) |(refine And.intro (Nat.le_of_ble_eq_true rfl) ?_) |(refine And.intro (by kernel_rfl) ?_) |(refine ⟨_, _, rfl, rfl, rfl, rfl, Nat.le_of_ble_eq_true rfl, ?_⟩) |(refine ⟨_, ha, ?_⟩) |(refine ⟨_, hk, ?_⟩) |(refine PureV.call he rfl rfl ?_) |fail)
    exact ⟨[_, _], ⟨Fz.deep rfl, Fz.deep rfl, trivial⟩, rfl⟩

theorem rshort_err (one : Bool) (s : Stores) (h : s.Ok) (l : List Count) (hl : l.length ≤ maxLen) (kd : Int) (he : askErr s l kd ≠ 0) : Pu one 28 [.ag (eStores s), .sl (l.map eCount) false, I64 kd] (.tp [.ag (eTruth ⟨0, 0, 0⟩), I64 0, I64 (askErr s l kd)]) := by
  have ha := asked_c true s h l hl kd
  have hk := rknown_err true s (.sl (l.map eCount) false) kd _ he
  have d1 : (!decide (askErr s l kd = 0)) = true := by simpa using he
  refine PureV.body (fn := Try.f28) rfl rfl rfl rfl ?_
  refine wpC_sound (mu := fun _ => false) ?_
  repeat' (first |with_reducible (first|refine RM.c2 ?_|refine RM.c4 ?_|refine RM.c5 ?_|refine RM.c7 ?_|refine RM.c9 ?_|refine RM.d1 ?_|refine RM.o1 ?_|refine RM.o2 ?_|refine RM.o3 ?_|refine RM.o4 ?_|refine RM.o5 ?_|refine RM.o6 ?_|refine RM.o9 ?_|refine RM.p1 ?_|refine RM.p2 ?_|refine RM.p3 ?_|refine RM.p5 ?_|refine RM.n1 ?_) |((with_reducible show force _ _);first|refine RM.f1 rfl ?_|refine RM.f2 rfl ?_|refine RM.f3 rfl ?_|refine RM.f4 rfl ?_|refine RM.f5 rfl ?_|refine RM.f6 rfl ?_|refine RM.f7 rfl ?_|refine RM.g2 rfl ?_) |((with_reducible show wpOne _ _ _ _ _ _ _ _ _ _ _ _);refine RM.o8 rfl ?_) |((with_reducible show wpDOne _ _ _ _ _ _ _ _ _ _);refine RM.p9 rfl ?_) |((with_reducible show wpC _ _ _ _ (.cond _ _ _) _ _);refine RM.e2 rfl (by assumption) ?_) |((with_reducible show wpBin _ _ _ _ _ _ _ _ _);refine RM.b5 rfl rfl ?_) |(refine ⟨_, rfl, ?_⟩) |(refine ⟨_, _, rfl, by decide, ?_⟩) |(refine ⟨rfl, rfl, rfl, ?_⟩) |(refine ⟨rfl, rfl, ?_⟩) |(refine And.intro (Nat.le_of_ble_eq_true rfl) ?_) |(refine And.intro (by kernel_rfl) ?_) |(refine ⟨_, ha, ?_⟩) |(refine ⟨_, hk, ?_⟩) |fail)
  exact ⟨[_, _, _], ⟨Fz.deep rfl, Fz.deep rfl, Fz.deep rfl, trivial⟩, rfl⟩

def shortRV (n : Nat) (L : List Truth) (z : Truth × Int) : AV := if L = [] then .tp [.ag (eTruth ⟨0, 0, 0⟩), I64 0, I64 9] else if z.2 = n then .tp [.ag (eTruth ⟨0, 0, 0⟩), I64 0, I64 4] else .tp [.ag (eTruth z.1), I64 z.2, I64 0]

theorem rshort_ok (one : Bool) (s : Stores) (h : s.Ok) (l : List Count) (h0 : cntsErr s l = 0) (i : Nat) (hi : i < s.kinds.length) :
    Pu one 28 [.ag (eStores s), .sl (l.map eCount) false, I64 i] (shortRV s.men.length (allS s l i s.kinds[i]) (earlR s.men.length (shortF s.men s.kinds[i] (cargoRow i s.cargos)) (allS s l i s.kinds[i]))) := by
  obtain ⟨_, hl8, _⟩ := cnts_good h0
  have em : ((s.men.map eI).length : Int) = s.men.length := by simp
  have ha := asked_c true s h l (by unfold maxLen; omega) i
  rw [ask_ok h0 hi] at ha
  have hk := rknown_ok true s l h0 i hi
  have hL := all_len s l h0 i hi
  have he := rearl_c one s s.kinds[i] (cargoRow i s.cargos) (allS s l i s.kinds[i]) hL
  unfold ePastS at hk
  unfold shortRV
  generalize allS s l i s.kinds[i] = L at *
  generalize earlR s.men.length (shortF s.men s.kinds[i] (cargoRow i s.cargos)) L = z at *
  by_cases hz : L = []
  · rw [if_pos hz]
    rw [if_pos hz] at hk
    refine PureV.body (fn := Try.f28) rfl rfl rfl rfl ?_
    refine wpC_sound (mu := fun _ => false) ?_
    repeat' (first |with_reducible (first|refine RM.c2 ?_|refine RM.c4 ?_|refine RM.c5 ?_|refine RM.c7 ?_|refine RM.c9 ?_|refine RM.d1 ?_|refine RM.o1 ?_|refine RM.o2 ?_|refine RM.o3 ?_|refine RM.o4 ?_|refine RM.o5 ?_|refine RM.o6 ?_|refine RM.o9 ?_|refine RM.p1 ?_|refine RM.p2 ?_|refine RM.p3 ?_|refine RM.p5 ?_|refine RM.n1 ?_) |((with_reducible show force _ _);first|refine RM.f1 rfl ?_|refine RM.f2 rfl ?_|refine RM.f3 rfl ?_|refine RM.f4 rfl ?_|refine RM.f5 rfl ?_|refine RM.f6 rfl ?_|refine RM.f7 rfl ?_|refine RM.g2 rfl ?_) |((with_reducible show wpOne _ _ _ _ _ _ _ _ _ _ _ _);refine RM.o8 rfl ?_) |((with_reducible show wpDOne _ _ _ _ _ _ _ _ _ _);refine RM.p9 rfl ?_) |((with_reducible show wpC _ _ _ _ (.cond _ _ _) _ _);refine RM.e2 rfl rfl ?_) |((with_reducible show wpBin _ _ _ _ _ _ _ _ _);refine RM.b5 rfl rfl ?_) |(refine ⟨_, rfl, ?_⟩) |(refine ⟨_, _, rfl, by decide, ?_⟩) |(refine ⟨rfl, rfl, rfl, ?_⟩) |(refine ⟨rfl, rfl, ?_⟩) |(refine And.intro (Nat.le_of_ble_eq_true rfl) ?_) |(refine And.intro (by kernel_rfl) ?_) |(refine ⟨_, ha, ?_⟩) |(refine ⟨_, hk, ?_⟩) |fail)
    exact ⟨[_, _, _], ⟨Fz.deep rfl, Fz.deep rfl, Fz.deep rfl, trivial⟩, rfl⟩
  · rw [if_neg hz]
    rw [if_neg hz] at hk
    by_cases hd : z.2 = s.men.length
    · have d1 : decide (z.2 = ((s.men.map eI).length : Int)) = true := by rw [em]; exact decide_eq_true hd
      rw [if_pos hd]
      refine PureV.body (fn := Try.f28) rfl rfl rfl rfl ?_
      refine wpC_sound (mu := fun _ => false) ?_
      repeat' (first |with_reducible (first|refine RM.c1 ?_|refine RM.c2 ?_|refine RM.c4 ?_|refine RM.c5 ?_|refine RM.c7 ?_|refine RM.c9 ?_|refine RM.d1 ?_|refine RM.o1 ?_|refine RM.o2 ?_|refine RM.o3 ?_|refine RM.o4 ?_|refine RM.o5 ?_|refine RM.o6 ?_|refine RM.o7 ?_|refine RM.o9 ?_|refine RM.p1 ?_|refine RM.p2 ?_|refine RM.p3 ?_|refine RM.p5 ?_|refine RM.p6 ?_|refine RM.n1 ?_) |((with_reducible show force _ _);first|refine RM.f1 rfl ?_|refine RM.f2 rfl ?_|refine RM.f3 rfl ?_|refine RM.f4 rfl ?_|refine RM.f5 rfl ?_|refine RM.f6 rfl ?_|refine RM.f7 rfl ?_|refine RM.g2 rfl ?_) |((with_reducible show wpOne _ _ _ _ _ _ _ _ _ _ _ _);refine RM.o8 rfl ?_) |((with_reducible show wpDOne _ _ _ _ _ _ _ _ _ _);refine RM.p9 rfl ?_) |((with_reducible show wpC _ _ _ _ (.cond _ _ _) _ _);first|refine RM.e3 rfl rfl ?_|refine RM.e2 rfl (by assumption) ?_) |((with_reducible show wpBin _ _ _ _ _ _ _ _ _);first|refine RM.b4 rfl rfl ?_|refine RM.b5 rfl rfl ?_) |((with_reducible show wpLen _ _ _ _ _);refine RM.l1 rfl ?_) |(refine ⟨_, rfl, ?_⟩) |(refine ⟨_, _, rfl, by decide, ?_⟩) |(refine ⟨rfl, rfl, rfl, ?_⟩) |(refine ⟨rfl, rfl, ?_⟩) |(refine And.intro (Nat.le_of_ble_eq_true rfl) ?_) |(refine And.intro (by kernel_rfl) ?_) |(refine ⟨_, _, rfl, rfl, rfl, rfl, Nat.le_of_ble_eq_true rfl, ?_⟩) |(refine ⟨_, ha, ?_⟩) |(refine ⟨_, hk, ?_⟩) |(refine PureV.call he rfl rfl ?_) |fail)
      exact ⟨[_, _, _], ⟨Fz.deep rfl, Fz.deep rfl, Fz.deep rfl, trivial⟩, rfl⟩
    · have d1 : decide (z.2 = ((s.men.map eI).length : Int)) = false := by rw [em]; exact decide_eq_false hd
      rw [if_neg hd]
      refine PureV.body (fn := Try.f28) rfl rfl rfl rfl ?_
      refine wpC_sound (mu := fun _ => false) ?_
      repeat' (first |with_reducible (first|refine RM.c1 ?_|refine RM.c2 ?_|refine RM.c4 ?_|refine RM.c5 ?_|refine RM.c7 ?_|refine RM.c9 ?_|refine RM.o1 ?_|refine RM.o2 ?_|refine RM.o3 ?_|refine RM.o4 ?_|refine RM.o5 ?_|refine RM.o6 ?_|refine RM.o7 ?_|refine RM.o9 ?_|refine RM.p1 ?_|refine RM.p2 ?_|refine RM.p3 ?_|refine RM.p5 ?_|refine RM.p6 ?_|refine RM.n1 ?_) |((with_reducible show force _ _);first|refine RM.f1 rfl ?_|refine RM.f2 rfl ?_|refine RM.f3 rfl ?_|refine RM.f4 rfl ?_|refine RM.f5 rfl ?_|refine RM.f6 rfl ?_|refine RM.f7 rfl ?_|refine RM.g2 rfl ?_) |((with_reducible show wpOne _ _ _ _ _ _ _ _ _ _ _ _);refine RM.o8 rfl ?_) |((with_reducible show wpDOne _ _ _ _ _ _ _ _ _ _);refine RM.p9 rfl ?_) |((with_reducible show wpC _ _ _ _ (.cond _ _ _) _ _);first|refine RM.e3 rfl rfl ?_|refine RM.e3 rfl (by assumption) ?_) |((with_reducible show wpBin _ _ _ _ _ _ _ _ _);first|refine RM.b4 rfl rfl ?_|refine RM.b5 rfl rfl ?_) |((with_reducible show wpLen _ _ _ _ _);refine RM.l1 rfl ?_) |(refine ⟨_, rfl, ?_⟩) |(refine ⟨_, _, rfl, by decide, ?_⟩) |(refine ⟨rfl, rfl, rfl, ?_⟩) |(refine ⟨rfl, rfl, ?_⟩) |(refine And.intro (Nat.le_of_ble_eq_true rfl) ?_) |(refine And.intro (by kernel_rfl) ?_) |(refine ⟨_, _, rfl, rfl, rfl, rfl, Nat.le_of_ble_eq_true rfl, ?_⟩) |(refine ⟨_, _, rfl, Nat.le_of_ble_eq_true rfl, ?_⟩) |(refine ⟨_, ha, ?_⟩) |(refine ⟨_, hk, ?_⟩) |(refine PureV.call he rfl rfl ?_) |fail)
      exact ⟨[_, _, _], ⟨Fz.deep rfl, Fz.deep rfl, Fz.deep rfl, trivial⟩, rfl⟩
end Go.Proofs.Ytmkaeohmdcoanaa
open Go Go.RM
namespace Go.Proofs.Ytmkaeohmdcoanaa
set_option maxRecDepth 100000
set_option maxHeartbeats 4000000

def lvR (lf : Truth → Int) (x : Span) (L : List Truth) : Span := L.foldl (fun x t => ⟨min x.lo (lf t), max x.hi (lf t)⟩) x
def lvRef (lf : Truth → Int) (L : List Truth) : Span := match L with
  | [] => ⟨0, 0⟩
  | t :: _ => lvR lf ⟨lf t, lf t⟩ L

theorem rlevel_err (one : Bool) (s : Stores) (h : s.Ok) (l : List Count) (hl : l.length ≤ maxLen) (kd day e : Int) (he : rangedE (askErr s l kd) day 0 s.men.length = e) (hne : e ≠ 0) : Pu one 24 [.ag (eStores s), .sl (l.map eCount) false, I64 kd, I64 day] (.tp [.ag (eSpan ⟨0, 0⟩), I64 e]) := by
  have em : ((s.men.map eI).length : Int) = s.men.length := by simp
  have ha := asked_c true s h l hl kd
  have hr := ranged_c true (askErr s l kd) day 0 ((s.men.map eI).length : Int)
  rw [em, he, ← em] at hr
  have hk := rknown_err true s (.sl (l.map eCount) false) kd _ hne
  have d1 : (!decide (e = 0)) = true := by simpa using hne
  refine PureV.body (fn := Try.f24) rfl rfl rfl rfl ?_
  refine wpC_sound (mu := fun _ => false) ?_
  repeat' (first |with_reducible (first|refine RM.c2 ?_|refine RM.c4 ?_|refine RM.c5 ?_|refine RM.c7 ?_|refine RM.c9 ?_|refine RM.d1 ?_|refine RM.o1 ?_|refine RM.o2 ?_|refine RM.o3 ?_|refine RM.o4 ?_|refine RM.o5 ?_|refine RM.o6 ?_|refine RM.o9 ?_|refine RM.p1 ?_|refine RM.p2 ?_|refine RM.p3 ?_|refine RM.p5 ?_|refine RM.p6 ?_|refine RM.n1 ?_) |((with_reducible show force _ _);first|refine RM.f1 rfl ?_|refine RM.f2 rfl ?_|refine RM.f3 rfl ?_|refine RM.f4 rfl ?_|refine RM.f5 rfl ?_|refine RM.f6 rfl ?_|refine RM.f7 rfl ?_|refine RM.g2 rfl ?_) |((with_reducible show wpOne _ _ _ _ _ _ _ _ _ _ _ _);refine RM.o8 rfl ?_) |((with_reducible show wpDOne _ _ _ _ _ _ _ _ _ _);refine RM.p9 rfl ?_) |((with_reducible show wpC _ _ _ _ (.cond _ _ _) _ _);refine RM.e2 rfl (by assumption) ?_) |((with_reducible show wpBin _ _ _ _ _ _ _ _ _);refine RM.b5 rfl rfl ?_) |((with_reducible show wpLen _ _ _ _ _);refine RM.l1 rfl ?_) |(refine ⟨_, rfl, ?_⟩) |(refine ⟨_, _, rfl, by decide, ?_⟩) |(refine ⟨rfl, rfl, rfl, ?_⟩) |(refine ⟨rfl, rfl, ?_⟩) |(refine And.intro (Nat.le_of_ble_eq_true rfl) ?_) |(refine And.intro (by kernel_rfl) ?_) |(refine ⟨_, ha, ?_⟩) |(refine ⟨_, hr, ?_⟩) |(refine ⟨_, hk, ?_⟩) |fail)
  exact ⟨[_, _], ⟨Fz.deep rfl, Fz.deep rfl, trivial⟩, rfl⟩

theorem rlevel_ok (one : Bool) (s : Stores) (h : s.Ok) (l : List Count) (h0 : cntsErr s l = 0) (i : Nat) (hi : i < s.kinds.length) (d : Nat) (hd : d ≤ s.men.length) :
    Pu one 24 [.ag (eStores s), .sl (l.map eCount) false, I64 i, I64 d] (.tp [.ag (eSpan (lvRef (levelAt s.men s.kinds[i] (cargoRow i s.cargos) d) (allS s l i s.kinds[i]))), I64 (if allS s l i s.kinds[i] = [] then 9 else 0)]) := by
  obtain ⟨_, hl8, _⟩ := cnts_good h0
  have em : ((s.men.map eI).length : Int) = s.men.length := by simp
  have ha := asked_c true s h l (by unfold maxLen; omega) i
  rw [ask_ok h0 hi] at ha
  have hr := ranged_c true 0 d 0 ((s.men.map eI).length : Int)
  rw [show rangedE 0 d 0 ((s.men.map eI).length : Int) = 0 by unfold rangedE; rw [if_pos rfl, inB_iff.2 (by rw [em]; omega)]; rfl] at hr
  have hk := rknown_ok true s l h0 i hi
  have hL := all_len s l h0 i hi
  have hlv : ∀ t, (((lvl s.men s.kinds[i] (cargoRow i s.cargos) t).map eI))[((d : Nat) : Int).toNat]? = some (eI (levelAt s.men s.kinds[i] (cargoRow i s.cargos) d t)) := fun t => getD_at (d := (d : Int)) (by rw [lvl_len]; omega)
  unfold ePastS at hk
  generalize allS s l i s.kinds[i] = L at *
  generalize levelAt s.men s.kinds[i] (cargoRow i s.cargos) d = lf at *
  by_cases hz : L = []
  · subst hz
    rw [if_pos rfl] at hk ⊢
    refine PureV.body (fn := Try.f24) rfl rfl rfl rfl ?_
    refine wpC_sound (mu := fun _ => false) ?_
    repeat' (first |with_reducible (first|refine RM.c2 ?_|refine RM.c4 ?_|refine RM.c5 ?_|refine RM.c7 ?_|refine RM.c9 ?_|refine RM.d1 ?_|refine RM.o1 ?_|refine RM.o2 ?_|refine RM.o3 ?_|refine RM.o4 ?_|refine RM.o5 ?_|refine RM.o6 ?_|refine RM.o9 ?_|refine RM.p1 ?_|refine RM.p2 ?_|refine RM.p3 ?_|refine RM.p5 ?_|refine RM.p6 ?_|refine RM.n1 ?_) |((with_reducible show force _ _);first|refine RM.f1 rfl ?_|refine RM.f2 rfl ?_|refine RM.f3 rfl ?_|refine RM.f4 rfl ?_|refine RM.f5 rfl ?_|refine RM.f6 rfl ?_|refine RM.f7 rfl ?_|refine RM.g2 rfl ?_) |((with_reducible show wpOne _ _ _ _ _ _ _ _ _ _ _ _);refine RM.o8 rfl ?_) |((with_reducible show wpDOne _ _ _ _ _ _ _ _ _ _);refine RM.p9 rfl ?_) |((with_reducible show wpC _ _ _ _ (.cond _ _ _) _ _);refine RM.e2 rfl rfl ?_) |((with_reducible show wpBin _ _ _ _ _ _ _ _ _);refine RM.b5 rfl rfl ?_) |((with_reducible show wpLen _ _ _ _ _);refine RM.l1 rfl ?_) |(refine ⟨_, rfl, ?_⟩) |(refine ⟨_, _, rfl, by decide, ?_⟩) |(refine ⟨rfl, rfl, rfl, ?_⟩) |(refine ⟨rfl, rfl, ?_⟩) |(refine And.intro (Nat.le_of_ble_eq_true rfl) ?_) |(refine And.intro (by kernel_rfl) ?_) |(refine ⟨_, ha, ?_⟩) |(refine ⟨_, hr, ?_⟩) |(refine ⟨_, hk, ?_⟩) |fail)
    exact ⟨[_, _], ⟨Fz.deep rfl, Fz.deep rfl, trivial⟩, rfl⟩
  · rw [if_neg hz] at hk ⊢
    obtain ⟨t0, L1, rfl⟩ : ∃ t0 L1, L = t0 :: L1 := by cases L with | nil => exact absurd rfl hz | cons a b => exact ⟨a, b, rfl⟩
    have el : (((t0 :: L1).map (ePast s.men s.kinds[i] (cargoRow i s.cargos))).length : Int) = (t0 :: L1).length := by simp
    show Pu one 24 _ (.tp [.ag (eSpan (lvR lf ⟨lf t0, lf t0⟩ (t0 :: L1))), I64 0])
    refine PureV.body (fn := Try.f24) rfl rfl rfl rfl ?_
    refine wpC_sound (mu := fun _ => false) ?_
    repeat' (first |(refine ⟨_, ha, ?_⟩) |(refine ⟨_, hr, ?_⟩) |(refine ⟨_, hk, ?_⟩) |with_reducible (first|refine RM.c1 ?_|refine RM.c2 ?_|refine RM.c3 ?_|refine RM.c4 ?_|refine RM.c5 ?_|refine RM.c9 ?_|refine RM.o1 ?_|refine RM.o2 ?_|refine RM.o3 ?_|refine RM.o4 ?_|refine RM.o5 ?_|refine RM.o6 ?_|refine RM.o9 ?_|refine RM.p1 ?_|refine RM.p2 ?_|refine RM.p3 ?_|refine RM.p5 ?_|refine RM.p6 ?_|refine RM.n1 ?_) |((with_reducible show force _ _);first|refine RM.f1 rfl ?_|refine RM.f2 rfl ?_|refine RM.f3 rfl ?_|refine RM.f4 rfl ?_|refine RM.f5 rfl ?_|refine RM.f6 rfl ?_|refine RM.f7 rfl ?_|refine RM.g2 rfl ?_) |((with_reducible show wpOne _ _ _ _ _ _ _ _ _ _ _ _);refine RM.o8 rfl ?_) |((with_reducible show wpDOne _ _ _ _ _ _ _ _ _ _);refine RM.p9 rfl ?_) |((with_reducible show wpC _ _ _ _ (.cond _ _ _) _ _);refine RM.e3 rfl rfl ?_) |((with_reducible show wpBin _ _ _ _ _ _ _ _ _);refine RM.b5 rfl rfl ?_) |((with_reducible show wpLen _ _ _ _ _);refine RM.l1 rfl ?_) |(refine ⟨_, rfl, ?_⟩) |(refine ⟨_, _, rfl, by decide, ?_⟩) |(refine ⟨rfl, rfl, rfl, ?_⟩) |(refine ⟨rfl, rfl, ?_⟩) |(refine And.intro (Nat.le_of_ble_eq_true rfl) ?_) |(refine And.intro (by kernel_rfl) ?_) |(refine ⟨_, _, rfl, rfl, rfl, rfl, Nat.le_of_ble_eq_true rfl, ?_⟩) |(refine ⟨ePast s.men s.kinds[i] (cargoRow i s.cargos) t0, ⟨by omega, rfl⟩, rfl, ?_⟩) |(refine ⟨eI _, ⟨by omega, hlv _⟩, rfl, ?_⟩) |fail)
    generalize t0 :: L1 = L at *
    refine SemC.weaker (Weaker.to (l := [(3, I64 d), (8, .ptr 0 0 0), (10, .sl (L.map (ePast s.men s.kinds[i] (cargoRow i s.cargos))) false), (12, .ptr 1 0 0), (13, I64 ((0 : Nat) : Int))]) (hp := [.cells (eSpan ⟨0, 0⟩) 0 0, .cells (eSpan ⟨lf t0, lf t0⟩) 0 0]) 2 rfl ⟨rfl, rfl, rfl, rfl, rfl, trivial⟩ (Nat.zero_le _) rfl rfl) ?_
    refine SemC.loop (fun j : Nat => j ≤ L.length) (fun j => ⟨mkFr [(3, I64 d), (8, .ptr 0 0 0), (10, .sl (L.map (ePast s.men s.kinds[i] (cargoRow i s.cargos))) false), (12, .ptr 1 0 0), (13, I64 (j : Int))], [.cells (eSpan ⟨0, 0⟩) 0 0, .cells (eSpan (lvR lf ⟨lf t0, lf t0⟩ (L.take j))) 0 0], Amb.none, false, 0⟩) (fun j => L.length - j) ?_ 0 (Nat.zero_le _)
    intro j hj
    refine wpC_sound (mu := fun _ => false) ?_
    repeat' (first |with_reducible (first|refine RM.c2 ?_|refine RM.c4 ?_|refine RM.c9 ?_|refine RM.o1 ?_|refine RM.o2 ?_|refine RM.o4 ?_|refine RM.o5 ?_|refine RM.p2 ?_|refine RM.p5 ?_|refine RM.p6 ?_) |((with_reducible show force _ _);first|refine RM.f1 rfl ?_|refine RM.f2 rfl ?_) |((with_reducible show wpOne _ _ _ _ _ _ _ _ _ _ _ _);refine RM.o8 rfl ?_) |((with_reducible show wpBin _ _ _ _ _ _ _ _ _);refine RM.b6 rfl rfl ?_) |((with_reducible show wpLen _ _ _ _ _);refine RM.l1 rfl ?_) |fail)
    refine RM.e1 rfl ⟨fun hc => ?_, fun hc => ?_⟩
    · have hlt : j < L.length := by simpa only [el, decide_eq_true_eq, Int.ofNat_lt] using hc
      have hn : lvR lf ⟨lf t0, lf t0⟩ (L.take (j + 1)) = ⟨min (lvR lf ⟨lf t0, lf t0⟩ (L.take j)).lo (lf L[j]), max (lvR lf ⟨lf t0, lf t0⟩ (L.take j)).hi (lf L[j])⟩ := take_step (List.getElem?_eq_getElem hlt)
      have hat : (L.map (ePast s.men s.kinds[i] (cargoRow i s.cargos)))[((j : Nat) : Int).toNat]? = some (ePast s.men s.kinds[i] (cargoRow i s.cargos) L[j]) := map_at hlt
      generalize lvR lf ⟨lf t0, lf t0⟩ (L.take j) = z at *
      repeat' (first |with_reducible (first|refine RM.c1 ?_|refine RM.c2 ?_|refine RM.c3 ?_|refine RM.c4 ?_|refine RM.c5 ?_|refine RM.c9 ?_|refine RM.d3 ?_|refine RM.o1 ?_|refine RM.o2 ?_|refine RM.o3 ?_|refine RM.o4 ?_|refine RM.o5 ?_|refine RM.o6 ?_|refine RM.p2 ?_|refine RM.p3 ?_|refine RM.p5 ?_) |((with_reducible show force _ _);first|refine RM.f1 rfl ?_|refine RM.f2 rfl ?_|refine RM.f3 rfl ?_|refine RM.f5 rfl ?_|refine RM.f7 rfl ?_|refine RM.g2 rfl ?_) |((with_reducible show wpOne _ _ _ _ _ _ _ _ _ _ _ _);refine RM.o8 rfl ?_) |((with_reducible show wpDOne _ _ _ _ _ _ _ _ _ _);refine RM.p9 rfl ?_) |((with_reducible show wpBin _ _ _ _ _ _ _ _ _);refine RM.b1 rfl rfl (by omega) ?_) |((with_reducible show RM.wpOp _ _ _ _ _ _);first|refine RM.n4 rfl rfl ?_|refine RM.n5 rfl rfl ?_) |(refine ⟨_, rfl, ?_⟩) |(refine ⟨_, _, rfl, by decide, ?_⟩) |(refine ⟨_, _, rfl, _, rfl, ?_⟩) |(refine And.intro (by kernel_rfl) ?_) |(refine ⟨_, _, rfl, rfl, rfl, rfl, Nat.le_of_ble_eq_true rfl, ?_⟩) |(refine ⟨ePast s.men s.kinds[i] (cargoRow i s.cargos) L[j], ⟨by omega, hat⟩, rfl, ?_⟩) |(refine ⟨eI _, ⟨by omega, hlv _⟩, rfl, ?_⟩) |fail)
      refine ⟨j + 1, hlt, (by dsimp only; omega), ?_⟩
      show Weaker _ ⟨mkFr [(3, I64 d), (8, .ptr 0 0 0), (10, .sl (L.map (ePast s.men s.kinds[i] (cargoRow i s.cargos))) false), (12, .ptr 1 0 0), (13, I64 ((j + 1 : Nat) : Int))], [.cells (eSpan ⟨0, 0⟩) 0 0, .cells (eSpan (lvR lf ⟨lf t0, lf t0⟩ (L.take (j + 1)))) 0 0], Amb.none, false, 0⟩
      rw [hn]
      exact Weaker.to 2 rfl ⟨rfl, rfl, rfl, rfl, i64c (by simp), trivial⟩ (Nat.zero_le _) rfl rfl
    · have hjl : L.take j = L := List.take_of_length_le (by rw [el, decide_eq_false_iff_not] at hc; omega)
      rw [hjl]
      repeat' (first |with_reducible (first|refine RM.c2 ?_|refine RM.c4 ?_|refine RM.c6 ?_|refine RM.c7 ?_|refine RM.c9 ?_|refine RM.d2 ?_|refine RM.o1 ?_|refine RM.o2 ?_|refine RM.o4 ?_|refine RM.o5 ?_|refine RM.o6 ?_|refine RM.p3 ?_|refine RM.q2 ?_) |((with_reducible show force _ _);first|refine RM.f1 rfl ?_|refine RM.f5 rfl ?_|refine RM.g2 rfl ?_) |((with_reducible show wpOne _ _ _ _ _ _ _ _ _ _ _ _);refine RM.o8 rfl ?_) |((with_reducible show blockK _ _ _ _);refine RM.d5 rfl ?_) |(refine ⟨_, _, rfl, rfl, rfl, rfl, Nat.le_of_ble_eq_true rfl, ?_⟩) |(refine ⟨_, _, rfl, Nat.le_of_ble_eq_true rfl, ?_⟩) |fail)
      exact ⟨[_, _], ⟨Fz.deep rfl, Fz.deep rfl, trivial⟩, rfl⟩
end Go.Proofs.Ytmkaeohmdcoanaa
open Go Go.RM
namespace Go.Proofs.Ytmkaeohmdcoanaa

theorem useOf_mono' {k : Kind} {t u : Truth} {down : Int} {i : Nat} {n : Int} (hm : u.man = t.man) : useOf k u down i n = useOf k t down i n := by
  unfold useOf; rw [hm]

/-- More at first never leaves less. -/
theorem have_up {men : List Int} {k : Kind} {row : List Int} {m p n n' : Int} (h : n ≤ n') (down : Int) : ∀ i, haveAt men k row ⟨n, m, p⟩ down i ≤ haveAt men k row ⟨n', m, p⟩ down i
  | 0 => h
  | i + 1 => by
    have ih := have_up (men := men) (k := k) (row := row) (m := m) (p := p) h down i
    have hu := useOf_mono' (k := k) (t := ⟨n, m, p⟩) (u := ⟨n', m, p⟩) (down := down) (i := i) (n := men.getD i 0) rfl
    simp only [haveAt, rawAt] at ih ⊢
    rw [hu]
    omega

theorem short_up {men : List Int} {k : Kind} {row : List Int} {m p n n' : Int} (h : n ≤ n') (down : Int) : ∀ i, shortAt men k row ⟨n, m, p⟩ down i ≤ shortAt men k row ⟨n', m, p⟩ down i
  | 0 => Int.le_refl _
  | i + 1 => by
    have ih := short_up (men := men) (k := k) (row := row) (m := m) (p := p) h down i
    have hh := have_up (men := men) (k := k) (row := row) (m := m) (p := p) h down i
    have hu := useOf_mono' (k := k) (t := ⟨n, m, p⟩) (u := ⟨n', m, p⟩) (down := down) (i := i) (n := men.getD i 0) rfl
    have hr : rawAt men k row ⟨n, m, p⟩ down i (haveAt men k row ⟨n, m, p⟩ down i) ≤ rawAt men k row ⟨n', m, p⟩ down i (haveAt men k row ⟨n', m, p⟩ down i) := by
      unfold rawAt
      dsimp only
      rw [hu]
      omega
    unfold shortAt
    split <;> split <;> omega

theorem lvl_at {men : List Int} {k : Kind} {row : List Int} {t : Truth} {d : Nat} (h : d ≤ men.length) : (lvl men k row t).getD d 0 = haveAt men k row t men.length d := by
  unfold lvl
  rw [List.getD_eq_getElem?_getD, List.getElem?_map, List.getElem?_range (by omega)]
  rfl

theorem lvl_up {men : List Int} {k : Kind} {row : List Int} {m p n n' : Int} (h : n ≤ n') (d : Nat) : (lvl men k row ⟨n, m, p⟩).getD d 0 ≤ (lvl men k row ⟨n', m, p⟩).getD d 0 := by
  by_cases hd : d ≤ men.length
  · rw [lvl_at hd, lvl_at hd]; exact have_up h _ _
  · rw [List.getD_eq_getElem?_getD, List.getD_eq_getElem?_getD, List.getElem?_eq_none (by rw [lvl_len]; omega), List.getElem?_eq_none (by rw [lvl_len]; omega)]
    exact Int.le_refl _

theorem enough_up {men : List Int} {k : Kind} {row : List Int} {f : List Count} {b : Bool} {m p n n' : Int} (h : n ≤ n') (he : enough men k row f b ⟨n, m, p⟩ = true) : enough men k row f b ⟨n', m, p⟩ = true := by
  unfold enough at he ⊢
  cases b with
  | true =>
    simp only [cond_true, List.any_eq_true] at he ⊢
    obtain ⟨c, hc, h1⟩ := he
    refine ⟨c, hc, ?_⟩
    unfold cntOver at h1 ⊢
    have := lvl_up (men := men) (k := k) (row := row) (m := m) (p := p) h c.day.toNat
    rw [decide_eq_true_eq] at h1 ⊢
    omega
  | false =>
    simp only [cond_false, Bool.not_eq_true', List.any_eq_false] at he ⊢
    intro c hc h1
    apply he c hc
    unfold cntUnder at h1 ⊢
    have := lvl_up (men := men) (k := k) (row := row) (m := m) (p := p) h c.day.toNat
    rw [decide_eq_true_eq] at h1 ⊢
    omega

theorem agr_iff' (men : List Int) (k : Kind) (row : List Int) (l : List Count) (i : Nat) (t : Truth) : agr men k row l i t = true ↔ (enough men k row (cntsOf l i) false t = true ∧ enough men k row (cntsOf l i) true t = false) := by
  have e : agr men k row l i t = (cntsOf l i).all (cntIn (lvl men k row t)) := by
    unfold agr cntsOf
    rw [List.all_filter]
  rw [e]
  unfold enough
  simp only [cond_false, cond_true, Bool.not_eq_true', List.any_eq_false, List.all_eq_true]
  unfold cntIn cntUnder cntOver
  constructor
  · intro h
    exact ⟨fun c hc => by have := inB_iff.1 (h c hc); rw [decide_eq_true_eq]; omega, fun c hc => by have := inB_iff.1 (h c hc); rw [decide_eq_true_eq]; omega⟩
  · rintro ⟨h1, h2⟩ c hc
    have a := h1 c hc
    have b := h2 c hc
    rw [decide_eq_true_eq] at a b
    exact inB_iff.2 (by omega)

/-- A truth agrees just if its First is from the least to the greatest one of its use. -/
theorem agr_iff (men : List Int) (k : Kind) (row : List Int) (l : List Count) (i : Nat) (m p : Int) {a : Nat} (ha : a < spanN k.first) :
    agr men k row l i ⟨k.first.lo + a, m, p⟩ = true ↔ (lowF men k row (cntsOf l i) m p ≤ k.first.lo + a ∧ k.first.lo + a ≤ highF men k row (cntsOf l i) m p) := by
  rw [agr_iff']
  have b0 := bs_least (fun i' => enough men k row (cntsOf l i) false ⟨k.first.lo + (i' : Int), m, p⟩) 0 (spanN k.first) (Nat.zero_le _) (fun a b _ h _ he => enough_up (by omega) he)
  have b1 := bs_least (fun i' => enough men k row (cntsOf l i) true ⟨k.first.lo + (i' : Int), m, p⟩) 0 (spanN k.first) (Nat.zero_le _) (fun a b _ h _ he => enough_up (by omega) he)
  have c0 : lowF men k row (cntsOf l i) m p = k.first.lo + bs (fun i' => enough men k row (cntsOf l i) false ⟨k.first.lo + (i' : Int), m, p⟩) 0 (spanN k.first) := rfl
  have c1 : highF men k row (cntsOf l i) m p = k.first.lo + bs (fun i' => enough men k row (cntsOf l i) true ⟨k.first.lo + (i' : Int), m, p⟩) 0 (spanN k.first) - 1 := rfl
  generalize hr0 : bs (fun i' => enough men k row (cntsOf l i) false ⟨k.first.lo + (i' : Int), m, p⟩) 0 (spanN k.first) = r0 at *
  generalize hr1 : bs (fun i' => enough men k row (cntsOf l i) true ⟨k.first.lo + (i' : Int), m, p⟩) 0 (spanN k.first) = r1 at *
  have h0 : enough men k row (cntsOf l i) false ⟨k.first.lo + a, m, p⟩ = true ↔ r0 ≤ a := by
    constructor
    · intro h
      apply Nat.le_of_not_lt
      intro hlt
      have := b0.1 a (Nat.zero_le _) hlt
      rw [h] at this; cases this
    · intro h
      exact enough_up (by omega) (b0.2 (by omega))
  have h1 : enough men k row (cntsOf l i) true ⟨k.first.lo + a, m, p⟩ = false ↔ a < r1 := by
    constructor
    · intro h
      apply Nat.lt_of_not_le
      intro hle
      have := enough_up (n := k.first.lo + r1) (n' := k.first.lo + a) (by omega) (b1.2 (by omega))
      rw [h] at this; cases this
    · intro h
      exact b1.1 a (Nat.zero_le _) h
  rw [h0, h1, c0, c1]
  omega

/-! ### What is in both lists -/

theorem mem_all {men : List Int} {k : Kind} {row : List Int} {l : List Count} {i : Nat} {t : Truth} (h : t ∈ allOf men k row l i) :
    ∃ a m p : Nat, a < spanN k.first ∧ m < spanN k.man ∧ p < spanN k.ship ∧ t = ⟨k.first.lo + a, k.man.lo + m, k.ship.lo + p⟩ ∧ lowF men k row (cntsOf l i) (k.man.lo + m) (k.ship.lo + p) ≤ t.first ∧ t.first ≤ highF men k row (cntsOf l i) (k.man.lo + m) (k.ship.lo + p) := by
  unfold allOf pastN at h
  rw [List.mem_filter, List.mem_map] at h
  obtain ⟨⟨q, hq, rfl⟩, ha⟩ := h
  rw [List.mem_range] at hq
  have hP : 0 < spanN k.ship := Nat.pos_of_ne_zero fun e => by rw [e] at hq; simp at hq
  have hM : 0 < spanN k.man := Nat.pos_of_ne_zero fun e => by rw [e] at hq; simp at hq
  have h1 : q / spanN k.ship < spanN k.first * spanN k.man := Nat.div_lt_of_lt_mul (by rw [Nat.mul_comm]; exact hq)
  have h2 : q / spanN k.ship / spanN k.man < spanN k.first := Nat.div_lt_of_lt_mul (by rw [Nat.mul_comm]; exact h1)
  refine ⟨q / spanN k.ship / spanN k.man, q / spanN k.ship % spanN k.man, q % spanN k.ship, h2, Nat.mod_lt _ hM, Nat.mod_lt _ hP, rfl, ?_⟩
  exact (agr_iff men k row l i _ _ h2).1 ha

theorem all_mem {men : List Int} {k : Kind} {row : List Int} {l : List Count} {i a m p : Nat} (ha : a < spanN k.first) (hm : m < spanN k.man) (hp : p < spanN k.ship)
    (h1 : lowF men k row (cntsOf l i) (k.man.lo + m) (k.ship.lo + p) ≤ k.first.lo + a) (h2 : k.first.lo + a ≤ highF men k row (cntsOf l i) (k.man.lo + m) (k.ship.lo + p)) : (⟨k.first.lo + a, k.man.lo + m, k.ship.lo + p⟩ : Truth) ∈ allOf men k row l i := by
  unfold allOf pastN
  rw [List.mem_filter, List.mem_map]
  refine ⟨⟨(a * spanN k.man + m) * spanN k.ship + p, ?_, truthQ_at k hm hp⟩, (agr_iff men k row l i _ _ ha).2 ⟨h1, h2⟩⟩
  rw [List.mem_range]
  have q1 : (a + 1) * spanN k.man ≤ spanN k.first * spanN k.man := Nat.mul_le_mul_right _ ha
  rw [Nat.add_mul, Nat.one_mul] at q1
  have q2 : (a * spanN k.man + m + 1) * spanN k.ship ≤ spanN k.first * spanN k.man * spanN k.ship := Nat.mul_le_mul_right _ (by omega)
  rw [Nat.add_mul, Nat.one_mul] at q2
  omega

theorem mem_pairs {men : List Int} {k : Kind} {row : List Int} {f : List Count} {y : Truth × Truth} (h : y ∈ truthsL men k row f) :
    ∃ m p : Nat, m < spanN k.man ∧ p < spanN k.ship ∧ lowF men k row f (k.man.lo + m) (k.ship.lo + p) ≤ highF men k row f (k.man.lo + m) (k.ship.lo + p) ∧
      y = (⟨lowF men k row f (k.man.lo + m) (k.ship.lo + p), k.man.lo + m, k.ship.lo + p⟩, ⟨highF men k row f (k.man.lo + m) (k.ship.lo + p), k.man.lo + m, k.ship.lo + p⟩) := by
  unfold truthsL pairs at h
  rw [List.mem_filterMap] at h
  obtain ⟨q, hq, h⟩ := h
  rw [List.mem_range] at hq
  have hP : 0 < spanN k.ship := Nat.pos_of_ne_zero fun e => by rw [e] at hq; simp at hq
  unfold useAt pairAt at h
  split at h
  · rename_i hle
    cases h
    exact ⟨q / spanN k.ship, q % spanN k.ship, Nat.div_lt_of_lt_mul (by rw [Nat.mul_comm]; exact hq), Nat.mod_lt _ hP, hle, rfl⟩
  · cases h

theorem pairs_mem {men : List Int} {k : Kind} {row : List Int} {f : List Count} {m p : Nat} (hm : m < spanN k.man) (hp : p < spanN k.ship) (hle : lowF men k row f (k.man.lo + m) (k.ship.lo + p) ≤ highF men k row f (k.man.lo + m) (k.ship.lo + p)) :
    ((⟨lowF men k row f (k.man.lo + m) (k.ship.lo + p), k.man.lo + m, k.ship.lo + p⟩, ⟨highF men k row f (k.man.lo + m) (k.ship.lo + p), k.man.lo + m, k.ship.lo + p⟩) : Truth × Truth) ∈ truthsL men k row f := by
  unfold truthsL pairs
  rw [List.mem_filterMap]
  refine ⟨m * spanN k.ship + p, ?_, ?_⟩
  · rw [List.mem_range]
    have : (m + 1) * spanN k.ship ≤ spanN k.man * spanN k.ship := Nat.mul_le_mul_right _ hm
    rw [Nat.add_mul, Nat.one_mul] at this
    omega
  · rw [use_at men k row f hp]
    unfold pairAt
    rw [if_pos hle]

/-- First as a number of the span. -/
theorem low_nat (men : List Int) (k : Kind) (row : List Int) (f : List Count) (m p : Int) (hle : lowF men k row f m p ≤ highF men k row f m p) : ∃ a b : Nat, a < spanN k.first ∧ b < spanN k.first ∧ lowF men k row f m p = k.first.lo + a ∧ highF men k row f m p = k.first.lo + b := by
  have b0 := (bs_in (fun i' => enough men k row f false ⟨k.first.lo + (i' : Int), m, p⟩) 0 (spanN k.first) (Nat.zero_le _)).2
  have b1 := (bs_in (fun i' => enough men k row f true ⟨k.first.lo + (i' : Int), m, p⟩) 0 (spanN k.first) (Nat.zero_le _)).2
  have c0 : lowF men k row f m p = k.first.lo + bs (fun i' => enough men k row f false ⟨k.first.lo + (i' : Int), m, p⟩) 0 (spanN k.first) := rfl
  have c1 : highF men k row f m p = k.first.lo + bs (fun i' => enough men k row f true ⟨k.first.lo + (i' : Int), m, p⟩) 0 (spanN k.first) - 1 := rfl
  generalize bs (fun i' => enough men k row f false ⟨k.first.lo + (i' : Int), m, p⟩) 0 (spanN k.first) = r0 at *
  generalize bs (fun i' => enough men k row f true ⟨k.first.lo + (i' : Int), m, p⟩) 0 (spanN k.first) = r1 at *
  exact ⟨r0, r1 - 1, by omega, by omega, by omega, by omega⟩

/-- Each truth that agrees has a pair around it; both of each pair agree. -/
theorem all_pair {men : List Int} {k : Kind} {row : List Int} {l : List Count} {i : Nat} {t : Truth} (h : t ∈ allOf men k row l i) : ∃ y ∈ truthsL men k row (cntsOf l i), (y.1.first ≤ t.first ∧ t.first ≤ y.2.first) ∧ (y.1.man = t.man ∧ y.1.ship = t.ship) ∧ y.2.man = t.man ∧ y.2.ship = t.ship := by
  obtain ⟨a, m, p, _, hm, hp, rfl, h1, h2⟩ := mem_all h
  exact ⟨_, pairs_mem hm hp (by omega), ⟨h1, h2⟩, ⟨rfl, rfl⟩, rfl, rfl⟩

theorem pair_all {men : List Int} {k : Kind} {row : List Int} {l : List Count} {i : Nat} {y : Truth × Truth} (h : y ∈ truthsL men k row (cntsOf l i)) : y.1 ∈ allOf men k row l i ∧ y.2 ∈ allOf men k row l i := by
  obtain ⟨m, p, hm, hp, hle, rfl⟩ := mem_pairs h
  obtain ⟨a, b, ha, hb, ea, eb⟩ := low_nat _ _ _ _ _ _ hle
  dsimp only
  constructor
  · have := all_mem (men := men) (row := row) (l := l) (i := i) ha hm hp (by omega) (by omega)
    rw [← ea] at this
    exact this
  · have := all_mem (men := men) (row := row) (l := l) (i := i) hb hm hp (by omega) (by omega)
    rw [← eb] at this
    exact this
end Go.Proofs.Ytmkaeohmdcoanaa
open Go Go.RM
namespace Go.Proofs.Ytmkaeohmdcoanaa

theorem fold_span {α : Type} (f g : α → Int) : ∀ (L : List α) (x : Span), ((L.foldl (fun x y => (⟨min x.lo (f y), max x.hi (g y)⟩ : Span)) x).lo ≤ x.lo ∧ ∀ y ∈ L, (L.foldl (fun x y => (⟨min x.lo (f y), max x.hi (g y)⟩ : Span)) x).lo ≤ f y) ∧
    ((L.foldl (fun x y => (⟨min x.lo (f y), max x.hi (g y)⟩ : Span)) x).lo = x.lo ∨ ∃ y ∈ L, (L.foldl (fun x y => (⟨min x.lo (f y), max x.hi (g y)⟩ : Span)) x).lo = f y) ∧
    (x.hi ≤ (L.foldl (fun x y => (⟨min x.lo (f y), max x.hi (g y)⟩ : Span)) x).hi ∧ ∀ y ∈ L, g y ≤ (L.foldl (fun x y => (⟨min x.lo (f y), max x.hi (g y)⟩ : Span)) x).hi) ∧
    ((L.foldl (fun x y => (⟨min x.lo (f y), max x.hi (g y)⟩ : Span)) x).hi = x.hi ∨ ∃ y ∈ L, (L.foldl (fun x y => (⟨min x.lo (f y), max x.hi (g y)⟩ : Span)) x).hi = g y)
  | [], x => ⟨⟨Int.le_refl _, fun y h => by cases h⟩, .inl rfl, ⟨Int.le_refl _, fun y h => by cases h⟩, .inl rfl⟩
  | a :: L, x => by
    have ih := fold_span f g L ⟨min x.lo (f a), max x.hi (g a)⟩
    rw [List.foldl_cons]
    generalize L.foldl (fun x y => (⟨min x.lo (f y), max x.hi (g y)⟩ : Span)) ⟨min x.lo (f a), max x.hi (g a)⟩ = r at *
    obtain ⟨⟨h1, h2⟩, h3, ⟨h4, h5⟩, h6⟩ := ih
    dsimp only at h1 h3 h4 h6
    have m1 : r.lo ≤ x.lo ∧ r.lo ≤ f a := by clear h2 h3 h5 h6; omega
    have m2 : x.hi ≤ r.hi ∧ g a ≤ r.hi := by clear h2 h3 h5 h6; omega
    refine ⟨⟨m1.1, fun y hy => ?_⟩, ?_, ⟨m2.1, fun y hy => ?_⟩, ?_⟩
    · rcases List.mem_cons.1 hy with rfl | hy
      · exact m1.2
      · exact h2 y hy
    · rcases h3 with h3 | ⟨y, hy, h3⟩
      · clear h6
        by_cases hm : x.lo ≤ f a
        · exact .inl (by omega)
        · exact .inr ⟨a, by simp, by omega⟩
      · exact .inr ⟨y, List.mem_cons_of_mem _ hy, h3⟩
    · rcases List.mem_cons.1 hy with rfl | hy
      · exact m2.2
      · exact h5 y hy
    · rcases h6 with h6 | ⟨y, hy, h6⟩
      · clear h3
        by_cases hm : g a ≤ x.hi
        · exact .inl (by omega)
        · exact .inr ⟨a, by simp, by omega⟩
      · exact .inr ⟨y, List.mem_cons_of_mem _ hy, h6⟩

theorem level_up {men : List Int} {k : Kind} {row : List Int} {d : Nat} {t u : Truth} (h : t.first ≤ u.first) (h1 : t.man = u.man) (h2 : t.ship = u.ship) : levelAt men k row d t ≤ levelAt men k row d u := by
  obtain ⟨a, b, c⟩ := t
  obtain ⟨a', b', c'⟩ := u
  dsimp only at h h1 h2
  subst h1 h2
  exact lvl_up h d

theorem shortF_up {men : List Int} {k : Kind} {row : List Int} {t u : Truth} (h : t.first ≤ u.first) (h1 : t.man = u.man) (h2 : t.ship = u.ship) : shortF men k row t ≤ shortF men k row u := by
  obtain ⟨a, b, c⟩ := t
  obtain ⟨a', b', c'⟩ := u
  dsimp only at h h1 h2
  subst h1 h2
  exact short_up h _ _

theorem nil_iff {men : List Int} {k : Kind} {row : List Int} {l : List Count} {i : Nat} : truthsL men k row (cntsOf l i) = [] ↔ allOf men k row l i = [] := by
  constructor
  · intro h
    apply List.eq_nil_iff_forall_not_mem.2
    intro t ht
    obtain ⟨y, hy, _⟩ := all_pair ht
    rw [h] at hy; cases hy
  · intro h
    apply List.eq_nil_iff_forall_not_mem.2
    intro y hy
    have := (pair_all hy).1
    rw [h] at this; cases this

theorem level_eq {s : Stores} {k : Kind} {row : List Int} {l : List Count} {i : Nat} (h : HoldOk s k row (cntsOf l i)) {d : Nat} (hd : d ≤ s.men.length) :
    levelV (lvRange (levelAt s.men k row d) (truthsL s.men k row (cntsOf l i))) = .tp [.ag (eSpan (lvRef (levelAt s.men k row d) (allOf s.men k row l i))), I64 (if allOf s.men k row l i = [] then 9 else 0)] := by
  have hb : ∀ y ∈ truthsL s.men k row (cntsOf l i), (0 ≤ levelAt s.men k row d y.1 ∧ levelAt s.men k row d y.1 ≤ 300) ∧ (0 ≤ levelAt s.men k row d y.2 ∧ levelAt s.men k row d y.2 ≤ 300) := by
    intro y hy
    have := (truthsL_run h hy).1
    unfold levelAt
    rw [lvl_at hd, lvl_at hd]
    exact ⟨this.1.haveB _ d hd, this.2.haveB _ d hd⟩
  by_cases he : allOf s.men k row l i = []
  · rw [nil_iff.2 he, if_pos he, he]
    rfl
  · rw [if_neg he]
    have he' : truthsL s.men k row (cntsOf l i) ≠ [] := fun e => he (nil_iff.1 e)
    obtain ⟨y0, hy0⟩ := List.exists_mem_of_ne_nil _ he'
    obtain ⟨⟨_, a2⟩, a3, ⟨_, a5⟩, a6⟩ := fold_span (fun y : Truth × Truth => levelAt s.men k row d y.1) (fun y => levelAt s.men k row d y.2) (truthsL s.men k row (cntsOf l i)) ⟨601, -1⟩
    have b0 := hb y0 hy0
    have c1 := a2 y0 hy0
    have c2 := a5 y0 hy0
    have hr : lvRange (levelAt s.men k row d) (truthsL s.men k row (cntsOf l i)) = lvRef (levelAt s.men k row d) (allOf s.men k row l i) := by
      have hL : ∃ t0 L1, allOf s.men k row l i = t0 :: L1 := by
        cases hh : allOf s.men k row l i with
        | nil => exact absurd hh he
        | cons a b => exact ⟨a, b, rfl⟩
      obtain ⟨t0, L1, hL⟩ := hL
      have ht0 : t0 ∈ allOf s.men k row l i := by rw [hL]; simp
      have hR : lvRef (levelAt s.men k row d) (allOf s.men k row l i) = (allOf s.men k row l i).foldl (fun x t => (⟨min x.lo (levelAt s.men k row d t), max x.hi (levelAt s.men k row d t)⟩ : Span)) ⟨levelAt s.men k row d t0, levelAt s.men k row d t0⟩ := by rw [hL]; rfl
      obtain ⟨⟨_, r2⟩, r3, ⟨_, r5⟩, r6⟩ := fold_span (fun t : Truth => levelAt s.men k row d t) (fun t => levelAt s.men k row d t) (allOf s.men k row l i) ⟨levelAt s.men k row d t0, levelAt s.men k row d t0⟩
      rw [← hR] at r2 r3 r5 r6
      have hx : lvRange (levelAt s.men k row d) (truthsL s.men k row (cntsOf l i)) = (truthsL s.men k row (cntsOf l i)).foldl (fun x y => (⟨min x.lo (levelAt s.men k row d y.1), max x.hi (levelAt s.men k row d y.2)⟩ : Span)) ⟨601, -1⟩ := rfl
      rw [← hx] at a2 a3 a5 a6
      dsimp only at a2 a3 a5 a6
      generalize lvRange (levelAt s.men k row d) (truthsL s.men k row (cntsOf l i)) = x at *
      generalize lvRef (levelAt s.men k row d) (allOf s.men k row l i) = z at *
      have e1 : x.lo = z.lo := by
        apply Int.le_antisymm
        · rcases r3 with r3 | ⟨t, ht, r3⟩
          · obtain ⟨y, hy, q1, q2, q3⟩ := all_pair ht0
            have := level_up (men := s.men) (k := k) (row := row) (d := d) q1.1 q2.1 q2.2
            have := a2 y hy
            (try dsimp only at r3)
            omega
          · obtain ⟨y, hy, q1, q2, q3⟩ := all_pair ht
            have := level_up (men := s.men) (k := k) (row := row) (d := d) q1.1 q2.1 q2.2
            have := a2 y hy
            (try dsimp only at r3)
            omega
        · rcases a3 with a3 | ⟨y, hy, a3⟩
          · have := a2 y0 hy0
            omega
          · have := r2 _ (pair_all hy).1
            omega
      have e2 : x.hi = z.hi := by
        apply Int.le_antisymm
        · rcases a6 with a6 | ⟨y, hy, a6⟩
          · have := a5 y0 hy0
            omega
          · have := r5 _ (pair_all hy).2
            omega
        · rcases r6 with r6 | ⟨t, ht, r6⟩
          · obtain ⟨y, hy, q1, q2, q3⟩ := all_pair ht0
            have := level_up (men := s.men) (k := k) (row := row) (d := d) q1.2 q3.1.symm q3.2.symm
            have := a5 y hy
            (try dsimp only at r6)
            omega
          · obtain ⟨y, hy, q1, q2, q3⟩ := all_pair ht
            have := level_up (men := s.men) (k := k) (row := row) (d := d) q1.2 q3.1.symm q3.2.symm
            have := a5 y hy
            (try dsimp only at r6)
            omega
      obtain ⟨x1, x2⟩ := x
      obtain ⟨z1, z2⟩ := z
      dsimp only at e1 e2
      rw [e1, e2]
    rw [← hr]
    unfold levelV
    rw [if_neg]
    intro hlt
    change levelAt s.men k row d y0.2 ≤ (lvRange (levelAt s.men k row d) (truthsL s.men k row (cntsOf l i))).hi at c2
    omega

/-! ### The earliest -/

def Le (sh : Truth → Int) (t u : Truth) : Prop := sh t < sh u ∨ sh t = sh u ∧ (t.first < u.first ∨ t.first = u.first ∧ (t.man < u.man ∨ t.man = u.man ∧ t.ship ≤ u.ship))

theorem Le.antisymm {sh : Truth → Int} {t u : Truth} (h : Le sh t u) (k : Le sh u t) : t = u := by
  obtain ⟨a, b, c⟩ := t
  obtain ⟨a', b', c'⟩ := u
  unfold Le at h k
  dsimp only at h k
  have : a = a' := by omega
  have : b = b' := by omega
  have : c = c' := by omega
  subst_vars
  rfl

theorem div_order {q n P : Nat} (h : q < n) : q / P < n / P ∨ (q / P = n / P ∧ q % P < n % P) := by
  have h1 := Nat.div_le_div_right (c := P) (Nat.le_of_lt h)
  have h2 := Nat.div_add_mod q P
  have h3 := Nat.div_add_mod n P
  by_cases he : q / P = n / P
  · rw [he] at h2
    exact .inr ⟨he, by omega⟩
  · exact .inl (by omega)

theorem use_man {men : List Int} {k : Kind} {row : List Int} {f : List Count} {q : Nat} {y : Truth × Truth} (h : useAt men k row f q = some y) : y.1.man = k.man.lo + (q / spanN k.ship : Nat) ∧ y.1.ship = k.ship.lo + (q % spanN k.ship : Nat) := by
  unfold useAt pairAt at h
  split at h
  · cases h; exact ⟨rfl, rfl⟩
  · cases h

theorem earl_spec (men : List Int) (k : Kind) (row : List Int) (f : List Count) (sh : Truth → Int) (N : Nat) (hN : ∀ t, sh t ≤ N) : ∀ n,
    (pairs men k row f n = [] ∧ earl N sh (pairs men k row f n) = ⟨⟨0, 0, 0⟩, (N : Int) + 1, 9⟩) ∨
    ((earl N sh (pairs men k row f n)).e = 0 ∧ (∃ z ∈ pairs men k row f n, (earl N sh (pairs men k row f n)).t = z.1) ∧ (earl N sh (pairs men k row f n)).day = sh (earl N sh (pairs men k row f n)).t ∧ ∀ z ∈ pairs men k row f n, Le sh (earl N sh (pairs men k row f n)).t z.1)
  | 0 => .inl ⟨rfl, rfl⟩
  | n + 1 => by
    have ih := earl_spec men k row f sh N hN n
    rw [pairs_succ]
    cases hu : useAt men k row f n with
    | none => rw [show (none : Option (Truth × Truth)).toList = [] from rfl, List.append_nil]; exact ih
    | some y =>
      rw [show (some y).toList = [y] from rfl]
      have hst : earl N sh (pairs men k row f n ++ [y]) = earlStep sh (earl N sh (pairs men k row f n)) y := by unfold earl; rw [List.foldl_append]; rfl
      rw [hst]
      have hy := hN y.1
      have hym := use_man hu
      have hord : ∀ z ∈ pairs men k row f n, z.1.man < y.1.man ∨ z.1.man = y.1.man ∧ z.1.ship ≤ y.1.ship := by
        intro z hz
        unfold pairs at hz
        rw [List.mem_filterMap] at hz
        obtain ⟨q, hq, hz⟩ := hz
        rw [List.mem_range] at hq
        have hzm := use_man hz
        have := div_order (P := spanN k.ship) hq
        omega
      generalize pairs men k row f n = L at *
      generalize earl N sh L = x at *
      refine .inr ?_
      rcases ih with ⟨rfl, rfl⟩ | ⟨h1, ⟨z0, hz0, h2⟩, h3, h4⟩
      · unfold earlStep
        rw [if_pos (.inl (by dsimp only; omega))]
        refine ⟨rfl, ⟨y, by simp, rfl⟩, rfl, fun z hz => ?_⟩
        simp only [List.nil_append, List.mem_singleton] at hz
        subst hz
        exact .inr ⟨rfl, .inr ⟨rfl, .inr ⟨rfl, Int.le_refl _⟩⟩⟩
      · unfold earlStep
        by_cases hc : sh y.1 < x.day ∨ sh y.1 = x.day ∧ y.1.first < x.t.first
        · rw [if_pos hc]
          refine ⟨rfl, ⟨y, by simp, rfl⟩, rfl, fun z hz => ?_⟩
          rcases List.mem_append.1 hz with hz | hz
          · have := h4 z hz
            unfold Le at this ⊢
            dsimp only
            omega
          · simp only [List.mem_singleton] at hz
            subst hz
            exact .inr ⟨rfl, .inr ⟨rfl, .inr ⟨rfl, Int.le_refl _⟩⟩⟩
        · rw [if_neg hc]
          refine ⟨h1, ⟨z0, List.mem_append_left _ hz0, h2⟩, h3, fun z hz => ?_⟩
          rcases List.mem_append.1 hz with hz | hz
          · exact h4 z hz
          · simp only [List.mem_singleton] at hz
            subst hz
            have := hord z0 hz0
            rw [← h2] at this
            unfold Le
            omega

theorem past_ord {k : Kind} {q n : Nat} (h : q < n) : (truthQ k q).first < (truthQ k n).first ∨ (truthQ k q).first = (truthQ k n).first ∧ ((truthQ k q).man < (truthQ k n).man ∨ (truthQ k q).man = (truthQ k n).man ∧ (truthQ k q).ship ≤ (truthQ k n).ship) := by
  unfold truthQ
  dsimp only
  rcases div_order (P := spanN k.ship) h with h1 | ⟨h1, h2⟩
  · rcases div_order (P := spanN k.man) h1 with h3 | ⟨h3, h4⟩ <;> omega
  · rw [h1]; omega

theorem earlR_spec (men : List Int) (k : Kind) (row : List Int) (l : List Count) (i : Nat) (sh : Truth → Int) (N : Nat) : ∀ n,
    ((earlR N sh (pastN men k row l i n)).2 ≤ N ∧ ∀ u ∈ pastN men k row l i n, (earlR N sh (pastN men k row l i n)).2 ≤ sh u) ∧
    ((earlR N sh (pastN men k row l i n)).2 = N ∨ ((earlR N sh (pastN men k row l i n)).1 ∈ pastN men k row l i n ∧ (earlR N sh (pastN men k row l i n)).2 = sh (earlR N sh (pastN men k row l i n)).1 ∧ ∀ u ∈ pastN men k row l i n, Le sh (earlR N sh (pastN men k row l i n)).1 u))
  | 0 => ⟨⟨Int.le_refl _, fun u h => by cases h⟩, .inl rfl⟩
  | n + 1 => by
    have ih := earlR_spec men k row l i sh N n
    rw [pastN_succ]
    split
    · have hst : earlR N sh (pastN men k row l i n ++ [truthQ k n]) = (if sh (truthQ k n) < (earlR N sh (pastN men k row l i n)).2 then (truthQ k n, sh (truthQ k n)) else earlR N sh (pastN men k row l i n)) := by unfold earlR; rw [List.foldl_append]; rfl
      rw [hst]
      have hord : ∀ u ∈ pastN men k row l i n, u.first < (truthQ k n).first ∨ u.first = (truthQ k n).first ∧ (u.man < (truthQ k n).man ∨ u.man = (truthQ k n).man ∧ u.ship ≤ (truthQ k n).ship) := by
        intro u hu
        unfold pastN at hu
        rw [List.mem_filter, List.mem_map] at hu
        obtain ⟨⟨q, hq, rfl⟩, _⟩ := hu
        rw [List.mem_range] at hq
        exact past_ord hq
      generalize pastN men k row l i n = L at *
      generalize truthQ k n = t at *
      generalize earlR N sh L = x at *
      obtain ⟨⟨h1, h2⟩, h3⟩ := ih
      by_cases hc : sh t < x.2
      · rw [if_pos hc]
        refine ⟨⟨by dsimp only; omega, fun u hu => ?_⟩, .inr ⟨by simp, rfl, fun u hu => ?_⟩⟩
        · rcases List.mem_append.1 hu with hu | hu
          · have := h2 u hu; dsimp only; omega
          · simp only [List.mem_singleton] at hu; subst hu; exact Int.le_refl _
        · rcases List.mem_append.1 hu with hu | hu
          · have := h2 u hu
            exact .inl (by dsimp only; omega)
          · simp only [List.mem_singleton] at hu; subst hu
            exact .inr ⟨rfl, .inr ⟨rfl, .inr ⟨rfl, Int.le_refl _⟩⟩⟩
      · rw [if_neg hc]
        refine ⟨⟨h1, fun u hu => ?_⟩, ?_⟩
        · rcases List.mem_append.1 hu with hu | hu
          · exact h2 u hu
          · simp only [List.mem_singleton] at hu; subst hu; omega
        · rcases h3 with h3 | ⟨h3, h4, h5⟩
          · exact .inl h3
          · refine .inr ⟨List.mem_append_left _ h3, h4, fun u hu => ?_⟩
            rcases List.mem_append.1 hu with hu | hu
            · exact h5 u hu
            · simp only [List.mem_singleton] at hu; subst hu
              have := hord _ h3
              unfold Le
              omega
    · exact ih

theorem earl_eq {s : Stores} {k : Kind} {row : List Int} {l : List Count} {i : Nat} :
    (allOf s.men k row l i = [] ∧ (earl s.men.length (shortF s.men k row) (truthsL s.men k row (cntsOf l i))).e = 9) ∨
    (allOf s.men k row l i ≠ [] ∧ (earl s.men.length (shortF s.men k row) (truthsL s.men k row (cntsOf l i))).e = 0 ∧ (earl s.men.length (shortF s.men k row) (truthsL s.men k row (cntsOf l i))).day = (earlR s.men.length (shortF s.men k row) (allOf s.men k row l i)).2 ∧
      ((earlR s.men.length (shortF s.men k row) (allOf s.men k row l i)).2 = s.men.length ∨ (earl s.men.length (shortF s.men k row) (truthsL s.men k row (cntsOf l i))).t = (earlR s.men.length (shortF s.men k row) (allOf s.men k row l i)).1)) := by
  have hN : ∀ t, shortF s.men k row t ≤ s.men.length := fun t => by
    have := shortAt_or s.men k row t s.men.length s.men.length
    unfold shortF
    omega
  have h1 := earl_spec s.men k row (cntsOf l i) (shortF s.men k row) s.men.length hN (spanN k.man * spanN k.ship)
  have h2 := earlR_spec s.men k row l i (shortF s.men k row) s.men.length (spanN k.first * spanN k.man * spanN k.ship)
  change (truthsL s.men k row (cntsOf l i) = [] ∧ _) ∨ (_ ∧ (∃ z ∈ truthsL s.men k row (cntsOf l i), _) ∧ _ ∧ ∀ z ∈ truthsL s.men k row (cntsOf l i), _) at h1
  rw [show pairs s.men k row (cntsOf l i) (spanN k.man * spanN k.ship) = truthsL s.men k row (cntsOf l i) from rfl] at h1
  rw [show pastN s.men k row l i (spanN k.first * spanN k.man * spanN k.ship) = allOf s.men k row l i from rfl] at h2
  have hp := fun t (ht : t ∈ allOf s.men k row l i) => all_pair ht
  have hq := fun y (hy : y ∈ truthsL s.men k row (cntsOf l i)) => pair_all hy
  have hnil := nil_iff (men := s.men) (k := k) (row := row) (l := l) (i := i)
  have hup := fun (t u : Truth) => shortF_up (men := s.men) (k := k) (row := row) (t := t) (u := u)
  generalize truthsL s.men k row (cntsOf l i) = A at *
  generalize allOf s.men k row l i = B at *
  generalize shortF s.men k row = sh at *
  generalize earl s.men.length sh A = x at *
  generalize earlR s.men.length sh B = z at *
  rcases h1 with ⟨rfl, rfl⟩ | ⟨e1, ⟨y0, hy0, e2⟩, e3, e4⟩
  · exact .inl ⟨hnil.1 rfl, rfl⟩
  · refine .inr ⟨fun e => ?_, e1, ?_⟩
    · rw [hnil.2 e] at hy0; cases hy0
    · have hxB : x.t ∈ B := by rw [e2]; exact (hq y0 hy0).1
      obtain ⟨⟨f1, f2⟩, f3⟩ := h2
      have g1 := f2 _ hxB
      have hlow : ∀ u ∈ B, Le sh x.t u := by
        intro u hu
        obtain ⟨y, hy, q1, q2, q3⟩ := hp u hu
        have := hup y.1 u q1.1 q2.1 q2.2
        have h4 := e4 y hy
        unfold Le at h4 ⊢
        omega
      rcases f3 with f3 | ⟨f3, f4, f5⟩
      · refine ⟨?_, .inl f3⟩
        have := hN x.t
        omega
      · have heq : x.t = z.1 := Le.antisymm (hlow _ f3) (f5 _ hxB)
        exact ⟨by rw [e3, f4, heq], .inr heq⟩
end Go.Proofs.Ytmkaeohmdcoanaa
open Go Go.RM
namespace Go.Proofs.Ytmkaeohmdcoanaa
set_option maxRecDepth 100000
set_option maxHeartbeats 4000000

theorem pr_bind {P : Program} {α β : Type} (m : Sem α) (f : α → Sem β) : pureRun P (m >>= f) = (pureRun P m).bind fun a => pureRun P (f a) := by
  show pureRun P (Sem.bind m f) = _
  induction m with
  | pure a => rfl
  | program k ih => exact ih P
  | mark _ k ih => exact ih
  | _ => rfl

theorem pr_pure {P : Program} {α : Type} (a : α) : pureRun P (pure a : Sem α) = some a := rfl

theorem pr_struct {P : Program} (d : Nat) (t : TypeId) (xs ys : Array Value) (ht : P.underlying t = some (.struct (P.fieldsOf t))) (hp : P.stoodInHeld t = false) :
    pureRun P (Op.equalIn (d + 1) t (.agg xs) (.agg ys)) = pureRun P (Op.eqFields d xs ys (P.fieldsOf t).toList) := by
  have hu : pureRun P (underlying t) = some (.struct (P.fieldsOf t)) := by
    unfold underlying
    simp only [pr_bind]
    show pureRun P _ = _
    simp [ht]
    rfl
  have hg : pureRun P program = some P := rfl
  simp only [Op.equalIn, pr_bind, hu, hg, hp, Option.bind_some, Bool.false_eq_true, if_false]
  rw [← Array.forIn_toList]
  generalize (P.fieldsOf t).toList = fs
  clear ht hu
  induction fs with
  | nil => rfl
  | cons f fs ih =>
    simp only [List.forIn_cons, Op.eqFields, pr_bind]
    split
    · simp only [pr_bind]
      cases pureRun P (part f.type xs f.offset) with
      | none => rfl
      | some a =>
        simp only [Option.bind_some]
        cases pureRun P (part f.type ys f.offset) with
        | none => rfl
        | some b =>
          simp only [Option.bind_some]
          cases pureRun P (Op.equalIn d f.type a b) with
          | none => rfl
          | some r =>
            cases r
            · rfl
            · exact ih
    · exact ih

def vI (n : Int) : Value := .int .i64 n
theorem eq_int {d : Nat} (a : Int) : pureRun TT.P (Op.equalIn (d + 1) 3 (vI a) (vI a)) = some true := by
  show some (a == a) = _
  rw [beq_self_eq_true]

theorem eqFields_all {d : Nat} {P : Program} {xs ys : Array Value} : ∀ {L : List Field}, (∀ f ∈ L, ∃ a b, pureRun P (part f.type xs f.offset) = some a ∧ pureRun P (part f.type ys f.offset) = some b ∧ pureRun P (Op.equalIn d f.type a b) = some true) → pureRun P (Op.eqFields d xs ys L) = some true
  | [], _ => rfl
  | f :: L, h => by
    obtain ⟨a, b, h1, h2, h3⟩ := h f (by simp)
    have ih := eqFields_all (L := L) fun g hg => h g (by simp [hg])
    unfold Op.eqFields
    split
    · simp only [pr_bind, h1, h2, h3, Option.bind_some]
      exact ih
    · exact ih

theorem fields40 : ((TT.P.fieldsOf 40).toList.all fun f => f.type == 3 && Nat.blt f.offset 2) = true := by kernel_rfl
theorem fields28 : ((TT.P.fieldsOf 28).toList.all fun f => f.type == 3 && Nat.blt f.offset 3) = true := by kernel_rfl

theorem eq_span (a b : Int) : pureRun TT.P (Op.equalIn 10000 40 (.agg #[vI a, vI b]) (.agg #[vI a, vI b])) = some true := by
  rw [pr_struct 9999 40 _ _ (by kernel_rfl) (by kernel_rfl)]
  apply eqFields_all
  intro f hf
  have hh := List.all_eq_true.1 fields40 f hf
  rw [Bool.and_eq_true, beq_iff_eq, Nat.blt_eq] at hh
  rw [hh.1]
  match f.offset, hh.2 with
  | 0, _ => exact ⟨vI a, vI a, rfl, rfl, eq_int a⟩
  | 1, _ => exact ⟨vI b, vI b, rfl, rfl, eq_int b⟩
theorem eq_truth (a b c : Int) : pureRun TT.P (Op.equalIn 10000 28 (.agg #[vI a, vI b, vI c]) (.agg #[vI a, vI b, vI c])) = some true := by
  rw [pr_struct 9999 28 _ _ (by kernel_rfl) (by kernel_rfl)]
  apply eqFields_all
  intro f hf
  have hh := List.all_eq_true.1 fields28 f hf
  rw [Bool.and_eq_true, beq_iff_eq, Nat.blt_eq] at hh
  rw [hh.1]
  match f.offset, hh.2 with
  | 0, _ => exact ⟨vI a, vI a, rfl, rfl, eq_int a⟩
  | 1, _ => exact ⟨vI b, vI b, rfl, rfl, eq_int b⟩
  | 2, _ => exact ⟨vI c, vI c, rfl, rfl, eq_int c⟩

theorem bin_span {x y : Operand} (a b : Int) : binA TT.P .neq 40 x y (.agg #[vI a, vI b]) (.agg #[vI a, vI b]) = some (.bool false, .none) := by
  show slowBin TT.P .neq 40 x y (.agg #[vI a, vI b]) (.agg #[vI a, vI b]) = _
  unfold slowBin
  rw [show (flat (.agg #[vI a, vI b]) && flat (.agg #[vI a, vI b])) = true from rfl, cond_true, pr_bind]
  rw [show pureRun TT.P (eqGuard .neq 40 x y (.agg #[vI a, vI b]) (.agg #[vI a, vI b])) = some () by
    show pureRun TT.P (if (!(TT.P.eqGuardType TT.P.depth 40)) = true then _ else _) = _
    rw [show TT.P.eqGuardType TT.P.depth 40 = false by kernel_rfl]; rfl]
  show pureV (pureRun TT.P (Op.equal 40 _ _ >>= fun r => pure (Value.bool (!r)))) = _
  rw [pr_bind]
  show pureV ((pureRun TT.P (Op.equalIn 10000 40 _ _)).bind _) = _
  rw [eq_span]
  rfl
theorem bin_truth {x y : Operand} (a b c : Int) : binA TT.P .eql 28 x y (.agg #[vI a, vI b, vI c]) (.agg #[vI a, vI b, vI c]) = some (.bool true, .none) := by
  show slowBin TT.P .eql 28 x y (.agg #[vI a, vI b, vI c]) (.agg #[vI a, vI b, vI c]) = _
  unfold slowBin
  rw [show (flat (.agg #[vI a, vI b, vI c]) && flat (.agg #[vI a, vI b, vI c])) = true from rfl, cond_true, pr_bind]
  rw [show pureRun TT.P (eqGuard .eql 28 x y (.agg #[vI a, vI b, vI c]) (.agg #[vI a, vI b, vI c])) = some () by
    show pureRun TT.P (if (!(TT.P.eqGuardType TT.P.depth 28)) = true then _ else _) = _
    rw [show TT.P.eqGuardType TT.P.depth 28 = false by kernel_rfl]; rfl]
  show pureV (pureRun TT.P (Op.equal 28 _ _ >>= fun r => pure (Value.bool r))) = _
  rw [pr_bind]
  show pureV ((pureRun TT.P (Op.equalIn 10000 28 _ _)).bind _) = _
  rw [eq_truth]
  rfl
end Go.Proofs.Ytmkaeohmdcoanaa
open Go Go.RM
namespace Go.Proofs.Ytmkaeohmdcoanaa
set_option maxRecDepth 100000
set_option maxHeartbeats 4000000

theorem law4 (s : Stores) (l : List Count) (kd day : Int) (z : Span) (e1 n e2 : Int) (t : Truth) (m e3 : Int)
    (h1 : Pu true 23 [.ag (eStores s), .sl (l.map eCount) false, I64 kd, I64 day] (.tp [.ag (eSpan z), I64 e1]))
    (h2 : Pu true 24 [.ag (eStores s), .sl (l.map eCount) false, I64 kd, I64 day] (.tp [.ag (eSpan z), I64 e1]))
    (h3 : Pu true 25 [.ag (eStores s), .sl (l.map eCount) false, I64 kd] (.tp [I64 n, I64 e2]))
    (h4 : Pu true 26 [.ag (eStores s), .sl (l.map eCount) false, I64 kd] (.tp [I64 n, I64 e2]))
    (h5 : Pu true 27 [.ag (eStores s), .sl (l.map eCount) false, I64 kd] (.tp [.ag (eTruth t), I64 m, I64 e3]))
    (h6 : Pu true 28 [.ag (eStores s), .sl (l.map eCount) false, I64 kd] (.tp [.ag (eTruth t), I64 m, I64 e3])) :
    Pu true 4 [.ag (eStores s), .sl (l.map eCount) false, .ag [I64 kd, I64 day]] (BB true) := by
  have a1 : (!decide (e1 = e1)) = false := by simp
  have a2 : (!decide (n = n)) = false := by simp
  have a3 : (!decide (e2 = e2)) = false := by simp
  have a4 : decide (m = m) = true := by simp
  have a5 : decide (e3 = e3) = true := by simp
  have aw := aw_c true
  refine PureV.body (fn := Try.f4) rfl rfl rfl rfl ?_
  refine wpC_sound (mu := fun _ => false) ?_
  repeat' (first |with_reducible (first|refine RM.c1 ?_|refine RM.c2 ?_|refine RM.c4 ?_|refine RM.c7 ?_|refine RM.c9 ?_|refine RM.o1 ?_|refine RM.o2 ?_|refine RM.o4 ?_|refine RM.o5 ?_|refine RM.o6 ?_|refine RM.o7 ?_|refine RM.o9 ?_|refine RM.p1 ?_|refine RM.p2 ?_|refine RM.p3 ?_|refine RM.p4 ?_|refine RM.p5 ?_) |((with_reducible show force _ _);first|refine RM.f1 rfl ?_|refine RM.f2 rfl ?_|refine RM.f3 rfl ?_|refine RM.f4 rfl ?_|refine RM.f5 rfl ?_|refine RM.f6 rfl ?_|refine RM.f7 rfl ?_|refine RM.g2 rfl ?_) |((with_reducible show wpOne _ _ _ _ _ _ _ _ _ _ _ _);refine RM.o8 rfl ?_) |((with_reducible show wpGuard _ _ _ _ _);first|refine wpGuard_yes rfl rfl rfl ?_|refine wpGuard_yes rfl rfl (by assumption) ?_) |((with_reducible show wpC _ _ _ _ (.cond _ _ _) _ _);refine RM.e3 rfl (by assumption) ?_) |((with_reducible show wpPick _ _ _ _ _);refine RM.k1 rfl ?_) |((with_reducible show wpPickB _ _ _ _ _);first|refine RM.k2 rfl ?_|refine RM.k3 rfl ?_|refine RM.k2 (by assumption) ?_|refine RM.k3 (by assumption) ?_) |((with_reducible show wpBin _ _ _ _ _ _ _ _ _);first|refine RM.b4 rfl rfl ?_|refine RM.b5 rfl rfl ?_) |(refine ⟨_, rfl, ?_⟩) |(refine ⟨rfl, rfl, rfl, ?_⟩) |(refine And.intro (Nat.le_of_ble_eq_true rfl) ?_) |(refine And.intro (by omega) ?_) |(refine And.intro (by kernel_rfl) ?_) |(refine ⟨_, _, rfl, rfl, rfl, rfl, Nat.le_of_ble_eq_true rfl, ?_⟩) |(refine ⟨_, _, rfl, Nat.le_of_ble_eq_true rfl, ?_⟩) |(refine PureV.call h1 rfl rfl ?_) |(refine PureV.call h2 rfl rfl ?_) |(refine PureV.call h3 rfl rfl ?_) |(refine PureV.call h4 rfl rfl ?_) |(refine PureV.call h5 rfl rfl ?_) |(refine PureV.call h6 rfl rfl ?_) |(refine PureV.call aw rfl rfl ?_) |(refine ⟨_, _, rfl, rfl, _, bin_span _ _, rfl, ?_⟩) |(refine ⟨_, _, rfl, rfl, _, bin_truth _ _ _, rfl, ?_⟩) |fail)
  exact ⟨[_], ⟨Fz.deep rfl, trivial⟩, rfl⟩
end Go.Proofs.Ytmkaeohmdcoanaa
open Go Go.RM
namespace Go.Proofs.Ytmkaeohmdcoanaa
set_option maxRecDepth 100000
set_option maxHeartbeats 4000000

theorem levels_c (s : Stores) (hs : s.Ok) (l : List Count) (hl : l.length ≤ maxLen) (kd day : Int) :
    Pu true 4 [.ag (eStores s), .sl (l.map eCount) false, .ag [I64 kd, I64 day]] (BB true) := by
  by_cases he : askErr s l kd = 0
  · have h0 : cntsErr s l = 0 := by
      unfold askErr at he
      split at he
      · exact he
      · next h => exact Decidable.not_not.1 h
    have hk : inB kd 0 ((s.kinds.length : Int) - 1) = true := by
      unfold askErr at he
      rw [if_neg (by rw [h0]; exact fun h => h rfl)] at he
      cases hb : inB kd 0 ((s.kinds.length : Int) - 1) with
      | true => rfl
      | false => rw [hb, if_pos rfl] at he; cases he
    have hk := inB_iff.1 hk
    obtain ⟨i, rfl⟩ : ∃ i : Nat, kd = (i : Int) := ⟨kd.toNat, by omega⟩
    have hi : i < s.kinds.length := by omega
    have hold := holdOk h0 hi
    have h3 := lasts_ok true s hs l h0 i hi
    have h4 := rlasts_ok true s hs l h0 i hi
    have h5 := shortr_ok true s hs l h0 i hi
    have h6 := rshort_ok true s hs l h0 i hi
    -- the days
    have hE := earl_eq (s := s) (k := s.kinds[i]) (row := cargoRow i s.cargos) (l := l) (i := i)
    unfold earlOf at h3 h5
    -- the levels
    obtain ⟨z, e1, h1, h2⟩ : ∃ z e1, Pu true 23 [.ag (eStores s), .sl (l.map eCount) false, I64 i, I64 day] (.tp [.ag (eSpan z), I64 e1]) ∧ Pu true 24 [.ag (eStores s), .sl (l.map eCount) false, I64 i, I64 day] (.tp [.ag (eSpan z), I64 e1]) := by
      cases hd : inB day 0 s.men.length with
      | false => exact ⟨_, _, level_day true s hs l h0 i hi day hd, rlevel_err true s hs l hl i day 7 (by unfold rangedE; rw [if_pos he, if_pos hd]) (by decide)⟩
      | true =>
        have hd := inB_iff.1 hd
        obtain ⟨d, rfl⟩ : ∃ d : Nat, day = (d : Int) := ⟨day.toNat, by omega⟩
        have hdn : d ≤ s.men.length := by omega
        have q1 := level_ok true s hs l h0 i hi d hdn
        unfold levelOf at q1
        rw [level_eq hold hdn] at q1
        exact ⟨_, _, q1, rlevel_ok true s hs l h0 i hi d hdn⟩
    rcases hE with ⟨ha, hb⟩ | ⟨ha, hb, hc, hd⟩
    · change allS s l i s.kinds[i] = [] at ha
      rw [hb, if_neg (by decide)] at h3
      unfold shortV at h5
      unfold shortRV at h6
      rw [hb, if_neg (by decide)] at h5
      rw [if_pos ha] at h6
      rw [if_pos ha, if_pos ha] at h4
      exact law4 s l i day z e1 _ _ _ _ _ h1 h2 h3 h4 h5 h6
    · change allS s l i s.kinds[i] ≠ [] at ha
      rw [if_pos hb, hb, hc] at h3
      unfold shortV at h5
      unfold shortRV at h6
      rw [if_pos hb, hc] at h5
      rw [if_neg ha] at h6
      rw [if_neg ha, if_neg ha] at h4
      by_cases hn : (earlR s.men.length (shortF s.men s.kinds[i] (cargoRow i s.cargos)) (allS s l i s.kinds[i])).2 = s.men.length
      · rw [if_pos hn] at h5 h6
        exact law4 s l i day z e1 _ _ _ _ _ h1 h2 h3 h4 h5 h6
      · rw [if_neg hn] at h5 h6
        rcases hd with hd | hd
        · exact absurd hd hn
        · rw [hd] at h5
          exact law4 s l i day z e1 _ _ _ _ _ h1 h2 h3 h4 h5 h6
  · exact law4 s l kd day _ _ _ _ _ _ _ (level_err true s hs l hl kd day he) (rlevel_err true s hs l hl kd day _ (by unfold rangedE; rw [if_neg he]) he) (lasts_err true s hs l hl kd he) (rlasts_err true s hs l hl kd he) (shortr_err true s hs l hl kd he) (rshort_err true s hs l hl kd he)
end Go.Proofs.Ytmkaeohmdcoanaa
namespace Go.Proofs.Ytmkaeohmdcoanaa
open Go.RM
set_option maxRecDepth 1000000
noncomputable def tabA : List XE := [x_a1, x_a2, x_a3, x_a4, x_a5, x_a6, x_a7, x_a8]
theorem xs_tabA : ∀ e ∈ tabA, XSound TT e := by
  unfold tabA
  simp only [List.mem_cons, List.not_mem_nil, or_false]
  rintro e (rfl | rfl | rfl | rfl | rfl | rfl | rfl | rfl)
  · exact xs_a1
  · exact xs_a2
  · exact xs_a3
  · exact xs_a4
  · exact xs_a5
  · exact xs_a6
  · exact xs_a7
  · exact xs_a8
theorem xs_aw : XSound TT x_aw := xe_add tt_ok tt_mixed xs_tabA 1000 (by kernel_rfl)
theorem xs_TB : ∀ e ∈ TB, XSound TT e := fun e he => by
  obtain rfl := List.mem_singleton.1 he
  exact xs_aw
end Go.Proofs.Ytmkaeohmdcoanaa
open Go Go.RM
namespace Go.Proofs.Ytmkaeohmdcoanaa
open Go.ChangeShapes Go.WideShapes Go.ChangeAt Go.RowKit

theorem try_own : ownKnob Try.prog.godebug = none := by kernel_rfl
theorem try_laid : laidOutB Try.prog = true := by kernel_rfl

theorem wf8 {n : Int} (h : (Lit.int .u8 n).wf = true) : 0 ≤ n ∧ n ≤ 255 := by
  simp only [Lit.wf, Bool.and_eq_true, decide_eq_true_eq] at h
  exact h
theorem wf16 {n : Int} (h : (Lit.int .u16 n).wf = true) : 0 ≤ n ∧ n ≤ 65535 := by
  simp only [Lit.wf, Bool.and_eq_true, decide_eq_true_eq] at h
  exact h

abbrev sh8 : Sh := .int .u8
abbrev sh16 : Sh := .int .u16
abbrev shPast : Sh := .cons sh8 (.cons (.arr 3 sh16) (.cons (.slice sh8) .nil))

theorem tv8 {l : List AV} (h : TV sh8 l) : ∃ n, (0 ≤ n ∧ n ≤ 255) ∧ l = [.fl (.int .u8 n)] := by
  obtain ⟨n, hn, rfl⟩ := tvK h
  exact ⟨n, wf8 hn, rfl⟩
theorem tv16 {l : List AV} (h : TV sh16 l) : ∃ n, (0 ≤ n ∧ n ≤ 65535) ∧ l = [.fl (.int .u16 n)] := by
  obtain ⟨n, hn, rfl⟩ := tvK h
  exact ⟨n, wf16 hn, rfl⟩
theorem tvA3 {l : List AV} (h : TV (.arr 3 sh16) l) : ∃ a b c, ((0 ≤ a ∧ a ≤ 65535) ∧ (0 ≤ b ∧ b ≤ 65535) ∧ (0 ≤ c ∧ c ≤ 65535)) ∧ l = [.fl (.int .u16 a), .fl (.int .u16 b), .fl (.int .u16 c)] := by
  obtain ⟨els, hl, he, rfl⟩ := tvA h
  match els, hl with
  | [x, y, z], _ =>
    obtain ⟨a, ha, rfl⟩ := tv16 (he x (by simp))
    obtain ⟨b, hb, rfl⟩ := tv16 (he y (by simp))
    obtain ⟨c, hc, rfl⟩ := tv16 (he z (by simp))
    exact ⟨a, b, c, ⟨ha, hb, hc⟩, rfl⟩
theorem tvA4 {l : List AV} (h : TV (.arr 4 sh16) l) : ∃ a b c d, ((0 ≤ a ∧ a ≤ 65535) ∧ (0 ≤ b ∧ b ≤ 65535) ∧ (0 ≤ c ∧ c ≤ 65535) ∧ (0 ≤ d ∧ d ≤ 65535)) ∧ l = [.fl (.int .u16 a), .fl (.int .u16 b), .fl (.int .u16 c), .fl (.int .u16 d)] := by
  obtain ⟨els, hl, he, rfl⟩ := tvA h
  match els, hl with
  | [x, y, z, w], _ =>
    obtain ⟨a, ha, rfl⟩ := tv16 (he x (by simp))
    obtain ⟨b, hb, rfl⟩ := tv16 (he y (by simp))
    obtain ⟨c, hc, rfl⟩ := tv16 (he z (by simp))
    obtain ⟨d, hd, rfl⟩ := tv16 (he w (by simp))
    exact ⟨a, b, c, d, ⟨ha, hb, hc, hd⟩, rfl⟩
theorem tvPast {l : List AV} (h : TV shPast l) : ∃ (kd a b c : Int) (taken : List (List AV)), ((0 ≤ kd ∧ kd ≤ 255) ∧ (0 ≤ a ∧ a ≤ 65535) ∧ (0 ≤ b ∧ b ≤ 65535) ∧ (0 ≤ c ∧ c ≤ 65535)) ∧ (taken.length ≤ maxLen ∧ ∀ el ∈ taken, TV sh8 el) ∧ l = [.fl (.int .u8 kd), .fl (.int .u16 a), .fl (.int .u16 b), .fl (.int .u16 c), .sl taken false] := by
  obtain ⟨_, _, h1, k1, rfl⟩ := tvC h
  obtain ⟨_, _, h2, k2, rfl⟩ := tvC k1
  obtain ⟨_, _, h3, k3, rfl⟩ := tvC k2
  obtain rfl := tvN k3
  obtain ⟨kd, hk, rfl⟩ := tv8 h1
  obtain ⟨a, b, c, hh, rfl⟩ := tvA3 h2
  obtain ⟨els, hl, he, rfl⟩ := tvL h3
  exact ⟨kd, a, b, c, els, ⟨hk, hh⟩, ⟨hl, he⟩, rfl⟩
end Go.Proofs.Ytmkaeohmdcoanaa
