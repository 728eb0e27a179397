/-
  The statement TopCome: if the first need of a season lasts at first for as many days as a kind of stores surely does, and a plan holds, an order with this need comes before the kind runs short. No condition but that the two listed tables of math/bits read as the program's text lays them.
-/
import Derived.Test.YtkappgolfkiaeaaGreatDoorK20
open Go Go.RM
namespace Go.Proofs.YtkappgolfkiaeaaGreatDoor
open Go.ChangeShapes Go.WideShapes Go.ChangeAt Go.RowKit
theorem try_own : ownKnob Tryz.prog.godebug = none := by kernel_rfl
theorem try_laid : laidOutB Tryz.prog = true := by kernel_rfl
theorem xs_TB : ∀ e ∈ TB, aj TT e := fun e he => by
  rcases List.mem_cons.1 he with rfl | he
  · exact Tu
  · rcases List.mem_cons.1 he with rfl | he
    · exact St.TS
    · obtain ⟨k, hk, rfl⟩ := List.mem_map.1 he;have := List.mem_range.1 hk;exact bR (by omega)
abbrev Uq : Sh := .cons St.MC (.cons (.arr 6 (.int .u8)) (.cons (.int .u8) .nil))
set_option maxRecDepth 100000 in
theorem come_lifted (os : Os) (started : os.Started) (H : Type) (enc : TypeId × Value → H) :
    ReturnsInHanded {} Tryz.checked os 3 .any (fun w args => (Rows.topComeSpec.pre enc Tryz.prog Tryz.f3 Rows.topComeRow.domain false w args ∧ laidMetH Tryz.prog Dg w) ∧ sizedMet enc Tryz.prog Tryz.f3 (OpenSpec.ofChange Rows.topComeSpec) false w args)
      (Rows.topComeSpec.post enc Tryz.prog Tryz.f3 false true false false) := by
  refine returnsInHanded_of_change_and (C := Tryz.checked) (X := fun w _ => laidMetH Tryz.prog Dg w) (fun _ _ _ hh h => h.of_heap hh) try_own started (by kernel_rfl) Tryz.func3
    (ChangeSpec.witness_shaped (enc := enc) (C := Tryz.checked) (os := os) (X := fun w _ => laidMetH Tryz.prog Dg w) false (World.laidAll Tryz.prog os Dg) #[.agg #[.slice none 0 0, .slice none 0 0, .slice none 0 0], .agg #[.int .i64 0, .slice none 0 0, .int .i64 0, .int .i64 0, .int .i64 0, .slice none 0 0], .agg #[.int .u8 0, .int .u16 0, .int .u16 0, .int .u16 0, .slice none 0 0, .int .u8 0, .int .u8 0, .int .u8 0, .int .u8 0, .int .u8 0, .int .u8 0, .int .u8 0]] 8 (World.laidAll_os _ _ _)
      (World.shaped_of_ZipB (by kernel_rfl) (by kernel_rfl)) (by kernel_rfl) (by kernel_rfl) (by kernel_rfl)
      (by rw [MakeChecks.laidMetH_plain _ _ _ (by kernel_rfl)]; exact laidMet_laidAll _ (by kernel_rfl) (by kernel_rfl))) ?_
  intro W base args ds gs before hval hW _ _ hL _;refine JN (P := Tryz.prog) try_laid (tb := 4) (by rw [Tryz.params3]; kernel_rfl) rfl Tryz.underlying4 rfl (fun ds h => by rw [Tryz.params3] at h; match ds, h with | [_, _, _], _ => rfl) hW ?_;obtain ⟨p, q, hA, _⟩ := hW;refine En (T := TT) (one := false) aA ah xs_TB rfl (d := 40) (ss := [St.Di, Dh, Uq]) (by rw [Tryz.params3]; kernel_rfl) hA (fun j t v h1 h2 => hval j t v (by simpa using h1) (by simpa using h2)) (fun ws hws => ?_) (EP hL)
  match ws, hws with
  | [_, _, _], ⟨⟨_, h1, rfl⟩, ⟨_, h2, rfl⟩, ⟨_, h3, rfl⟩, _⟩ =>
    obtain ⟨t, ht, rfl⟩ := St.JT h1;obtain ⟨s, hs, rfl⟩ := JP h2;obtain ⟨_, _, j1, k1, rfl⟩ := qY h3;obtain ⟨_, _, j2, k2, rfl⟩ := qY k1;obtain ⟨_, _, j3, k3, rfl⟩ := qY k2;obtain rfl := Oi k3;obtain ⟨kd, a, b, q0, taken, ⟨hk, ha, hb, hq⟩, ⟨hl2, htk⟩, rfl⟩ := St.RB j1;obtain ⟨x, hx, rfl⟩ := xy (e := St.e8) (P := fun n => 0 ≤ n ∧ n ≤ 255) fun el hel => by obtain ⟨n, h, e⟩ := St.MF (htk el hel); exact ⟨n, h, e⟩
    obtain ⟨z1, z2, z3, z4, z5, z6, rfl⟩ := QA j2;obtain ⟨raw, _, rfl⟩ := MF j3;exact St.HN t ht s hs kd a b q0 x z1 z2 z3 z4 z5 z6 raw hk ha hb hq hx (by simpa using hl2)
theorem come_row : Rows.TopComeSaid :=
  OpenClaim.holds_of_wide 3 Tryz.f3 rfl rfl rfl rfl rfl rfl rfl ⟨rfl, rfl, rfl, rfl, rfl⟩ rfl rfl rfl rfl rfl (by kernel_rfl) Tryz.func3 (by kernel_rfl)
    (of_decide_eq_true (by kernel_rfl)) (by unfold Func.isWrapper; first | (rw [if_pos (by decide +kernel)]; kernel_rfl) | (rw [if_neg (by decide +kernel)]; exact ⟨rfl, rfl⟩))
    (fun os started H enc _ => come_lifted os started H enc)
set_option maxRecDepth 100000 in
theorem come_holds : Rows.TopComeCardSaid :=
  Claim7.holds_tied_plain_at .later [] [.data, .data] true (true, "8e27b12f407a94d0d26d34111c57fa0223d4794a7f0df96d5457b78039736a8b") false
    come_row (fun _ h => by cases h) (by kernel_rfl) (fun _ h => by cases h) topCome_row_tie rfl ⟨rfl, rfl⟩ (by kernel_rfl) rfl
    (fun f fn hf hfn => by
      obtain rfl : f = 3 := Option.some.inj ((show Tryz.prog.funcNamed "nore/noretop.TopCome" = some 3 by kernel_rfl).symm.trans hf) |>.symm
      obtain rfl : fn = Tryz.f3 := (Option.some.inj (Tryz.func3.symm.trans hfn)).symm
      exact ⟨by kernel_rfl, fun j t ht => by
        rw [Tryz.params3] at ht;have hm : t ∈ [26, 29, 37] := by simpa using Array.mem_of_getElem? ht
        have hall : ([26, 29, 37].all fun u => !Tryz.prog.wantsStandIn u) = true := by kernel_rfl
        exact (show Tryz.prog.wantsStandIn t = false by simpa using List.all_eq_true.1 hall t hm)⟩)
    (by kernel_rfl)
