/-
  The statement TenderHolds. No condition but that the two listed tables of math/bits read as the program's text lays them.
-/
import Derived.Test.YtpeogffeoehboaaGreatDoorK4
import Derived.Test.YtpeogffeoehboaaGreatDoorK9
import Derived.Test.YtpeogffeoehboaaGreatDoorK18
open Go Go.RM
namespace Go.Proofs.YtpeogffeoehboaaGreatDoor
open Go.ChangeShapes Go.WideShapes Go.ChangeAt Go.RowKit
set_option maxRecDepth 100000 in
theorem holds_lifted (os : Os) (started : os.Started) (H : Type) (enc : TypeId × Value → H) :
    ReturnsInHanded {} Tryz.checked os 3 .any (fun w args => (Rows.tenderHoldsSpec.pre enc Tryz.prog Tryz.f3 Rows.tenderHoldsRow.domain false w args ∧ laidMetH Tryz.prog A0 w) ∧ sizedMet enc Tryz.prog Tryz.f3 (OpenSpec.ofChange Rows.tenderHoldsSpec) false w args)
      (Rows.tenderHoldsSpec.post enc Tryz.prog Tryz.f3 false true false false) := by
  refine returnsInHanded_of_change_and (C := Tryz.checked) (X := fun w _ => laidMetH Tryz.prog A0 w) (fun _ _ _ hh h => h.of_heap hh) JY started (by kernel_rfl) Tryz.func3
    (ChangeSpec.witness_shaped (enc := enc) (C := Tryz.checked) (os := os) (X := fun w _ => laidMetH Tryz.prog A0 w) false (World.laidAll Tryz.prog os A0) #[.agg #[.int .i64 0, .slice none 0 0, .int .i64 0, .int .i64 0, .int .i64 0, .slice none 0 0], .slice none 0 0, .slice none 0 0] 8 (World.laidAll_os _ _ _)
      (World.shaped_of_ZipB (by kernel_rfl) (by kernel_rfl)) (by kernel_rfl) (by kernel_rfl) (by kernel_rfl)
      (by rw [MakeChecks.laidMetH_plain _ _ _ (by kernel_rfl)]; exact laidMet_laidAll _ (by kernel_rfl) (by kernel_rfl))) ?_
  intro W base args ds gs before hval hW _ _ hL _
  refine F6 (P := Tryz.prog) F7 (tb := 4) (by rw [Tryz.params3]; kernel_rfl) rfl Tryz.underlying4 rfl (fun ds h => by rw [Tryz.params3] at h; match ds, h with | [_, _, _], _ => rfl) hW ?_
  obtain ⟨p, q, hA, _⟩ := hW
  refine C3 (T := TT) (one := false) az af PL rfl (d := 40) (ss := [BO, .slice zL, .slice .bool]) (by rw [Tryz.params3]; kernel_rfl) hA (fun j t v h1 h2 => hval j t v (by simpa using h1) (by simpa using h2)) (fun ws hws => ?_) (CH hL)
  match ws, hws with
  | [_, _, _], ⟨⟨_, h1, rfl⟩, ⟨_, h2, rfl⟩, ⟨_, h3, rfl⟩, _⟩ =>
    obtain ⟨s, hs, rfl⟩ := I4 h1
    obtain ⟨p, hp, rfl⟩ := I3 h2
    obtain ⟨came, hc, rfl⟩ := KM h3
    exact Fw s hs p false hp came hc
theorem holds_row : Rows.TenderHoldsSaid :=
  OpenClaim.holds_of_wide 3 Tryz.f3 rfl rfl rfl rfl rfl rfl rfl ⟨rfl, rfl, rfl, rfl, rfl⟩ rfl rfl rfl rfl rfl (by kernel_rfl) Tryz.func3 (by kernel_rfl)
    (of_decide_eq_true (by kernel_rfl)) (by unfold Func.isWrapper; first | (rw [if_pos (by decide +kernel)]; kernel_rfl) | (rw [if_neg (by decide +kernel)]; exact ⟨rfl, rfl⟩))
    (fun os started H enc _ => holds_lifted os started H enc)
set_option maxRecDepth 100000 in
theorem holds_holds : Rows.TenderHoldsCardSaid :=
  Claim7.holds_tied_plain_at .later [] [.data, .data] true (true, "7c14cd9b843ed71acd41fa71f8e97ef08cdabb106879458b302d87abad51c750") false
    holds_row (fun _ h => by cases h) (by kernel_rfl) (fun _ h => by cases h) tenderHolds_row_tie rfl ⟨rfl, rfl⟩ (by kernel_rfl) rfl
    (fun f fn hf hfn => by
      obtain rfl : f = 3 := Option.some.inj ((show Tryz.prog.funcNamed "nore/norelaw09.TenderHolds" = some 3 by kernel_rfl).symm.trans hf) |>.symm
      obtain rfl : fn = Tryz.f3 := (Option.some.inj (Tryz.func3.symm.trans hfn)).symm
      exact ⟨by kernel_rfl, fun j t ht => by
        rw [Tryz.params3] at ht
        have hm : t ∈ [25, 26, 27] := by simpa using Array.mem_of_getElem? ht
        have hall : ([25, 26, 27].all fun u => !Tryz.prog.wantsStandIn u) = true := by kernel_rfl
        exact (show Tryz.prog.wantsStandIn t = false by simpa using List.all_eq_true.1 hall t hm)⟩)
    (by kernel_rfl)
end Go.Proofs.YtpeogffeoehboaaGreatDoor
