/-
  The statement TenderPlans. No condition but that the two listed tables of math/bits read as the program's text lays them.
-/
import Derived.Test.YtpeogffeoehboaaGreatDoorK22
open Go Go.RM
namespace Go.Proofs.YtpeogffeoehboaaGreatDoor
open Go.ChangeShapes Go.WideShapes Go.ChangeAt Go.RowKit
set_option maxRecDepth 100000 in
theorem plans_lifted (os : Os) (started : os.Started) (H : Type) (enc : TypeId × Value → H) :
    ReturnsInHanded {} Tryz.checked os 4 .any (fun w args => (Rows.tenderPlansSpec.pre enc Tryz.prog Tryz.f4 Rows.tenderPlansRow.domain false w args ∧ laidMetH Tryz.prog Cr w) ∧ sizedMet enc Tryz.prog Tryz.f4 (OpenSpec.ofChange Rows.tenderPlansSpec) false w args)
      (Rows.tenderPlansSpec.post enc Tryz.prog Tryz.f4 false true false false) := by
  refine returnsInHanded_of_change_and (C := Tryz.checked) (X := fun w _ => laidMetH Tryz.prog Cr w) (fun _ _ _ hh h => h.of_heap hh) MI started (by kernel_rfl) Tryz.func4
    (ChangeSpec.witness_shaped (enc := enc) (C := Tryz.checked) (os := os) (X := fun w _ => laidMetH Tryz.prog Cr w) false (World.laidAll Tryz.prog os Cr) #[.agg #[.int .i64 0, .slice none 0 0, .int .i64 0, .int .i64 0, .int .i64 0, .slice none 0 0]] 8 (World.laidAll_os _ _ _)
      (World.shaped_of_ZipB (by kernel_rfl) (by kernel_rfl)) (by kernel_rfl) (by kernel_rfl) (by kernel_rfl)
      (by rw [MakeChecks.laidMetH_plain _ _ _ (by kernel_rfl)]; exact laidMet_laidAll _ (by kernel_rfl) (by kernel_rfl))) ?_
  intro W base args ds gs before hval hW _ _ hL _;refine IW (P := Tryz.prog) IX (tb := 4) (by rw [Tryz.params4]; kernel_rfl) rfl Tryz.underlying4 rfl (fun ds h => by rw [Tryz.params4] at h; match ds, h with | [_], _ => rfl) hW ?_;obtain ⟨p, q, hA, _⟩ := hW;refine EO (T := TT) (one := false) aB af SH rfl (d := 40) (ss := [De]) (by rw [Tryz.params4]; kernel_rfl) hA (fun j t v h1 h2 => hval j t v (by simpa using h1) (by simpa using h2)) (fun ws hws => ?_) (Es hL)
  match ws, hws with
  | [_], ⟨⟨_, h1, rfl⟩, _⟩ =>obtain ⟨s, hs, rfl⟩ := Lu h1;exact Ig s hs
theorem plans_row : Rows.TenderPlansSaid :=
  OpenClaim.holds_of_wide 4 Tryz.f4 rfl rfl rfl rfl rfl rfl rfl ⟨rfl, rfl, rfl, rfl, rfl⟩ rfl rfl rfl rfl rfl (by kernel_rfl) Tryz.func4 (by kernel_rfl)
    (of_decide_eq_true (by kernel_rfl)) (by unfold Func.isWrapper; first | (rw [if_pos (by decide +kernel)]; kernel_rfl) | (rw [if_neg (by decide +kernel)]; exact ⟨rfl, rfl⟩))
    (fun os started H enc _ => plans_lifted os started H enc)
set_option maxRecDepth 100000 in
theorem plans_holds : Rows.TenderPlansCardSaid :=
  Claim7.holds_tied_plain_at .later [] [.data, .data] true (true, "7c14cd9b843ed71acd41fa71f8e97ef08cdabb106879458b302d87abad51c750") false
    plans_row (fun _ h => by cases h) (by kernel_rfl) (fun _ h => by cases h) tenderPlans_row_tie rfl ⟨rfl, rfl⟩ (by kernel_rfl) rfl
    (fun f fn hf hfn => by
      obtain rfl : f = 4 := Option.some.inj ((show Tryz.prog.funcNamed "nore/norelaw09.TenderPlans" = some 4 by kernel_rfl).symm.trans hf) |>.symm
      obtain rfl : fn = Tryz.f4 := (Option.some.inj (Tryz.func4.symm.trans hfn)).symm
      exact ⟨by kernel_rfl, fun j t ht => by
        rw [Tryz.params4] at ht;have hm : t ∈ [25] := by simpa using Array.mem_of_getElem? ht
        have hall : ([25].all fun u => !Tryz.prog.wantsStandIn u) = true := by kernel_rfl
        exact (show Tryz.prog.wantsStandIn t = false by simpa using List.all_eq_true.1 hall t hm)⟩)
    (by kernel_rfl)
