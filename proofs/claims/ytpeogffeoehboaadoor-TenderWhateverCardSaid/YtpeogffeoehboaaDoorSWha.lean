/-
  The statement TenderWhatever. No condition but that the two listed tables of math/bits read as the program's text lays them.
-/
import Derived.Test.YtpeogffeoehboaaDoorK4
import Derived.Test.YtpeogffeoehboaaDoorK10
import Derived.Test.YtpeogffeoehboaaDoorK14
open Go Go.RM
namespace Go.Proofs.YtpeogffeoehboaaDoor
open Go.ChangeShapes Go.WideShapes Go.ChangeAt Go.RowKit
set_option maxRecDepth 100000 in
theorem whatever_lifted (os : Os) (started : os.Started) (H : Type) (enc : TypeId × Value → H) :
    ReturnsInHanded {} Tryd.checked os 5 .any (fun w args => (Rows.tenderWhateverSpec.pre enc Tryd.prog Tryd.f5 Rows.tenderWhateverRow.domain false w args ∧ laidMetH Tryd.prog iq w) ∧ sizedMet enc Tryd.prog Tryd.f5 (OpenSpec.ofChange Rows.tenderWhateverSpec) false w args)
      (Rows.tenderWhateverSpec.post enc Tryd.prog Tryd.f5 false true false false) := by
  refine returnsInHanded_of_change_and (C := Tryd.checked) (X := fun w _ => laidMetH Tryd.prog iq w) (fun _ _ _ hh h => h.of_heap hh) sN started (by kernel_rfl) Tryd.func5
    (ChangeSpec.witness_shaped (enc := enc) (C := Tryd.checked) (os := os) (X := fun w _ => laidMetH Tryd.prog iq w) false (World.laidAll Tryd.prog os iq) #[.agg #[.int .i64 0, .slice none 0 0, .int .i64 0, .int .i64 0, .int .i64 0, .slice none 0 0], .slice none 0 0, .int .u8 0] 8 (World.laidAll_os _ _ _)
      (World.shaped_of_ZipB (by kernel_rfl) (by kernel_rfl)) (by kernel_rfl) (by kernel_rfl) (by kernel_rfl)
      (by rw [MakeChecks.laidMetH_plain _ _ _ (by kernel_rfl)]; exact laidMet_laidAll _ (by kernel_rfl) (by kernel_rfl))) ?_
  intro W base args ds gs before hval hW _ _ hL _
  refine pR (P := Tryd.prog) pS (tb := 4) (by rw [Tryd.params5]; kernel_rfl) rfl Tryd.underlying4 rfl (fun ds h => by rw [Tryd.params5] at h; match ds, h with | [_, _, _], _ => rfl) hW ?_
  obtain ⟨p, q, hA, _⟩ := hW
  refine lW (T := TT) (one := false) az ah DY rfl (d := 40) (ss := [nh, .slice nO, (.int .u8)]) (by rw [Tryd.params5]; kernel_rfl) hA (fun j t v h1 h2 => hval j t v (by simpa using h1) (by simpa using h2)) (fun ws hws => ?_) (lP hL)
  match ws, hws with
  | [_, _, _], ⟨⟨_, h1, rfl⟩, ⟨_, h2, rfl⟩, ⟨_, h3, rfl⟩, _⟩ =>
    obtain ⟨s, hs, rfl⟩ := qk h1
    obtain ⟨p, hp, rfl⟩ := qj h2
    obtain ⟨n, _, rfl⟩ := Pt h3
    exact Df s hs p false hp n
theorem whatever_row : Rows.TenderWhateverSaid :=
  OpenClaim.holds_of_wide 5 Tryd.f5 rfl rfl rfl rfl rfl rfl rfl ⟨rfl, rfl, rfl, rfl, rfl⟩ rfl rfl rfl rfl rfl (by kernel_rfl) Tryd.func5 (by kernel_rfl)
    (of_decide_eq_true (by kernel_rfl)) (by unfold Func.isWrapper; first | (rw [if_pos (by decide +kernel)]; kernel_rfl) | (rw [if_neg (by decide +kernel)]; exact ⟨rfl, rfl⟩))
    (fun os started H enc _ => whatever_lifted os started H enc)
set_option maxRecDepth 100000 in
theorem whatever_holds : Rows.TenderWhateverCardSaid :=
  Claim7.holds_tied_plain_at .later [] [.data, .data] true (true, "c7c357bce1b8f70ba5b20ba557d8ad084a7f2112b77dc4cb2ca3e0e9b67ef2fb") false
    whatever_row (fun _ h => by cases h) (by kernel_rfl) (fun _ h => by cases h) tenderWhatever_row_tie rfl ⟨rfl, rfl⟩ (by kernel_rfl) rfl
    (fun f fn hf hfn => by
      obtain rfl : f = 5 := Option.some.inj ((show Tryd.prog.funcNamed "nore/norelaw09.TenderWhatever" = some 5 by kernel_rfl).symm.trans hf) |>.symm
      obtain rfl : fn = Tryd.f5 := (Option.some.inj (Tryd.func5.symm.trans hfn)).symm
      exact ⟨by kernel_rfl, fun j t ht => by
        rw [Tryd.params5] at ht
        have hm : t ∈ [25, 26, 5] := by simpa using Array.mem_of_getElem? ht
        have hall : ([25, 26, 5].all fun u => !Tryd.prog.wantsStandIn u) = true := by kernel_rfl
        exact (show Tryd.prog.wantsStandIn t = false by simpa using List.all_eq_true.1 hall t hm)⟩)
    (by kernel_rfl)
end Go.Proofs.YtpeogffeoehboaaDoor
