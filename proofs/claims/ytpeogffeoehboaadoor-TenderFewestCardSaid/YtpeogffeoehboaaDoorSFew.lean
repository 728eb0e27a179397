/-
  The statement TenderFewest. No condition but that the two listed tables of math/bits read as the program's text lays them.
-/
import Derived.Test.YtpeogffeoehboaaDoorK4
import Derived.Test.YtpeogffeoehboaaDoorK8
import Derived.Test.YtpeogffeoehboaaDoorK15
open Go Go.RM
namespace Go.Proofs.YtpeogffeoehboaaDoor
open Go.ChangeShapes Go.WideShapes Go.ChangeAt Go.RowKit
set_option maxRecDepth 100000 in
theorem fewest_lifted (os : Os) (started : os.Started) (H : Type) (enc : TypeId × Value → H) :
    ReturnsInHanded {} Tryd.checked os 6 .any (fun w args => (Rows.tenderFewestSpec.pre enc Tryd.prog Tryd.f6 Rows.tenderFewestRow.domain false w args ∧ laidMetH Tryd.prog AK w) ∧ sizedMet enc Tryd.prog Tryd.f6 (OpenSpec.ofChange Rows.tenderFewestSpec) false w args)
      (Rows.tenderFewestSpec.post enc Tryd.prog Tryd.f6 false true false false) := by
  refine returnsInHanded_of_change_and (C := Tryd.checked) (X := fun w _ => laidMetH Tryd.prog AK w) (fun _ _ _ hh h => h.of_heap hh) Ka started (by kernel_rfl) Tryd.func6
    (ChangeSpec.witness_shaped (enc := enc) (C := Tryd.checked) (os := os) (X := fun w _ => laidMetH Tryd.prog AK w) false (World.laidAll Tryd.prog os AK) #[.agg #[.int .i64 0, .slice none 0 0, .int .i64 0, .int .i64 0, .int .i64 0, .slice none 0 0], .agg #[.int .u8 0, .int .u8 0, .int .u8 0, .int .u8 0, .int .u8 0, .int .u8 0]] 8 (World.laidAll_os _ _ _)
      (World.shaped_of_ZipB (by kernel_rfl) (by kernel_rfl)) (by kernel_rfl) (by kernel_rfl) (by kernel_rfl)
      (by rw [MakeChecks.laidMetH_plain _ _ _ (by kernel_rfl)]; exact laidMet_laidAll _ (by kernel_rfl) (by kernel_rfl))) ?_
  intro W base args ds gs before hval hW _ _ hL _
  refine Gu (P := Tryd.prog) Gw (tb := 4) (by rw [Tryd.params6]; kernel_rfl) rfl Tryd.underlying4 rfl (fun ds h => by rw [Tryd.params6] at h; match ds, h with | [_, _], _ => rfl) hW ?_
  obtain ⟨p, q, hA, _⟩ := hW
  refine C6 (T := TT) (one := false) ax af Ql rfl (d := 40) (ss := [BH, .arr 6 (.int .u8)]) (by rw [Tryd.params6]; kernel_rfl) hA (fun j t v h1 h2 => hval j t v (by simpa using h1) (by simpa using h2)) (fun ws hws => ?_) (CJ hL)
  match ws, hws with
  | [_, _], ⟨⟨_, h1, rfl⟩, ⟨_, h2, rfl⟩, _⟩ =>
    obtain ⟨s, hs, rfl⟩ := Jk h1
    obtain ⟨a, b, c, d, e, f, rfl⟩ := Ou h2
    exact Lf s hs a b c d e f
theorem fewest_row : Rows.TenderFewestSaid :=
  OpenClaim.holds_of_wide 6 Tryd.f6 rfl rfl rfl rfl rfl rfl rfl ⟨rfl, rfl, rfl, rfl, rfl⟩ rfl rfl rfl rfl rfl (by kernel_rfl) Tryd.func6 (by kernel_rfl)
    (of_decide_eq_true (by kernel_rfl)) (by unfold Func.isWrapper; first | (rw [if_pos (by decide +kernel)]; kernel_rfl) | (rw [if_neg (by decide +kernel)]; exact ⟨rfl, rfl⟩))
    (fun os started H enc _ => fewest_lifted os started H enc)
set_option maxRecDepth 100000 in
theorem fewest_holds : Rows.TenderFewestCardSaid :=
  Claim7.holds_tied_plain_at .later [] [.data, .data] true (true, "c7c357bce1b8f70ba5b20ba557d8ad084a7f2112b77dc4cb2ca3e0e9b67ef2fb") false
    fewest_row (fun _ h => by cases h) (by kernel_rfl) (fun _ h => by cases h) tenderFewest_row_tie rfl ⟨rfl, rfl⟩ (by kernel_rfl) rfl
    (fun f fn hf hfn => by
      obtain rfl : f = 6 := Option.some.inj ((show Tryd.prog.funcNamed "nore/norelaw09.TenderFewest" = some 6 by kernel_rfl).symm.trans hf) |>.symm
      obtain rfl : fn = Tryd.f6 := (Option.some.inj (Tryd.func6.symm.trans hfn)).symm
      exact ⟨by kernel_rfl, fun j t ht => by
        rw [Tryd.params6] at ht
        have hm : t ∈ [25, 55] := by simpa using Array.mem_of_getElem? ht
        have hall : ([25, 55].all fun u => !Tryd.prog.wantsStandIn u) = true := by kernel_rfl
        exact (show Tryd.prog.wantsStandIn t = false by simpa using List.all_eq_true.1 hall t hm)⟩)
    (by kernel_rfl)
end Go.Proofs.YtpeogffeoehboaaDoor
