/-
  The statement TenderMust. No condition but that the two listed tables of math/bits read as the program's text lays them.
-/
import Derived.Test.YtpeogffeoehboaaDoorK16
open Go Go.RM
namespace Go.Proofs.YtpeogffeoehboaaDoor
open Go.ChangeShapes Go.WideShapes Go.ChangeAt Go.RowKit
set_option maxRecDepth 100000 in
theorem must_lifted (os : Os) (started : os.Started) (H : Type) (enc : TypeId × Value → H) :
    ReturnsInHanded {} Tryd.checked os 11 .any (fun w args => (Rows.tenderMustSpec.pre enc Tryd.prog Tryd.f11 Rows.tenderMustRow.domain false w args ∧ laidMetH Tryd.prog Bt w) ∧ sizedMet enc Tryd.prog Tryd.f11 (OpenSpec.ofChange Rows.tenderMustSpec) false w args)
      (Rows.tenderMustSpec.post enc Tryd.prog Tryd.f11 false true false false) := by
  refine returnsInHanded_of_change_and (C := Tryd.checked) (X := fun w _ => laidMetH Tryd.prog Bt w) (fun _ _ _ hh h => h.of_heap hh) La started (by kernel_rfl) Tryd.func11
    (ChangeSpec.witness_shaped (enc := enc) (C := Tryd.checked) (os := os) (X := fun w _ => laidMetH Tryd.prog Bt w) false (World.laidAll Tryd.prog os Bt) #[.agg #[.int .i64 0, .slice none 0 0, .int .i64 0, .int .i64 0, .int .i64 0, .slice none 0 0], .agg #[.int .u8 0, .int .u8 0, .int .u8 0, .int .u8 0, .int .u8 0, .int .u8 0]] 8 (World.laidAll_os _ _ _)
      (World.shaped_of_ZipB (by kernel_rfl) (by kernel_rfl)) (by kernel_rfl) (by kernel_rfl) (by kernel_rfl)
      (by rw [MakeChecks.laidMetH_plain _ _ _ (by kernel_rfl)]; exact laidMet_laidAll _ (by kernel_rfl) (by kernel_rfl))) ?_
  intro W base args ds gs before hval hW _ _ hL _
  refine Hq (P := Tryd.prog) Hr (tb := 4) (by rw [Tryd.params11]; kernel_rfl) rfl Tryd.underlying4 rfl (fun ds h => by rw [Tryd.params11] at h; match ds, h with | [_, _], _ => rfl) hW ?_
  obtain ⟨p, q, hA, _⟩ := hW
  refine DN (T := TT) (one := false) ay af Rs rfl (d := 40) (ss := [Ch, .arr 6 (.int .u8)]) (by rw [Tryd.params11]; kernel_rfl) hA (fun j t v h1 h2 => hval j t v (by simpa using h1) (by simpa using h2)) (fun ws hws => ?_) (Dq hL)
  match ws, hws with
  | [_, _], ⟨⟨_, h1, rfl⟩, ⟨_, h2, rfl⟩, _⟩ =>
    obtain ⟨s, hs, rfl⟩ := J5 h1
    obtain ⟨a, b, c, d, e, f, rfl⟩ := PC h2
    exact K2 s hs a b c d e f
theorem must_row : Rows.TenderMustSaid :=
  OpenClaim.holds_of_wide 11 Tryd.f11 rfl rfl rfl rfl rfl rfl rfl ⟨rfl, rfl, rfl, rfl, rfl⟩ rfl rfl rfl rfl rfl (by kernel_rfl) Tryd.func11 (by kernel_rfl)
    (of_decide_eq_true (by kernel_rfl)) (by unfold Func.isWrapper; first | (rw [if_pos (by decide +kernel)]; kernel_rfl) | (rw [if_neg (by decide +kernel)]; exact ⟨rfl, rfl⟩))
    (fun os started H enc _ => must_lifted os started H enc)
set_option maxRecDepth 100000 in
theorem must_holds : Rows.TenderMustCardSaid :=
  Claim7.holds_tied_plain_at .later [] [.data, .data] true (true, "c7c357bce1b8f70ba5b20ba557d8ad084a7f2112b77dc4cb2ca3e0e9b67ef2fb") false
    must_row (fun _ h => by cases h) (by kernel_rfl) (fun _ h => by cases h) tenderMust_row_tie rfl ⟨rfl, rfl⟩ (by kernel_rfl) rfl
    (fun f fn hf hfn => by
      obtain rfl : f = 11 := Option.some.inj ((show Tryd.prog.funcNamed "nore/norelaw09.TenderMust" = some 11 by kernel_rfl).symm.trans hf) |>.symm
      obtain rfl : fn = Tryd.f11 := (Option.some.inj (Tryd.func11.symm.trans hfn)).symm
      exact ⟨by kernel_rfl, fun j t ht => by
        rw [Tryd.params11] at ht
        have hm : t ∈ [25, 55] := by simpa using Array.mem_of_getElem? ht
        have hall : ([25, 55].all fun u => !Tryd.prog.wantsStandIn u) = true := by kernel_rfl
        exact (show Tryd.prog.wantsStandIn t = false by simpa using List.all_eq_true.1 hall t hm)⟩)
    (by kernel_rfl)
end Go.Proofs.YtpeogffeoehboaaDoor
