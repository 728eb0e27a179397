/-
  The statement TenderKnown: the examples of the document. No condition but that the two listed tables of math/bits read as the program's text lays them.
-/
import Derived.Test.YtpeogffeoehboaaDoorK1
import Derived.Test.YtpeogffeoehboaaDoorX5
import Derived.Test.YtpeogffeoehboaaDoorA2
open Go Go.RM
namespace Go.Proofs.YtpeogffeoehboaaDoor
open Go.ChangeShapes Go.WideShapes Go.ChangeAt Go.RowKit
theorem kn_c : gw TT [DS] false (.fn 4 [] []) [] (.fl (.bool true)) := gw.closed (fun _ => rfl) rfl
set_option maxRecDepth 100000 in
theorem known_lifted (os : Os) (started : os.Started) (H : Type) (enc : TypeId × Value → H) :
    ReturnsInHanded {} Tryd.checked os 4 .any (fun w args => (Rows.tenderKnownSpec.pre enc Tryd.prog Tryd.f4 Rows.tenderKnownRow.domain false w args ∧ laidMetH Tryd.prog tF w) ∧ sizedMet enc Tryd.prog Tryd.f4 (OpenSpec.ofChange Rows.tenderKnownSpec) false w args)
      (Rows.tenderKnownSpec.post enc Tryd.prog Tryd.f4 false true false false) := by
  refine returnsInHanded_of_change_and (C := Tryd.checked) (X := fun w _ => laidMetH Tryd.prog tF w) (fun _ _ _ hh h => h.of_heap hh) Bh started (by kernel_rfl) Tryd.func4
    (ChangeSpec.witness_shaped (enc := enc) (C := Tryd.checked) (os := os) (X := fun w _ => laidMetH Tryd.prog tF w) false (World.laidAll Tryd.prog os tF) #[] 8 (World.laidAll_os _ _ _)
      (World.shaped_of_ZipB (by kernel_rfl) (by kernel_rfl)) (by kernel_rfl) (by kernel_rfl) (by kernel_rfl)
      (by rw [MakeChecks.laidMetH_plain _ _ _ (by kernel_rfl)]; exact laidMet_laidAll _ (by kernel_rfl) (by kernel_rfl))) ?_
  intro W base args ds gs before hval hW _ _ hL _
  refine xS (P := Tryd.prog) xT (tb := 4) (by rw [Tryd.params4]; rfl) rfl Tryd.underlying4 rfl (fun ds h => by rw [Tryd.params4] at h; match ds, h with | [], _ => rfl) hW ?_
  obtain ⟨p, q, hA, _⟩ := hW
  refine vI (T := TT) (tab := [DS]) (one := false) ai aa (fun e he => by rw [List.mem_singleton.1 he]; exact Fm) rfl (d := 40) (ss := []) (by rw [Tryd.params4]; rfl) hA (fun j t v h1 h2 => hval j t v (by simp at h1) (by simpa using h2)) (fun ws hws => ?_) (ve hL)
  match ws, hws with
  | [], _ => exact kn_c
theorem known_row : Rows.TenderKnownSaid :=
  OpenClaim.holds_of_wide 4 Tryd.f4 rfl rfl rfl rfl rfl rfl rfl ⟨rfl, rfl, rfl, rfl, rfl⟩ rfl rfl rfl rfl rfl (by kernel_rfl) Tryd.func4 (by kernel_rfl)
    (of_decide_eq_true (by kernel_rfl)) (by unfold Func.isWrapper; first | (rw [if_pos (by decide +kernel)]; kernel_rfl) | (rw [if_neg (by decide +kernel)]; exact ⟨rfl, rfl⟩))
    (fun os started H enc _ => known_lifted os started H enc)
set_option maxRecDepth 100000 in
theorem known_holds : Rows.TenderKnownCardSaid :=
  Claim7.holds_tied_plain_at .later [] [.data, .data] true (true, "c7c357bce1b8f70ba5b20ba557d8ad084a7f2112b77dc4cb2ca3e0e9b67ef2fb") false
    known_row (fun _ h => by cases h) (by kernel_rfl) (fun _ h => by cases h) tenderKnown_row_tie rfl ⟨rfl, rfl⟩ (by kernel_rfl) rfl
    (fun f fn hf hfn => by
      obtain rfl : f = 4 := Option.some.inj ((show Tryd.prog.funcNamed "nore/norelaw09.TenderKnown" = some 4 by kernel_rfl).symm.trans hf) |>.symm
      obtain rfl : fn = Tryd.f4 := (Option.some.inj (Tryd.func4.symm.trans hfn)).symm
      exact ⟨by kernel_rfl, fun j t ht => by
        rw [Tryd.params4] at ht
        simp at ht⟩)
    (by kernel_rfl)
end Go.Proofs.YtpeogffeoehboaaDoor
