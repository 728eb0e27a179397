/-
  The statement AirKnown: the examples of the document. No condition.
-/
import Derived.Test.YtichbhmnhkegiaaGreatVK13
import Derived.Test.YtichbhmnhkegiaaGreatVK14
namespace Go.Proofs.YtichbhmnhkegiaaGreat
open Go Go.RM Go.ChangeShapes Go.WideShapes Go.ChangeAt Go.RowKit
set_option maxRecDepth 100000 in
theorem known_lifted (os : Os) (started : os.Started) (H : Type) (enc : TypeId × Value → H) :
    ReturnsInHanded {} Tryz.checked os 7 .any (Rows.airKnownSpec.pre6 enc Tryz.prog Tryz.f7 Rows.airKnownRow.domain false) (Rows.airKnownSpec.post enc Tryz.prog Tryz.f7 false true false false) := by
  refine returnsInHanded_of_change (C := Tryz.checked) D3 started (by kernel_rfl) Tryz.func7
    (ChangeSpec.witness6 (enc := enc) (C := Tryz.checked) false ⟨#[], #[], []⟩ 8 (by kernel_rfl) (by kernel_rfl) (by kernel_rfl) (by kernel_rfl)) ?_
  intro W base args ds gs before hval hW hcnd _
  refine C7 (P := Tryz.prog) C8 (tb := 4) (by rw [Tryz.params7]; rfl) rfl Tryz.underlying4 rfl (fun ds h => by rw [Tryz.params7] at h; match ds, h with | [], _ => rfl) hW ?_
  obtain ⟨p, q, hA, _⟩ := hW
  refine zg (T := TT) (one := false) E9 BZ FC rfl (d := 40) (ss := []) (by rw [Tryz.params7]; rfl) hA (fun j t v h1 h2 => hval j t v (by simp at h1) (by simpa using h2)) fun ws hws => ?_
  match ws, hws with
  | [], _ => exact C6
theorem known_holds : Rows.AirKnownSaid :=
  OpenClaim.holds_of_wide 7 Tryz.f7 rfl rfl rfl rfl rfl rfl rfl ⟨rfl, rfl, rfl, rfl, rfl⟩ rfl rfl rfl rfl rfl (by kernel_rfl) Tryz.func7 (by kernel_rfl)
    (of_decide_eq_true (by kernel_rfl)) (by unfold Func.isWrapper; first | (rw [if_pos (by decide +kernel)]; kernel_rfl) | (rw [if_neg (by decide +kernel)]; exact ⟨rfl, rfl⟩))
    (fun os started H enc _ => known_lifted os started H enc)
end Go.Proofs.YtichbhmnhkegiaaGreat
