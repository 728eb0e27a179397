/-
  The statement StoreKnown: the examples of the document. No condition.
-/
import Derived.Test.YtmkaeohmdcoanaaXK
import Derived.Test.YtmkaeohmdcoanaaA11
import Derived.Test.YtmkaeohmdcoanaaRows
namespace Go.Proofs.Ytmkaeohmdcoanaa
open Go Go.RM Go.ChangeShapes Go.WideShapes Go.ChangeAt Go.RowKit

theorem try_own : ownKnob Try.prog.godebug = none := by kernel_rfl
theorem try_laid : laidOutB Try.prog = true := by kernel_rfl

theorem known_walk (w : World) : Calls Try.prog 7 #[] w fun e w' => e = .returned (.bool true) ∧ Below w.heap.size w w' := xe_closed (T := TT) rfl xs_known w

set_option maxRecDepth 100000 in
theorem known_lifted (os : Os) (started : os.Started) (H : Type) (enc : TypeId × Value → H) :
    ReturnsInHanded {} Try.checked os 7 .any (Rows.storeKnownSpec.pre6 enc Try.prog Try.f7 Rows.storeKnownRow.domain false) (Rows.storeKnownSpec.post enc Try.prog Try.f7 false true false false) := by
  refine returnsInHanded_of_change (C := Try.checked) try_own started (by kernel_rfl) Try.func7
    (ChangeSpec.witness6 (enc := enc) (C := Try.checked) false ⟨#[], #[], []⟩ 8 (by kernel_rfl) (by kernel_rfl) (by kernel_rfl) (by kernel_rfl)) ?_
  intro W base args ds gs before hval hW hcnd _
  have hargs : args = #[] := by
    obtain ⟨p, q, hA, _⟩ := hW
    have hA : DataW.TrodAll enc Try.prog W 0 (fun _ => true) true Try.f7.params.toList args.toList ds p := hA
    rw [Try.params7] at hA
    rcases args with ⟨l⟩
    cases l with
    | nil => rfl
    | cons a l => simp [DataW.TrodAll] at hA
  subst hargs
  exact law_post (P := Try.prog) try_laid (tb := 4) (by rw [Try.params7]; rfl) rfl Try.underlying4 rfl (fun ds h => by rw [Try.params7] at h; match ds, h with | [], _ => rfl) hW (known_walk W)

theorem known_holds : Rows.StoreKnownSaid :=
  OpenClaim.holds_of_wide 7 Try.f7 rfl rfl rfl rfl rfl rfl rfl ⟨rfl, rfl, rfl, rfl, rfl⟩ rfl rfl rfl rfl rfl (by kernel_rfl) Try.func7 (by kernel_rfl)
    (of_decide_eq_true (by kernel_rfl)) (by unfold Func.isWrapper; first | (rw [if_pos (by decide +kernel)]; kernel_rfl) | (rw [if_neg (by decide +kernel)]; exact ⟨rfl, rfl⟩))
    (fun os started H enc _ => known_lifted os started H enc)
end Go.Proofs.Ytmkaeohmdcoanaa
