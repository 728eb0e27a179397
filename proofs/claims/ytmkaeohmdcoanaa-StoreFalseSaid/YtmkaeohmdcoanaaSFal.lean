/-
  The statement StoreFalse: if all counts are true, but for some that were changed, no more counts are wrong than were changed. No condition.
-/
import Derived.Test.YtmkaeohmdcoanaaK2
namespace Go.Proofs.Ytmkaeohmdcoanaa
open Go Go.RM Go.ChangeShapes Go.WideShapes Go.ChangeAt Go.RowKit

set_option maxRecDepth 100000 in
theorem false_lifted (os : Os) (started : os.Started) (H : Type) (enc : TypeId × Value → H) :
    ReturnsInHanded {} Try.checked os 14 .any (Rows.storeFalseSpec.pre6 enc Try.prog Try.f14 Rows.storeFalseRow.domain false) (Rows.storeFalseSpec.post enc Try.prog Try.f14 false true false false) := by
  refine returnsInHanded_of_change (C := Try.checked) try_own started (by kernel_rfl) Try.func14
    (ChangeSpec.witness6 (enc := enc) (C := Try.checked) false ⟨#[], #[.agg #[.slice none 0 0, .slice none 0 0, .slice none 0 0], .agg #[.int .u8 0, .int .u16 0, .int .u16 0, .int .u16 0, .slice none 0 0], .agg #[.int .u8 0, .int .u8 0]], []⟩ 8 (by kernel_rfl) (by kernel_rfl) (by kernel_rfl) (by kernel_rfl)) ?_
  intro W base args ds gs before hval hW hcnd _
  refine law_post (P := Try.prog) try_laid (tb := 4) (by rw [Try.params14]; kernel_rfl) rfl Try.underlying4 rfl (fun ds h => by rw [Try.params14] at h; match ds, h with | [_, _, _], _ => rfl) hW ?_
  obtain ⟨p, q, hA, _⟩ := hW
  refine pure_calls (T := TT) (one := false) tt_ok tt_mixed xs_TB rfl (d := 40) (ss := [shStores, shPast, .arr 2 sh8]) (by rw [Try.params14]; kernel_rfl) hA (fun j t v h1 h2 => hval j t v (by simpa using h1) (by simpa using h2)) fun ws hws => ?_
  match ws, hws with
  | [_, _, _], ⟨⟨_, h1, rfl⟩, ⟨_, h2, rfl⟩, ⟨_, h3, rfl⟩, _⟩ =>
    obtain ⟨s, hs, rfl⟩ := tvStores h1
    obtain ⟨kd, a, b, c, taken, ⟨hk, ha, hb, hc⟩, ⟨hl, ht⟩, rfl⟩ := tvPast h2
    obtain ⟨y, v, ⟨hy, hv⟩, rfl⟩ := tvB2 h3
    obtain ⟨x, hx, rfl⟩ := tvAll (e := e8) (P := fun n => 0 ≤ n ∧ n ≤ 255) fun el hel => by obtain ⟨n, h, e⟩ := tv8 (ht el hel); exact ⟨n, h, e⟩
    obtain ⟨Y, rfl⟩ : ∃ m : Nat, y = (m : Int) := ⟨y.toNat, by omega⟩
    exact false_c s hs kd a b c x Y v hk ha hb hc hx (by simpa using hl) hv

theorem false_holds : Rows.StoreFalseSaid :=
  OpenClaim.holds_of_wide 14 Try.f14 rfl rfl rfl rfl rfl rfl rfl ⟨rfl, rfl, rfl, rfl, rfl⟩ rfl rfl rfl rfl rfl (by kernel_rfl) Try.func14 (by kernel_rfl)
    (of_decide_eq_true (by kernel_rfl)) (by unfold Func.isWrapper; first | (rw [if_pos (by decide +kernel)]; kernel_rfl) | (rw [if_neg (by decide +kernel)]; exact ⟨rfl, rfl⟩))
    (fun os started H enc _ => false_lifted os started H enc)
end Go.Proofs.Ytmkaeohmdcoanaa
