/-
  The statement StoreMornings: Check and Mornings return what the document says. No condition.
-/
import Derived.Test.YtmkaeohmdcoanaaK2
namespace Go.Proofs.Ytmkaeohmdcoanaa
open Go Go.RM Go.ChangeShapes Go.WideShapes Go.ChangeAt Go.RowKit

theorem args3 {ws : List AV} (h : ArgsTV [shStores, shTruth, .arr 2 shI] ws) : ∃ (s : Stores) (t : Truth) (a b : Int), s.Ok ∧ ws = [.ag (eStores s), .ag (eTruth t), .ag [I64 a, I64 b]] := by
  match ws, h with
  | [_, _, _], ⟨⟨_, h1, rfl⟩, ⟨_, h2, rfl⟩, ⟨_, h3, rfl⟩, _⟩ =>
    obtain ⟨s, hs, rfl⟩ := tvStores h1
    obtain ⟨t, rfl⟩ := tvTruth h2
    obtain ⟨els, hl, he, rfl⟩ := tvA h3
    match els, hl with
    | [x, y], _ =>
      obtain ⟨a, _, rfl⟩ := tvI (he x (by simp))
      obtain ⟨b, _, rfl⟩ := tvI (he y (by simp))
      exact ⟨s, t, a, b, hs, rfl⟩

set_option maxRecDepth 100000 in
theorem mornings_lifted (os : Os) (started : os.Started) (H : Type) (enc : TypeId × Value → H) :
    ReturnsInHanded {} Try.checked os 3 .any (Rows.storeMorningsSpec.pre6 enc Try.prog Try.f3 Rows.storeMorningsRow.domain false) (Rows.storeMorningsSpec.post enc Try.prog Try.f3 false true false false) := by
  refine returnsInHanded_of_change (C := Try.checked) try_own started (by kernel_rfl) Try.func3
    (ChangeSpec.witness6 (enc := enc) (C := Try.checked) false ⟨#[], #[.agg #[.slice none 0 0, .slice none 0 0, .slice none 0 0], .agg #[.int .i64 0, .int .i64 0, .int .i64 0], .agg #[.int .i64 0, .int .i64 0]], []⟩ 8 (by kernel_rfl) (by kernel_rfl) (by kernel_rfl) (by kernel_rfl)) ?_
  intro W base args ds gs before hval hW hcnd _
  refine law_post (P := Try.prog) try_laid (tb := 4) (by rw [Try.params3]; kernel_rfl) rfl Try.underlying4 rfl (fun ds h => by rw [Try.params3] at h; match ds, h with | [_, _, _], _ => rfl) hW ?_
  obtain ⟨p, q, hA, _⟩ := hW
  refine pure_calls (T := TT) (one := true) tt_ok tt_mixed xs_TB rfl (d := 40) (ss := [shStores, shTruth, .arr 2 shI]) (by rw [Try.params3]; kernel_rfl) hA (fun j t v h1 h2 => hval j t v (by simpa using h1) (by simpa using h2)) fun ws has => ?_
  obtain ⟨s, t, a, b, hs, rfl⟩ := args3 has
  exact (law3_c s hs t a b)

theorem mornings_holds : Rows.StoreMorningsSaid :=
  OpenClaim.holds_of_wide 3 Try.f3 rfl rfl rfl rfl rfl rfl rfl ⟨rfl, rfl, rfl, rfl, rfl⟩ rfl rfl rfl rfl rfl (by kernel_rfl) Try.func3 (by kernel_rfl)
    (of_decide_eq_true (by kernel_rfl)) (by unfold Func.isWrapper; first | (rw [if_pos (by decide +kernel)]; kernel_rfl) | (rw [if_neg (by decide +kernel)]; exact ⟨rfl, rfl⟩))
    (fun os started H enc _ => mornings_lifted os started H enc)
end Go.Proofs.Ytmkaeohmdcoanaa
