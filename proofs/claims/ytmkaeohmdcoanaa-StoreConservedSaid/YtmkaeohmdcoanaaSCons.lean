/-
  The statement StoreConserved: what there was at first, and what was brought, less what was used, is what there is at the end; more at first, or less use, never leaves less. No condition.
-/
import Derived.Test.YtmkaeohmdcoanaaK3
import Derived.Test.YtmkaeohmdcoanaaK2
namespace Go.Proofs.Ytmkaeohmdcoanaa
open Go Go.RM Go.ChangeShapes Go.WideShapes Go.ChangeAt Go.RowKit

set_option maxRecDepth 100000 in
theorem conserved_lifted (os : Os) (started : os.Started) (H : Type) (enc : TypeId × Value → H) :
    ReturnsInHanded {} Try.checked os 16 .any (Rows.storeConservedSpec.pre6 enc Try.prog Try.f16 Rows.storeConservedRow.domain false) (Rows.storeConservedSpec.post enc Try.prog Try.f16 false true false false) := by
  refine returnsInHanded_of_change (C := Try.checked) try_own started (by kernel_rfl) Try.func16
    (ChangeSpec.witness6 (enc := enc) (C := Try.checked) false ⟨#[], #[.agg #[.slice none 0 0, .slice none 0 0, .slice none 0 0], .agg #[.int .u8 0, .int .u16 0, .int .u16 0, .int .u16 0, .slice none 0 0], .agg #[.int .u16 0, .int .u16 0, .int .u16 0, .int .u16 0]], []⟩ 8 (by kernel_rfl) (by kernel_rfl) (by kernel_rfl) (by kernel_rfl)) ?_
  intro W base args ds gs before hval hW hcnd _
  refine law_post (P := Try.prog) try_laid (tb := 4) (by rw [Try.params16]; kernel_rfl) rfl Try.underlying4 rfl (fun ds h => by rw [Try.params16] at h; match ds, h with | [_, _, _], _ => rfl) hW ?_
  obtain ⟨p, q, hA, _⟩ := hW
  refine pure_calls (T := TT) (one := true) tt_ok tt_mixed xs_TB rfl (d := 40) (ss := [shStores, shPast, .arr 4 sh16]) (by rw [Try.params16]; kernel_rfl) hA (fun j t v h1 h2 => hval j t v (by simpa using h1) (by simpa using h2)) fun ws hws => ?_
  match ws, hws with
  | [_, _, _], ⟨⟨_, h1, rfl⟩, ⟨_, h2, rfl⟩, ⟨_, h3, rfl⟩, _⟩ =>
    obtain ⟨s, hs, rfl⟩ := tvStores h1
    obtain ⟨kd, a, b, c, taken, ⟨hk, ha, hb, hc⟩, _, rfl⟩ := tvPast h2
    obtain ⟨y0, y1, y2, y3, ⟨q0, q1, q2, q3⟩, rfl⟩ := tvA4 h3
    exact conserved_c s hs kd a b c taken y0 y1 y2 y3 hk ha hb hc q0 q1 q2 q3

theorem conserved_holds : Rows.StoreConservedSaid :=
  OpenClaim.holds_of_wide 16 Try.f16 rfl rfl rfl rfl rfl rfl rfl ⟨rfl, rfl, rfl, rfl, rfl⟩ rfl rfl rfl rfl rfl (by kernel_rfl) Try.func16 (by kernel_rfl)
    (of_decide_eq_true (by kernel_rfl)) (by unfold Func.isWrapper; first | (rw [if_pos (by decide +kernel)]; kernel_rfl) | (rw [if_neg (by decide +kernel)]; exact ⟨rfl, rfl⟩))
    (fun os started H enc _ => conserved_lifted os started H enc)
end Go.Proofs.Ytmkaeohmdcoanaa
