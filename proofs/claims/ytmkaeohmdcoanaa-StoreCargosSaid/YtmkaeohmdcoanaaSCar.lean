/-
  The statement StoreCargos: two ways to the least further cargo, and to the last day from which on a kind has to be rationed, agree. No condition.
-/
import Derived.Test.YtmkaeohmdcoanaaK2
namespace Go.Proofs.Ytmkaeohmdcoanaa
open Go Go.RM Go.ChangeShapes Go.WideShapes Go.ChangeAt Go.RowKit

set_option maxRecDepth 100000 in
theorem cargos_lifted (os : Os) (started : os.Started) (H : Type) (enc : TypeId × Value → H) :
    ReturnsInHanded {} Try.checked os 5 .any (Rows.storeCargosSpec.pre6 enc Try.prog Try.f5 Rows.storeCargosRow.domain false) (Rows.storeCargosSpec.post enc Try.prog Try.f5 false true false false) := by
  refine returnsInHanded_of_change (C := Try.checked) try_own started (by kernel_rfl) Try.func5
    (ChangeSpec.witness6 (enc := enc) (C := Try.checked) false ⟨#[], #[.agg #[.slice none 0 0, .slice none 0 0, .slice none 0 0], .slice none 0 0, .agg #[.int .i64 0, .int .i64 0]], []⟩ 8 (by kernel_rfl) (by kernel_rfl) (by kernel_rfl) (by kernel_rfl)) ?_
  intro W base args ds gs before hval hW hcnd _
  refine law_post (P := Try.prog) try_laid (tb := 4) (by rw [Try.params5]; kernel_rfl) rfl Try.underlying4 rfl (fun ds h => by rw [Try.params5] at h; match ds, h with | [_, _, _], _ => rfl) hW ?_
  obtain ⟨p, q, hA, _⟩ := hW
  refine pure_calls (T := TT) (one := true) tt_ok tt_mixed xs_TB rfl (d := 40) (ss := [shStores, .slice shCount, .arr 2 shI]) (by rw [Try.params5]; kernel_rfl) hA (fun j t v h1 h2 => hval j t v (by simpa using h1) (by simpa using h2)) fun ws hws => ?_
  match ws, hws with
  | [_, _, _], ⟨⟨_, h1, rfl⟩, ⟨_, h2, rfl⟩, ⟨_, h3, rfl⟩, _⟩ =>
    obtain ⟨s, hs, rfl⟩ := tvStores h1
    obtain ⟨l, hl, rfl⟩ := tvCounts h2
    obtain ⟨els, hn, he, rfl⟩ := tvA h3
    match els, hn with
    | [x, y], _ =>
      obtain ⟨a, _, rfl⟩ := tvI (he x (by simp))
      obtain ⟨b, _, rfl⟩ := tvI (he y (by simp))
      exact cargos_c s hs l hl a b

theorem cargos_holds : Rows.StoreCargosSaid :=
  OpenClaim.holds_of_wide 5 Try.f5 rfl rfl rfl rfl rfl rfl rfl ⟨rfl, rfl, rfl, rfl, rfl⟩ rfl rfl rfl rfl rfl (by kernel_rfl) Try.func5 (by kernel_rfl)
    (of_decide_eq_true (by kernel_rfl)) (by unfold Func.isWrapper; first | (rw [if_pos (by decide +kernel)]; kernel_rfl) | (rw [if_neg (by decide +kernel)]; exact ⟨rfl, rfl⟩))
    (fun os started H enc _ => cargos_lifted os started H enc)
end Go.Proofs.Ytmkaeohmdcoanaa
