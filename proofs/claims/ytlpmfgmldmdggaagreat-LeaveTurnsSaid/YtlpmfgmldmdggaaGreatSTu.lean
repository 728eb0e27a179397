/-
  The statement LeaveTurns. No condition.
-/
import Derived.Test.YtlpmfgmldmdggaaGreatK23
open Go Go.RM
namespace Go.Proofs.YtlpmfgmldmdggaaGreat
open Go.ChangeShapes Go.WideShapes Go.ChangeAt Go.RowKit
set_option maxRecDepth 100000 in
theorem turns_lifted (os : Os) (started : os.Started) (H : Type) (enc : TypeId × Value → H) :
    ReturnsInHanded {} Tryz.checked os 6 .any (Rows.leaveTurnsSpec.pre6 enc Tryz.prog Tryz.f6 Rows.leaveTurnsRow.domain false) (Rows.leaveTurnsSpec.post enc Tryz.prog Tryz.f6 false true false false) := by
  refine returnsInHanded_of_change (C := Tryz.checked) HW started (by kernel_rfl) Tryz.func6
    (ChangeSpec.witness6 (enc := enc) (C := Tryz.checked) false ⟨#[], #[.agg #[.slice none 0 0, .slice none 0 0, .int .i64 0], .agg #[.int .i64 0, .int .i64 0, .int .i64 0]], []⟩ 8 (by kernel_rfl) (by kernel_rfl) (by kernel_rfl) (by kernel_rfl)) ?_
  intro W base args ds gs before hval hW hcnd _;refine FB (P := Tryz.prog) FC (tb := 4) (by rw [Tryz.params6]; kernel_rfl) rfl Tryz.underlying4 rfl (fun ds h => by rw [Tryz.params6] at h; match ds, h with | [_, _], _ => rfl) hW ?_;obtain ⟨p, q, hA, _⟩ := hW;refine CD (T := TT) (one := false) qZ hH LQ rfl (d := 40) (ss := [Gt, JS]) (by rw [Tryz.params6]; kernel_rfl) hA (fun j t v h1 h2 => hval j t v (by simpa using h1) (by simpa using h2)) fun ws hws => ?_
  match ws, hws with
  | [_, _], ⟨⟨_, h1, rfl⟩, ⟨_, h2, rfl⟩, _⟩ =>obtain ⟨c, hc, rfl⟩ := Kk h1;obtain ⟨pl, rfl⟩ := LW h2;exact HJ c hc pl
theorem turns_holds : Rows.LeaveTurnsSaid :=
  OpenClaim.holds_of_wide 6 Tryz.f6 rfl rfl rfl rfl rfl rfl rfl ⟨rfl, rfl, rfl, rfl, rfl⟩ rfl rfl rfl rfl rfl (by kernel_rfl) Tryz.func6 (by kernel_rfl)
    (of_decide_eq_true (by kernel_rfl)) (by unfold Func.isWrapper; first | (rw [if_pos (by decide +kernel)]; kernel_rfl) | (rw [if_neg (by decide +kernel)]; exact ⟨rfl, rfl⟩))
    (fun os started H enc _ => turns_lifted os started H enc)
