/-
  The statement LeaveMore. No condition.
-/
import Derived.Test.YtlpmfgmldmdggaaGreatK24
open Go Go.RM
namespace Go.Proofs.YtlpmfgmldmdggaaGreat
open Go.ChangeShapes Go.WideShapes Go.ChangeAt Go.RowKit
set_option maxRecDepth 100000 in
theorem more_lifted (os : Os) (started : os.Started) (H : Type) (enc : TypeId × Value → H) :
    ReturnsInHanded {} Tryz.checked os 15 .any (Rows.leaveMoreSpec.pre6 enc Tryz.prog Tryz.f15 Rows.leaveMoreRow.domain false) (Rows.leaveMoreSpec.post enc Tryz.prog Tryz.f15 false true false false) := by
  refine returnsInHanded_of_change (C := Tryz.checked) Dz started (by kernel_rfl) Tryz.func15
    (ChangeSpec.witness6 (enc := enc) (C := Tryz.checked) false ⟨#[], #[.agg #[.slice none 0 0, .slice none 0 0, .int .i64 0], .agg #[.int .i64 0, .int .i64 0, .int .i64 0], .int .u16 0], []⟩ 8 (by kernel_rfl) (by kernel_rfl) (by kernel_rfl) (by kernel_rfl)) ?_
  intro W base args ds gs before hval hW hcnd _;refine Bd (P := Tryz.prog) Be (tb := 4) (by rw [Tryz.params15]; kernel_rfl) rfl Tryz.underlying4 rfl (fun ds h => by rw [Tryz.params15] at h; match ds, h with | [_, _, _], _ => rfl) hW ?_;obtain ⟨p, q, hA, _⟩ := hW;refine wA (T := TT) (one := false) pP gi Kk rfl (d := 40) (ss := [CZ, G5, MC]) (by rw [Tryz.params15]; kernel_rfl) hA (fun j t v h1 h2 => hval j t v (by simpa using h1) (by simpa using h2)) fun ws hws => ?_
  match ws, hws with
  | [_, _, _], ⟨⟨_, h1, rfl⟩, ⟨_, h2, rfl⟩, ⟨_, h3, rfl⟩, _⟩ =>obtain ⟨c, hc, rfl⟩ := GY h1;obtain ⟨pl, rfl⟩ := Kn h2;obtain ⟨x, hx, rfl⟩ := Nq h3;exact J2 c hc pl x hx
theorem more_holds : Rows.LeaveMoreSaid :=
  OpenClaim.holds_of_wide 15 Tryz.f15 rfl rfl rfl rfl rfl rfl rfl ⟨rfl, rfl, rfl, rfl, rfl⟩ rfl rfl rfl rfl rfl (by kernel_rfl) Tryz.func15 (by kernel_rfl)
    (of_decide_eq_true (by kernel_rfl)) (by unfold Func.isWrapper; first | (rw [if_pos (by decide +kernel)]; kernel_rfl) | (rw [if_neg (by decide +kernel)]; exact ⟨rfl, rfl⟩))
    (fun os started H enc _ => more_lifted os started H enc)
