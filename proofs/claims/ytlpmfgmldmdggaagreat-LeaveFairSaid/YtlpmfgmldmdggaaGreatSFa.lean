/-
  The statement LeaveFair. No condition.
-/
import Derived.Test.YtlpmfgmldmdggaaGreatK20
open Go Go.RM
namespace Go.Proofs.YtlpmfgmldmdggaaGreat
open Go.ChangeShapes Go.WideShapes Go.ChangeAt Go.RowKit
set_option maxRecDepth 100000 in
theorem fair_lifted (os : Os) (started : os.Started) (H : Type) (enc : TypeId × Value → H) :
    ReturnsInHanded {} Tryz.checked os 13 .any (Rows.leaveFairSpec.pre6 enc Tryz.prog Tryz.f13 Rows.leaveFairRow.domain false) (Rows.leaveFairSpec.post enc Tryz.prog Tryz.f13 false true false false) := by
  refine returnsInHanded_of_change (C := Tryz.checked) HA started (by kernel_rfl) Tryz.func13
    (ChangeSpec.witness6 (enc := enc) (C := Tryz.checked) false ⟨#[], #[.agg #[.slice none 0 0, .slice none 0 0, .int .i64 0], .agg #[.int .i64 0, .int .i64 0, .int .i64 0], .slice none 0 0], []⟩ 8 (by kernel_rfl) (by kernel_rfl) (by kernel_rfl) (by kernel_rfl)) ?_
  intro W base args ds gs before hval hW hcnd _;refine Fj (P := Tryz.prog) Fk (tb := 4) (by rw [Tryz.params13]; kernel_rfl) rfl Tryz.underlying4 rfl (fun ds h => by rw [Tryz.params13] at h; match ds, h with | [_, _, _], _ => rfl) hW ?_;obtain ⟨p, q, hA, _⟩ := hW;refine Cs (T := TT) (one := false) qH gU Lc rfl (d := 40) (ss := [Gg, Jr, .slice Mc]) (by rw [Tryz.params13]; kernel_rfl) hA (fun j t v h1 h2 => hval j t v (by simpa using h1) (by simpa using h2)) fun ws hws => ?_
  match ws, hws with
  | [_, _, _], ⟨⟨_, h1, rfl⟩, ⟨_, h2, rfl⟩, ⟨_, h3, rfl⟩, _⟩ =>obtain ⟨c, hc, rfl⟩ := JQ h1;obtain ⟨pl, rfl⟩ := Lh h2;obtain ⟨x, hx, rfl⟩ := Md h3;exact I9 c hc pl x false hx
theorem fair_holds : Rows.LeaveFairSaid :=
  OpenClaim.holds_of_wide 13 Tryz.f13 rfl rfl rfl rfl rfl rfl rfl ⟨rfl, rfl, rfl, rfl, rfl⟩ rfl rfl rfl rfl rfl (by kernel_rfl) Tryz.func13 (by kernel_rfl)
    (of_decide_eq_true (by kernel_rfl)) (by unfold Func.isWrapper; first | (rw [if_pos (by decide +kernel)]; kernel_rfl) | (rw [if_neg (by decide +kernel)]; exact ⟨rfl, rfl⟩))
    (fun os started H enc _ => fair_lifted os started H enc)
