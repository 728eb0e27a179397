/-
  The statement LeaveNext. No condition.
-/
import Derived.Test.YtlpmfgmldmdggaaGreatD1
import Derived.Test.YtlpmfgmldmdggaaGreatD6
open Go Go.RM
namespace Go.Proofs.YtlpmfgmldmdggaaGreat
open Go.ChangeShapes Go.WideShapes Go.ChangeAt Go.RowKit
set_option maxRecDepth 100000 in
theorem next_lifted (os : Os) (started : os.Started) (H : Type) (enc : TypeId × Value → H) :
    ReturnsInHanded {} Tryz.checked os 12 .any (Rows.leaveNextSpec.pre6 enc Tryz.prog Tryz.f12 Rows.leaveNextRow.domain false) (Rows.leaveNextSpec.post enc Tryz.prog Tryz.f12 false true false false) := by
  refine returnsInHanded_of_change (C := Tryz.checked) Gd started (by kernel_rfl) Tryz.func12
    (ChangeSpec.witness6 (enc := enc) (C := Tryz.checked) false ⟨#[], #[.agg #[.slice none 0 0, .slice none 0 0, .int .i64 0], .slice none 0 0, .int .u16 0], []⟩ 8 (by kernel_rfl) (by kernel_rfl) (by kernel_rfl) (by kernel_rfl)) ?_
  intro W base args ds gs before hval hW hcnd _
  refine EE (P := Tryz.prog) EF (tb := 4) (by rw [Tryz.params12]; kernel_rfl) rfl Tryz.underlying4 rfl (fun ds h => by rw [Tryz.params12] at h; match ds, h with | [_, _, _], _ => rfl) hW ?_
  obtain ⟨p, q, hA, _⟩ := hW
  refine Cb (T := TT) (one := false) qZ ir Js rfl (d := 40) (ss := [F2, (.slice Iz), Jp]) (by rw [Tryz.params12]; kernel_rfl) hA (fun j t v h1 h2 => hval j t v (by simpa using h1) (by simpa using h2)) fun ws hws => ?_
  match ws, hws with
  | [_, _, _], ⟨⟨_, h1, rfl⟩, ⟨_, h2, rfl⟩, ⟨_, h3, rfl⟩, _⟩ =>
    obtain ⟨c, hc, rfl⟩ := IC h1
    obtain ⟨l, hl, hd, rfl⟩ := Jr h2
    obtain ⟨n, hn, rfl⟩ := JO h3
    exact nextL_c c hc l false hl hd n hn
theorem next_holds : Rows.LeaveNextSaid :=
  OpenClaim.holds_of_wide 12 Tryz.f12 rfl rfl rfl rfl rfl rfl rfl ⟨rfl, rfl, rfl, rfl, rfl⟩ rfl rfl rfl rfl rfl (by kernel_rfl) Tryz.func12 (by kernel_rfl)
    (of_decide_eq_true (by kernel_rfl)) (by unfold Func.isWrapper; first | (rw [if_pos (by decide +kernel)]; kernel_rfl) | (rw [if_neg (by decide +kernel)]; exact ⟨rfl, rfl⟩))
    (fun os started H enc _ => next_lifted os started H enc)
end Go.Proofs.YtlpmfgmldmdggaaGreat
