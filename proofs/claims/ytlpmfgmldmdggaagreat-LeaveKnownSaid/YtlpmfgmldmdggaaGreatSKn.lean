/-
  The statement LeaveKnown: the examples of the document. No condition.
-/
import Derived.Test.YtlpmfgmldmdggaaGreatK1
import Derived.Test.YtlpmfgmldmdggaaGreatX1
import Derived.Test.YtlpmfgmldmdggaaGreatA2
open Go Go.RM
namespace Go.Proofs.YtlpmfgmldmdggaaGreat
open Go.ChangeShapes Go.WideShapes Go.ChangeAt Go.RowKit
theorem kn_c : hJ TT [yS] false (.fn 7 [] []) [] (.fl (.bool true)) := hJ.closed (fun _ => rfl) rfl
set_option maxRecDepth 100000 in
theorem known_lifted (os : Os) (started : os.Started) (H : Type) (enc : TypeId × Value → H) :
    ReturnsInHanded {} Tryz.checked os 7 .any (Rows.leaveKnownSpec.pre6 enc Tryz.prog Tryz.f7 Rows.leaveKnownRow.domain false) (Rows.leaveKnownSpec.post enc Tryz.prog Tryz.f7 false true false false) := by
  refine returnsInHanded_of_change (C := Tryz.checked) yf started (by kernel_rfl) Tryz.func7
    (ChangeSpec.witness6 (enc := enc) (C := Tryz.checked) false ⟨#[], #[], []⟩ 8 (by kernel_rfl) (by kernel_rfl) (by kernel_rfl) (by kernel_rfl)) ?_
  intro W base args ds gs before hval hW hcnd _
  refine xw (P := Tryz.prog) xx (tb := 4) (by rw [Tryz.params7]; rfl) rfl Tryz.underlying4 rfl (fun ds h => by rw [Tryz.params7] at h; match ds, h with | [], _ => rfl) hW ?_
  obtain ⟨p, q, hA, _⟩ := hW
  refine vr (T := TT) (tab := [yS]) (one := false) gA b7 (fun e he => by rw [List.mem_singleton.1 he]; exact zQ) rfl (d := 40) (ss := []) (by rw [Tryz.params7]; rfl) hA (fun j t v h1 h2 => hval j t v (by simp at h1) (by simpa using h2)) fun ws hws => ?_
  match ws, hws with
  | [], _ => exact kn_c
theorem known_holds : Rows.LeaveKnownSaid :=
  OpenClaim.holds_of_wide 7 Tryz.f7 rfl rfl rfl rfl rfl rfl rfl ⟨rfl, rfl, rfl, rfl, rfl⟩ rfl rfl rfl rfl rfl (by kernel_rfl) Tryz.func7 (by kernel_rfl)
    (of_decide_eq_true (by kernel_rfl)) (by unfold Func.isWrapper; first | (rw [if_pos (by decide +kernel)]; kernel_rfl) | (rw [if_neg (by decide +kernel)]; exact ⟨rfl, rfl⟩))
    (fun os started H enc _ => known_lifted os started H enc)
end Go.Proofs.YtlpmfgmldmdggaaGreat
