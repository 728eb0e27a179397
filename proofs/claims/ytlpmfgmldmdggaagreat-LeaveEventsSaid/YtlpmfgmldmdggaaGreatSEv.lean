/-
  The statement LeaveEvents. No condition.
-/
import Derived.Test.YtlpmfgmldmdggaaGreatK11
import Derived.Test.YtlpmfgmldmdggaaGreatE2
import Derived.Test.YtlpmfgmldmdggaaGreatE3
open Go Go.RM
namespace Go.Proofs.YtlpmfgmldmdggaaGreat
open Go.ChangeShapes Go.WideShapes Go.ChangeAt Go.RowKit
set_option maxRecDepth 100000 in
theorem events_lifted (os : Os) (started : os.Started) (H : Type) (enc : TypeId × Value → H) :
    ReturnsInHanded {} Tryz.checked os 11 .any (Rows.leaveEventsSpec.pre6 enc Tryz.prog Tryz.f11 Rows.leaveEventsRow.domain false) (Rows.leaveEventsSpec.post enc Tryz.prog Tryz.f11 false true false false) := by
  refine returnsInHanded_of_change (C := Tryz.checked) HK started (by kernel_rfl) Tryz.func11
    (ChangeSpec.witness6 (enc := enc) (C := Tryz.checked) false ⟨#[], #[.agg #[.slice none 0 0, .slice none 0 0, .int .i64 0], .slice none 0 0, .agg #[.int .u8 0, .int .u16 0, .int .u8 0, .int .u8 0]], []⟩ 8 (by kernel_rfl) (by kernel_rfl) (by kernel_rfl) (by kernel_rfl)) ?_
  intro W base args ds gs before hval hW hcnd _
  refine FZ (P := Tryz.prog) F0 (tb := 4) (by rw [Tryz.params11]; kernel_rfl) rfl Tryz.underlying4 rfl (fun ds h => by rw [Tryz.params11] at h; match ds, h with | [_, _, _], _ => rfl) hW ?_
  obtain ⟨p, q, hA, _⟩ := hW
  refine C8 (T := TT) (one := false) rU iD K1 rfl (d := 40) (ss := [Hg, (.slice J3), shTn]) (by rw [Tryz.params11]; kernel_rfl) hA (fun j t v h1 h2 => hval j t v (by simpa using h1) (by simpa using h2)) fun ws hws => ?_
  match ws, hws with
  | [_, _, _], ⟨⟨_, h1, rfl⟩, ⟨_, h2, rfl⟩, ⟨_, h3, rfl⟩, _⟩ =>
    obtain ⟨c, hc, rfl⟩ := J6 h1
    obtain ⟨l, hl, hd, rfl⟩ := K0 h2
    obtain ⟨q0, q1, q2, q3, ⟨g0, g1, g2, g3⟩, rfl⟩ := tvTn h3
    exact eventsL_c c hc l false hl hd q0 q1 q2 q3 g0 g1 g2 g3
theorem events_holds : Rows.LeaveEventsSaid :=
  OpenClaim.holds_of_wide 11 Tryz.f11 rfl rfl rfl rfl rfl rfl rfl ⟨rfl, rfl, rfl, rfl, rfl⟩ rfl rfl rfl rfl rfl (by kernel_rfl) Tryz.func11 (by kernel_rfl)
    (of_decide_eq_true (by kernel_rfl)) (by unfold Func.isWrapper; first | (rw [if_pos (by decide +kernel)]; kernel_rfl) | (rw [if_neg (by decide +kernel)]; exact ⟨rfl, rfl⟩))
    (fun os started H enc _ => events_lifted os started H enc)
end Go.Proofs.YtlpmfgmldmdggaaGreat
