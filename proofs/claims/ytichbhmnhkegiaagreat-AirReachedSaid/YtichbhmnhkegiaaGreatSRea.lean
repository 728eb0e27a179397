/-
  The statement AirReached: where Could says AiMay a further report from there, Yes or not, leaves a truth; where it says AiMust, or AiCannot, the other report leaves none. No condition.
-/
import Derived.Test.YtichbhmnhkegiaaGreatX2
import Derived.Test.YtichbhmnhkegiaaGreatK21
import Derived.Test.YtichbhmnhkegiaaGreatX5
namespace Go.Proofs.YtichbhmnhkegiaaGreat
open Go Go.RM Go.ChangeShapes Go.WideShapes Go.ChangeAt Go.RowKit
set_option maxRecDepth 100000 in
theorem reached_lifted (os : Os) (started : os.Started) (H : Type) (enc : TypeId × Value → H) :
    ReturnsInHanded {} Tryz.checked os 9 .any (Rows.airReachedSpec.pre6 enc Tryz.prog Tryz.f9 Rows.airReachedRow.domain false) (Rows.airReachedSpec.post enc Tryz.prog Tryz.f9 false true false false) := by
  refine returnsInHanded_of_change (C := Tryz.checked) nL started (by kernel_rfl) Tryz.func9
    (ChangeSpec.witness6 (enc := enc) (C := Tryz.checked) false ⟨#[], #[.agg #[.slice none 0 0, .int .i64 0, .int .i64 0, .int .i64 0, .int .i64 0], .agg #[.int .i64 0, .int .i64 0, .int .i64 0, .int .i64 0, .int .i64 0, .slice none 0 0], .agg #[.int .u16 0, .int .u16 0, .int .u16 0]], []⟩ 8 (by kernel_rfl) (by kernel_rfl) (by kernel_rfl) (by kernel_rfl)) ?_
  intro W base args ds gs before hval hW hcnd _
  refine kS (P := Tryz.prog) kT (tb := 4) (by rw [Tryz.params9]; kernel_rfl) rfl Tryz.underlying4 rfl (fun ds h => by rw [Tryz.params9] at h; match ds, h with | [_, _, _], _ => rfl) hW ?_
  obtain ⟨p, q, hA, _⟩ := hW
  refine gF (T := TT) (one := false) we kF w5 rfl (d := 40) (ss := [iT, II, .arr 3 C9]) (by rw [Tryz.params9]; kernel_rfl) hA (fun j t v h1 h2 => hval j t v (by simpa using h1) (by simpa using h2)) fun ws hws => ?_
  match ws, hws with
  | [_, _, _], ⟨⟨_, h1, rfl⟩, ⟨_, h2, rfl⟩, ⟨_, h3, rfl⟩, _⟩ =>
    obtain ⟨s, hs, rfl⟩ := jY h1
    obtain ⟨n, rs, hr, rfl⟩ := Lx h2
    obtain ⟨a, b, c, ⟨ha, hb, hc⟩, rfl⟩ := MK h3
    exact reacheds_c s hs n rs false hr a b c ha hb hc
theorem reached_holds : Rows.AirReachedSaid :=
  OpenClaim.holds_of_wide 9 Tryz.f9 rfl rfl rfl rfl rfl rfl rfl ⟨rfl, rfl, rfl, rfl, rfl⟩ rfl rfl rfl rfl rfl (by kernel_rfl) Tryz.func9 (by kernel_rfl)
    (of_decide_eq_true (by kernel_rfl)) (by unfold Func.isWrapper; first | (rw [if_pos (by decide +kernel)]; kernel_rfl) | (rw [if_neg (by decide +kernel)]; exact ⟨rfl, rfl⟩))
    (fun os started H enc _ => reached_lifted os started H enc)
end Go.Proofs.YtichbhmnhkegiaaGreat
