/-
  The statement AirTurned: if all places and the wind are turned clockwise by a quarter, all is the same. No condition.
-/
import Derived.Test.YtichbhmnhkegiaaGreatX3
import Derived.Test.YtichbhmnhkegiaaGreatK21
import Derived.Test.YtichbhmnhkegiaaGreatX5
namespace Go.Proofs.YtichbhmnhkegiaaGreat
open Go Go.RM Go.ChangeShapes Go.WideShapes Go.ChangeAt Go.RowKit
set_option maxRecDepth 100000 in
theorem turned_lifted (os : Os) (started : os.Started) (H : Type) (enc : TypeId × Value → H) :
    ReturnsInHanded {} Tryz.checked os 16 .any (Rows.airTurnedSpec.pre6 enc Tryz.prog Tryz.f16 Rows.airTurnedRow.domain false) (Rows.airTurnedSpec.post enc Tryz.prog Tryz.f16 false true false false) := by
  refine returnsInHanded_of_change (C := Tryz.checked) nL started (by kernel_rfl) Tryz.func16
    (ChangeSpec.witness6 (enc := enc) (C := Tryz.checked) false ⟨#[], #[.agg #[.slice none 0 0, .int .i64 0, .int .i64 0, .int .i64 0, .int .i64 0], .agg #[.int .i64 0, .int .i64 0, .int .i64 0, .int .i64 0, .int .i64 0, .slice none 0 0], .agg #[.int .u16 0, .int .u16 0]], []⟩ 8 (by kernel_rfl) (by kernel_rfl) (by kernel_rfl) (by kernel_rfl)) ?_
  intro W base args ds gs before hval hW hcnd _
  refine kS (P := Tryz.prog) kT (tb := 4) (by rw [Tryz.params16]; kernel_rfl) rfl Tryz.underlying4 rfl (fun ds h => by rw [Tryz.params16] at h; match ds, h with | [_, _, _], _ => rfl) hW ?_
  obtain ⟨p, q, hA, _⟩ := hW
  refine gF (T := TT) (one := false) we kF w5 rfl (d := 40) (ss := [iT, II, .arr 2 C9]) (by rw [Tryz.params16]; kernel_rfl) hA (fun j t v h1 h2 => hval j t v (by simpa using h1) (by simpa using h2)) fun ws hws => ?_
  match ws, hws with
  | [_, _, _], ⟨⟨_, h1, rfl⟩, ⟨_, h2, rfl⟩, ⟨_, h3, rfl⟩, _⟩ =>
    obtain ⟨s, hs, rfl⟩ := jY h1
    obtain ⟨n, rs, hr, rfl⟩ := Lx h2
    obtain ⟨a, b, ⟨ha, hb⟩, rfl⟩ := tv2u h3
    exact turneds_c s hs n rs false hr a b ha hb
theorem turned_holds : Rows.AirTurnedSaid :=
  OpenClaim.holds_of_wide 16 Tryz.f16 rfl rfl rfl rfl rfl rfl rfl ⟨rfl, rfl, rfl, rfl, rfl⟩ rfl rfl rfl rfl rfl (by kernel_rfl) Tryz.func16 (by kernel_rfl)
    (of_decide_eq_true (by kernel_rfl)) (by unfold Func.isWrapper; first | (rw [if_pos (by decide +kernel)]; kernel_rfl) | (rw [if_neg (by decide +kernel)]; exact ⟨rfl, rfl⟩))
    (fun os started H enc _ => turned_lifted os started H enc)
end Go.Proofs.YtichbhmnhkegiaaGreat
