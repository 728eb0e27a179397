/-
  The statement AirSignals: Sees, Hears and Oil return what the document says. No condition.
-/
import Derived.Test.YtichbhmnhkegiaaGreatK18
import Derived.Test.YtichbhmnhkegiaaGreatK21
namespace Go.Proofs.YtichbhmnhkegiaaGreat
open Go Go.RM Go.ChangeShapes Go.WideShapes Go.ChangeAt Go.RowKit
set_option maxRecDepth 100000 in
theorem signals_lifted (os : Os) (started : os.Started) (H : Type) (enc : TypeId × Value → H) :
    ReturnsInHanded {} Tryz.checked os 3 .any (Rows.airSignalsSpec.pre6 enc Tryz.prog Tryz.f3 Rows.airSignalsRow.domain false) (Rows.airSignalsSpec.post enc Tryz.prog Tryz.f3 false true false false) := by
  refine returnsInHanded_of_change (C := Tryz.checked) nL started (by kernel_rfl) Tryz.func3
    (ChangeSpec.witness6 (enc := enc) (C := Tryz.checked) false ⟨#[], #[.agg #[.int .i64 0, .int .i64 0], .agg #[.slice none 0 0, .int .i64 0, .int .i64 0, .int .i64 0, .int .i64 0], .agg #[.int .i64 0, .int .i64 0, .int .i64 0, .int .i64 0]], []⟩ 8 (by kernel_rfl) (by kernel_rfl) (by kernel_rfl) (by kernel_rfl)) ?_
  intro W base args ds gs before hval hW hcnd _
  refine kS (P := Tryz.prog) kT (tb := 4) (by rw [Tryz.params3]; kernel_rfl) rfl Tryz.underlying4 rfl (fun ds h => by rw [Tryz.params3] at h; match ds, h with | [_, _, _], _ => rfl) hW ?_
  obtain ⟨p, q, hA, _⟩ := hW
  refine gF (T := TT) (one := false) we kF w5 rfl (d := 40) (ss := [IE, iT, .arr 4 GK]) (by rw [Tryz.params3]; kernel_rfl) hA (fun j t v h1 h2 => hval j t v (by simpa using h1) (by simpa using h2)) fun ws hws => ?_
  match ws, hws with
  | [_, _, _], ⟨⟨_, h1, rfl⟩, ⟨_, h2, rfl⟩, ⟨_, h3, rfl⟩, _⟩ =>
    obtain ⟨v, rfl⟩ := J8 h1
    obtain ⟨s, hs, rfl⟩ := jY h2
    obtain ⟨a, b, c, d, rfl⟩ := MG h3
    exact Gw v s hs a b c d
theorem signals_holds : Rows.AirSignalsSaid :=
  OpenClaim.holds_of_wide 3 Tryz.f3 rfl rfl rfl rfl rfl rfl rfl ⟨rfl, rfl, rfl, rfl, rfl⟩ rfl rfl rfl rfl rfl (by kernel_rfl) Tryz.func3 (by kernel_rfl)
    (of_decide_eq_true (by kernel_rfl)) (by unfold Func.isWrapper; first | (rw [if_pos (by decide +kernel)]; kernel_rfl) | (rw [if_neg (by decide +kernel)]; exact ⟨rfl, rfl⟩))
    (fun os started H enc _ => signals_lifted os started H enc)
end Go.Proofs.YtichbhmnhkegiaaGreat
