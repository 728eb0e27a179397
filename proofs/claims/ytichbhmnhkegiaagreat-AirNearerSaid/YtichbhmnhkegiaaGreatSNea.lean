/-
  The statement AirNearer: a light that is seen is seen from each place on the way to it, with more candles, and in clearer air; a horn that is heard is heard on the way to it, and if it is louder. No condition.
-/
import Derived.Test.YtichbhmnhkegiaaGreatK22
import Derived.Test.YtichbhmnhkegiaaGreatK21
namespace Go.Proofs.YtichbhmnhkegiaaGreat
open Go Go.RM Go.ChangeShapes Go.WideShapes Go.ChangeAt Go.RowKit
set_option maxRecDepth 100000 in
theorem nearer_lifted (os : Os) (started : os.Started) (H : Type) (enc : TypeId × Value → H) :
    ReturnsInHanded {} Tryz.checked os 10 .any (Rows.airNearerSpec.pre6 enc Tryz.prog Tryz.f10 Rows.airNearerRow.domain false) (Rows.airNearerSpec.post enc Tryz.prog Tryz.f10 false true false false) := by
  refine returnsInHanded_of_change (C := Tryz.checked) nL started (by kernel_rfl) Tryz.func10
    (ChangeSpec.witness6 (enc := enc) (C := Tryz.checked) false ⟨#[], #[.agg #[.int .i16 0, .int .i16 0], .int .u8 0, .agg #[.int .u16 0, .int .u16 0, .int .u16 0, .int .u16 0, .int .u16 0, .int .u16 0]], []⟩ 8 (by kernel_rfl) (by kernel_rfl) (by kernel_rfl) (by kernel_rfl)) ?_
  intro W base args ds gs before hval hW hcnd _
  refine kS (P := Tryz.prog) kT (tb := 4) (by rw [Tryz.params10]; kernel_rfl) rfl Tryz.underlying4 rfl (fun ds h => by rw [Tryz.params10] at h; match ds, h with | [_, _, _], _ => rfl) hW ?_
  obtain ⟨p, q, hA, _⟩ := hW
  refine gF (T := TT) (one := false) we kF w5 rfl (d := 40) (ss := [.arr 2 (.int .i16), (.int .u8), .arr 6 C9]) (by rw [Tryz.params10]; kernel_rfl) hA (fun j t v h1 h2 => hval j t v (by simpa using h1) (by simpa using h2)) fun ws hws => ?_
  match ws, hws with
  | [_, _, _], ⟨⟨_, h1, rfl⟩, ⟨_, h2, rfl⟩, ⟨_, h3, rfl⟩, _⟩ =>
    obtain ⟨x, y, ⟨hx, hy⟩, rfl⟩ := MJ h1
    obtain ⟨t, ht, rfl⟩ := Np h2
    obtain ⟨a, b, c, d, e, f, ⟨ha, hb, hc, hd, he, hf⟩, rfl⟩ := MM h3
    exact I6 x y t a b c d e f hx hy ht ha hb hc hd he hf
theorem nearer_holds : Rows.AirNearerSaid :=
  OpenClaim.holds_of_wide 10 Tryz.f10 rfl rfl rfl rfl rfl rfl rfl ⟨rfl, rfl, rfl, rfl, rfl⟩ rfl rfl rfl rfl rfl (by kernel_rfl) Tryz.func10 (by kernel_rfl)
    (of_decide_eq_true (by kernel_rfl)) (by unfold Func.isWrapper; first | (rw [if_pos (by decide +kernel)]; kernel_rfl) | (rw [if_neg (by decide +kernel)]; exact ⟨rfl, rfl⟩))
    (fun os started H enc _ => nearer_lifted os started H enc)
end Go.Proofs.YtichbhmnhkegiaaGreat
