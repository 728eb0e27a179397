/-
  The statement TopOil: if the ship uses of a kind of stores what a grade burns, she does not run short before the day that Lasts says, however long it burns, and with the amount of Cargo not at all. No condition.
-/
import Derived.Test.YtalcbebjpgfnfaaGreatK16
import Derived.Test.YtalcbebjpgfnfaaGreatK24
namespace Go.Proofs.YtalcbebjpgfnfaaGreat
open Go Go.RM Go.ChangeShapes Go.WideShapes Go.ChangeAt Go.RowKit
abbrev Mw : Sh := .cons (.int .u8) (.cons (.arr 2 GZ) (.cons St.Jx .nil))
set_option maxRecDepth 100000 in
theorem top_lifted (os : Os) (started : os.Started) (H : Type) (enc : TypeId × Value → H) :
    ReturnsInHanded {} Tryz.checked os 3 .any (Rows.topOilSpec.pre6 enc Tryz.prog Tryz.f3 Rows.topOilRow.domain false) (Rows.topOilSpec.post enc Tryz.prog Tryz.f3 false true false false) := by
  refine returnsInHanded_of_change (C := Tryz.checked) J7 started (by kernel_rfl) Tryz.func3
    (ChangeSpec.witness6 (enc := enc) (C := Tryz.checked) false ⟨#[], #[.agg #[.slice none 0 0, .int .i64 0, .int .i64 0, .int .i64 0, .int .i64 0], .agg #[.slice none 0 0, .slice none 0 0, .slice none 0 0], .agg #[.int .u8 0, .int .u16 0, .int .u16 0, .int .u8 0, .int .u16 0, .int .u16 0, .int .u16 0, .slice none 0 0]], []⟩ 8 (by kernel_rfl) (by kernel_rfl) (by kernel_rfl) (by kernel_rfl)) ?_
  intro W base args ds gs before hval hW hcnd _
  refine Ii (P := Tryz.prog) Ij (tb := 4) (by rw [Tryz.params3]; kernel_rfl) rfl Tryz.underlying4 rfl (fun ds h => by rw [Tryz.params3] at h; match ds, h with | [_, _, _], _ => rfl) hW ?_
  obtain ⟨p, q, hA, _⟩ := hW
  refine DN (T := TT) (one := false) oE fZ St.NG rfl (d := 40) (ss := [zA, St.CK, Mw]) (by rw [Tryz.params3]; kernel_rfl) hA (fun j t v h1 h2 => hval j t v (by simpa using h1) (by simpa using h2)) fun ws hws => ?_
  match ws, hws with
  | [_, _, _], ⟨⟨_, h1, rfl⟩, ⟨_, h2, rfl⟩, ⟨_, h3, rfl⟩, _⟩ =>
    obtain ⟨st, hst, rfl⟩ := Gi h1
    obtain ⟨s, hs, rfl⟩ := St.Il h2
    obtain ⟨_, _, j1, k1, rfl⟩ := uW h3
    obtain ⟨_, _, j2, k2, rfl⟩ := uW k1
    obtain ⟨_, _, j3, k3, rfl⟩ := uW k2
    obtain rfl := K9 k3
    obtain ⟨g, hg, rfl⟩ := St.Od j1
    obtain ⟨m0, m1, hm, rfl⟩ := Ob j2
    obtain ⟨kd, a, b, c, taken, ⟨hk, ha, hb, hc⟩, ⟨hl, ht⟩, rfl⟩ := St.Mu j3
    obtain ⟨x, hx, rfl⟩ := zB (e := St.e8) (P := fun n => 0 ≤ n ∧ n ≤ 255) fun el hel => by obtain ⟨n, h, e⟩ := St.Od (ht el hel); exact ⟨n, h, e⟩
    exact St.I5 st hst s hs g m0 m1 kd a b c x hg hm.1 hm.2 hk ha hb hc hx (by simpa using hl) Kj
theorem topOil_holds : Rows.TopOilSaid :=
  OpenClaim.holds_of_wide 3 Tryz.f3 rfl rfl rfl rfl rfl rfl rfl ⟨rfl, rfl, rfl, rfl, rfl⟩ rfl rfl rfl rfl rfl (by kernel_rfl) Tryz.func3 (by kernel_rfl)
    (of_decide_eq_true (by kernel_rfl)) (by unfold Func.isWrapper; first | (rw [if_pos (by decide +kernel)]; kernel_rfl) | (rw [if_neg (by decide +kernel)]; exact ⟨rfl, rfl⟩))
    (fun os started H enc _ => top_lifted os started H enc)
end Go.Proofs.YtalcbebjpgfnfaaGreat
