/-
  The statement TopFed: with as many men as the log of leave leaves on board a kind of stores runs short on none of the first days that Lasts says, and with one more man each day it lasts no longer. No condition.
-/
import Derived.Test.YtgdbfbalchdmcaaGreatK20
import Derived.Test.YtgdbfbalchdmcaaGreatX1
import Derived.Test.YtgdbfbalchdmcaaGreatK11
namespace Go.Proofs.YtgdbfbalchdmcaaGreat
open Go Go.RM Go.ChangeShapes Go.WideShapes Go.ChangeAt Go.RowKit
theorem xs_TBf : ∀ e ∈ TB, dJ TT e := fun e he => by
  rcases List.mem_cons.1 he with rfl | he
  · exact NZ
  · obtain rfl := List.mem_singleton.1 he
    exact St.OB
abbrev OC : Sh := .cons (.slice MZ) (.cons St.Ki .nil)
set_option maxRecDepth 100000 in
theorem fed_lifted (os : Os) (started : os.Started) (H : Type) (enc : TypeId × Value → H) :
    ReturnsInHanded {} Tryz.checked os 3 .any (Rows.topFedSpec.pre6 enc Tryz.prog Tryz.f3 Rows.topFedRow.domain false) (Rows.topFedSpec.post enc Tryz.prog Tryz.f3 false true false false) := by
  refine returnsInHanded_of_change (C := Tryz.checked) Ln started (by kernel_rfl) Tryz.func3
    (ChangeSpec.witness6 (enc := enc) (C := Tryz.checked) false ⟨#[], #[.agg #[.slice none 0 0, .slice none 0 0, .int .i64 0], .agg #[.slice none 0 0, .slice none 0 0, .slice none 0 0], .agg #[.slice none 0 0, .int .u8 0, .int .u16 0, .int .u16 0, .int .u16 0, .slice none 0 0]], []⟩ 8 (by kernel_rfl) (by kernel_rfl) (by kernel_rfl) (by kernel_rfl)) ?_
  intro W base args ds gs before hval hW hcnd _
  refine JE (P := Tryz.prog) JF (tb := 4) (by rw [Tryz.params3]; kernel_rfl) rfl Tryz.underlying4 rfl (fun ds h => by rw [Tryz.params3] at h; match ds, h with | [_, _, _], _ => rfl) hW ?_
  obtain ⟨p, q, hA, _⟩ := hW
  refine EW (T := TT) (one := false) jg dj xs_TBf rfl (d := 40) (ss := [JH, St.DQ, OC]) (by rw [Tryz.params3]; kernel_rfl) hA (fun j t v h1 h2 => hval j t v (by simpa using h1) (by simpa using h2)) fun ws hws => ?_
  match ws, hws with
  | [_, _, _], ⟨⟨_, h1, rfl⟩, ⟨_, h2, rfl⟩, ⟨_, h3, rfl⟩, _⟩ =>
    obtain ⟨c, hc, rfl⟩ := M5 h1
    obtain ⟨s, hs, rfl⟩ := St.JL h2
    obtain ⟨_, _, j1, k1, rfl⟩ := qC h3
    obtain ⟨_, _, j2, k2, rfl⟩ := qC k1
    obtain rfl := Kl k2
    obtain ⟨l, hl, hd, rfl⟩ := N2 j1
    obtain ⟨kd, a, b, q0, taken, ⟨hk, ha, hb, hq⟩, ⟨hl2, ht⟩, rfl⟩ := St.Nh j2
    obtain ⟨x, hx, rfl⟩ := vV (e := St.e8) (P := fun n => 0 ≤ n ∧ n ≤ 255) fun el hel => by obtain ⟨n, h, e⟩ := St.Pk (ht el hel); exact ⟨n, h, e⟩
    exact St.Kh c hc s hs l hl hd kd a b q0 x hk ha hb hq hx (by simpa using hl2)
theorem topFed_holds : Rows.TopFedSaid :=
  OpenClaim.holds_of_wide 3 Tryz.f3 rfl rfl rfl rfl rfl rfl rfl ⟨rfl, rfl, rfl, rfl, rfl⟩ rfl rfl rfl rfl rfl (by kernel_rfl) Tryz.func3 (by kernel_rfl)
    (of_decide_eq_true (by kernel_rfl)) (by unfold Func.isWrapper; first | (rw [if_pos (by decide +kernel)]; kernel_rfl) | (rw [if_neg (by decide +kernel)]; exact ⟨rfl, rfl⟩))
    (fun os started H enc _ => fed_lifted os started H enc)
end Go.Proofs.YtgdbfbalchdmcaaGreat
