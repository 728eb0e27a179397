/-
  The statement StoreShown: in the truth of Short the kind runs short on this day, which is the number of days of Lasts; in no truth it does earlier. No condition.
-/
import Derived.Test.YtmkaeohmdcoanaaK2
namespace Go.Proofs.Ytmkaeohmdcoanaa
open Go Go.RM Go.ChangeShapes Go.WideShapes Go.ChangeAt Go.RowKit

set_option maxRecDepth 100000 in
theorem shown_lifted (os : Os) (started : os.Started) (H : Type) (enc : TypeId × Value → H) :
    ReturnsInHanded {} Try.checked os 10 .any (Rows.storeShownSpec.pre6 enc Try.prog Try.f10 Rows.storeShownRow.domain false) (Rows.storeShownSpec.post enc Try.prog Try.f10 false true false false) := by
  refine returnsInHanded_of_change (C := Try.checked) try_own started (by kernel_rfl) Try.func10
    (ChangeSpec.witness6 (enc := enc) (C := Try.checked) false ⟨#[], #[.agg #[.slice none 0 0, .slice none 0 0, .slice none 0 0], .slice none 0 0, .agg #[.int .u8 0, .int .u16 0, .int .u16 0, .int .u16 0, .slice none 0 0]], []⟩ 8 (by kernel_rfl) (by kernel_rfl) (by kernel_rfl) (by kernel_rfl)) ?_
  intro W base args ds gs before hval hW hcnd _
  refine law_post (P := Try.prog) try_laid (tb := 4) (by rw [Try.params10]; kernel_rfl) rfl Try.underlying4 rfl (fun ds h => by rw [Try.params10] at h; match ds, h with | [_, _, _], _ => rfl) hW ?_
  obtain ⟨p, q, hA, _⟩ := hW
  refine pure_calls (T := TT) (one := true) tt_ok tt_mixed xs_TB rfl (d := 40) (ss := [shStores, .slice shCount, shPast]) (by rw [Try.params10]; kernel_rfl) hA (fun j t v h1 h2 => hval j t v (by simpa using h1) (by simpa using h2)) fun ws hws => ?_
  match ws, hws with
  | [_, _, _], ⟨⟨_, h1, rfl⟩, ⟨_, h2, rfl⟩, ⟨_, h3, rfl⟩, _⟩ =>
    obtain ⟨s, hs, rfl⟩ := tvStores h1
    obtain ⟨l, hl, rfl⟩ := tvCounts h2
    obtain ⟨kd, a, b, c, taken, ⟨hk, ha, hb, hc⟩, _, rfl⟩ := tvPast h3
    exact shown_c s hs l hl kd a b c taken hk ha hb hc

theorem shown_holds : Rows.StoreShownSaid :=
  OpenClaim.holds_of_wide 10 Try.f10 rfl rfl rfl rfl rfl rfl rfl ⟨rfl, rfl, rfl, rfl, rfl⟩ rfl rfl rfl rfl rfl (by kernel_rfl) Try.func10 (by kernel_rfl)
    (of_decide_eq_true (by kernel_rfl)) (by unfold Func.isWrapper; first | (rw [if_pos (by decide +kernel)]; kernel_rfl) | (rw [if_neg (by decide +kernel)]; exact ⟨rfl, rfl⟩))
    (fun os started H enc _ => shown_lifted os started H enc)
end Go.Proofs.Ytmkaeohmdcoanaa
