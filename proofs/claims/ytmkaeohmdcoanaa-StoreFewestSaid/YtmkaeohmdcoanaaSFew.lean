/-
  The statement StoreFewest: without the counts of Wrong each kind has a truth; without any fewer ones some kind has none. No condition.
-/
import Derived.Test.YtmkaeohmdcoanaaK2
namespace Go.Proofs.Ytmkaeohmdcoanaa
open Go Go.RM Go.ChangeShapes Go.WideShapes Go.ChangeAt Go.RowKit

set_option maxRecDepth 100000 in
theorem fewest_lifted (os : Os) (started : os.Started) (H : Type) (enc : TypeId × Value → H) :
    ReturnsInHanded {} Try.checked os 13 .any (Rows.storeFewestSpec.pre6 enc Try.prog Try.f13 Rows.storeFewestRow.domain false) (Rows.storeFewestSpec.post enc Try.prog Try.f13 false true false false) := by
  refine returnsInHanded_of_change (C := Try.checked) try_own started (by kernel_rfl) Try.func13
    (ChangeSpec.witness6 (enc := enc) (C := Try.checked) false ⟨#[], #[.agg #[.slice none 0 0, .slice none 0 0, .slice none 0 0], .slice none 0 0, .int .u8 0], []⟩ 8 (by kernel_rfl) (by kernel_rfl) (by kernel_rfl) (by kernel_rfl)) ?_
  intro W base args ds gs before hval hW hcnd _
  refine law_post (P := Try.prog) try_laid (tb := 4) (by rw [Try.params13]; kernel_rfl) rfl Try.underlying4 rfl (fun ds h => by rw [Try.params13] at h; match ds, h with | [_, _, _], _ => rfl) hW ?_
  obtain ⟨p, q, hA, _⟩ := hW
  refine pure_calls (T := TT) (one := false) tt_ok tt_mixed xs_TB rfl (d := 40) (ss := [shStores, .slice shCount, sh8]) (by rw [Try.params13]; kernel_rfl) hA (fun j t v h1 h2 => hval j t v (by simpa using h1) (by simpa using h2)) fun ws hws => ?_
  match ws, hws with
  | [_, _, _], ⟨⟨_, h1, rfl⟩, ⟨_, h2, rfl⟩, ⟨_, h3, rfl⟩, _⟩ =>
    obtain ⟨s, hs, rfl⟩ := tvStores h1
    obtain ⟨l, hl, rfl⟩ := tvCounts h2
    obtain ⟨n, hn, rfl⟩ := tv8 h3
    obtain ⟨m, rfl⟩ : ∃ m : Nat, n = (m : Int) := ⟨n.toNat, by omega⟩
    exact few_c s hs l hl m

theorem fewest_holds : Rows.StoreFewestSaid :=
  OpenClaim.holds_of_wide 13 Try.f13 rfl rfl rfl rfl rfl rfl rfl ⟨rfl, rfl, rfl, rfl, rfl⟩ rfl rfl rfl rfl rfl (by kernel_rfl) Try.func13 (by kernel_rfl)
    (of_decide_eq_true (by kernel_rfl)) (by unfold Func.isWrapper; first | (rw [if_pos (by decide +kernel)]; kernel_rfl) | (rw [if_neg (by decide +kernel)]; exact ⟨rfl, rfl⟩))
    (fun os started H enc _ => fewest_lifted os started H enc)
end Go.Proofs.Ytmkaeohmdcoanaa
