/-
  Contracts of the program's functions and of the document's. Lemmas alone; their conditions stand in them.
-/
import Derived.Test.YtmkaeohmdcoanaaK1
open Go Go.RM
namespace Go.Proofs.Ytmkaeohmdcoanaa
theorem tvB3 {l : List AV} (h : TV (.arr 3 sh8) l) : ∃ a b c, ((0 ≤ a ∧ a ≤ 255) ∧ (0 ≤ b ∧ b ≤ 255) ∧ (0 ≤ c ∧ c ≤ 255)) ∧ l = [.fl (.int .u8 a), .fl (.int .u8 b), .fl (.int .u8 c)] := by
  obtain ⟨els, hl, he, rfl⟩ := tvA h
  match els, hl with
  | [x, y, z], _ =>
    obtain ⟨a, ha, rfl⟩ := tv8 (he x (by simp))
    obtain ⟨b, hb, rfl⟩ := tv8 (he y (by simp))
    obtain ⟨c, hc, rfl⟩ := tv8 (he z (by simp))
    exact ⟨a, b, c, ⟨ha, hb, hc⟩, rfl⟩
end Go.Proofs.Ytmkaeohmdcoanaa
