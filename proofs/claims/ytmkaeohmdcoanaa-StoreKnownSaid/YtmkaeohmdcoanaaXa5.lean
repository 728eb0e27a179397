/-
  One call of the examples, reckoned by the abstract machine: what it returns, whatever the orders and capacities. No condition.
-/
import Derived.Test.YtmkaeohmdcoanaaSTab
import Derived.Test.YtmkaeohmdcoanaaR22
open Go Go.RM
namespace Go.Proofs.Ytmkaeohmdcoanaa
set_option maxRecDepth 1000000
noncomputable def x_a5 : XE := ⟨29, [.agg #[.slice (some ⟨0, 0, none⟩) 5 7, .slice (some ⟨1, 0, none⟩) 2 4, .slice (some ⟨2, 0, none⟩) 1 3], .slice (some ⟨3, 0, none⟩) 1 3, .int .i64 0, .int .i64 3], [[.int .i64 3, .int .i64 3, .int .i64 2, .int .i64 2, .int .i64 3], [.string ⟨#[111, 105, 108]⟩, .int .i64 40, .int .i64 50, .int .i64 0, .int .i64 0, .int .i64 8, .int .i64 10, .int .i64 60, .int .i64 1000, .string ⟨#[119, 97, 116, 101, 114]⟩, .int .i64 30, .int .i64 40, .int .i64 2, .int .i64 3, .int .i64 0, .int .i64 0, .int .i64 40, .int .i64 500], [.int .i64 2, .int .i64 1, .int .i64 10], [.int .i64 2, .int .i64 0, .int .i64 25, .int .i64 28]], .tuple #[.int .i64 5, .int .i64 0], []⟩
theorem xs_a5 : XSound TT x_a5 := xe_add tt_ok tt_mixed (tab := []) (fun e he => nomatch he) 1000 (by kernel_rfl)
end Go.Proofs.Ytmkaeohmdcoanaa
