/-
  The examples of the document, reckoned. No condition.
-/
import Derived.Test.YtmkaeohmdcoanaaR2
import Derived.Test.YtmkaeohmdcoanaaT1
open Go Go.RM
namespace Go.Proofs.Ytmkaeohmdcoanaa
set_option maxRecDepth 1000000
noncomputable def x_a1 : XE := ⟨19, [.agg #[.slice (some ⟨0, 0, none⟩) 5 7, .slice (some ⟨1, 0, none⟩) 2 4, .slice (some ⟨2, 0, none⟩) 1 3], .int .i64 1, .agg #[.int .i64 35, .int .i64 3, .int .i64 0], .int .i64 5], [[.int .i64 3, .int .i64 3, .int .i64 2, .int .i64 2, .int .i64 3], [.string ⟨#[111, 105, 108]⟩, .int .i64 40, .int .i64 50, .int .i64 0, .int .i64 0, .int .i64 8, .int .i64 10, .int .i64 60, .int .i64 1000, .string ⟨#[119, 97, 116, 101, 114]⟩, .int .i64 30, .int .i64 40, .int .i64 2, .int .i64 3, .int .i64 0, .int .i64 0, .int .i64 40, .int .i64 500], [.int .i64 2, .int .i64 1, .int .i64 10]], .tuple #[.slice (some ⟨3, 0, none⟩) 6 8, .int .i64 5, .int .i64 0], [[.int .i64 35, .int .i64 26, .int .i64 17, .int .i64 21, .int .i64 15, .int .i64 6]]⟩
theorem xs_a1 : XSound TT x_a1 := xe_add tt_ok tt_mixed (tab := []) (fun e he => nomatch he) 1000 (by kernel_rfl)
end Go.Proofs.Ytmkaeohmdcoanaa
open Go Go.RM
namespace Go.Proofs.Ytmkaeohmdcoanaa
set_option maxRecDepth 1000000
noncomputable def x_a2 : XE := ⟨23, [.agg #[.slice (some ⟨0, 0, none⟩) 5 7, .slice (some ⟨1, 0, none⟩) 2 4, .slice (some ⟨2, 0, none⟩) 1 3], .slice (some ⟨3, 0, none⟩) 1 3, .int .i64 0, .int .i64 0], [[.int .i64 3, .int .i64 3, .int .i64 2, .int .i64 2, .int .i64 3], [.string ⟨#[111, 105, 108]⟩, .int .i64 40, .int .i64 50, .int .i64 0, .int .i64 0, .int .i64 8, .int .i64 10, .int .i64 60, .int .i64 1000, .string ⟨#[119, 97, 116, 101, 114]⟩, .int .i64 30, .int .i64 40, .int .i64 2, .int .i64 3, .int .i64 0, .int .i64 0, .int .i64 40, .int .i64 500], [.int .i64 2, .int .i64 1, .int .i64 10], [.int .i64 2, .int .i64 0, .int .i64 25, .int .i64 28]], .tuple #[.agg #[.int .i64 41, .int .i64 48], .int .i64 0], []⟩
theorem xs_a2 : XSound TT x_a2 := xe_add tt_ok tt_mixed (tab := []) (fun e he => nomatch he) 1000 (by kernel_rfl)
end Go.Proofs.Ytmkaeohmdcoanaa
open Go Go.RM
namespace Go.Proofs.Ytmkaeohmdcoanaa
set_option maxRecDepth 1000000
noncomputable def x_a3 : XE := ⟨25, [.agg #[.slice (some ⟨0, 0, none⟩) 5 7, .slice (some ⟨1, 0, none⟩) 2 4, .slice (some ⟨2, 0, none⟩) 1 3], .slice none 0 0, .int .i64 0], [[.int .i64 3, .int .i64 3, .int .i64 2, .int .i64 2, .int .i64 3], [.string ⟨#[111, 105, 108]⟩, .int .i64 40, .int .i64 50, .int .i64 0, .int .i64 0, .int .i64 8, .int .i64 10, .int .i64 60, .int .i64 1000, .string ⟨#[119, 97, 116, 101, 114]⟩, .int .i64 30, .int .i64 40, .int .i64 2, .int .i64 3, .int .i64 0, .int .i64 0, .int .i64 40, .int .i64 500], [.int .i64 2, .int .i64 1, .int .i64 10]], .tuple #[.int .i64 4, .int .i64 0], []⟩
theorem xs_a3 : XSound TT x_a3 := xe_add tt_ok tt_mixed (tab := []) (fun e he => nomatch he) 1000 (by kernel_rfl)
end Go.Proofs.Ytmkaeohmdcoanaa
open Go Go.RM
namespace Go.Proofs.Ytmkaeohmdcoanaa
set_option maxRecDepth 1000000
noncomputable def x_a4 : XE := ⟨27, [.agg #[.slice (some ⟨0, 0, none⟩) 5 7, .slice (some ⟨1, 0, none⟩) 2 4, .slice (some ⟨2, 0, none⟩) 1 3], .slice (some ⟨3, 0, none⟩) 1 3, .int .i64 0], [[.int .i64 3, .int .i64 3, .int .i64 2, .int .i64 2, .int .i64 3], [.string ⟨#[111, 105, 108]⟩, .int .i64 40, .int .i64 50, .int .i64 0, .int .i64 0, .int .i64 8, .int .i64 10, .int .i64 60, .int .i64 1000, .string ⟨#[119, 97, 116, 101, 114]⟩, .int .i64 30, .int .i64 40, .int .i64 2, .int .i64 3, .int .i64 0, .int .i64 0, .int .i64 40, .int .i64 500], [.int .i64 2, .int .i64 1, .int .i64 10], [.int .i64 2, .int .i64 0, .int .i64 25, .int .i64 28]], .tuple #[.agg #[.int .i64 43, .int .i64 0, .int .i64 9], .int .i64 4, .int .i64 0], []⟩
theorem xs_a4 : XSound TT x_a4 := xe_add tt_ok tt_mixed (tab := []) (fun e he => nomatch he) 1000 (by kernel_rfl)
end Go.Proofs.Ytmkaeohmdcoanaa
open Go Go.RM
namespace Go.Proofs.Ytmkaeohmdcoanaa
set_option maxRecDepth 1000000
noncomputable def x_a5 : XE := ⟨29, [.agg #[.slice (some ⟨0, 0, none⟩) 5 7, .slice (some ⟨1, 0, none⟩) 2 4, .slice (some ⟨2, 0, none⟩) 1 3], .slice (some ⟨3, 0, none⟩) 1 3, .int .i64 0, .int .i64 3], [[.int .i64 3, .int .i64 3, .int .i64 2, .int .i64 2, .int .i64 3], [.string ⟨#[111, 105, 108]⟩, .int .i64 40, .int .i64 50, .int .i64 0, .int .i64 0, .int .i64 8, .int .i64 10, .int .i64 60, .int .i64 1000, .string ⟨#[119, 97, 116, 101, 114]⟩, .int .i64 30, .int .i64 40, .int .i64 2, .int .i64 3, .int .i64 0, .int .i64 0, .int .i64 40, .int .i64 500], [.int .i64 2, .int .i64 1, .int .i64 10], [.int .i64 2, .int .i64 0, .int .i64 25, .int .i64 28]], .tuple #[.int .i64 5, .int .i64 0], []⟩
theorem xs_a5 : XSound TT x_a5 := xe_add tt_ok tt_mixed (tab := []) (fun e he => nomatch he) 1000 (by kernel_rfl)
end Go.Proofs.Ytmkaeohmdcoanaa
open Go Go.RM
namespace Go.Proofs.Ytmkaeohmdcoanaa
set_option maxRecDepth 1000000
noncomputable def x_a6 : XE := ⟨31, [.agg #[.slice (some ⟨0, 0, none⟩) 5 7, .slice (some ⟨1, 0, none⟩) 2 4, .slice (some ⟨2, 0, none⟩) 1 3], .slice none 0 0, .int .i64 1], [[.int .i64 3, .int .i64 3, .int .i64 2, .int .i64 2, .int .i64 3], [.string ⟨#[111, 105, 108]⟩, .int .i64 40, .int .i64 50, .int .i64 0, .int .i64 0, .int .i64 8, .int .i64 10, .int .i64 60, .int .i64 1000, .string ⟨#[119, 97, 116, 101, 114]⟩, .int .i64 23, .int .i64 23, .int .i64 2, .int .i64 3, .int .i64 0, .int .i64 0, .int .i64 40, .int .i64 500], [.int .i64 2, .int .i64 1, .int .i64 10]], .tuple #[.int .i64 3, .int .i64 0], []⟩
theorem xs_a6 : XSound TT x_a6 := xe_add tt_ok tt_mixed (tab := []) (fun e he => nomatch he) 1000 (by kernel_rfl)
end Go.Proofs.Ytmkaeohmdcoanaa
open Go Go.RM
namespace Go.Proofs.Ytmkaeohmdcoanaa
set_option maxRecDepth 1000000
noncomputable def x_f0 : XE := ⟨78, [.agg #[.slice (some ⟨0, 0, none⟩) 5 7, .slice (some ⟨1, 0, none⟩) 2 4, .slice (some ⟨2, 0, none⟩) 1 3], .slice (some ⟨3, 0, none⟩) 2 4, .int .i64 0], [[.int .i64 3, .int .i64 3, .int .i64 2, .int .i64 2, .int .i64 3], [.string ⟨#[111, 105, 108]⟩, .int .i64 40, .int .i64 50, .int .i64 0, .int .i64 0, .int .i64 8, .int .i64 10, .int .i64 60, .int .i64 1000, .string ⟨#[119, 97, 116, 101, 114]⟩, .int .i64 30, .int .i64 40, .int .i64 2, .int .i64 3, .int .i64 0, .int .i64 0, .int .i64 40, .int .i64 500], [.int .i64 2, .int .i64 1, .int .i64 10], [.int .i64 2, .int .i64 0, .int .i64 25, .int .i64 28, .int .i64 2, .int .i64 0, .int .i64 0, .int .i64 24]], .slice (some ⟨4, 0, none⟩) 1 3, [[.int .i64 0]]⟩
theorem xs_f0 : XSound TT x_f0 := xe_add tt_ok tt_mixed (tab := []) (fun e he => nomatch he) 1000 (by kernel_rfl)
end Go.Proofs.Ytmkaeohmdcoanaa
open Go Go.RM
namespace Go.Proofs.Ytmkaeohmdcoanaa
set_option maxRecDepth 1000000
noncomputable def x_f1 : XE := ⟨78, [.agg #[.slice (some ⟨0, 0, none⟩) 5 7, .slice (some ⟨1, 0, none⟩) 2 4, .slice (some ⟨2, 0, none⟩) 1 3], .slice (some ⟨3, 0, none⟩) 2 4, .int .i64 1], [[.int .i64 3, .int .i64 3, .int .i64 2, .int .i64 2, .int .i64 3], [.string ⟨#[111, 105, 108]⟩, .int .i64 40, .int .i64 50, .int .i64 0, .int .i64 0, .int .i64 8, .int .i64 10, .int .i64 60, .int .i64 1000, .string ⟨#[119, 97, 116, 101, 114]⟩, .int .i64 30, .int .i64 40, .int .i64 2, .int .i64 3, .int .i64 0, .int .i64 0, .int .i64 40, .int .i64 500], [.int .i64 2, .int .i64 1, .int .i64 10], [.int .i64 2, .int .i64 0, .int .i64 25, .int .i64 28, .int .i64 2, .int .i64 0, .int .i64 0, .int .i64 24]], .slice none 0 0, []⟩
theorem xs_f1 : XSound TT x_f1 := xe_add tt_ok tt_mixed (tab := []) (fun e he => nomatch he) 1000 (by kernel_rfl)
end Go.Proofs.Ytmkaeohmdcoanaa
open Go Go.RM
namespace Go.Proofs.Ytmkaeohmdcoanaa
set_option maxRecDepth 1000000
noncomputable def x_a7 : XE := ⟨33, [.agg #[.slice (some ⟨0, 0, none⟩) 5 7, .slice (some ⟨1, 0, none⟩) 2 4, .slice (some ⟨2, 0, none⟩) 1 3], .slice (some ⟨3, 0, none⟩) 2 4], [[.int .i64 3, .int .i64 3, .int .i64 2, .int .i64 2, .int .i64 3], [.string ⟨#[111, 105, 108]⟩, .int .i64 40, .int .i64 50, .int .i64 0, .int .i64 0, .int .i64 8, .int .i64 10, .int .i64 60, .int .i64 1000, .string ⟨#[119, 97, 116, 101, 114]⟩, .int .i64 30, .int .i64 40, .int .i64 2, .int .i64 3, .int .i64 0, .int .i64 0, .int .i64 40, .int .i64 500], [.int .i64 2, .int .i64 1, .int .i64 10], [.int .i64 2, .int .i64 0, .int .i64 25, .int .i64 28, .int .i64 2, .int .i64 0, .int .i64 0, .int .i64 24]], .tuple #[.slice (some ⟨4, 0, none⟩) 1 3, .int .i64 0], [[.int .i64 0]]⟩
theorem xs_a7 : XSound TT x_a7 := xe_add tt_ok tt_mixed (tab := [x_f0, x_f1]) (by intro e he; simp at he; rcases he with rfl | rfl <;> first | exact xs_f0 | exact xs_f1) 1000 (by kernel_rfl)
end Go.Proofs.Ytmkaeohmdcoanaa
open Go Go.RM
namespace Go.Proofs.Ytmkaeohmdcoanaa
set_option maxRecDepth 1000000
noncomputable def x_a8 : XE := ⟨27, [.agg #[.slice (some ⟨0, 0, none⟩) 5 7, .slice (some ⟨1, 0, none⟩) 2 4, .slice (some ⟨2, 0, none⟩) 1 3], .slice none 0 0, .int .i64 1], [[.int .i64 3, .int .i64 3, .int .i64 2, .int .i64 2, .int .i64 3], [.string ⟨#[111, 105, 108]⟩, .int .i64 40, .int .i64 50, .int .i64 0, .int .i64 0, .int .i64 8, .int .i64 10, .int .i64 60, .int .i64 1000, .string ⟨#[119, 97, 116, 101, 114]⟩, .int .i64 30, .int .i64 40, .int .i64 2, .int .i64 3, .int .i64 0, .int .i64 0, .int .i64 40, .int .i64 500], [.int .i64 2, .int .i64 1, .int .i64 10]], .tuple #[.agg #[.int .i64 0, .int .i64 0, .int .i64 0], .int .i64 0, .int .i64 4], []⟩
theorem xs_a8 : XSound TT x_a8 := xe_add tt_ok tt_mixed (tab := []) (fun e he => nomatch he) 1000 (by kernel_rfl)
end Go.Proofs.Ytmkaeohmdcoanaa
