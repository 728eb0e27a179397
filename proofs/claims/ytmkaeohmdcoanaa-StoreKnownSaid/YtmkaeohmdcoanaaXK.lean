/-
  The examples of the document: each call of them, and the law itself. No condition.
-/
import Derived.Test.YtmkaeohmdcoanaaXa1
import Derived.Test.YtmkaeohmdcoanaaXa2
import Derived.Test.YtmkaeohmdcoanaaXa3
import Derived.Test.YtmkaeohmdcoanaaXa4
import Derived.Test.YtmkaeohmdcoanaaXa5
import Derived.Test.YtmkaeohmdcoanaaXa6
import Derived.Test.YtmkaeohmdcoanaaXa7
import Derived.Test.YtmkaeohmdcoanaaXa8
import Derived.Test.YtmkaeohmdcoanaaXk1
import Derived.Test.YtmkaeohmdcoanaaXk2
import Derived.Test.YtmkaeohmdcoanaaXk3
import Derived.Test.YtmkaeohmdcoanaaXk4
import Derived.Test.YtmkaeohmdcoanaaXk5
import Derived.Test.YtmkaeohmdcoanaaXk6
import Derived.Test.YtmkaeohmdcoanaaXk7
import Derived.Test.YtmkaeohmdcoanaaXk8
namespace Go.Proofs.Ytmkaeohmdcoanaa
open Go.RM
set_option maxRecDepth 1000000
noncomputable def tabA : List XE := [x_a1, x_a2, x_a3, x_a4, x_a5, x_a6, x_a7, x_a8]
noncomputable def tabK : List XE := x_a1 :: x_a2 :: x_a3 :: x_a4 :: x_a5 :: x_a6 :: x_a7 :: x_a8 :: [x_k1, x_k2, x_k3, x_k4, x_k5, x_k6, x_k7, x_k8]
theorem xs_tabA : ∀ e ∈ tabA, XSound TT e := by
  unfold tabA
  simp only [List.mem_cons, List.not_mem_nil, or_false]
  rintro e (rfl | rfl | rfl | rfl | rfl | rfl | rfl | rfl)
  · exact xs_a1
  · exact xs_a2
  · exact xs_a3
  · exact xs_a4
  · exact xs_a5
  · exact xs_a6
  · exact xs_a7
  · exact xs_a8
theorem xs_tabK : ∀ e ∈ tabK, XSound TT e := by
  unfold tabK
  simp only [List.mem_cons, List.not_mem_nil, or_false]
  rintro e (rfl | rfl | rfl | rfl | rfl | rfl | rfl | rfl | rfl | rfl | rfl | rfl | rfl | rfl | rfl | rfl)
  · exact xs_a1
  · exact xs_a2
  · exact xs_a3
  · exact xs_a4
  · exact xs_a5
  · exact xs_a6
  · exact xs_a7
  · exact xs_a8
  · exact xs_k1
  · exact xs_k2
  · exact xs_k3
  · exact xs_k4
  · exact xs_k5
  · exact xs_k6
  · exact xs_k7
  · exact xs_k8
noncomputable def x_aw : XE := ⟨22, [], [], .bool true, []⟩
theorem xs_aw : XSound TT x_aw := xe_add tt_ok tt_mixed xs_tabA 1000 (by kernel_rfl)
noncomputable def x_known : XE := ⟨7, [], [], .bool true, []⟩
theorem xs_known : XSound TT x_known := xe_add tt_ok tt_mixed xs_tabK 1000 (by kernel_rfl)
end Go.Proofs.Ytmkaeohmdcoanaa
