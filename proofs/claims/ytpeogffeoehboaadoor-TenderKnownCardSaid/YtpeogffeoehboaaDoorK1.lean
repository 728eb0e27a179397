/-
  Contracts of the program's functions and of the document's. Lemmas alone; their conditions stand in them.
-/
import Derived.Test.YtpeogffeoehboaaDoorA1
import Derived.Test.YtpeogffeoehboaaDoorT1
import Derived.Test.YtpeogffeoehboaaDoorTie
import Derived.Test.YtpeogffeoehboaaDoorCards
import Derived.ProofKit
import Derived.LaidMore
import Derived.Lay
import Derived.Lib.LaidTab
import Derived.SevenTiedAt
import Derived.Stop.Joined
open Go Go.RM
namespace Go.Proofs.YtpeogffeoehboaaDoor
open Go.ChangeShapes Go.WideShapes Go.ChangeAt Go.RowKit
set_option maxRecDepth 100000
theorem Bh:ownKnob Tryd.prog.godebug=none:=by kernel_rfl
theorem xT:laidOutB Tryd.prog=true:=by kernel_rfl
abbrev tF : List (String × DataW Unit) := [("math/bits.deBruijn32tab", Rows.laid_math_bits_deBruijn32tab), ("math/bits.deBruijn64tab", Rows.laid_math_bits_deBruijn64tab)]
def Eb:List Int:=Lib.deBruijn64tab.map fun n=>((n:Nat):Int)
theorem wY:(Rows.laid_math_bits_deBruijn64tab:DataW Unit)=Lib.tabData .u8 Eb:=by kernel_rfl
theorem FH : Tryd.prog.globalNamed "math/bits.deBruijn64tab" = some 1 := by kernel_rfl
theorem ve {W:World} (h:laidMetH Tryd.prog tF W):∀ x ∈ GL,x.1 < W.heap.size∧xh (W.heap[x.1]?) x.2:=by
 rw [MakeChecks.laidMetH_plain _ _ _ (by kernel_rfl)] at h
 obtain ⟨ps,⟨g0,t0,cs0,f0,p0,q0,_,_,_,_,⟨g1,t1,cs1,f1,p1,q1,hg1,ht1,hv1,hd1,_,_⟩,_⟩,_,_⟩:=h
 obtain rfl:=Option.some.inj (FH.symm.trans hg1)
 obtain rfl:=Option.some.inj ((show (Tryd.prog.globals[1]?).map (·.type)=some 136 by kernel_rfl).symm.trans ht1)
 rw [wY] at hd1
 have hcs:=Lib.cells_of_tab (e:=5) (n:=64) Tryd.underlying136 Tryd.underlying5 (by kernel_rfl) (by kernel_rfl) hd1
 simp only [World.var?,hg1,Option.bind_some] at hv1
 intro x hx
 obtain rfl:=List.mem_singleton.1 hx
 cases ho:W.heap[1]? with
 | none=>rw [ho] at hv1;cases hv1
 | some o =>
  rw [ho] at hv1
  have hlt:1 < W.heap.size:=(Array.getElem?_eq_some_iff.1 ho).1
  cases o with
  | cells cs e fz =>
   simp only [Option.some.injEq] at hv1
   subst hv1
   refine ⟨hlt,cs,e,fz,rfl,fun i v hv=>?_⟩
   rw [←Array.getElem?_toList,hcs]
   unfold Eb
   rw [List.map_map]
   exact hv
  | _=>cases hv1
end Go.Proofs.YtpeogffeoehboaaDoor
