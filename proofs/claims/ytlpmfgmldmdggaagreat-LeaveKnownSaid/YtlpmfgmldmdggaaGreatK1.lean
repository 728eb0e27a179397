/-
  Contracts of the program's functions and of the document's. Lemmas alone; their conditions stand in them.
-/
import Derived.Test.YtlpmfgmldmdggaaGreatA1
import Derived.Test.YtlpmfgmldmdggaaGreatT1
import Derived.Test.YtlpmfgmldmdggaaGreatRows
import Derived.ProofKit
open Go Go.RM
namespace Go.Proofs.YtlpmfgmldmdggaaGreat
open Go.ChangeShapes Go.WideShapes Go.ChangeAt Go.RowKit
set_option maxRecDepth 100000
theorem yf:ownKnob Tryz.prog.godebug=none:=by kernel_rfl
theorem xx:laidOutB Tryz.prog=true:=by kernel_rfl
end Go.Proofs.YtlpmfgmldmdggaaGreat
