/-
  NARROWER THAN 'FOR EVERY INPUT', by the rows' own cells (each row's printed sentence says how): TenderLasts: laid · TenderKnown: laid · TenderWhatever: laid · TenderFewest: laid · TenderBears: laid · TenderStill: laid · TenderWorst: laid · TenderMore: laid · TenderMust: laid · TenderLeft: laid.
  DERIVED. THE GIVEN ROWS OF THIS SEAT. 10 by the template 'for every input the law returns true; each argument reads behind the call as it read before'; 0 by the template 'total and deterministic' (their statements: YtpeogffeoehboaaDoorTotals.lean).
  GIVEN WITH THE SEED: the statements are not yours to turn. If you find one false, say at which input.
  Laid BY PROGRAM, IN A SANDBOX (cutbox-rows.mjs): the forced cells as the released guide's own fill.sh prints them over the translation 6cc6391605ef1d63… (all of the seat's roots in one cut). By AI agents, Wed Nov 11 2026. No macro, syntax, notation, axiom, sorry.
-/
import Derived.Test.YtpeogffeoehboaaDoorChecked
import GoSem.Claim
import GoSem.ClaimJoined
import GoSem.ClaimMapViews
import Derived.JoinedTies
import Derived.KernelRfl
namespace Go.Proofs.YtpeogffeoehboaaDoor
/- THE CELL 'sum', in the pinned program and in every row, IS THE sha256 OF THE DUMP (.gsa) THAT YtpeogffeoehboaaDoorProg.lean LOADS. Nothing in Lean hashes anything: it is a label: what it is worth is what the hold of that sum in a sandbox is worth. -/
noncomputable def Tryd.pinned : Pinned := { name := "ytpeogffeoehboaadoor", sum := "6cc6391605ef1d63b4f9577788a665c52fde0cd31e962a98b480b1d222115fd2", checked := Tryd.checked }
namespace Rows
def none {H : Type} : Left H := { results := [], args := [] }

/- WHAT THE LISTED PACKAGE-LEVEL VARIABLES READ AS WHEN THE CALL BEGINS. Each datum BY PROGRAM (the guide's laid-datum.mjs) off the statement by which the dump's own 'gosem.cut.vars' lays the variable. In a bare row this is a premise. The card (YtpeogffeoehboaaDoorCards.lean) ties it to the program's text. -/
def laid_math_bits_deBruijn32tab {H : Type} : DataW H := .agg [.lit (.int .u8 0), .lit (.int .u8 1), .lit (.int .u8 28), .lit (.int .u8 2), .lit (.int .u8 29), .lit (.int .u8 14), .lit (.int .u8 24), .lit (.int .u8 3), .lit (.int .u8 30), .lit (.int .u8 22), .lit (.int .u8 20), .lit (.int .u8 15), .lit (.int .u8 25), .lit (.int .u8 17), .lit (.int .u8 4), .lit (.int .u8 8), .lit (.int .u8 31), .lit (.int .u8 27), .lit (.int .u8 13), .lit (.int .u8 23), .lit (.int .u8 21), .lit (.int .u8 19), .lit (.int .u8 16), .lit (.int .u8 7), .lit (.int .u8 26), .lit (.int .u8 12), .lit (.int .u8 18), .lit (.int .u8 6), .lit (.int .u8 11), .lit (.int .u8 5), .lit (.int .u8 10), .lit (.int .u8 9)]
def laid_math_bits_deBruijn64tab {H : Type} : DataW H := .agg [.lit (.int .u8 0), .lit (.int .u8 1), .lit (.int .u8 56), .lit (.int .u8 2), .lit (.int .u8 57), .lit (.int .u8 49), .lit (.int .u8 28), .lit (.int .u8 3), .lit (.int .u8 61), .lit (.int .u8 58), .lit (.int .u8 42), .lit (.int .u8 50), .lit (.int .u8 38), .lit (.int .u8 29), .lit (.int .u8 17), .lit (.int .u8 4), .lit (.int .u8 62), .lit (.int .u8 47), .lit (.int .u8 59), .lit (.int .u8 36), .lit (.int .u8 45), .lit (.int .u8 43), .lit (.int .u8 51), .lit (.int .u8 22), .lit (.int .u8 53), .lit (.int .u8 39), .lit (.int .u8 33), .lit (.int .u8 30), .lit (.int .u8 24), .lit (.int .u8 18), .lit (.int .u8 12), .lit (.int .u8 5), .lit (.int .u8 63), .lit (.int .u8 55), .lit (.int .u8 48), .lit (.int .u8 27), .lit (.int .u8 60), .lit (.int .u8 41), .lit (.int .u8 37), .lit (.int .u8 16), .lit (.int .u8 46), .lit (.int .u8 35), .lit (.int .u8 44), .lit (.int .u8 21), .lit (.int .u8 52), .lit (.int .u8 32), .lit (.int .u8 23), .lit (.int .u8 11), .lit (.int .u8 54), .lit (.int .u8 26), .lit (.int .u8 40), .lit (.int .u8 15), .lit (.int .u8 34), .lit (.int .u8 20), .lit (.int .u8 31), .lit (.int .u8 10), .lit (.int .u8 25), .lit (.int .u8 14), .lit (.int .u8 19), .lit (.int .u8 9), .lit (.int .u8 13), .lit (.int .u8 8), .lit (.int .u8 7), .lit (.int .u8 6)]

/-- 'norelaw09.TenderLasts': WHATEVER THE INPUT: true; the input reads as it did. -/
def tenderLastsSpec : ChangeSpec := { name := "tenderLasts", fn := fun _ => fun
  | [d1, d2, d3] => { results := [.lit (.bool true)], args := [d1, d2, d3] }
  | _ => none }
def tenderLastsRow : OpenClaim := { program := "ytpeogffeoehboaadoor", sum := "6cc6391605ef1d63b4f9577788a665c52fde0cd31e962a98b480b1d222115fd2", func := "nore/norelaw09.TenderLasts", spec := "tenderLasts", unfollowed := true, recurses := true, named := ["math/bits.deBruijn32tab", "math/bits.deBruijn64tab"], plainKeys := false, apart := false, laid := [("math/bits.deBruijn32tab", laid_math_bits_deBruijn32tab), ("math/bits.deBruijn64tab", laid_math_bits_deBruijn64tab)] }
def TenderLastsSaid : Prop := tenderLastsRow.holds Tryd.pinned (OpenSpec.ofChange tenderLastsSpec)

/-- ITS FALSE NEIGHBOUR: 'it returns false'. Refute it at one input. -/
def tenderLastsWrong : ChangeSpec := { name := "tenderLasts", fn := fun _ => fun
  | [d1, d2, d3] => { results := [.lit (.bool false)], args := [d1, d2, d3] }
  | _ => none }
def TenderLastsWrongFalsely : Prop := tenderLastsRow.holds Tryd.pinned (OpenSpec.ofChange tenderLastsWrong)

/-- 'norelaw09.TenderKnown': WHATEVER THE INPUT: true; the input reads as it did. -/
def tenderKnownSpec : ChangeSpec := { name := "tenderKnown", fn := fun _ => fun
  | [] => { results := [.lit (.bool true)], args := [] }
  | _ => none }
def tenderKnownRow : OpenClaim := { program := "ytpeogffeoehboaadoor", sum := "6cc6391605ef1d63b4f9577788a665c52fde0cd31e962a98b480b1d222115fd2", func := "nore/norelaw09.TenderKnown", spec := "tenderKnown", unfollowed := true, recurses := true, named := ["math/bits.deBruijn32tab", "math/bits.deBruijn64tab"], plainKeys := false, apart := false, laid := [("math/bits.deBruijn32tab", laid_math_bits_deBruijn32tab), ("math/bits.deBruijn64tab", laid_math_bits_deBruijn64tab)] }
def TenderKnownSaid : Prop := tenderKnownRow.holds Tryd.pinned (OpenSpec.ofChange tenderKnownSpec)

/-- ITS FALSE NEIGHBOUR: 'it returns false'. Refute it at one input. -/
def tenderKnownWrong : ChangeSpec := { name := "tenderKnown", fn := fun _ => fun
  | [] => { results := [.lit (.bool false)], args := [] }
  | _ => none }
def TenderKnownWrongFalsely : Prop := tenderKnownRow.holds Tryd.pinned (OpenSpec.ofChange tenderKnownWrong)

/-- 'norelaw09.TenderWhatever': WHATEVER THE INPUT: true; the input reads as it did. -/
def tenderWhateverSpec : ChangeSpec := { name := "tenderWhatever", fn := fun _ => fun
  | [d1, d2, d3] => { results := [.lit (.bool true)], args := [d1, d2, d3] }
  | _ => none }
def tenderWhateverRow : OpenClaim := { program := "ytpeogffeoehboaadoor", sum := "6cc6391605ef1d63b4f9577788a665c52fde0cd31e962a98b480b1d222115fd2", func := "nore/norelaw09.TenderWhatever", spec := "tenderWhatever", unfollowed := true, recurses := true, named := ["math/bits.deBruijn32tab", "math/bits.deBruijn64tab"], plainKeys := false, apart := false, laid := [("math/bits.deBruijn32tab", laid_math_bits_deBruijn32tab), ("math/bits.deBruijn64tab", laid_math_bits_deBruijn64tab)] }
def TenderWhateverSaid : Prop := tenderWhateverRow.holds Tryd.pinned (OpenSpec.ofChange tenderWhateverSpec)

/-- ITS FALSE NEIGHBOUR: 'it returns false'. Refute it at one input. -/
def tenderWhateverWrong : ChangeSpec := { name := "tenderWhatever", fn := fun _ => fun
  | [d1, d2, d3] => { results := [.lit (.bool false)], args := [d1, d2, d3] }
  | _ => none }
def TenderWhateverWrongFalsely : Prop := tenderWhateverRow.holds Tryd.pinned (OpenSpec.ofChange tenderWhateverWrong)

/-- 'norelaw09.TenderFewest': WHATEVER THE INPUT: true; the input reads as it did. -/
def tenderFewestSpec : ChangeSpec := { name := "tenderFewest", fn := fun _ => fun
  | [d1, d2] => { results := [.lit (.bool true)], args := [d1, d2] }
  | _ => none }
def tenderFewestRow : OpenClaim := { program := "ytpeogffeoehboaadoor", sum := "6cc6391605ef1d63b4f9577788a665c52fde0cd31e962a98b480b1d222115fd2", func := "nore/norelaw09.TenderFewest", spec := "tenderFewest", unfollowed := true, recurses := true, named := ["math/bits.deBruijn32tab", "math/bits.deBruijn64tab"], plainKeys := false, apart := false, laid := [("math/bits.deBruijn32tab", laid_math_bits_deBruijn32tab), ("math/bits.deBruijn64tab", laid_math_bits_deBruijn64tab)] }
def TenderFewestSaid : Prop := tenderFewestRow.holds Tryd.pinned (OpenSpec.ofChange tenderFewestSpec)

/-- ITS FALSE NEIGHBOUR: 'it returns false'. Refute it at one input. -/
def tenderFewestWrong : ChangeSpec := { name := "tenderFewest", fn := fun _ => fun
  | [d1, d2] => { results := [.lit (.bool false)], args := [d1, d2] }
  | _ => none }
def TenderFewestWrongFalsely : Prop := tenderFewestRow.holds Tryd.pinned (OpenSpec.ofChange tenderFewestWrong)

/-- 'norelaw09.TenderBears': WHATEVER THE INPUT: true; the input reads as it did. -/
def tenderBearsSpec : ChangeSpec := { name := "tenderBears", fn := fun _ => fun
  | [d1, d2, d3] => { results := [.lit (.bool true)], args := [d1, d2, d3] }
  | _ => none }
def tenderBearsRow : OpenClaim := { program := "ytpeogffeoehboaadoor", sum := "6cc6391605ef1d63b4f9577788a665c52fde0cd31e962a98b480b1d222115fd2", func := "nore/norelaw09.TenderBears", spec := "tenderBears", unfollowed := true, recurses := true, named := ["math/bits.deBruijn32tab", "math/bits.deBruijn64tab"], plainKeys := false, apart := false, laid := [("math/bits.deBruijn32tab", laid_math_bits_deBruijn32tab), ("math/bits.deBruijn64tab", laid_math_bits_deBruijn64tab)] }
def TenderBearsSaid : Prop := tenderBearsRow.holds Tryd.pinned (OpenSpec.ofChange tenderBearsSpec)

/-- ITS FALSE NEIGHBOUR: 'it returns false'. Refute it at one input. -/
def tenderBearsWrong : ChangeSpec := { name := "tenderBears", fn := fun _ => fun
  | [d1, d2, d3] => { results := [.lit (.bool false)], args := [d1, d2, d3] }
  | _ => none }
def TenderBearsWrongFalsely : Prop := tenderBearsRow.holds Tryd.pinned (OpenSpec.ofChange tenderBearsWrong)

/-- 'norelaw09.TenderStill': WHATEVER THE INPUT: true; the input reads as it did. -/
def tenderStillSpec : ChangeSpec := { name := "tenderStill", fn := fun _ => fun
  | [d1, d2, d3] => { results := [.lit (.bool true)], args := [d1, d2, d3] }
  | _ => none }
def tenderStillRow : OpenClaim := { program := "ytpeogffeoehboaadoor", sum := "6cc6391605ef1d63b4f9577788a665c52fde0cd31e962a98b480b1d222115fd2", func := "nore/norelaw09.TenderStill", spec := "tenderStill", unfollowed := true, recurses := true, named := ["math/bits.deBruijn32tab", "math/bits.deBruijn64tab"], plainKeys := false, apart := false, laid := [("math/bits.deBruijn32tab", laid_math_bits_deBruijn32tab), ("math/bits.deBruijn64tab", laid_math_bits_deBruijn64tab)] }
def TenderStillSaid : Prop := tenderStillRow.holds Tryd.pinned (OpenSpec.ofChange tenderStillSpec)

/-- ITS FALSE NEIGHBOUR: 'it returns false'. Refute it at one input. -/
def tenderStillWrong : ChangeSpec := { name := "tenderStill", fn := fun _ => fun
  | [d1, d2, d3] => { results := [.lit (.bool false)], args := [d1, d2, d3] }
  | _ => none }
def TenderStillWrongFalsely : Prop := tenderStillRow.holds Tryd.pinned (OpenSpec.ofChange tenderStillWrong)

/-- 'norelaw09.TenderWorst': WHATEVER THE INPUT: true; the input reads as it did. -/
def tenderWorstSpec : ChangeSpec := { name := "tenderWorst", fn := fun _ => fun
  | [d1, d2, d3] => { results := [.lit (.bool true)], args := [d1, d2, d3] }
  | _ => none }
def tenderWorstRow : OpenClaim := { program := "ytpeogffeoehboaadoor", sum := "6cc6391605ef1d63b4f9577788a665c52fde0cd31e962a98b480b1d222115fd2", func := "nore/norelaw09.TenderWorst", spec := "tenderWorst", unfollowed := true, recurses := true, named := ["math/bits.deBruijn32tab", "math/bits.deBruijn64tab"], plainKeys := false, apart := false, laid := [("math/bits.deBruijn32tab", laid_math_bits_deBruijn32tab), ("math/bits.deBruijn64tab", laid_math_bits_deBruijn64tab)] }
def TenderWorstSaid : Prop := tenderWorstRow.holds Tryd.pinned (OpenSpec.ofChange tenderWorstSpec)

/-- ITS FALSE NEIGHBOUR: 'it returns false'. Refute it at one input. -/
def tenderWorstWrong : ChangeSpec := { name := "tenderWorst", fn := fun _ => fun
  | [d1, d2, d3] => { results := [.lit (.bool false)], args := [d1, d2, d3] }
  | _ => none }
def TenderWorstWrongFalsely : Prop := tenderWorstRow.holds Tryd.pinned (OpenSpec.ofChange tenderWorstWrong)

/-- 'norelaw09.TenderMore': WHATEVER THE INPUT: true; the input reads as it did. -/
def tenderMoreSpec : ChangeSpec := { name := "tenderMore", fn := fun _ => fun
  | [d1, d2, d3] => { results := [.lit (.bool true)], args := [d1, d2, d3] }
  | _ => none }
def tenderMoreRow : OpenClaim := { program := "ytpeogffeoehboaadoor", sum := "6cc6391605ef1d63b4f9577788a665c52fde0cd31e962a98b480b1d222115fd2", func := "nore/norelaw09.TenderMore", spec := "tenderMore", unfollowed := true, recurses := true, named := ["math/bits.deBruijn32tab", "math/bits.deBruijn64tab"], plainKeys := false, apart := false, laid := [("math/bits.deBruijn32tab", laid_math_bits_deBruijn32tab), ("math/bits.deBruijn64tab", laid_math_bits_deBruijn64tab)] }
def TenderMoreSaid : Prop := tenderMoreRow.holds Tryd.pinned (OpenSpec.ofChange tenderMoreSpec)

/-- ITS FALSE NEIGHBOUR: 'it returns false'. Refute it at one input. -/
def tenderMoreWrong : ChangeSpec := { name := "tenderMore", fn := fun _ => fun
  | [d1, d2, d3] => { results := [.lit (.bool false)], args := [d1, d2, d3] }
  | _ => none }
def TenderMoreWrongFalsely : Prop := tenderMoreRow.holds Tryd.pinned (OpenSpec.ofChange tenderMoreWrong)

/-- 'norelaw09.TenderMust': WHATEVER THE INPUT: true; the input reads as it did. -/
def tenderMustSpec : ChangeSpec := { name := "tenderMust", fn := fun _ => fun
  | [d1, d2] => { results := [.lit (.bool true)], args := [d1, d2] }
  | _ => none }
def tenderMustRow : OpenClaim := { program := "ytpeogffeoehboaadoor", sum := "6cc6391605ef1d63b4f9577788a665c52fde0cd31e962a98b480b1d222115fd2", func := "nore/norelaw09.TenderMust", spec := "tenderMust", unfollowed := true, recurses := true, named := ["math/bits.deBruijn32tab", "math/bits.deBruijn64tab"], plainKeys := false, apart := false, laid := [("math/bits.deBruijn32tab", laid_math_bits_deBruijn32tab), ("math/bits.deBruijn64tab", laid_math_bits_deBruijn64tab)] }
def TenderMustSaid : Prop := tenderMustRow.holds Tryd.pinned (OpenSpec.ofChange tenderMustSpec)

/-- ITS FALSE NEIGHBOUR: 'it returns false'. Refute it at one input. -/
def tenderMustWrong : ChangeSpec := { name := "tenderMust", fn := fun _ => fun
  | [d1, d2] => { results := [.lit (.bool false)], args := [d1, d2] }
  | _ => none }
def TenderMustWrongFalsely : Prop := tenderMustRow.holds Tryd.pinned (OpenSpec.ofChange tenderMustWrong)

/-- 'norelaw09.TenderLeft': WHATEVER THE INPUT: true; the input reads as it did. -/
def tenderLeftSpec : ChangeSpec := { name := "tenderLeft", fn := fun _ => fun
  | [d1, d2, d3] => { results := [.lit (.bool true)], args := [d1, d2, d3] }
  | _ => none }
def tenderLeftRow : OpenClaim := { program := "ytpeogffeoehboaadoor", sum := "6cc6391605ef1d63b4f9577788a665c52fde0cd31e962a98b480b1d222115fd2", func := "nore/norelaw09.TenderLeft", spec := "tenderLeft", unfollowed := true, recurses := true, named := ["math/bits.deBruijn32tab", "math/bits.deBruijn64tab"], plainKeys := false, apart := false, laid := [("math/bits.deBruijn32tab", laid_math_bits_deBruijn32tab), ("math/bits.deBruijn64tab", laid_math_bits_deBruijn64tab)] }
def TenderLeftSaid : Prop := tenderLeftRow.holds Tryd.pinned (OpenSpec.ofChange tenderLeftSpec)

/-- ITS FALSE NEIGHBOUR: 'it returns false'. Refute it at one input. -/
def tenderLeftWrong : ChangeSpec := { name := "tenderLeft", fn := fun _ => fun
  | [d1, d2, d3] => { results := [.lit (.bool false)], args := [d1, d2, d3] }
  | _ => none }
def TenderLeftWrongFalsely : Prop := tenderLeftRow.holds Tryd.pinned (OpenSpec.ofChange tenderLeftWrong)

/- THE SECOND FORM. 'bulk': how many values and letters a reading holds, each counted each time it is reached (what is shared counts as often as it is met; a slice's spare places count too). A statement '..UptoSaid' is the law's where the arguments, and the package variables that the reading takes, are together of bulk at most 1048576: NARROWER than '..Said'. Prove '..Said' where nothing that the law and all that it calls make is longer than what came in: it says more and counts as full. Else prove '..UptoSaid'. A law counts once. -/
mutual
def uptoBulk {H : Type} : DataW H → Nat
  | .lit (.string bytes) => bytes.length + 1
  | .lit _ => 1
  | .nil => 1
  | .ptr d => uptoBulk d + 1
  | .slice elems spare => uptoBulkAll elems + uptoBulkAll spare + 1
  | .agg parts => uptoBulkAll parts + 1
  | .iface _ d => uptoBulk d + 1
  | .map entries => uptoBulkEntries entries + 1
  | .held _ => 1
def uptoBulkAll {H : Type} : List (DataW H) → Nat
  | [] => 0
  | d :: r => uptoBulk d + uptoBulkAll r
def uptoBulkEntries {H : Type} : List (Lit × DataW H) → Nat
  | [] => 0
  | x :: r => uptoBulkEntry x + uptoBulkEntries r
def uptoBulkEntry {H : Type} : Lit × DataW H → Nat
  | (.string bytes, d) => bytes.length + uptoBulk d + 1
  | (_, d) => uptoBulk d + 1
 end
def uptoSmall : (H : Type) → List (DataW H) → Bool := fun _ ds => decide (uptoBulkAll ds ≤ 1048576)
def OpenSpec.upto (s : _root_.Go.ChangeSpec) : _root_.Go.OpenSpec := { _root_.Go.OpenSpec.ofChange s with cond := some uptoSmall }

/-- 'norelaw09.TenderLasts', WHERE WHAT IT READS IS OF BULK AT MOST 1048576: true; the input reads as it did. -/
def tenderLastsUptoRow : OpenClaim := { program := "ytpeogffeoehboaadoor", sum := "6cc6391605ef1d63b4f9577788a665c52fde0cd31e962a98b480b1d222115fd2", func := "nore/norelaw09.TenderLasts", spec := "tenderLasts", unfollowed := true, recurses := true, named := ["math/bits.deBruijn32tab", "math/bits.deBruijn64tab"], plainKeys := false, apart := false, laid := [("math/bits.deBruijn32tab", laid_math_bits_deBruijn32tab), ("math/bits.deBruijn64tab", laid_math_bits_deBruijn64tab)], narrowed := true }
def TenderLastsUptoSaid : Prop := tenderLastsUptoRow.holds Tryd.pinned (OpenSpec.upto tenderLastsSpec)

/-- 'norelaw09.TenderKnown', WHERE WHAT IT READS IS OF BULK AT MOST 1048576: true; the input reads as it did. -/
def tenderKnownUptoRow : OpenClaim := { program := "ytpeogffeoehboaadoor", sum := "6cc6391605ef1d63b4f9577788a665c52fde0cd31e962a98b480b1d222115fd2", func := "nore/norelaw09.TenderKnown", spec := "tenderKnown", unfollowed := true, recurses := true, named := ["math/bits.deBruijn32tab", "math/bits.deBruijn64tab"], plainKeys := false, apart := false, laid := [("math/bits.deBruijn32tab", laid_math_bits_deBruijn32tab), ("math/bits.deBruijn64tab", laid_math_bits_deBruijn64tab)], narrowed := true }
def TenderKnownUptoSaid : Prop := tenderKnownUptoRow.holds Tryd.pinned (OpenSpec.upto tenderKnownSpec)

/-- 'norelaw09.TenderWhatever', WHERE WHAT IT READS IS OF BULK AT MOST 1048576: true; the input reads as it did. -/
def tenderWhateverUptoRow : OpenClaim := { program := "ytpeogffeoehboaadoor", sum := "6cc6391605ef1d63b4f9577788a665c52fde0cd31e962a98b480b1d222115fd2", func := "nore/norelaw09.TenderWhatever", spec := "tenderWhatever", unfollowed := true, recurses := true, named := ["math/bits.deBruijn32tab", "math/bits.deBruijn64tab"], plainKeys := false, apart := false, laid := [("math/bits.deBruijn32tab", laid_math_bits_deBruijn32tab), ("math/bits.deBruijn64tab", laid_math_bits_deBruijn64tab)], narrowed := true }
def TenderWhateverUptoSaid : Prop := tenderWhateverUptoRow.holds Tryd.pinned (OpenSpec.upto tenderWhateverSpec)

/-- 'norelaw09.TenderFewest', WHERE WHAT IT READS IS OF BULK AT MOST 1048576: true; the input reads as it did. -/
def tenderFewestUptoRow : OpenClaim := { program := "ytpeogffeoehboaadoor", sum := "6cc6391605ef1d63b4f9577788a665c52fde0cd31e962a98b480b1d222115fd2", func := "nore/norelaw09.TenderFewest", spec := "tenderFewest", unfollowed := true, recurses := true, named := ["math/bits.deBruijn32tab", "math/bits.deBruijn64tab"], plainKeys := false, apart := false, laid := [("math/bits.deBruijn32tab", laid_math_bits_deBruijn32tab), ("math/bits.deBruijn64tab", laid_math_bits_deBruijn64tab)], narrowed := true }
def TenderFewestUptoSaid : Prop := tenderFewestUptoRow.holds Tryd.pinned (OpenSpec.upto tenderFewestSpec)

/-- 'norelaw09.TenderBears', WHERE WHAT IT READS IS OF BULK AT MOST 1048576: true; the input reads as it did. -/
def tenderBearsUptoRow : OpenClaim := { program := "ytpeogffeoehboaadoor", sum := "6cc6391605ef1d63b4f9577788a665c52fde0cd31e962a98b480b1d222115fd2", func := "nore/norelaw09.TenderBears", spec := "tenderBears", unfollowed := true, recurses := true, named := ["math/bits.deBruijn32tab", "math/bits.deBruijn64tab"], plainKeys := false, apart := false, laid := [("math/bits.deBruijn32tab", laid_math_bits_deBruijn32tab), ("math/bits.deBruijn64tab", laid_math_bits_deBruijn64tab)], narrowed := true }
def TenderBearsUptoSaid : Prop := tenderBearsUptoRow.holds Tryd.pinned (OpenSpec.upto tenderBearsSpec)

/-- 'norelaw09.TenderStill', WHERE WHAT IT READS IS OF BULK AT MOST 1048576: true; the input reads as it did. -/
def tenderStillUptoRow : OpenClaim := { program := "ytpeogffeoehboaadoor", sum := "6cc6391605ef1d63b4f9577788a665c52fde0cd31e962a98b480b1d222115fd2", func := "nore/norelaw09.TenderStill", spec := "tenderStill", unfollowed := true, recurses := true, named := ["math/bits.deBruijn32tab", "math/bits.deBruijn64tab"], plainKeys := false, apart := false, laid := [("math/bits.deBruijn32tab", laid_math_bits_deBruijn32tab), ("math/bits.deBruijn64tab", laid_math_bits_deBruijn64tab)], narrowed := true }
def TenderStillUptoSaid : Prop := tenderStillUptoRow.holds Tryd.pinned (OpenSpec.upto tenderStillSpec)

/-- 'norelaw09.TenderWorst', WHERE WHAT IT READS IS OF BULK AT MOST 1048576: true; the input reads as it did. -/
def tenderWorstUptoRow : OpenClaim := { program := "ytpeogffeoehboaadoor", sum := "6cc6391605ef1d63b4f9577788a665c52fde0cd31e962a98b480b1d222115fd2", func := "nore/norelaw09.TenderWorst", spec := "tenderWorst", unfollowed := true, recurses := true, named := ["math/bits.deBruijn32tab", "math/bits.deBruijn64tab"], plainKeys := false, apart := false, laid := [("math/bits.deBruijn32tab", laid_math_bits_deBruijn32tab), ("math/bits.deBruijn64tab", laid_math_bits_deBruijn64tab)], narrowed := true }
def TenderWorstUptoSaid : Prop := tenderWorstUptoRow.holds Tryd.pinned (OpenSpec.upto tenderWorstSpec)

/-- 'norelaw09.TenderMore', WHERE WHAT IT READS IS OF BULK AT MOST 1048576: true; the input reads as it did. -/
def tenderMoreUptoRow : OpenClaim := { program := "ytpeogffeoehboaadoor", sum := "6cc6391605ef1d63b4f9577788a665c52fde0cd31e962a98b480b1d222115fd2", func := "nore/norelaw09.TenderMore", spec := "tenderMore", unfollowed := true, recurses := true, named := ["math/bits.deBruijn32tab", "math/bits.deBruijn64tab"], plainKeys := false, apart := false, laid := [("math/bits.deBruijn32tab", laid_math_bits_deBruijn32tab), ("math/bits.deBruijn64tab", laid_math_bits_deBruijn64tab)], narrowed := true }
def TenderMoreUptoSaid : Prop := tenderMoreUptoRow.holds Tryd.pinned (OpenSpec.upto tenderMoreSpec)

/-- 'norelaw09.TenderMust', WHERE WHAT IT READS IS OF BULK AT MOST 1048576: true; the input reads as it did. -/
def tenderMustUptoRow : OpenClaim := { program := "ytpeogffeoehboaadoor", sum := "6cc6391605ef1d63b4f9577788a665c52fde0cd31e962a98b480b1d222115fd2", func := "nore/norelaw09.TenderMust", spec := "tenderMust", unfollowed := true, recurses := true, named := ["math/bits.deBruijn32tab", "math/bits.deBruijn64tab"], plainKeys := false, apart := false, laid := [("math/bits.deBruijn32tab", laid_math_bits_deBruijn32tab), ("math/bits.deBruijn64tab", laid_math_bits_deBruijn64tab)], narrowed := true }
def TenderMustUptoSaid : Prop := tenderMustUptoRow.holds Tryd.pinned (OpenSpec.upto tenderMustSpec)

/-- 'norelaw09.TenderLeft', WHERE WHAT IT READS IS OF BULK AT MOST 1048576: true; the input reads as it did. -/
def tenderLeftUptoRow : OpenClaim := { program := "ytpeogffeoehboaadoor", sum := "6cc6391605ef1d63b4f9577788a665c52fde0cd31e962a98b480b1d222115fd2", func := "nore/norelaw09.TenderLeft", spec := "tenderLeft", unfollowed := true, recurses := true, named := ["math/bits.deBruijn32tab", "math/bits.deBruijn64tab"], plainKeys := false, apart := false, laid := [("math/bits.deBruijn32tab", laid_math_bits_deBruijn32tab), ("math/bits.deBruijn64tab", laid_math_bits_deBruijn64tab)], narrowed := true }
def TenderLeftUptoSaid : Prop := tenderLeftUptoRow.holds Tryd.pinned (OpenSpec.upto tenderLeftSpec)

end Rows
end Go.Proofs.YtpeogffeoehboaaDoor
