/-
  No cell of these rows narrows 'for every input' (looked for: loops, veiled, ifaces, maps, wideKeys, modest, calm, conditions, laid).
  DERIVED. THE GIVEN ROWS OF THIS SEAT. 14 by the template 'for every input the law returns true; each argument reads behind the call as it read before'; 0 by the template 'total and deterministic' (their statements: YtmkaeohmdcoanaaTotals.lean).
  GIVEN WITH THE SEED: the statements are not yours to turn. If you find one false, say at which input.
  Laid BY PROGRAM, IN A SANDBOX (cutbox-rows.mjs): the forced cells as the released guide's own fill.sh prints them over the translation 569f542321dd7748… (all of the seat's roots in one cut). By AI agents, Wed Nov 11 2026. No macro, syntax, notation, axiom, sorry.
-/
import Derived.Test.YtmkaeohmdcoanaaChecked
import GoSem.Claim
import GoSem.ClaimJoined
import GoSem.ClaimMapViews
import Derived.JoinedTies
import Derived.KernelRfl
namespace Go.Proofs.Ytmkaeohmdcoanaa
/- THE CELL 'sum', in the pinned program and in every row, IS THE sha256 OF THE DUMP (.gsa) THAT YtmkaeohmdcoanaaProg.lean LOADS. Nothing in Lean hashes anything: it is a label: what it is worth is what the hold of that sum in a sandbox is worth. -/
noncomputable def Try.pinned : Pinned := { name := "ytmkaeohmdcoanaa", sum := "569f542321dd7748b9c07904761b85a0cccbc094c7010855ac235c63eb4dccaa", checked := Try.checked }
namespace Rows
def none {H : Type} : Left H := { results := [], args := [] }

/-- 'norelaw08.StoreMornings': WHATEVER THE INPUT: true; the input reads as it did. -/
def storeMorningsSpec : ChangeSpec := { name := "storeMornings", fn := fun _ => fun
  | [d1, d2, d3] => { results := [.lit (.bool true)], args := [d1, d2, d3] }
  | _ => none }
def storeMorningsRow : OpenClaim := { program := "ytmkaeohmdcoanaa", sum := "569f542321dd7748b9c07904761b85a0cccbc094c7010855ac235c63eb4dccaa", func := "nore/norelaw08.StoreMornings", spec := "storeMornings", unfollowed := true, recurses := true, plainKeys := false, apart := false }
def StoreMorningsSaid : Prop := storeMorningsRow.holds Try.pinned (OpenSpec.ofChange storeMorningsSpec)

/-- ITS FALSE NEIGHBOUR: 'it returns false'. Refute it at one input. -/
def storeMorningsWrong : ChangeSpec := { name := "storeMornings", fn := fun _ => fun
  | [d1, d2, d3] => { results := [.lit (.bool false)], args := [d1, d2, d3] }
  | _ => none }
def StoreMorningsWrongFalsely : Prop := storeMorningsRow.holds Try.pinned (OpenSpec.ofChange storeMorningsWrong)

/-- 'norelaw08.StoreLevels': WHATEVER THE INPUT: true; the input reads as it did. -/
def storeLevelsSpec : ChangeSpec := { name := "storeLevels", fn := fun _ => fun
  | [d1, d2, d3] => { results := [.lit (.bool true)], args := [d1, d2, d3] }
  | _ => none }
def storeLevelsRow : OpenClaim := { program := "ytmkaeohmdcoanaa", sum := "569f542321dd7748b9c07904761b85a0cccbc094c7010855ac235c63eb4dccaa", func := "nore/norelaw08.StoreLevels", spec := "storeLevels", unfollowed := true, recurses := true, plainKeys := false, apart := false }
def StoreLevelsSaid : Prop := storeLevelsRow.holds Try.pinned (OpenSpec.ofChange storeLevelsSpec)

/-- ITS FALSE NEIGHBOUR: 'it returns false'. Refute it at one input. -/
def storeLevelsWrong : ChangeSpec := { name := "storeLevels", fn := fun _ => fun
  | [d1, d2, d3] => { results := [.lit (.bool false)], args := [d1, d2, d3] }
  | _ => none }
def StoreLevelsWrongFalsely : Prop := storeLevelsRow.holds Try.pinned (OpenSpec.ofChange storeLevelsWrong)

/-- 'norelaw08.StoreCargos': WHATEVER THE INPUT: true; the input reads as it did. -/
def storeCargosSpec : ChangeSpec := { name := "storeCargos", fn := fun _ => fun
  | [d1, d2, d3] => { results := [.lit (.bool true)], args := [d1, d2, d3] }
  | _ => none }
def storeCargosRow : OpenClaim := { program := "ytmkaeohmdcoanaa", sum := "569f542321dd7748b9c07904761b85a0cccbc094c7010855ac235c63eb4dccaa", func := "nore/norelaw08.StoreCargos", spec := "storeCargos", unfollowed := true, recurses := true, plainKeys := false, apart := false }
def StoreCargosSaid : Prop := storeCargosRow.holds Try.pinned (OpenSpec.ofChange storeCargosSpec)

/-- ITS FALSE NEIGHBOUR: 'it returns false'. Refute it at one input. -/
def storeCargosWrong : ChangeSpec := { name := "storeCargos", fn := fun _ => fun
  | [d1, d2, d3] => { results := [.lit (.bool false)], args := [d1, d2, d3] }
  | _ => none }
def StoreCargosWrongFalsely : Prop := storeCargosRow.holds Try.pinned (OpenSpec.ofChange storeCargosWrong)

/-- 'norelaw08.StoreWrongs': WHATEVER THE INPUT: true; the input reads as it did. -/
def storeWrongsSpec : ChangeSpec := { name := "storeWrongs", fn := fun _ => fun
  | [d1, d2] => { results := [.lit (.bool true)], args := [d1, d2] }
  | _ => none }
def storeWrongsRow : OpenClaim := { program := "ytmkaeohmdcoanaa", sum := "569f542321dd7748b9c07904761b85a0cccbc094c7010855ac235c63eb4dccaa", func := "nore/norelaw08.StoreWrongs", spec := "storeWrongs", unfollowed := true, recurses := true, plainKeys := false, apart := false }
def StoreWrongsSaid : Prop := storeWrongsRow.holds Try.pinned (OpenSpec.ofChange storeWrongsSpec)

/-- ITS FALSE NEIGHBOUR: 'it returns false'. Refute it at one input. -/
def storeWrongsWrong : ChangeSpec := { name := "storeWrongs", fn := fun _ => fun
  | [d1, d2] => { results := [.lit (.bool false)], args := [d1, d2] }
  | _ => none }
def StoreWrongsWrongFalsely : Prop := storeWrongsRow.holds Try.pinned (OpenSpec.ofChange storeWrongsWrong)

/-- 'norelaw08.StoreKnown': WHATEVER THE INPUT: true; the input reads as it did. -/
def storeKnownSpec : ChangeSpec := { name := "storeKnown", fn := fun _ => fun
  | [] => { results := [.lit (.bool true)], args := [] }
  | _ => none }
def storeKnownRow : OpenClaim := { program := "ytmkaeohmdcoanaa", sum := "569f542321dd7748b9c07904761b85a0cccbc094c7010855ac235c63eb4dccaa", func := "nore/norelaw08.StoreKnown", spec := "storeKnown", unfollowed := true, recurses := true, plainKeys := false, apart := false }
def StoreKnownSaid : Prop := storeKnownRow.holds Try.pinned (OpenSpec.ofChange storeKnownSpec)

/-- ITS FALSE NEIGHBOUR: 'it returns false'. Refute it at one input. -/
def storeKnownWrong : ChangeSpec := { name := "storeKnown", fn := fun _ => fun
  | [] => { results := [.lit (.bool false)], args := [] }
  | _ => none }
def StoreKnownWrongFalsely : Prop := storeKnownRow.holds Try.pinned (OpenSpec.ofChange storeKnownWrong)

/-- 'norelaw08.StoreTrue': WHATEVER THE INPUT: true; the input reads as it did. -/
def storeTrueSpec : ChangeSpec := { name := "storeTrue", fn := fun _ => fun
  | [d1, d2] => { results := [.lit (.bool true)], args := [d1, d2] }
  | _ => none }
def storeTrueRow : OpenClaim := { program := "ytmkaeohmdcoanaa", sum := "569f542321dd7748b9c07904761b85a0cccbc094c7010855ac235c63eb4dccaa", func := "nore/norelaw08.StoreTrue", spec := "storeTrue", unfollowed := true, recurses := true, plainKeys := false, apart := false }
def StoreTrueSaid : Prop := storeTrueRow.holds Try.pinned (OpenSpec.ofChange storeTrueSpec)

/-- ITS FALSE NEIGHBOUR: 'it returns false'. Refute it at one input. -/
def storeTrueWrong : ChangeSpec := { name := "storeTrue", fn := fun _ => fun
  | [d1, d2] => { results := [.lit (.bool false)], args := [d1, d2] }
  | _ => none }
def StoreTrueWrongFalsely : Prop := storeTrueRow.holds Try.pinned (OpenSpec.ofChange storeTrueWrong)

/-- 'norelaw08.StoreReached': WHATEVER THE INPUT: true; the input reads as it did. -/
def storeReachedSpec : ChangeSpec := { name := "storeReached", fn := fun _ => fun
  | [d1, d2, d3] => { results := [.lit (.bool true)], args := [d1, d2, d3] }
  | _ => none }
def storeReachedRow : OpenClaim := { program := "ytmkaeohmdcoanaa", sum := "569f542321dd7748b9c07904761b85a0cccbc094c7010855ac235c63eb4dccaa", func := "nore/norelaw08.StoreReached", spec := "storeReached", unfollowed := true, recurses := true, plainKeys := false, apart := false }
def StoreReachedSaid : Prop := storeReachedRow.holds Try.pinned (OpenSpec.ofChange storeReachedSpec)

/-- ITS FALSE NEIGHBOUR: 'it returns false'. Refute it at one input. -/
def storeReachedWrong : ChangeSpec := { name := "storeReached", fn := fun _ => fun
  | [d1, d2, d3] => { results := [.lit (.bool false)], args := [d1, d2, d3] }
  | _ => none }
def StoreReachedWrongFalsely : Prop := storeReachedRow.holds Try.pinned (OpenSpec.ofChange storeReachedWrong)

/-- 'norelaw08.StoreShown': WHATEVER THE INPUT: true; the input reads as it did. -/
def storeShownSpec : ChangeSpec := { name := "storeShown", fn := fun _ => fun
  | [d1, d2, d3] => { results := [.lit (.bool true)], args := [d1, d2, d3] }
  | _ => none }
def storeShownRow : OpenClaim := { program := "ytmkaeohmdcoanaa", sum := "569f542321dd7748b9c07904761b85a0cccbc094c7010855ac235c63eb4dccaa", func := "nore/norelaw08.StoreShown", spec := "storeShown", unfollowed := true, recurses := true, plainKeys := false, apart := false }
def StoreShownSaid : Prop := storeShownRow.holds Try.pinned (OpenSpec.ofChange storeShownSpec)

/-- ITS FALSE NEIGHBOUR: 'it returns false'. Refute it at one input. -/
def storeShownWrong : ChangeSpec := { name := "storeShown", fn := fun _ => fun
  | [d1, d2, d3] => { results := [.lit (.bool false)], args := [d1, d2, d3] }
  | _ => none }
def StoreShownWrongFalsely : Prop := storeShownRow.holds Try.pinned (OpenSpec.ofChange storeShownWrong)

/-- 'norelaw08.StoreEnough': WHATEVER THE INPUT: true; the input reads as it did. -/
def storeEnoughSpec : ChangeSpec := { name := "storeEnough", fn := fun _ => fun
  | [d1, d2, d3] => { results := [.lit (.bool true)], args := [d1, d2, d3] }
  | _ => none }
def storeEnoughRow : OpenClaim := { program := "ytmkaeohmdcoanaa", sum := "569f542321dd7748b9c07904761b85a0cccbc094c7010855ac235c63eb4dccaa", func := "nore/norelaw08.StoreEnough", spec := "storeEnough", unfollowed := true, recurses := true, plainKeys := false, apart := false }
def StoreEnoughSaid : Prop := storeEnoughRow.holds Try.pinned (OpenSpec.ofChange storeEnoughSpec)

/-- ITS FALSE NEIGHBOUR: 'it returns false'. Refute it at one input. -/
def storeEnoughWrong : ChangeSpec := { name := "storeEnough", fn := fun _ => fun
  | [d1, d2, d3] => { results := [.lit (.bool false)], args := [d1, d2, d3] }
  | _ => none }
def StoreEnoughWrongFalsely : Prop := storeEnoughRow.holds Try.pinned (OpenSpec.ofChange storeEnoughWrong)

/-- 'norelaw08.StoreRationed': WHATEVER THE INPUT: true; the input reads as it did. -/
def storeRationedSpec : ChangeSpec := { name := "storeRationed", fn := fun _ => fun
  | [d1, d2, d3] => { results := [.lit (.bool true)], args := [d1, d2, d3] }
  | _ => none }
def storeRationedRow : OpenClaim := { program := "ytmkaeohmdcoanaa", sum := "569f542321dd7748b9c07904761b85a0cccbc094c7010855ac235c63eb4dccaa", func := "nore/norelaw08.StoreRationed", spec := "storeRationed", unfollowed := true, recurses := true, plainKeys := false, apart := false }
def StoreRationedSaid : Prop := storeRationedRow.holds Try.pinned (OpenSpec.ofChange storeRationedSpec)

/-- ITS FALSE NEIGHBOUR: 'it returns false'. Refute it at one input. -/
def storeRationedWrong : ChangeSpec := { name := "storeRationed", fn := fun _ => fun
  | [d1, d2, d3] => { results := [.lit (.bool false)], args := [d1, d2, d3] }
  | _ => none }
def StoreRationedWrongFalsely : Prop := storeRationedRow.holds Try.pinned (OpenSpec.ofChange storeRationedWrong)

/-- 'norelaw08.StoreFewest': WHATEVER THE INPUT: true; the input reads as it did. -/
def storeFewestSpec : ChangeSpec := { name := "storeFewest", fn := fun _ => fun
  | [d1, d2, d3] => { results := [.lit (.bool true)], args := [d1, d2, d3] }
  | _ => none }
def storeFewestRow : OpenClaim := { program := "ytmkaeohmdcoanaa", sum := "569f542321dd7748b9c07904761b85a0cccbc094c7010855ac235c63eb4dccaa", func := "nore/norelaw08.StoreFewest", spec := "storeFewest", unfollowed := true, recurses := true, plainKeys := false, apart := false }
def StoreFewestSaid : Prop := storeFewestRow.holds Try.pinned (OpenSpec.ofChange storeFewestSpec)

/-- ITS FALSE NEIGHBOUR: 'it returns false'. Refute it at one input. -/
def storeFewestWrong : ChangeSpec := { name := "storeFewest", fn := fun _ => fun
  | [d1, d2, d3] => { results := [.lit (.bool false)], args := [d1, d2, d3] }
  | _ => none }
def StoreFewestWrongFalsely : Prop := storeFewestRow.holds Try.pinned (OpenSpec.ofChange storeFewestWrong)

/-- 'norelaw08.StoreFalse': WHATEVER THE INPUT: true; the input reads as it did. -/
def storeFalseSpec : ChangeSpec := { name := "storeFalse", fn := fun _ => fun
  | [d1, d2, d3] => { results := [.lit (.bool true)], args := [d1, d2, d3] }
  | _ => none }
def storeFalseRow : OpenClaim := { program := "ytmkaeohmdcoanaa", sum := "569f542321dd7748b9c07904761b85a0cccbc094c7010855ac235c63eb4dccaa", func := "nore/norelaw08.StoreFalse", spec := "storeFalse", unfollowed := true, recurses := true, plainKeys := false, apart := false }
def StoreFalseSaid : Prop := storeFalseRow.holds Try.pinned (OpenSpec.ofChange storeFalseSpec)

/-- ITS FALSE NEIGHBOUR: 'it returns false'. Refute it at one input. -/
def storeFalseWrong : ChangeSpec := { name := "storeFalse", fn := fun _ => fun
  | [d1, d2, d3] => { results := [.lit (.bool false)], args := [d1, d2, d3] }
  | _ => none }
def StoreFalseWrongFalsely : Prop := storeFalseRow.holds Try.pinned (OpenSpec.ofChange storeFalseWrong)

/-- 'norelaw08.StoreTighter': WHATEVER THE INPUT: true; the input reads as it did. -/
def storeTighterSpec : ChangeSpec := { name := "storeTighter", fn := fun _ => fun
  | [d1, d2, d3] => { results := [.lit (.bool true)], args := [d1, d2, d3] }
  | _ => none }
def storeTighterRow : OpenClaim := { program := "ytmkaeohmdcoanaa", sum := "569f542321dd7748b9c07904761b85a0cccbc094c7010855ac235c63eb4dccaa", func := "nore/norelaw08.StoreTighter", spec := "storeTighter", unfollowed := true, recurses := true, plainKeys := false, apart := false }
def StoreTighterSaid : Prop := storeTighterRow.holds Try.pinned (OpenSpec.ofChange storeTighterSpec)

/-- ITS FALSE NEIGHBOUR: 'it returns false'. Refute it at one input. -/
def storeTighterWrong : ChangeSpec := { name := "storeTighter", fn := fun _ => fun
  | [d1, d2, d3] => { results := [.lit (.bool false)], args := [d1, d2, d3] }
  | _ => none }
def StoreTighterWrongFalsely : Prop := storeTighterRow.holds Try.pinned (OpenSpec.ofChange storeTighterWrong)

/-- 'norelaw08.StoreConserved': WHATEVER THE INPUT: true; the input reads as it did. -/
def storeConservedSpec : ChangeSpec := { name := "storeConserved", fn := fun _ => fun
  | [d1, d2, d3] => { results := [.lit (.bool true)], args := [d1, d2, d3] }
  | _ => none }
def storeConservedRow : OpenClaim := { program := "ytmkaeohmdcoanaa", sum := "569f542321dd7748b9c07904761b85a0cccbc094c7010855ac235c63eb4dccaa", func := "nore/norelaw08.StoreConserved", spec := "storeConserved", unfollowed := true, recurses := true, plainKeys := false, apart := false }
def StoreConservedSaid : Prop := storeConservedRow.holds Try.pinned (OpenSpec.ofChange storeConservedSpec)

/-- ITS FALSE NEIGHBOUR: 'it returns false'. Refute it at one input. -/
def storeConservedWrong : ChangeSpec := { name := "storeConserved", fn := fun _ => fun
  | [d1, d2, d3] => { results := [.lit (.bool false)], args := [d1, d2, d3] }
  | _ => none }
def StoreConservedWrongFalsely : Prop := storeConservedRow.holds Try.pinned (OpenSpec.ofChange storeConservedWrong)

/- THE SECOND FORM. 'bulk': how many values and letters a reading holds, each counted each time it is reached (what is shared counts as often as it is met; a slice's spare places count too). A statement '..UptoSaid' is the law's where the arguments, and the package variables that the reading takes, are together of bulk at most 1048576: NARROWER than '..Said'. Prove '..Said' where nothing that the law and all that it calls make is longer than what came in: it says more and counts as full. Else prove '..UptoSaid'. A law counts once. -/
mutual
def uptoBulk {H : Type} : DataW H → Nat
  | .lit (.string bytes) => bytes.length + 1
  | .lit _ => 1
  | .nil => 1
  | .ptr d => uptoBulk d + 1
  | .slice elems spare => uptoBulkAll elems + uptoBulkAll spare + 1
  | .agg parts => uptoBulkAll parts + 1
  | .iface _ d => uptoBulk d + 1
  | .map entries => uptoBulkEntries entries + 1
  | .held _ => 1
def uptoBulkAll {H : Type} : List (DataW H) → Nat
  | [] => 0
  | d :: r => uptoBulk d + uptoBulkAll r
def uptoBulkEntries {H : Type} : List (Lit × DataW H) → Nat
  | [] => 0
  | x :: r => uptoBulkEntry x + uptoBulkEntries r
def uptoBulkEntry {H : Type} : Lit × DataW H → Nat
  | (.string bytes, d) => bytes.length + uptoBulk d + 1
  | (_, d) => uptoBulk d + 1
 end
def uptoSmall : (H : Type) → List (DataW H) → Bool := fun _ ds => decide (uptoBulkAll ds ≤ 1048576)
def OpenSpec.upto (s : _root_.Go.ChangeSpec) : _root_.Go.OpenSpec := { _root_.Go.OpenSpec.ofChange s with cond := some uptoSmall }

/-- 'norelaw08.StoreMornings', WHERE WHAT IT READS IS OF BULK AT MOST 1048576: true; the input reads as it did. -/
def storeMorningsUptoRow : OpenClaim := { program := "ytmkaeohmdcoanaa", sum := "569f542321dd7748b9c07904761b85a0cccbc094c7010855ac235c63eb4dccaa", func := "nore/norelaw08.StoreMornings", spec := "storeMornings", unfollowed := true, recurses := true, plainKeys := false, apart := false, narrowed := true }
def StoreMorningsUptoSaid : Prop := storeMorningsUptoRow.holds Try.pinned (OpenSpec.upto storeMorningsSpec)

/-- 'norelaw08.StoreLevels', WHERE WHAT IT READS IS OF BULK AT MOST 1048576: true; the input reads as it did. -/
def storeLevelsUptoRow : OpenClaim := { program := "ytmkaeohmdcoanaa", sum := "569f542321dd7748b9c07904761b85a0cccbc094c7010855ac235c63eb4dccaa", func := "nore/norelaw08.StoreLevels", spec := "storeLevels", unfollowed := true, recurses := true, plainKeys := false, apart := false, narrowed := true }
def StoreLevelsUptoSaid : Prop := storeLevelsUptoRow.holds Try.pinned (OpenSpec.upto storeLevelsSpec)

/-- 'norelaw08.StoreCargos', WHERE WHAT IT READS IS OF BULK AT MOST 1048576: true; the input reads as it did. -/
def storeCargosUptoRow : OpenClaim := { program := "ytmkaeohmdcoanaa", sum := "569f542321dd7748b9c07904761b85a0cccbc094c7010855ac235c63eb4dccaa", func := "nore/norelaw08.StoreCargos", spec := "storeCargos", unfollowed := true, recurses := true, plainKeys := false, apart := false, narrowed := true }
def StoreCargosUptoSaid : Prop := storeCargosUptoRow.holds Try.pinned (OpenSpec.upto storeCargosSpec)

/-- 'norelaw08.StoreWrongs', WHERE WHAT IT READS IS OF BULK AT MOST 1048576: true; the input reads as it did. -/
def storeWrongsUptoRow : OpenClaim := { program := "ytmkaeohmdcoanaa", sum := "569f542321dd7748b9c07904761b85a0cccbc094c7010855ac235c63eb4dccaa", func := "nore/norelaw08.StoreWrongs", spec := "storeWrongs", unfollowed := true, recurses := true, plainKeys := false, apart := false, narrowed := true }
def StoreWrongsUptoSaid : Prop := storeWrongsUptoRow.holds Try.pinned (OpenSpec.upto storeWrongsSpec)

/-- 'norelaw08.StoreKnown', WHERE WHAT IT READS IS OF BULK AT MOST 1048576: true; the input reads as it did. -/
def storeKnownUptoRow : OpenClaim := { program := "ytmkaeohmdcoanaa", sum := "569f542321dd7748b9c07904761b85a0cccbc094c7010855ac235c63eb4dccaa", func := "nore/norelaw08.StoreKnown", spec := "storeKnown", unfollowed := true, recurses := true, plainKeys := false, apart := false, narrowed := true }
def StoreKnownUptoSaid : Prop := storeKnownUptoRow.holds Try.pinned (OpenSpec.upto storeKnownSpec)

/-- 'norelaw08.StoreTrue', WHERE WHAT IT READS IS OF BULK AT MOST 1048576: true; the input reads as it did. -/
def storeTrueUptoRow : OpenClaim := { program := "ytmkaeohmdcoanaa", sum := "569f542321dd7748b9c07904761b85a0cccbc094c7010855ac235c63eb4dccaa", func := "nore/norelaw08.StoreTrue", spec := "storeTrue", unfollowed := true, recurses := true, plainKeys := false, apart := false, narrowed := true }
def StoreTrueUptoSaid : Prop := storeTrueUptoRow.holds Try.pinned (OpenSpec.upto storeTrueSpec)

/-- 'norelaw08.StoreReached', WHERE WHAT IT READS IS OF BULK AT MOST 1048576: true; the input reads as it did. -/
def storeReachedUptoRow : OpenClaim := { program := "ytmkaeohmdcoanaa", sum := "569f542321dd7748b9c07904761b85a0cccbc094c7010855ac235c63eb4dccaa", func := "nore/norelaw08.StoreReached", spec := "storeReached", unfollowed := true, recurses := true, plainKeys := false, apart := false, narrowed := true }
def StoreReachedUptoSaid : Prop := storeReachedUptoRow.holds Try.pinned (OpenSpec.upto storeReachedSpec)

/-- 'norelaw08.StoreShown', WHERE WHAT IT READS IS OF BULK AT MOST 1048576: true; the input reads as it did. -/
def storeShownUptoRow : OpenClaim := { program := "ytmkaeohmdcoanaa", sum := "569f542321dd7748b9c07904761b85a0cccbc094c7010855ac235c63eb4dccaa", func := "nore/norelaw08.StoreShown", spec := "storeShown", unfollowed := true, recurses := true, plainKeys := false, apart := false, narrowed := true }
def StoreShownUptoSaid : Prop := storeShownUptoRow.holds Try.pinned (OpenSpec.upto storeShownSpec)

/-- 'norelaw08.StoreEnough', WHERE WHAT IT READS IS OF BULK AT MOST 1048576: true; the input reads as it did. -/
def storeEnoughUptoRow : OpenClaim := { program := "ytmkaeohmdcoanaa", sum := "569f542321dd7748b9c07904761b85a0cccbc094c7010855ac235c63eb4dccaa", func := "nore/norelaw08.StoreEnough", spec := "storeEnough", unfollowed := true, recurses := true, plainKeys := false, apart := false, narrowed := true }
def StoreEnoughUptoSaid : Prop := storeEnoughUptoRow.holds Try.pinned (OpenSpec.upto storeEnoughSpec)

/-- 'norelaw08.StoreRationed', WHERE WHAT IT READS IS OF BULK AT MOST 1048576: true; the input reads as it did. -/
def storeRationedUptoRow : OpenClaim := { program := "ytmkaeohmdcoanaa", sum := "569f542321dd7748b9c07904761b85a0cccbc094c7010855ac235c63eb4dccaa", func := "nore/norelaw08.StoreRationed", spec := "storeRationed", unfollowed := true, recurses := true, plainKeys := false, apart := false, narrowed := true }
def StoreRationedUptoSaid : Prop := storeRationedUptoRow.holds Try.pinned (OpenSpec.upto storeRationedSpec)

/-- 'norelaw08.StoreFewest', WHERE WHAT IT READS IS OF BULK AT MOST 1048576: true; the input reads as it did. -/
def storeFewestUptoRow : OpenClaim := { program := "ytmkaeohmdcoanaa", sum := "569f542321dd7748b9c07904761b85a0cccbc094c7010855ac235c63eb4dccaa", func := "nore/norelaw08.StoreFewest", spec := "storeFewest", unfollowed := true, recurses := true, plainKeys := false, apart := false, narrowed := true }
def StoreFewestUptoSaid : Prop := storeFewestUptoRow.holds Try.pinned (OpenSpec.upto storeFewestSpec)

/-- 'norelaw08.StoreFalse', WHERE WHAT IT READS IS OF BULK AT MOST 1048576: true; the input reads as it did. -/
def storeFalseUptoRow : OpenClaim := { program := "ytmkaeohmdcoanaa", sum := "569f542321dd7748b9c07904761b85a0cccbc094c7010855ac235c63eb4dccaa", func := "nore/norelaw08.StoreFalse", spec := "storeFalse", unfollowed := true, recurses := true, plainKeys := false, apart := false, narrowed := true }
def StoreFalseUptoSaid : Prop := storeFalseUptoRow.holds Try.pinned (OpenSpec.upto storeFalseSpec)

/-- 'norelaw08.StoreTighter', WHERE WHAT IT READS IS OF BULK AT MOST 1048576: true; the input reads as it did. -/
def storeTighterUptoRow : OpenClaim := { program := "ytmkaeohmdcoanaa", sum := "569f542321dd7748b9c07904761b85a0cccbc094c7010855ac235c63eb4dccaa", func := "nore/norelaw08.StoreTighter", spec := "storeTighter", unfollowed := true, recurses := true, plainKeys := false, apart := false, narrowed := true }
def StoreTighterUptoSaid : Prop := storeTighterUptoRow.holds Try.pinned (OpenSpec.upto storeTighterSpec)

/-- 'norelaw08.StoreConserved', WHERE WHAT IT READS IS OF BULK AT MOST 1048576: true; the input reads as it did. -/
def storeConservedUptoRow : OpenClaim := { program := "ytmkaeohmdcoanaa", sum := "569f542321dd7748b9c07904761b85a0cccbc094c7010855ac235c63eb4dccaa", func := "nore/norelaw08.StoreConserved", spec := "storeConserved", unfollowed := true, recurses := true, plainKeys := false, apart := false, narrowed := true }
def StoreConservedUptoSaid : Prop := storeConservedUptoRow.holds Try.pinned (OpenSpec.upto storeConservedSpec)

end Rows
end Go.Proofs.Ytmkaeohmdcoanaa
