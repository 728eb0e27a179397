/-
  No cell of these rows narrows 'for every input' (looked for: loops, veiled, ifaces, maps, wideKeys, modest, calm, conditions, laid).
  DERIVED. THE GIVEN ROWS OF THIS SEAT. 14 by the template 'for every input the law returns true; each argument reads behind the call as it read before'; 0 by the template 'total and deterministic' (their statements: YtichbhmnhkegiaaGreatTotals.lean).
  GIVEN WITH THE SEED: the statements are not yours to turn. If you find one false, say at which input.
  Laid BY PROGRAM, IN A SANDBOX (cutbox-rows.mjs): the forced cells as the released guide's own fill.sh prints them over the translation d306ac151ac5ff05… (all of the seat's roots in one cut). By AI agents, Wed Nov 11 2026. No macro, syntax, notation, axiom, sorry.
-/
import Derived.Test.YtichbhmnhkegiaaGreatChecked
import GoSem.Claim
import GoSem.ClaimJoined
import GoSem.ClaimMapViews
import Derived.JoinedTies
import Derived.KernelRfl
namespace Go.Proofs.YtichbhmnhkegiaaGreat
/- THE CELL 'sum', in the pinned program and in every row, IS THE sha256 OF THE DUMP (.gsa) THAT YtichbhmnhkegiaaGreatProg.lean LOADS. Nothing in Lean hashes anything: it is a label: what it is worth is what the hold of that sum in a sandbox is worth. -/
noncomputable def Tryz.pinned : Pinned := { name := "ytichbhmnhkegiaagreat", sum := "d306ac151ac5ff056b3f6c5363e1e59a771828f6866bc22b5d8c73db15d054fd", checked := Tryz.checked }
namespace Rows
def none {H : Type} : Left H := { results := [], args := [] }

/-- 'norelaw06.AirSignals': WHATEVER THE INPUT: true; the input reads as it did. -/
def airSignalsSpec : ChangeSpec := { name := "airSignals", fn := fun _ => fun
  | [d1, d2, d3] => { results := [.lit (.bool true)], args := [d1, d2, d3] }
  | _ => none }
def airSignalsRow : OpenClaim := { program := "ytichbhmnhkegiaagreat", sum := "d306ac151ac5ff056b3f6c5363e1e59a771828f6866bc22b5d8c73db15d054fd", func := "nore/norelaw06.AirSignals", spec := "airSignals", unfollowed := true, recurses := true, apart := false }
def AirSignalsSaid : Prop := airSignalsRow.holds Tryz.pinned (OpenSpec.ofChange airSignalsSpec)

/-- ITS FALSE NEIGHBOUR: 'it returns false'. Refute it at one input. -/
def airSignalsWrong : ChangeSpec := { name := "airSignals", fn := fun _ => fun
  | [d1, d2, d3] => { results := [.lit (.bool false)], args := [d1, d2, d3] }
  | _ => none }
def AirSignalsWrongFalsely : Prop := airSignalsRow.holds Tryz.pinned (OpenSpec.ofChange airSignalsWrong)

/-- 'norelaw06.AirClears': WHATEVER THE INPUT: true; the input reads as it did. -/
def airClearsSpec : ChangeSpec := { name := "airClears", fn := fun _ => fun
  | [d1, d2, d3] => { results := [.lit (.bool true)], args := [d1, d2, d3] }
  | _ => none }
def airClearsRow : OpenClaim := { program := "ytichbhmnhkegiaagreat", sum := "d306ac151ac5ff056b3f6c5363e1e59a771828f6866bc22b5d8c73db15d054fd", func := "nore/norelaw06.AirClears", spec := "airClears", unfollowed := true, recurses := true, apart := false }
def AirClearsSaid : Prop := airClearsRow.holds Tryz.pinned (OpenSpec.ofChange airClearsSpec)

/-- ITS FALSE NEIGHBOUR: 'it returns false'. Refute it at one input. -/
def airClearsWrong : ChangeSpec := { name := "airClears", fn := fun _ => fun
  | [d1, d2, d3] => { results := [.lit (.bool false)], args := [d1, d2, d3] }
  | _ => none }
def AirClearsWrongFalsely : Prop := airClearsRow.holds Tryz.pinned (OpenSpec.ofChange airClearsWrong)

/-- 'norelaw06.AirCould': WHATEVER THE INPUT: true; the input reads as it did. -/
def airCouldSpec : ChangeSpec := { name := "airCould", fn := fun _ => fun
  | [d1, d2, d3] => { results := [.lit (.bool true)], args := [d1, d2, d3] }
  | _ => none }
def airCouldRow : OpenClaim := { program := "ytichbhmnhkegiaagreat", sum := "d306ac151ac5ff056b3f6c5363e1e59a771828f6866bc22b5d8c73db15d054fd", func := "nore/norelaw06.AirCould", spec := "airCould", unfollowed := true, recurses := true, apart := false }
def AirCouldSaid : Prop := airCouldRow.holds Tryz.pinned (OpenSpec.ofChange airCouldSpec)

/-- ITS FALSE NEIGHBOUR: 'it returns false'. Refute it at one input. -/
def airCouldWrong : ChangeSpec := { name := "airCould", fn := fun _ => fun
  | [d1, d2, d3] => { results := [.lit (.bool false)], args := [d1, d2, d3] }
  | _ => none }
def AirCouldWrongFalsely : Prop := airCouldRow.holds Tryz.pinned (OpenSpec.ofChange airCouldWrong)

/-- 'norelaw06.AirFalse': WHATEVER THE INPUT: true; the input reads as it did. -/
def airFalseSpec : ChangeSpec := { name := "airFalse", fn := fun _ => fun
  | [d1, d2, d3] => { results := [.lit (.bool true)], args := [d1, d2, d3] }
  | _ => none }
def airFalseRow : OpenClaim := { program := "ytichbhmnhkegiaagreat", sum := "d306ac151ac5ff056b3f6c5363e1e59a771828f6866bc22b5d8c73db15d054fd", func := "nore/norelaw06.AirFalse", spec := "airFalse", unfollowed := true, recurses := true, apart := false }
def AirFalseSaid : Prop := airFalseRow.holds Tryz.pinned (OpenSpec.ofChange airFalseSpec)

/-- ITS FALSE NEIGHBOUR: 'it returns false'. Refute it at one input. -/
def airFalseWrong : ChangeSpec := { name := "airFalse", fn := fun _ => fun
  | [d1, d2, d3] => { results := [.lit (.bool false)], args := [d1, d2, d3] }
  | _ => none }
def AirFalseWrongFalsely : Prop := airFalseRow.holds Tryz.pinned (OpenSpec.ofChange airFalseWrong)

/-- 'norelaw06.AirKnown': WHATEVER THE INPUT: true; the input reads as it did. -/
def airKnownSpec : ChangeSpec := { name := "airKnown", fn := fun _ => fun
  | [] => { results := [.lit (.bool true)], args := [] }
  | _ => none }
def airKnownRow : OpenClaim := { program := "ytichbhmnhkegiaagreat", sum := "d306ac151ac5ff056b3f6c5363e1e59a771828f6866bc22b5d8c73db15d054fd", func := "nore/norelaw06.AirKnown", spec := "airKnown", unfollowed := true, recurses := true, apart := false }
def AirKnownSaid : Prop := airKnownRow.holds Tryz.pinned (OpenSpec.ofChange airKnownSpec)

/-- ITS FALSE NEIGHBOUR: 'it returns false'. Refute it at one input. -/
def airKnownWrong : ChangeSpec := { name := "airKnown", fn := fun _ => fun
  | [] => { results := [.lit (.bool false)], args := [] }
  | _ => none }
def AirKnownWrongFalsely : Prop := airKnownRow.holds Tryz.pinned (OpenSpec.ofChange airKnownWrong)

/-- 'norelaw06.AirTrue': WHATEVER THE INPUT: true; the input reads as it did. -/
def airTrueSpec : ChangeSpec := { name := "airTrue", fn := fun _ => fun
  | [d1, d2, d3] => { results := [.lit (.bool true)], args := [d1, d2, d3] }
  | _ => none }
def airTrueRow : OpenClaim := { program := "ytichbhmnhkegiaagreat", sum := "d306ac151ac5ff056b3f6c5363e1e59a771828f6866bc22b5d8c73db15d054fd", func := "nore/norelaw06.AirTrue", spec := "airTrue", unfollowed := true, recurses := true, apart := false }
def AirTrueSaid : Prop := airTrueRow.holds Tryz.pinned (OpenSpec.ofChange airTrueSpec)

/-- ITS FALSE NEIGHBOUR: 'it returns false'. Refute it at one input. -/
def airTrueWrong : ChangeSpec := { name := "airTrue", fn := fun _ => fun
  | [d1, d2, d3] => { results := [.lit (.bool false)], args := [d1, d2, d3] }
  | _ => none }
def AirTrueWrongFalsely : Prop := airTrueRow.holds Tryz.pinned (OpenSpec.ofChange airTrueWrong)

/-- 'norelaw06.AirReached': WHATEVER THE INPUT: true; the input reads as it did. -/
def airReachedSpec : ChangeSpec := { name := "airReached", fn := fun _ => fun
  | [d1, d2, d3] => { results := [.lit (.bool true)], args := [d1, d2, d3] }
  | _ => none }
def airReachedRow : OpenClaim := { program := "ytichbhmnhkegiaagreat", sum := "d306ac151ac5ff056b3f6c5363e1e59a771828f6866bc22b5d8c73db15d054fd", func := "nore/norelaw06.AirReached", spec := "airReached", unfollowed := true, recurses := true, apart := false }
def AirReachedSaid : Prop := airReachedRow.holds Tryz.pinned (OpenSpec.ofChange airReachedSpec)

/-- ITS FALSE NEIGHBOUR: 'it returns false'. Refute it at one input. -/
def airReachedWrong : ChangeSpec := { name := "airReached", fn := fun _ => fun
  | [d1, d2, d3] => { results := [.lit (.bool false)], args := [d1, d2, d3] }
  | _ => none }
def AirReachedWrongFalsely : Prop := airReachedRow.holds Tryz.pinned (OpenSpec.ofChange airReachedWrong)

/-- 'norelaw06.AirNearer': WHATEVER THE INPUT: true; the input reads as it did. -/
def airNearerSpec : ChangeSpec := { name := "airNearer", fn := fun _ => fun
  | [d1, d2, d3] => { results := [.lit (.bool true)], args := [d1, d2, d3] }
  | _ => none }
def airNearerRow : OpenClaim := { program := "ytichbhmnhkegiaagreat", sum := "d306ac151ac5ff056b3f6c5363e1e59a771828f6866bc22b5d8c73db15d054fd", func := "nore/norelaw06.AirNearer", spec := "airNearer", unfollowed := true, recurses := true, apart := false }
def AirNearerSaid : Prop := airNearerRow.holds Tryz.pinned (OpenSpec.ofChange airNearerSpec)

/-- ITS FALSE NEIGHBOUR: 'it returns false'. Refute it at one input. -/
def airNearerWrong : ChangeSpec := { name := "airNearer", fn := fun _ => fun
  | [d1, d2, d3] => { results := [.lit (.bool false)], args := [d1, d2, d3] }
  | _ => none }
def AirNearerWrongFalsely : Prop := airNearerRow.holds Tryz.pinned (OpenSpec.ofChange airNearerWrong)

/-- 'norelaw06.AirMore': WHATEVER THE INPUT: true; the input reads as it did. -/
def airMoreSpec : ChangeSpec := { name := "airMore", fn := fun _ => fun
  | [d1, d2, d3] => { results := [.lit (.bool true)], args := [d1, d2, d3] }
  | _ => none }
def airMoreRow : OpenClaim := { program := "ytichbhmnhkegiaagreat", sum := "d306ac151ac5ff056b3f6c5363e1e59a771828f6866bc22b5d8c73db15d054fd", func := "nore/norelaw06.AirMore", spec := "airMore", unfollowed := true, recurses := true, apart := false }
def AirMoreSaid : Prop := airMoreRow.holds Tryz.pinned (OpenSpec.ofChange airMoreSpec)

/-- ITS FALSE NEIGHBOUR: 'it returns false'. Refute it at one input. -/
def airMoreWrong : ChangeSpec := { name := "airMore", fn := fun _ => fun
  | [d1, d2, d3] => { results := [.lit (.bool false)], args := [d1, d2, d3] }
  | _ => none }
def AirMoreWrongFalsely : Prop := airMoreRow.holds Tryz.pinned (OpenSpec.ofChange airMoreWrong)

/-- 'norelaw06.AirGrade': WHATEVER THE INPUT: true; the input reads as it did. -/
def airGradeSpec : ChangeSpec := { name := "airGrade", fn := fun _ => fun
  | [d1, d2, d3] => { results := [.lit (.bool true)], args := [d1, d2, d3] }
  | _ => none }
def airGradeRow : OpenClaim := { program := "ytichbhmnhkegiaagreat", sum := "d306ac151ac5ff056b3f6c5363e1e59a771828f6866bc22b5d8c73db15d054fd", func := "nore/norelaw06.AirGrade", spec := "airGrade", unfollowed := true, recurses := true, apart := false }
def AirGradeSaid : Prop := airGradeRow.holds Tryz.pinned (OpenSpec.ofChange airGradeSpec)

/-- ITS FALSE NEIGHBOUR: 'it returns false'. Refute it at one input. -/
def airGradeWrong : ChangeSpec := { name := "airGrade", fn := fun _ => fun
  | [d1, d2, d3] => { results := [.lit (.bool false)], args := [d1, d2, d3] }
  | _ => none }
def AirGradeWrongFalsely : Prop := airGradeRow.holds Tryz.pinned (OpenSpec.ofChange airGradeWrong)

/-- 'norelaw06.AirFewest': WHATEVER THE INPUT: true; the input reads as it did. -/
def airFewestSpec : ChangeSpec := { name := "airFewest", fn := fun _ => fun
  | [d1, d2, d3] => { results := [.lit (.bool true)], args := [d1, d2, d3] }
  | _ => none }
def airFewestRow : OpenClaim := { program := "ytichbhmnhkegiaagreat", sum := "d306ac151ac5ff056b3f6c5363e1e59a771828f6866bc22b5d8c73db15d054fd", func := "nore/norelaw06.AirFewest", spec := "airFewest", unfollowed := true, recurses := true, apart := false }
def AirFewestSaid : Prop := airFewestRow.holds Tryz.pinned (OpenSpec.ofChange airFewestSpec)

/-- ITS FALSE NEIGHBOUR: 'it returns false'. Refute it at one input. -/
def airFewestWrong : ChangeSpec := { name := "airFewest", fn := fun _ => fun
  | [d1, d2, d3] => { results := [.lit (.bool false)], args := [d1, d2, d3] }
  | _ => none }
def AirFewestWrongFalsely : Prop := airFewestRow.holds Tryz.pinned (OpenSpec.ofChange airFewestWrong)

/-- 'norelaw06.AirLiars': WHATEVER THE INPUT: true; the input reads as it did. -/
def airLiarsSpec : ChangeSpec := { name := "airLiars", fn := fun _ => fun
  | [d1, d2, d3] => { results := [.lit (.bool true)], args := [d1, d2, d3] }
  | _ => none }
def airLiarsRow : OpenClaim := { program := "ytichbhmnhkegiaagreat", sum := "d306ac151ac5ff056b3f6c5363e1e59a771828f6866bc22b5d8c73db15d054fd", func := "nore/norelaw06.AirLiars", spec := "airLiars", unfollowed := true, recurses := true, apart := false }
def AirLiarsSaid : Prop := airLiarsRow.holds Tryz.pinned (OpenSpec.ofChange airLiarsSpec)

/-- ITS FALSE NEIGHBOUR: 'it returns false'. Refute it at one input. -/
def airLiarsWrong : ChangeSpec := { name := "airLiars", fn := fun _ => fun
  | [d1, d2, d3] => { results := [.lit (.bool false)], args := [d1, d2, d3] }
  | _ => none }
def AirLiarsWrongFalsely : Prop := airLiarsRow.holds Tryz.pinned (OpenSpec.ofChange airLiarsWrong)

/-- 'norelaw06.AirOil': WHATEVER THE INPUT: true; the input reads as it did. -/
def airOilSpec : ChangeSpec := { name := "airOil", fn := fun _ => fun
  | [d1, d2] => { results := [.lit (.bool true)], args := [d1, d2] }
  | _ => none }
def airOilRow : OpenClaim := { program := "ytichbhmnhkegiaagreat", sum := "d306ac151ac5ff056b3f6c5363e1e59a771828f6866bc22b5d8c73db15d054fd", func := "nore/norelaw06.AirOil", spec := "airOil", unfollowed := true, recurses := true, apart := false }
def AirOilSaid : Prop := airOilRow.holds Tryz.pinned (OpenSpec.ofChange airOilSpec)

/-- ITS FALSE NEIGHBOUR: 'it returns false'. Refute it at one input. -/
def airOilWrong : ChangeSpec := { name := "airOil", fn := fun _ => fun
  | [d1, d2] => { results := [.lit (.bool false)], args := [d1, d2] }
  | _ => none }
def AirOilWrongFalsely : Prop := airOilRow.holds Tryz.pinned (OpenSpec.ofChange airOilWrong)

/-- 'norelaw06.AirTurned': WHATEVER THE INPUT: true; the input reads as it did. -/
def airTurnedSpec : ChangeSpec := { name := "airTurned", fn := fun _ => fun
  | [d1, d2, d3] => { results := [.lit (.bool true)], args := [d1, d2, d3] }
  | _ => none }
def airTurnedRow : OpenClaim := { program := "ytichbhmnhkegiaagreat", sum := "d306ac151ac5ff056b3f6c5363e1e59a771828f6866bc22b5d8c73db15d054fd", func := "nore/norelaw06.AirTurned", spec := "airTurned", unfollowed := true, recurses := true, apart := false }
def AirTurnedSaid : Prop := airTurnedRow.holds Tryz.pinned (OpenSpec.ofChange airTurnedSpec)

/-- ITS FALSE NEIGHBOUR: 'it returns false'. Refute it at one input. -/
def airTurnedWrong : ChangeSpec := { name := "airTurned", fn := fun _ => fun
  | [d1, d2, d3] => { results := [.lit (.bool false)], args := [d1, d2, d3] }
  | _ => none }
def AirTurnedWrongFalsely : Prop := airTurnedRow.holds Tryz.pinned (OpenSpec.ofChange airTurnedWrong)

/- THE SECOND FORM. 'bulk': how many values and letters a reading holds, each counted each time it is reached (what is shared counts as often as it is met; a slice's spare places count too). A statement '..UptoSaid' is the law's where the arguments, and the package variables that the reading takes, are together of bulk at most 1048576: NARROWER than '..Said'. Prove '..Said' where nothing that the law and all that it calls make is longer than what came in: it says more and counts as full. Else prove '..UptoSaid'. A law counts once. -/
mutual
def uptoBulk {H : Type} : DataW H → Nat
  | .lit (.string bytes) => bytes.length + 1
  | .lit _ => 1
  | .nil => 1
  | .ptr d => uptoBulk d + 1
  | .slice elems spare => uptoBulkAll elems + uptoBulkAll spare + 1
  | .agg parts => uptoBulkAll parts + 1
  | .iface _ d => uptoBulk d + 1
  | .map entries => uptoBulkEntries entries + 1
  | .held _ => 1
def uptoBulkAll {H : Type} : List (DataW H) → Nat
  | [] => 0
  | d :: r => uptoBulk d + uptoBulkAll r
def uptoBulkEntries {H : Type} : List (Lit × DataW H) → Nat
  | [] => 0
  | x :: r => uptoBulkEntry x + uptoBulkEntries r
def uptoBulkEntry {H : Type} : Lit × DataW H → Nat
  | (.string bytes, d) => bytes.length + uptoBulk d + 1
  | (_, d) => uptoBulk d + 1
 end
def uptoSmall : (H : Type) → List (DataW H) → Bool := fun _ ds => decide (uptoBulkAll ds ≤ 1048576)
def OpenSpec.upto (s : _root_.Go.ChangeSpec) : _root_.Go.OpenSpec := { _root_.Go.OpenSpec.ofChange s with cond := some uptoSmall }

/-- 'norelaw06.AirSignals', WHERE WHAT IT READS IS OF BULK AT MOST 1048576: true; the input reads as it did. -/
def airSignalsUptoRow : OpenClaim := { program := "ytichbhmnhkegiaagreat", sum := "d306ac151ac5ff056b3f6c5363e1e59a771828f6866bc22b5d8c73db15d054fd", func := "nore/norelaw06.AirSignals", spec := "airSignals", unfollowed := true, recurses := true, apart := false, narrowed := true }
def AirSignalsUptoSaid : Prop := airSignalsUptoRow.holds Tryz.pinned (OpenSpec.upto airSignalsSpec)

/-- 'norelaw06.AirClears', WHERE WHAT IT READS IS OF BULK AT MOST 1048576: true; the input reads as it did. -/
def airClearsUptoRow : OpenClaim := { program := "ytichbhmnhkegiaagreat", sum := "d306ac151ac5ff056b3f6c5363e1e59a771828f6866bc22b5d8c73db15d054fd", func := "nore/norelaw06.AirClears", spec := "airClears", unfollowed := true, recurses := true, apart := false, narrowed := true }
def AirClearsUptoSaid : Prop := airClearsUptoRow.holds Tryz.pinned (OpenSpec.upto airClearsSpec)

/-- 'norelaw06.AirCould', WHERE WHAT IT READS IS OF BULK AT MOST 1048576: true; the input reads as it did. -/
def airCouldUptoRow : OpenClaim := { program := "ytichbhmnhkegiaagreat", sum := "d306ac151ac5ff056b3f6c5363e1e59a771828f6866bc22b5d8c73db15d054fd", func := "nore/norelaw06.AirCould", spec := "airCould", unfollowed := true, recurses := true, apart := false, narrowed := true }
def AirCouldUptoSaid : Prop := airCouldUptoRow.holds Tryz.pinned (OpenSpec.upto airCouldSpec)

/-- 'norelaw06.AirFalse', WHERE WHAT IT READS IS OF BULK AT MOST 1048576: true; the input reads as it did. -/
def airFalseUptoRow : OpenClaim := { program := "ytichbhmnhkegiaagreat", sum := "d306ac151ac5ff056b3f6c5363e1e59a771828f6866bc22b5d8c73db15d054fd", func := "nore/norelaw06.AirFalse", spec := "airFalse", unfollowed := true, recurses := true, apart := false, narrowed := true }
def AirFalseUptoSaid : Prop := airFalseUptoRow.holds Tryz.pinned (OpenSpec.upto airFalseSpec)

/-- 'norelaw06.AirKnown', WHERE WHAT IT READS IS OF BULK AT MOST 1048576: true; the input reads as it did. -/
def airKnownUptoRow : OpenClaim := { program := "ytichbhmnhkegiaagreat", sum := "d306ac151ac5ff056b3f6c5363e1e59a771828f6866bc22b5d8c73db15d054fd", func := "nore/norelaw06.AirKnown", spec := "airKnown", unfollowed := true, recurses := true, apart := false, narrowed := true }
def AirKnownUptoSaid : Prop := airKnownUptoRow.holds Tryz.pinned (OpenSpec.upto airKnownSpec)

/-- 'norelaw06.AirTrue', WHERE WHAT IT READS IS OF BULK AT MOST 1048576: true; the input reads as it did. -/
def airTrueUptoRow : OpenClaim := { program := "ytichbhmnhkegiaagreat", sum := "d306ac151ac5ff056b3f6c5363e1e59a771828f6866bc22b5d8c73db15d054fd", func := "nore/norelaw06.AirTrue", spec := "airTrue", unfollowed := true, recurses := true, apart := false, narrowed := true }
def AirTrueUptoSaid : Prop := airTrueUptoRow.holds Tryz.pinned (OpenSpec.upto airTrueSpec)

/-- 'norelaw06.AirReached', WHERE WHAT IT READS IS OF BULK AT MOST 1048576: true; the input reads as it did. -/
def airReachedUptoRow : OpenClaim := { program := "ytichbhmnhkegiaagreat", sum := "d306ac151ac5ff056b3f6c5363e1e59a771828f6866bc22b5d8c73db15d054fd", func := "nore/norelaw06.AirReached", spec := "airReached", unfollowed := true, recurses := true, apart := false, narrowed := true }
def AirReachedUptoSaid : Prop := airReachedUptoRow.holds Tryz.pinned (OpenSpec.upto airReachedSpec)

/-- 'norelaw06.AirNearer', WHERE WHAT IT READS IS OF BULK AT MOST 1048576: true; the input reads as it did. -/
def airNearerUptoRow : OpenClaim := { program := "ytichbhmnhkegiaagreat", sum := "d306ac151ac5ff056b3f6c5363e1e59a771828f6866bc22b5d8c73db15d054fd", func := "nore/norelaw06.AirNearer", spec := "airNearer", unfollowed := true, recurses := true, apart := false, narrowed := true }
def AirNearerUptoSaid : Prop := airNearerUptoRow.holds Tryz.pinned (OpenSpec.upto airNearerSpec)

/-- 'norelaw06.AirMore', WHERE WHAT IT READS IS OF BULK AT MOST 1048576: true; the input reads as it did. -/
def airMoreUptoRow : OpenClaim := { program := "ytichbhmnhkegiaagreat", sum := "d306ac151ac5ff056b3f6c5363e1e59a771828f6866bc22b5d8c73db15d054fd", func := "nore/norelaw06.AirMore", spec := "airMore", unfollowed := true, recurses := true, apart := false, narrowed := true }
def AirMoreUptoSaid : Prop := airMoreUptoRow.holds Tryz.pinned (OpenSpec.upto airMoreSpec)

/-- 'norelaw06.AirGrade', WHERE WHAT IT READS IS OF BULK AT MOST 1048576: true; the input reads as it did. -/
def airGradeUptoRow : OpenClaim := { program := "ytichbhmnhkegiaagreat", sum := "d306ac151ac5ff056b3f6c5363e1e59a771828f6866bc22b5d8c73db15d054fd", func := "nore/norelaw06.AirGrade", spec := "airGrade", unfollowed := true, recurses := true, apart := false, narrowed := true }
def AirGradeUptoSaid : Prop := airGradeUptoRow.holds Tryz.pinned (OpenSpec.upto airGradeSpec)

/-- 'norelaw06.AirFewest', WHERE WHAT IT READS IS OF BULK AT MOST 1048576: true; the input reads as it did. -/
def airFewestUptoRow : OpenClaim := { program := "ytichbhmnhkegiaagreat", sum := "d306ac151ac5ff056b3f6c5363e1e59a771828f6866bc22b5d8c73db15d054fd", func := "nore/norelaw06.AirFewest", spec := "airFewest", unfollowed := true, recurses := true, apart := false, narrowed := true }
def AirFewestUptoSaid : Prop := airFewestUptoRow.holds Tryz.pinned (OpenSpec.upto airFewestSpec)

/-- 'norelaw06.AirLiars', WHERE WHAT IT READS IS OF BULK AT MOST 1048576: true; the input reads as it did. -/
def airLiarsUptoRow : OpenClaim := { program := "ytichbhmnhkegiaagreat", sum := "d306ac151ac5ff056b3f6c5363e1e59a771828f6866bc22b5d8c73db15d054fd", func := "nore/norelaw06.AirLiars", spec := "airLiars", unfollowed := true, recurses := true, apart := false, narrowed := true }
def AirLiarsUptoSaid : Prop := airLiarsUptoRow.holds Tryz.pinned (OpenSpec.upto airLiarsSpec)

/-- 'norelaw06.AirOil', WHERE WHAT IT READS IS OF BULK AT MOST 1048576: true; the input reads as it did. -/
def airOilUptoRow : OpenClaim := { program := "ytichbhmnhkegiaagreat", sum := "d306ac151ac5ff056b3f6c5363e1e59a771828f6866bc22b5d8c73db15d054fd", func := "nore/norelaw06.AirOil", spec := "airOil", unfollowed := true, recurses := true, apart := false, narrowed := true }
def AirOilUptoSaid : Prop := airOilUptoRow.holds Tryz.pinned (OpenSpec.upto airOilSpec)

/-- 'norelaw06.AirTurned', WHERE WHAT IT READS IS OF BULK AT MOST 1048576: true; the input reads as it did. -/
def airTurnedUptoRow : OpenClaim := { program := "ytichbhmnhkegiaagreat", sum := "d306ac151ac5ff056b3f6c5363e1e59a771828f6866bc22b5d8c73db15d054fd", func := "nore/norelaw06.AirTurned", spec := "airTurned", unfollowed := true, recurses := true, apart := false, narrowed := true }
def AirTurnedUptoSaid : Prop := airTurnedUptoRow.holds Tryz.pinned (OpenSpec.upto airTurnedSpec)

end Rows
end Go.Proofs.YtichbhmnhkegiaaGreat
