/-
  No cell of these rows narrows 'for every input' (looked for: loops, veiled, ifaces, maps, wideKeys, modest, calm, conditions, laid).
  DERIVED. THE GIVEN ROWS OF THIS SEAT. 13 by the template 'for every input the law returns true; each argument reads behind the call as it read before'; 0 by the template 'total and deterministic' (their statements: YtlpmfgmldmdggaaGreatTotals.lean).
  GIVEN WITH THE SEED: the statements are not yours to turn. If you find one false, say at which input.
  Laid BY PROGRAM, IN A SANDBOX (cutbox-rows.mjs): the forced cells as the released guide's own fill.sh prints them over the translation df26330c51a978c9… (all of the seat's roots in one cut). By AI agents, Wed Nov 11 2026. No macro, syntax, notation, axiom, sorry.
-/
import Derived.Test.YtlpmfgmldmdggaaGreatChecked
import GoSem.Claim
import GoSem.ClaimJoined
import GoSem.ClaimMapViews
import Derived.JoinedTies
import Derived.KernelRfl
namespace Go.Proofs.YtlpmfgmldmdggaaGreat
/- THE CELL 'sum', in the pinned program and in every row, IS THE sha256 OF THE DUMP (.gsa) THAT YtlpmfgmldmdggaaGreatProg.lean LOADS. Nothing in Lean hashes anything: it is a label: what it is worth is what the hold of that sum in a sandbox is worth. -/
noncomputable def Tryz.pinned : Pinned := { name := "ytlpmfgmldmdggaagreat", sum := "df26330c51a978c9a53a47697c7ebc1d215c367752e09058e6f49c9ef2ed3d80", checked := Tryz.checked }
namespace Rows
def none {H : Type} : Left H := { results := [], args := [] }

/-- 'norelaw10.LeaveAccounts': WHATEVER THE INPUT: true; the input reads as it did. -/
def leaveAccountsSpec : ChangeSpec := { name := "leaveAccounts", fn := fun _ => fun
  | [d1, d2, d3] => { results := [.lit (.bool true)], args := [d1, d2, d3] }
  | _ => none }
def leaveAccountsRow : OpenClaim := { program := "ytlpmfgmldmdggaagreat", sum := "df26330c51a978c9a53a47697c7ebc1d215c367752e09058e6f49c9ef2ed3d80", func := "nore/norelaw10.LeaveAccounts", spec := "leaveAccounts", unfollowed := true, recurses := true, apart := false }
def LeaveAccountsSaid : Prop := leaveAccountsRow.holds Tryz.pinned (OpenSpec.ofChange leaveAccountsSpec)

/-- ITS FALSE NEIGHBOUR: 'it returns false'. Refute it at one input. -/
def leaveAccountsWrong : ChangeSpec := { name := "leaveAccounts", fn := fun _ => fun
  | [d1, d2, d3] => { results := [.lit (.bool false)], args := [d1, d2, d3] }
  | _ => none }
def LeaveAccountsWrongFalsely : Prop := leaveAccountsRow.holds Tryz.pinned (OpenSpec.ofChange leaveAccountsWrong)

/-- 'norelaw10.LeavePays': WHATEVER THE INPUT: true; the input reads as it did. -/
def leavePaysSpec : ChangeSpec := { name := "leavePays", fn := fun _ => fun
  | [d1, d2, d3] => { results := [.lit (.bool true)], args := [d1, d2, d3] }
  | _ => none }
def leavePaysRow : OpenClaim := { program := "ytlpmfgmldmdggaagreat", sum := "df26330c51a978c9a53a47697c7ebc1d215c367752e09058e6f49c9ef2ed3d80", func := "nore/norelaw10.LeavePays", spec := "leavePays", unfollowed := true, recurses := true, apart := false }
def LeavePaysSaid : Prop := leavePaysRow.holds Tryz.pinned (OpenSpec.ofChange leavePaysSpec)

/-- ITS FALSE NEIGHBOUR: 'it returns false'. Refute it at one input. -/
def leavePaysWrong : ChangeSpec := { name := "leavePays", fn := fun _ => fun
  | [d1, d2, d3] => { results := [.lit (.bool false)], args := [d1, d2, d3] }
  | _ => none }
def LeavePaysWrongFalsely : Prop := leavePaysRow.holds Tryz.pinned (OpenSpec.ofChange leavePaysWrong)

/-- 'norelaw10.LeaveOwed': WHATEVER THE INPUT: true; the input reads as it did. -/
def leaveOwedSpec : ChangeSpec := { name := "leaveOwed", fn := fun _ => fun
  | [d1, d2, d3] => { results := [.lit (.bool true)], args := [d1, d2, d3] }
  | _ => none }
def leaveOwedRow : OpenClaim := { program := "ytlpmfgmldmdggaagreat", sum := "df26330c51a978c9a53a47697c7ebc1d215c367752e09058e6f49c9ef2ed3d80", func := "nore/norelaw10.LeaveOwed", spec := "leaveOwed", unfollowed := true, recurses := true, apart := false }
def LeaveOwedSaid : Prop := leaveOwedRow.holds Tryz.pinned (OpenSpec.ofChange leaveOwedSpec)

/-- ITS FALSE NEIGHBOUR: 'it returns false'. Refute it at one input. -/
def leaveOwedWrong : ChangeSpec := { name := "leaveOwed", fn := fun _ => fun
  | [d1, d2, d3] => { results := [.lit (.bool false)], args := [d1, d2, d3] }
  | _ => none }
def LeaveOwedWrongFalsely : Prop := leaveOwedRow.holds Tryz.pinned (OpenSpec.ofChange leaveOwedWrong)

/-- 'norelaw10.LeaveTurns': WHATEVER THE INPUT: true; the input reads as it did. -/
def leaveTurnsSpec : ChangeSpec := { name := "leaveTurns", fn := fun _ => fun
  | [d1, d2] => { results := [.lit (.bool true)], args := [d1, d2] }
  | _ => none }
def leaveTurnsRow : OpenClaim := { program := "ytlpmfgmldmdggaagreat", sum := "df26330c51a978c9a53a47697c7ebc1d215c367752e09058e6f49c9ef2ed3d80", func := "nore/norelaw10.LeaveTurns", spec := "leaveTurns", unfollowed := true, recurses := true, apart := false }
def LeaveTurnsSaid : Prop := leaveTurnsRow.holds Tryz.pinned (OpenSpec.ofChange leaveTurnsSpec)

/-- ITS FALSE NEIGHBOUR: 'it returns false'. Refute it at one input. -/
def leaveTurnsWrong : ChangeSpec := { name := "leaveTurns", fn := fun _ => fun
  | [d1, d2] => { results := [.lit (.bool false)], args := [d1, d2] }
  | _ => none }
def LeaveTurnsWrongFalsely : Prop := leaveTurnsRow.holds Tryz.pinned (OpenSpec.ofChange leaveTurnsWrong)

/-- 'norelaw10.LeaveKnown': WHATEVER THE INPUT: true; the input reads as it did. -/
def leaveKnownSpec : ChangeSpec := { name := "leaveKnown", fn := fun _ => fun
  | [] => { results := [.lit (.bool true)], args := [] }
  | _ => none }
def leaveKnownRow : OpenClaim := { program := "ytlpmfgmldmdggaagreat", sum := "df26330c51a978c9a53a47697c7ebc1d215c367752e09058e6f49c9ef2ed3d80", func := "nore/norelaw10.LeaveKnown", spec := "leaveKnown", unfollowed := true, recurses := true, apart := false }
def LeaveKnownSaid : Prop := leaveKnownRow.holds Tryz.pinned (OpenSpec.ofChange leaveKnownSpec)

/-- ITS FALSE NEIGHBOUR: 'it returns false'. Refute it at one input. -/
def leaveKnownWrong : ChangeSpec := { name := "leaveKnown", fn := fun _ => fun
  | [] => { results := [.lit (.bool false)], args := [] }
  | _ => none }
def LeaveKnownWrongFalsely : Prop := leaveKnownRow.holds Tryz.pinned (OpenSpec.ofChange leaveKnownWrong)

/-- 'norelaw10.LeaveDays': WHATEVER THE INPUT: true; the input reads as it did. -/
def leaveDaysSpec : ChangeSpec := { name := "leaveDays", fn := fun _ => fun
  | [d1, d2, d3] => { results := [.lit (.bool true)], args := [d1, d2, d3] }
  | _ => none }
def leaveDaysRow : OpenClaim := { program := "ytlpmfgmldmdggaagreat", sum := "df26330c51a978c9a53a47697c7ebc1d215c367752e09058e6f49c9ef2ed3d80", func := "nore/norelaw10.LeaveDays", spec := "leaveDays", unfollowed := true, recurses := true, apart := false }
def LeaveDaysSaid : Prop := leaveDaysRow.holds Tryz.pinned (OpenSpec.ofChange leaveDaysSpec)

/-- ITS FALSE NEIGHBOUR: 'it returns false'. Refute it at one input. -/
def leaveDaysWrong : ChangeSpec := { name := "leaveDays", fn := fun _ => fun
  | [d1, d2, d3] => { results := [.lit (.bool false)], args := [d1, d2, d3] }
  | _ => none }
def LeaveDaysWrongFalsely : Prop := leaveDaysRow.holds Tryz.pinned (OpenSpec.ofChange leaveDaysWrong)

/-- 'norelaw10.LeaveEnough': WHATEVER THE INPUT: true; the input reads as it did. -/
def leaveEnoughSpec : ChangeSpec := { name := "leaveEnough", fn := fun _ => fun
  | [d1, d2, d3] => { results := [.lit (.bool true)], args := [d1, d2, d3] }
  | _ => none }
def leaveEnoughRow : OpenClaim := { program := "ytlpmfgmldmdggaagreat", sum := "df26330c51a978c9a53a47697c7ebc1d215c367752e09058e6f49c9ef2ed3d80", func := "nore/norelaw10.LeaveEnough", spec := "leaveEnough", unfollowed := true, recurses := true, apart := false }
def LeaveEnoughSaid : Prop := leaveEnoughRow.holds Tryz.pinned (OpenSpec.ofChange leaveEnoughSpec)

/-- ITS FALSE NEIGHBOUR: 'it returns false'. Refute it at one input. -/
def leaveEnoughWrong : ChangeSpec := { name := "leaveEnough", fn := fun _ => fun
  | [d1, d2, d3] => { results := [.lit (.bool false)], args := [d1, d2, d3] }
  | _ => none }
def LeaveEnoughWrongFalsely : Prop := leaveEnoughRow.holds Tryz.pinned (OpenSpec.ofChange leaveEnoughWrong)

/-- 'norelaw10.LeavePenny': WHATEVER THE INPUT: true; the input reads as it did. -/
def leavePennySpec : ChangeSpec := { name := "leavePenny", fn := fun _ => fun
  | [d1, d2, d3] => { results := [.lit (.bool true)], args := [d1, d2, d3] }
  | _ => none }
def leavePennyRow : OpenClaim := { program := "ytlpmfgmldmdggaagreat", sum := "df26330c51a978c9a53a47697c7ebc1d215c367752e09058e6f49c9ef2ed3d80", func := "nore/norelaw10.LeavePenny", spec := "leavePenny", unfollowed := true, recurses := true, apart := false }
def LeavePennySaid : Prop := leavePennyRow.holds Tryz.pinned (OpenSpec.ofChange leavePennySpec)

/-- ITS FALSE NEIGHBOUR: 'it returns false'. Refute it at one input. -/
def leavePennyWrong : ChangeSpec := { name := "leavePenny", fn := fun _ => fun
  | [d1, d2, d3] => { results := [.lit (.bool false)], args := [d1, d2, d3] }
  | _ => none }
def LeavePennyWrongFalsely : Prop := leavePennyRow.holds Tryz.pinned (OpenSpec.ofChange leavePennyWrong)

/-- 'norelaw10.LeaveEvents': WHATEVER THE INPUT: true; the input reads as it did. -/
def leaveEventsSpec : ChangeSpec := { name := "leaveEvents", fn := fun _ => fun
  | [d1, d2, d3] => { results := [.lit (.bool true)], args := [d1, d2, d3] }
  | _ => none }
def leaveEventsRow : OpenClaim := { program := "ytlpmfgmldmdggaagreat", sum := "df26330c51a978c9a53a47697c7ebc1d215c367752e09058e6f49c9ef2ed3d80", func := "nore/norelaw10.LeaveEvents", spec := "leaveEvents", unfollowed := true, recurses := true, apart := false }
def LeaveEventsSaid : Prop := leaveEventsRow.holds Tryz.pinned (OpenSpec.ofChange leaveEventsSpec)

/-- ITS FALSE NEIGHBOUR: 'it returns false'. Refute it at one input. -/
def leaveEventsWrong : ChangeSpec := { name := "leaveEvents", fn := fun _ => fun
  | [d1, d2, d3] => { results := [.lit (.bool false)], args := [d1, d2, d3] }
  | _ => none }
def LeaveEventsWrongFalsely : Prop := leaveEventsRow.holds Tryz.pinned (OpenSpec.ofChange leaveEventsWrong)

/-- 'norelaw10.LeaveNext': WHATEVER THE INPUT: true; the input reads as it did. -/
def leaveNextSpec : ChangeSpec := { name := "leaveNext", fn := fun _ => fun
  | [d1, d2, d3] => { results := [.lit (.bool true)], args := [d1, d2, d3] }
  | _ => none }
def leaveNextRow : OpenClaim := { program := "ytlpmfgmldmdggaagreat", sum := "df26330c51a978c9a53a47697c7ebc1d215c367752e09058e6f49c9ef2ed3d80", func := "nore/norelaw10.LeaveNext", spec := "leaveNext", unfollowed := true, recurses := true, apart := false }
def LeaveNextSaid : Prop := leaveNextRow.holds Tryz.pinned (OpenSpec.ofChange leaveNextSpec)

/-- ITS FALSE NEIGHBOUR: 'it returns false'. Refute it at one input. -/
def leaveNextWrong : ChangeSpec := { name := "leaveNext", fn := fun _ => fun
  | [d1, d2, d3] => { results := [.lit (.bool false)], args := [d1, d2, d3] }
  | _ => none }
def LeaveNextWrongFalsely : Prop := leaveNextRow.holds Tryz.pinned (OpenSpec.ofChange leaveNextWrong)

/-- 'norelaw10.LeaveFair': WHATEVER THE INPUT: true; the input reads as it did. -/
def leaveFairSpec : ChangeSpec := { name := "leaveFair", fn := fun _ => fun
  | [d1, d2, d3] => { results := [.lit (.bool true)], args := [d1, d2, d3] }
  | _ => none }
def leaveFairRow : OpenClaim := { program := "ytlpmfgmldmdggaagreat", sum := "df26330c51a978c9a53a47697c7ebc1d215c367752e09058e6f49c9ef2ed3d80", func := "nore/norelaw10.LeaveFair", spec := "leaveFair", unfollowed := true, recurses := true, apart := false }
def LeaveFairSaid : Prop := leaveFairRow.holds Tryz.pinned (OpenSpec.ofChange leaveFairSpec)

/-- ITS FALSE NEIGHBOUR: 'it returns false'. Refute it at one input. -/
def leaveFairWrong : ChangeSpec := { name := "leaveFair", fn := fun _ => fun
  | [d1, d2, d3] => { results := [.lit (.bool false)], args := [d1, d2, d3] }
  | _ => none }
def LeaveFairWrongFalsely : Prop := leaveFairRow.holds Tryz.pinned (OpenSpec.ofChange leaveFairWrong)

/-- 'norelaw10.LeaveFloor': WHATEVER THE INPUT: true; the input reads as it did. -/
def leaveFloorSpec : ChangeSpec := { name := "leaveFloor", fn := fun _ => fun
  | [d1, d2, d3] => { results := [.lit (.bool true)], args := [d1, d2, d3] }
  | _ => none }
def leaveFloorRow : OpenClaim := { program := "ytlpmfgmldmdggaagreat", sum := "df26330c51a978c9a53a47697c7ebc1d215c367752e09058e6f49c9ef2ed3d80", func := "nore/norelaw10.LeaveFloor", spec := "leaveFloor", unfollowed := true, recurses := true, apart := false }
def LeaveFloorSaid : Prop := leaveFloorRow.holds Tryz.pinned (OpenSpec.ofChange leaveFloorSpec)

/-- ITS FALSE NEIGHBOUR: 'it returns false'. Refute it at one input. -/
def leaveFloorWrong : ChangeSpec := { name := "leaveFloor", fn := fun _ => fun
  | [d1, d2, d3] => { results := [.lit (.bool false)], args := [d1, d2, d3] }
  | _ => none }
def LeaveFloorWrongFalsely : Prop := leaveFloorRow.holds Tryz.pinned (OpenSpec.ofChange leaveFloorWrong)

/-- 'norelaw10.LeaveMore': WHATEVER THE INPUT: true; the input reads as it did. -/
def leaveMoreSpec : ChangeSpec := { name := "leaveMore", fn := fun _ => fun
  | [d1, d2, d3] => { results := [.lit (.bool true)], args := [d1, d2, d3] }
  | _ => none }
def leaveMoreRow : OpenClaim := { program := "ytlpmfgmldmdggaagreat", sum := "df26330c51a978c9a53a47697c7ebc1d215c367752e09058e6f49c9ef2ed3d80", func := "nore/norelaw10.LeaveMore", spec := "leaveMore", unfollowed := true, recurses := true, apart := false }
def LeaveMoreSaid : Prop := leaveMoreRow.holds Tryz.pinned (OpenSpec.ofChange leaveMoreSpec)

/-- ITS FALSE NEIGHBOUR: 'it returns false'. Refute it at one input. -/
def leaveMoreWrong : ChangeSpec := { name := "leaveMore", fn := fun _ => fun
  | [d1, d2, d3] => { results := [.lit (.bool false)], args := [d1, d2, d3] }
  | _ => none }
def LeaveMoreWrongFalsely : Prop := leaveMoreRow.holds Tryz.pinned (OpenSpec.ofChange leaveMoreWrong)

/- THE SECOND FORM. 'bulk': how many values and letters a reading holds, each counted each time it is reached (what is shared counts as often as it is met; a slice's spare places count too). A statement '..UptoSaid' is the law's where the arguments, and the package variables that the reading takes, are together of bulk at most 1048576: NARROWER than '..Said'. Prove '..Said' where nothing that the law and all that it calls make is longer than what came in: it says more and counts as full. Else prove '..UptoSaid'. A law counts once. -/
mutual
def uptoBulk {H : Type} : DataW H → Nat
  | .lit (.string bytes) => bytes.length + 1
  | .lit _ => 1
  | .nil => 1
  | .ptr d => uptoBulk d + 1
  | .slice elems spare => uptoBulkAll elems + uptoBulkAll spare + 1
  | .agg parts => uptoBulkAll parts + 1
  | .iface _ d => uptoBulk d + 1
  | .map entries => uptoBulkEntries entries + 1
  | .held _ => 1
def uptoBulkAll {H : Type} : List (DataW H) → Nat
  | [] => 0
  | d :: r => uptoBulk d + uptoBulkAll r
def uptoBulkEntries {H : Type} : List (Lit × DataW H) → Nat
  | [] => 0
  | x :: r => uptoBulkEntry x + uptoBulkEntries r
def uptoBulkEntry {H : Type} : Lit × DataW H → Nat
  | (.string bytes, d) => bytes.length + uptoBulk d + 1
  | (_, d) => uptoBulk d + 1
 end
def uptoSmall : (H : Type) → List (DataW H) → Bool := fun _ ds => decide (uptoBulkAll ds ≤ 1048576)
def OpenSpec.upto (s : _root_.Go.ChangeSpec) : _root_.Go.OpenSpec := { _root_.Go.OpenSpec.ofChange s with cond := some uptoSmall }

/-- 'norelaw10.LeaveAccounts', WHERE WHAT IT READS IS OF BULK AT MOST 1048576: true; the input reads as it did. -/
def leaveAccountsUptoRow : OpenClaim := { program := "ytlpmfgmldmdggaagreat", sum := "df26330c51a978c9a53a47697c7ebc1d215c367752e09058e6f49c9ef2ed3d80", func := "nore/norelaw10.LeaveAccounts", spec := "leaveAccounts", unfollowed := true, recurses := true, apart := false, narrowed := true }
def LeaveAccountsUptoSaid : Prop := leaveAccountsUptoRow.holds Tryz.pinned (OpenSpec.upto leaveAccountsSpec)

/-- 'norelaw10.LeavePays', WHERE WHAT IT READS IS OF BULK AT MOST 1048576: true; the input reads as it did. -/
def leavePaysUptoRow : OpenClaim := { program := "ytlpmfgmldmdggaagreat", sum := "df26330c51a978c9a53a47697c7ebc1d215c367752e09058e6f49c9ef2ed3d80", func := "nore/norelaw10.LeavePays", spec := "leavePays", unfollowed := true, recurses := true, apart := false, narrowed := true }
def LeavePaysUptoSaid : Prop := leavePaysUptoRow.holds Tryz.pinned (OpenSpec.upto leavePaysSpec)

/-- 'norelaw10.LeaveOwed', WHERE WHAT IT READS IS OF BULK AT MOST 1048576: true; the input reads as it did. -/
def leaveOwedUptoRow : OpenClaim := { program := "ytlpmfgmldmdggaagreat", sum := "df26330c51a978c9a53a47697c7ebc1d215c367752e09058e6f49c9ef2ed3d80", func := "nore/norelaw10.LeaveOwed", spec := "leaveOwed", unfollowed := true, recurses := true, apart := false, narrowed := true }
def LeaveOwedUptoSaid : Prop := leaveOwedUptoRow.holds Tryz.pinned (OpenSpec.upto leaveOwedSpec)

/-- 'norelaw10.LeaveTurns', WHERE WHAT IT READS IS OF BULK AT MOST 1048576: true; the input reads as it did. -/
def leaveTurnsUptoRow : OpenClaim := { program := "ytlpmfgmldmdggaagreat", sum := "df26330c51a978c9a53a47697c7ebc1d215c367752e09058e6f49c9ef2ed3d80", func := "nore/norelaw10.LeaveTurns", spec := "leaveTurns", unfollowed := true, recurses := true, apart := false, narrowed := true }
def LeaveTurnsUptoSaid : Prop := leaveTurnsUptoRow.holds Tryz.pinned (OpenSpec.upto leaveTurnsSpec)

/-- 'norelaw10.LeaveKnown', WHERE WHAT IT READS IS OF BULK AT MOST 1048576: true; the input reads as it did. -/
def leaveKnownUptoRow : OpenClaim := { program := "ytlpmfgmldmdggaagreat", sum := "df26330c51a978c9a53a47697c7ebc1d215c367752e09058e6f49c9ef2ed3d80", func := "nore/norelaw10.LeaveKnown", spec := "leaveKnown", unfollowed := true, recurses := true, apart := false, narrowed := true }
def LeaveKnownUptoSaid : Prop := leaveKnownUptoRow.holds Tryz.pinned (OpenSpec.upto leaveKnownSpec)

/-- 'norelaw10.LeaveDays', WHERE WHAT IT READS IS OF BULK AT MOST 1048576: true; the input reads as it did. -/
def leaveDaysUptoRow : OpenClaim := { program := "ytlpmfgmldmdggaagreat", sum := "df26330c51a978c9a53a47697c7ebc1d215c367752e09058e6f49c9ef2ed3d80", func := "nore/norelaw10.LeaveDays", spec := "leaveDays", unfollowed := true, recurses := true, apart := false, narrowed := true }
def LeaveDaysUptoSaid : Prop := leaveDaysUptoRow.holds Tryz.pinned (OpenSpec.upto leaveDaysSpec)

/-- 'norelaw10.LeaveEnough', WHERE WHAT IT READS IS OF BULK AT MOST 1048576: true; the input reads as it did. -/
def leaveEnoughUptoRow : OpenClaim := { program := "ytlpmfgmldmdggaagreat", sum := "df26330c51a978c9a53a47697c7ebc1d215c367752e09058e6f49c9ef2ed3d80", func := "nore/norelaw10.LeaveEnough", spec := "leaveEnough", unfollowed := true, recurses := true, apart := false, narrowed := true }
def LeaveEnoughUptoSaid : Prop := leaveEnoughUptoRow.holds Tryz.pinned (OpenSpec.upto leaveEnoughSpec)

/-- 'norelaw10.LeavePenny', WHERE WHAT IT READS IS OF BULK AT MOST 1048576: true; the input reads as it did. -/
def leavePennyUptoRow : OpenClaim := { program := "ytlpmfgmldmdggaagreat", sum := "df26330c51a978c9a53a47697c7ebc1d215c367752e09058e6f49c9ef2ed3d80", func := "nore/norelaw10.LeavePenny", spec := "leavePenny", unfollowed := true, recurses := true, apart := false, narrowed := true }
def LeavePennyUptoSaid : Prop := leavePennyUptoRow.holds Tryz.pinned (OpenSpec.upto leavePennySpec)

/-- 'norelaw10.LeaveEvents', WHERE WHAT IT READS IS OF BULK AT MOST 1048576: true; the input reads as it did. -/
def leaveEventsUptoRow : OpenClaim := { program := "ytlpmfgmldmdggaagreat", sum := "df26330c51a978c9a53a47697c7ebc1d215c367752e09058e6f49c9ef2ed3d80", func := "nore/norelaw10.LeaveEvents", spec := "leaveEvents", unfollowed := true, recurses := true, apart := false, narrowed := true }
def LeaveEventsUptoSaid : Prop := leaveEventsUptoRow.holds Tryz.pinned (OpenSpec.upto leaveEventsSpec)

/-- 'norelaw10.LeaveNext', WHERE WHAT IT READS IS OF BULK AT MOST 1048576: true; the input reads as it did. -/
def leaveNextUptoRow : OpenClaim := { program := "ytlpmfgmldmdggaagreat", sum := "df26330c51a978c9a53a47697c7ebc1d215c367752e09058e6f49c9ef2ed3d80", func := "nore/norelaw10.LeaveNext", spec := "leaveNext", unfollowed := true, recurses := true, apart := false, narrowed := true }
def LeaveNextUptoSaid : Prop := leaveNextUptoRow.holds Tryz.pinned (OpenSpec.upto leaveNextSpec)

/-- 'norelaw10.LeaveFair', WHERE WHAT IT READS IS OF BULK AT MOST 1048576: true; the input reads as it did. -/
def leaveFairUptoRow : OpenClaim := { program := "ytlpmfgmldmdggaagreat", sum := "df26330c51a978c9a53a47697c7ebc1d215c367752e09058e6f49c9ef2ed3d80", func := "nore/norelaw10.LeaveFair", spec := "leaveFair", unfollowed := true, recurses := true, apart := false, narrowed := true }
def LeaveFairUptoSaid : Prop := leaveFairUptoRow.holds Tryz.pinned (OpenSpec.upto leaveFairSpec)

/-- 'norelaw10.LeaveFloor', WHERE WHAT IT READS IS OF BULK AT MOST 1048576: true; the input reads as it did. -/
def leaveFloorUptoRow : OpenClaim := { program := "ytlpmfgmldmdggaagreat", sum := "df26330c51a978c9a53a47697c7ebc1d215c367752e09058e6f49c9ef2ed3d80", func := "nore/norelaw10.LeaveFloor", spec := "leaveFloor", unfollowed := true, recurses := true, apart := false, narrowed := true }
def LeaveFloorUptoSaid : Prop := leaveFloorUptoRow.holds Tryz.pinned (OpenSpec.upto leaveFloorSpec)

/-- 'norelaw10.LeaveMore', WHERE WHAT IT READS IS OF BULK AT MOST 1048576: true; the input reads as it did. -/
def leaveMoreUptoRow : OpenClaim := { program := "ytlpmfgmldmdggaagreat", sum := "df26330c51a978c9a53a47697c7ebc1d215c367752e09058e6f49c9ef2ed3d80", func := "nore/norelaw10.LeaveMore", spec := "leaveMore", unfollowed := true, recurses := true, apart := false, narrowed := true }
def LeaveMoreUptoSaid : Prop := leaveMoreUptoRow.holds Tryz.pinned (OpenSpec.upto leaveMoreSpec)

end Rows
end Go.Proofs.YtlpmfgmldmdggaaGreat
