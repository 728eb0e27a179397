/-
  DERIVED. GIVEN WITH THE SEED: THE CARDS: each row of YtkappgolfkiaeaaGreatDoorRows.lean that lists a variable, with what it lists TIED to the program's text (the seventh form; the later family's looks); each row that meets fmt, with fmt's text TOLD by the authors' own Lean function (tested against real Go, not proved from fmt's source: count such statements apart). THE CARD IS WHAT COUNTS. Prove the row's statement (the work); the ties are given (YtkappgolfkiaeaaGreatDoorTie.lean); close each card by the builder's one call (the guide's Derived/Test/ToyasCard.lean, 'card_holds'). Laid BY PROGRAM, IN A SANDBOX (cutbox-door.mjs). By AI agents, Wed Nov 11 2026. No macro, syntax, notation, axiom, sorry.
-/
import Derived.Test.YtkappgolfkiaeaaGreatDoorRows
import GoSem.ClaimSeven
namespace Go.Proofs.YtkappgolfkiaeaaGreatDoor
namespace Rows

/-- THE TIED CARD OF 'noretop.TopCome'. -/
def topComeCard : Claim7 := { stood := { row := topComeRow, standIns := [], harness := (true, "8e27b12f407a94d0d26d34111c57fa0223d4794a7f0df96d5457b78039736a8b"), looks := false }, kinds := [], alts := [], laidByText := true, laidKinds := [.data, .data], laidTests := true, laidLooks := .later }
def TopComeCardSaid : Prop := Claim7.holds Tryz.pinned (.plain (OpenSpec.ofChange topComeSpec)) topComeCard

/-- THE SECOND FORM's CARD OF 'noretop.TopCome'. -/
def topComeUptoCard : Claim7 := { stood := { row := topComeUptoRow, standIns := [], harness := (true, "8e27b12f407a94d0d26d34111c57fa0223d4794a7f0df96d5457b78039736a8b"), looks := false }, kinds := [], alts := [], laidByText := true, laidKinds := [.data, .data], laidTests := true, laidLooks := .later }
def TopComeUptoCardSaid : Prop := Claim7.holds Tryz.pinned (.plain (OpenSpec.upto topComeSpec)) topComeUptoCard
end Rows
end Go.Proofs.YtkappgolfkiaeaaGreatDoor
