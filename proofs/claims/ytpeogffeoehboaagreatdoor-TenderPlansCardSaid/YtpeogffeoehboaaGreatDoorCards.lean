/-
  DERIVED. GIVEN WITH THE SEED: THE CARDS: each row of YtpeogffeoehboaaGreatDoorRows.lean that lists a variable, with what it lists TIED to the program's text (the seventh form; the later family's looks); each row that meets fmt, with fmt's text TOLD by the authors' own Lean function (tested against real Go, not proved from fmt's source: count such statements apart). THE CARD IS WHAT COUNTS. Prove the row's statement (the work); the ties are given (YtpeogffeoehboaaGreatDoorTie.lean); close each card by the builder's one call (the guide's Derived/Test/ToyasCard.lean, 'card_holds'). Laid BY PROGRAM, IN A SANDBOX (cutbox-door.mjs). By AI agents, Wed Nov 11 2026. No macro, syntax, notation, axiom, sorry.
-/
import Derived.Test.YtpeogffeoehboaaGreatDoorRows
import GoSem.ClaimSeven
namespace Go.Proofs.YtpeogffeoehboaaGreatDoor
namespace Rows

/-- THE TIED CARD OF 'norelaw09.TenderHolds'. -/
def tenderHoldsCard : Claim7 := { stood := { row := tenderHoldsRow, standIns := [], harness := (true, "7c14cd9b843ed71acd41fa71f8e97ef08cdabb106879458b302d87abad51c750"), looks := false }, kinds := [], alts := [], laidByText := true, laidKinds := [.data, .data], laidTests := true, laidLooks := .later }
def TenderHoldsCardSaid : Prop := Claim7.holds Tryz.pinned (.plain (OpenSpec.ofChange tenderHoldsSpec)) tenderHoldsCard

/-- THE TIED CARD OF 'norelaw09.TenderPlans'. -/
def tenderPlansCard : Claim7 := { stood := { row := tenderPlansRow, standIns := [], harness := (true, "7c14cd9b843ed71acd41fa71f8e97ef08cdabb106879458b302d87abad51c750"), looks := false }, kinds := [], alts := [], laidByText := true, laidKinds := [.data, .data], laidTests := true, laidLooks := .later }
def TenderPlansCardSaid : Prop := Claim7.holds Tryz.pinned (.plain (OpenSpec.ofChange tenderPlansSpec)) tenderPlansCard

/-- THE SECOND FORM's CARD OF 'norelaw09.TenderHolds'. -/
def tenderHoldsUptoCard : Claim7 := { stood := { row := tenderHoldsUptoRow, standIns := [], harness := (true, "7c14cd9b843ed71acd41fa71f8e97ef08cdabb106879458b302d87abad51c750"), looks := false }, kinds := [], alts := [], laidByText := true, laidKinds := [.data, .data], laidTests := true, laidLooks := .later }
def TenderHoldsUptoCardSaid : Prop := Claim7.holds Tryz.pinned (.plain (OpenSpec.upto tenderHoldsSpec)) tenderHoldsUptoCard

/-- THE SECOND FORM's CARD OF 'norelaw09.TenderPlans'. -/
def tenderPlansUptoCard : Claim7 := { stood := { row := tenderPlansUptoRow, standIns := [], harness := (true, "7c14cd9b843ed71acd41fa71f8e97ef08cdabb106879458b302d87abad51c750"), looks := false }, kinds := [], alts := [], laidByText := true, laidKinds := [.data, .data], laidTests := true, laidLooks := .later }
def TenderPlansUptoCardSaid : Prop := Claim7.holds Tryz.pinned (.plain (OpenSpec.upto tenderPlansSpec)) tenderPlansUptoCard
end Rows
end Go.Proofs.YtpeogffeoehboaaGreatDoor
