/-
  DERIVED. GIVEN WITH THE SEED: THE CARDS: each row of YtpeogffeoehboaaDoorRows.lean that lists a variable, with what it lists TIED to the program's text (the seventh form; the later family's looks); each row that meets fmt, with fmt's text TOLD by the authors' own Lean function (tested against real Go, not proved from fmt's source: count such statements apart). THE CARD IS WHAT COUNTS. Prove the row's statement (the work); the ties are given (YtpeogffeoehboaaDoorTie.lean); close each card by the builder's one call (the guide's Derived/Test/ToyasCard.lean, 'card_holds'). Laid BY PROGRAM, IN A SANDBOX (cutbox-door.mjs). By AI agents, Wed Nov 11 2026. No macro, syntax, notation, axiom, sorry.
-/
import Derived.Test.YtpeogffeoehboaaDoorRows
import GoSem.ClaimSeven
namespace Go.Proofs.YtpeogffeoehboaaDoor
namespace Rows

/-- THE TIED CARD OF 'norelaw09.TenderLasts'. -/
def tenderLastsCard : Claim7 := { stood := { row := tenderLastsRow, standIns := [], harness := (true, "c7c357bce1b8f70ba5b20ba557d8ad084a7f2112b77dc4cb2ca3e0e9b67ef2fb"), looks := false }, kinds := [], alts := [], laidByText := true, laidKinds := [.data, .data], laidTests := true, laidLooks := .later }
def TenderLastsCardSaid : Prop := Claim7.holds Tryd.pinned (.plain (OpenSpec.ofChange tenderLastsSpec)) tenderLastsCard

/-- THE TIED CARD OF 'norelaw09.TenderKnown'. -/
def tenderKnownCard : Claim7 := { stood := { row := tenderKnownRow, standIns := [], harness := (true, "c7c357bce1b8f70ba5b20ba557d8ad084a7f2112b77dc4cb2ca3e0e9b67ef2fb"), looks := false }, kinds := [], alts := [], laidByText := true, laidKinds := [.data, .data], laidTests := true, laidLooks := .later }
def TenderKnownCardSaid : Prop := Claim7.holds Tryd.pinned (.plain (OpenSpec.ofChange tenderKnownSpec)) tenderKnownCard

/-- THE TIED CARD OF 'norelaw09.TenderWhatever'. -/
def tenderWhateverCard : Claim7 := { stood := { row := tenderWhateverRow, standIns := [], harness := (true, "c7c357bce1b8f70ba5b20ba557d8ad084a7f2112b77dc4cb2ca3e0e9b67ef2fb"), looks := false }, kinds := [], alts := [], laidByText := true, laidKinds := [.data, .data], laidTests := true, laidLooks := .later }
def TenderWhateverCardSaid : Prop := Claim7.holds Tryd.pinned (.plain (OpenSpec.ofChange tenderWhateverSpec)) tenderWhateverCard

/-- THE TIED CARD OF 'norelaw09.TenderFewest'. -/
def tenderFewestCard : Claim7 := { stood := { row := tenderFewestRow, standIns := [], harness := (true, "c7c357bce1b8f70ba5b20ba557d8ad084a7f2112b77dc4cb2ca3e0e9b67ef2fb"), looks := false }, kinds := [], alts := [], laidByText := true, laidKinds := [.data, .data], laidTests := true, laidLooks := .later }
def TenderFewestCardSaid : Prop := Claim7.holds Tryd.pinned (.plain (OpenSpec.ofChange tenderFewestSpec)) tenderFewestCard

/-- THE TIED CARD OF 'norelaw09.TenderBears'. -/
def tenderBearsCard : Claim7 := { stood := { row := tenderBearsRow, standIns := [], harness := (true, "c7c357bce1b8f70ba5b20ba557d8ad084a7f2112b77dc4cb2ca3e0e9b67ef2fb"), looks := false }, kinds := [], alts := [], laidByText := true, laidKinds := [.data, .data], laidTests := true, laidLooks := .later }
def TenderBearsCardSaid : Prop := Claim7.holds Tryd.pinned (.plain (OpenSpec.ofChange tenderBearsSpec)) tenderBearsCard

/-- THE TIED CARD OF 'norelaw09.TenderStill'. -/
def tenderStillCard : Claim7 := { stood := { row := tenderStillRow, standIns := [], harness := (true, "c7c357bce1b8f70ba5b20ba557d8ad084a7f2112b77dc4cb2ca3e0e9b67ef2fb"), looks := false }, kinds := [], alts := [], laidByText := true, laidKinds := [.data, .data], laidTests := true, laidLooks := .later }
def TenderStillCardSaid : Prop := Claim7.holds Tryd.pinned (.plain (OpenSpec.ofChange tenderStillSpec)) tenderStillCard

/-- THE TIED CARD OF 'norelaw09.TenderWorst'. -/
def tenderWorstCard : Claim7 := { stood := { row := tenderWorstRow, standIns := [], harness := (true, "c7c357bce1b8f70ba5b20ba557d8ad084a7f2112b77dc4cb2ca3e0e9b67ef2fb"), looks := false }, kinds := [], alts := [], laidByText := true, laidKinds := [.data, .data], laidTests := true, laidLooks := .later }
def TenderWorstCardSaid : Prop := Claim7.holds Tryd.pinned (.plain (OpenSpec.ofChange tenderWorstSpec)) tenderWorstCard

/-- THE TIED CARD OF 'norelaw09.TenderMore'. -/
def tenderMoreCard : Claim7 := { stood := { row := tenderMoreRow, standIns := [], harness := (true, "c7c357bce1b8f70ba5b20ba557d8ad084a7f2112b77dc4cb2ca3e0e9b67ef2fb"), looks := false }, kinds := [], alts := [], laidByText := true, laidKinds := [.data, .data], laidTests := true, laidLooks := .later }
def TenderMoreCardSaid : Prop := Claim7.holds Tryd.pinned (.plain (OpenSpec.ofChange tenderMoreSpec)) tenderMoreCard

/-- THE TIED CARD OF 'norelaw09.TenderMust'. -/
def tenderMustCard : Claim7 := { stood := { row := tenderMustRow, standIns := [], harness := (true, "c7c357bce1b8f70ba5b20ba557d8ad084a7f2112b77dc4cb2ca3e0e9b67ef2fb"), looks := false }, kinds := [], alts := [], laidByText := true, laidKinds := [.data, .data], laidTests := true, laidLooks := .later }
def TenderMustCardSaid : Prop := Claim7.holds Tryd.pinned (.plain (OpenSpec.ofChange tenderMustSpec)) tenderMustCard

/-- THE TIED CARD OF 'norelaw09.TenderLeft'. -/
def tenderLeftCard : Claim7 := { stood := { row := tenderLeftRow, standIns := [], harness := (true, "c7c357bce1b8f70ba5b20ba557d8ad084a7f2112b77dc4cb2ca3e0e9b67ef2fb"), looks := false }, kinds := [], alts := [], laidByText := true, laidKinds := [.data, .data], laidTests := true, laidLooks := .later }
def TenderLeftCardSaid : Prop := Claim7.holds Tryd.pinned (.plain (OpenSpec.ofChange tenderLeftSpec)) tenderLeftCard

/-- THE SECOND FORM's CARD OF 'norelaw09.TenderLasts'. -/
def tenderLastsUptoCard : Claim7 := { stood := { row := tenderLastsUptoRow, standIns := [], harness := (true, "c7c357bce1b8f70ba5b20ba557d8ad084a7f2112b77dc4cb2ca3e0e9b67ef2fb"), looks := false }, kinds := [], alts := [], laidByText := true, laidKinds := [.data, .data], laidTests := true, laidLooks := .later }
def TenderLastsUptoCardSaid : Prop := Claim7.holds Tryd.pinned (.plain (OpenSpec.upto tenderLastsSpec)) tenderLastsUptoCard

/-- THE SECOND FORM's CARD OF 'norelaw09.TenderKnown'. -/
def tenderKnownUptoCard : Claim7 := { stood := { row := tenderKnownUptoRow, standIns := [], harness := (true, "c7c357bce1b8f70ba5b20ba557d8ad084a7f2112b77dc4cb2ca3e0e9b67ef2fb"), looks := false }, kinds := [], alts := [], laidByText := true, laidKinds := [.data, .data], laidTests := true, laidLooks := .later }
def TenderKnownUptoCardSaid : Prop := Claim7.holds Tryd.pinned (.plain (OpenSpec.upto tenderKnownSpec)) tenderKnownUptoCard

/-- THE SECOND FORM's CARD OF 'norelaw09.TenderWhatever'. -/
def tenderWhateverUptoCard : Claim7 := { stood := { row := tenderWhateverUptoRow, standIns := [], harness := (true, "c7c357bce1b8f70ba5b20ba557d8ad084a7f2112b77dc4cb2ca3e0e9b67ef2fb"), looks := false }, kinds := [], alts := [], laidByText := true, laidKinds := [.data, .data], laidTests := true, laidLooks := .later }
def TenderWhateverUptoCardSaid : Prop := Claim7.holds Tryd.pinned (.plain (OpenSpec.upto tenderWhateverSpec)) tenderWhateverUptoCard

/-- THE SECOND FORM's CARD OF 'norelaw09.TenderFewest'. -/
def tenderFewestUptoCard : Claim7 := { stood := { row := tenderFewestUptoRow, standIns := [], harness := (true, "c7c357bce1b8f70ba5b20ba557d8ad084a7f2112b77dc4cb2ca3e0e9b67ef2fb"), looks := false }, kinds := [], alts := [], laidByText := true, laidKinds := [.data, .data], laidTests := true, laidLooks := .later }
def TenderFewestUptoCardSaid : Prop := Claim7.holds Tryd.pinned (.plain (OpenSpec.upto tenderFewestSpec)) tenderFewestUptoCard

/-- THE SECOND FORM's CARD OF 'norelaw09.TenderBears'. -/
def tenderBearsUptoCard : Claim7 := { stood := { row := tenderBearsUptoRow, standIns := [], harness := (true, "c7c357bce1b8f70ba5b20ba557d8ad084a7f2112b77dc4cb2ca3e0e9b67ef2fb"), looks := false }, kinds := [], alts := [], laidByText := true, laidKinds := [.data, .data], laidTests := true, laidLooks := .later }
def TenderBearsUptoCardSaid : Prop := Claim7.holds Tryd.pinned (.plain (OpenSpec.upto tenderBearsSpec)) tenderBearsUptoCard

/-- THE SECOND FORM's CARD OF 'norelaw09.TenderStill'. -/
def tenderStillUptoCard : Claim7 := { stood := { row := tenderStillUptoRow, standIns := [], harness := (true, "c7c357bce1b8f70ba5b20ba557d8ad084a7f2112b77dc4cb2ca3e0e9b67ef2fb"), looks := false }, kinds := [], alts := [], laidByText := true, laidKinds := [.data, .data], laidTests := true, laidLooks := .later }
def TenderStillUptoCardSaid : Prop := Claim7.holds Tryd.pinned (.plain (OpenSpec.upto tenderStillSpec)) tenderStillUptoCard

/-- THE SECOND FORM's CARD OF 'norelaw09.TenderWorst'. -/
def tenderWorstUptoCard : Claim7 := { stood := { row := tenderWorstUptoRow, standIns := [], harness := (true, "c7c357bce1b8f70ba5b20ba557d8ad084a7f2112b77dc4cb2ca3e0e9b67ef2fb"), looks := false }, kinds := [], alts := [], laidByText := true, laidKinds := [.data, .data], laidTests := true, laidLooks := .later }
def TenderWorstUptoCardSaid : Prop := Claim7.holds Tryd.pinned (.plain (OpenSpec.upto tenderWorstSpec)) tenderWorstUptoCard

/-- THE SECOND FORM's CARD OF 'norelaw09.TenderMore'. -/
def tenderMoreUptoCard : Claim7 := { stood := { row := tenderMoreUptoRow, standIns := [], harness := (true, "c7c357bce1b8f70ba5b20ba557d8ad084a7f2112b77dc4cb2ca3e0e9b67ef2fb"), looks := false }, kinds := [], alts := [], laidByText := true, laidKinds := [.data, .data], laidTests := true, laidLooks := .later }
def TenderMoreUptoCardSaid : Prop := Claim7.holds Tryd.pinned (.plain (OpenSpec.upto tenderMoreSpec)) tenderMoreUptoCard

/-- THE SECOND FORM's CARD OF 'norelaw09.TenderMust'. -/
def tenderMustUptoCard : Claim7 := { stood := { row := tenderMustUptoRow, standIns := [], harness := (true, "c7c357bce1b8f70ba5b20ba557d8ad084a7f2112b77dc4cb2ca3e0e9b67ef2fb"), looks := false }, kinds := [], alts := [], laidByText := true, laidKinds := [.data, .data], laidTests := true, laidLooks := .later }
def TenderMustUptoCardSaid : Prop := Claim7.holds Tryd.pinned (.plain (OpenSpec.upto tenderMustSpec)) tenderMustUptoCard

/-- THE SECOND FORM's CARD OF 'norelaw09.TenderLeft'. -/
def tenderLeftUptoCard : Claim7 := { stood := { row := tenderLeftUptoRow, standIns := [], harness := (true, "c7c357bce1b8f70ba5b20ba557d8ad084a7f2112b77dc4cb2ca3e0e9b67ef2fb"), looks := false }, kinds := [], alts := [], laidByText := true, laidKinds := [.data, .data], laidTests := true, laidLooks := .later }
def TenderLeftUptoCardSaid : Prop := Claim7.holds Tryd.pinned (.plain (OpenSpec.upto tenderLeftSpec)) tenderLeftUptoCard
end Rows
end Go.Proofs.YtpeogffeoehboaaDoor
