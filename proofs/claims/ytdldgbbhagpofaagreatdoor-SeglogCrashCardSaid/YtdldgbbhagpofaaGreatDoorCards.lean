/-
  DERIVED. GIVEN WITH THE SEED: THE CARDS: each row of YtdldgbbhagpofaaGreatDoorRows.lean that lists a variable, with what it lists TIED to the program's text (the seventh form; the later family's looks); each row that meets fmt, with fmt's text TOLD by the authors' own Lean function (tested against real Go, not proved from fmt's source: count such statements apart). THE CARD IS WHAT COUNTS. Prove the row's statement (the work); the ties are given (YtdldgbbhagpofaaGreatDoorTie.lean); close each card by the builder's one call (the guide's Derived/Test/ToyasCard.lean, 'card_holds'). Laid BY PROGRAM, IN A SANDBOX (cutbox-door.mjs). By AI agents, Wed Nov 11 2026. No macro, syntax, notation, axiom, sorry.
-/
import Derived.Test.YtdldgbbhagpofaaGreatDoorRows
import GoSem.ClaimSeven
namespace Go.Proofs.YtdldgbbhagpofaaGreatDoor
namespace Rows

/-- THE TIED CARD OF 'penstocklaw11.SeglogLimits'. -/
def seglogLimitsCard : Claim7 := { stood := { row := seglogLimitsRow, standIns := [], harness := (true, "dc5a8fd7a710fd5b2a9ca5f971cb0d922c3e2571f975de45c079d1d7104e984e"), looks := true }, kinds := [], alts := [], laidByText := true, laidKinds := [.data, .data, .data, .sentinel, .sentinel], laidTests := true, laidLooks := .later }
def SeglogLimitsCardSaid : Prop := Claim7.holds Tryz.pinned (.plain (OpenSpec.ofChange seglogLimitsSpec)) seglogLimitsCard

/-- THE TIED CARD OF 'penstocklaw11.SeglogRolls'. -/
def seglogRollsCard : Claim7 := { stood := { row := seglogRollsRow, standIns := [], harness := (true, "dc5a8fd7a710fd5b2a9ca5f971cb0d922c3e2571f975de45c079d1d7104e984e"), looks := true }, kinds := [], alts := [], laidByText := true, laidKinds := [.data, .data, .data, .sentinel, .sentinel], laidTests := true, laidLooks := .later }
def SeglogRollsCardSaid : Prop := Claim7.holds Tryz.pinned (.plain (OpenSpec.ofChange seglogRollsSpec)) seglogRollsCard

/-- THE TIED CARD OF 'penstocklaw11.SeglogNothing'. -/
def seglogNothingCard : Claim7 := { stood := { row := seglogNothingRow, standIns := [], harness := (true, "dc5a8fd7a710fd5b2a9ca5f971cb0d922c3e2571f975de45c079d1d7104e984e"), looks := true }, kinds := [], alts := [], laidByText := true, laidKinds := [.data, .data, .data, .sentinel, .sentinel], laidTests := true, laidLooks := .later }
def SeglogNothingCardSaid : Prop := Claim7.holds Tryz.pinned (.plain (OpenSpec.ofChange seglogNothingSpec)) seglogNothingCard

/-- THE TIED CARD OF 'penstocklaw11.SeglogApart'. -/
def seglogApartCard : Claim7 := { stood := { row := seglogApartRow, standIns := [], harness := (true, "dc5a8fd7a710fd5b2a9ca5f971cb0d922c3e2571f975de45c079d1d7104e984e"), looks := true }, kinds := [], alts := [], laidByText := true, laidKinds := [.data, .data, .data, .sentinel, .sentinel], laidTests := true, laidLooks := .later }
def SeglogApartCardSaid : Prop := Claim7.holds Tryz.pinned (.plain (OpenSpec.ofChange seglogApartSpec)) seglogApartCard

/-- THE TIED CARD OF 'penstocklaw11.SeglogCrash'. -/
def seglogCrashCard : Claim7 := { stood := { row := seglogCrashRow, standIns := [], harness := (true, "dc5a8fd7a710fd5b2a9ca5f971cb0d922c3e2571f975de45c079d1d7104e984e"), looks := true }, kinds := [], alts := [], laidByText := true, laidKinds := [.data, .data, .data, .sentinel, .sentinel], laidTests := true, laidLooks := .later }
def SeglogCrashCardSaid : Prop := Claim7.holds Tryz.pinned (.plain (OpenSpec.ofChange seglogCrashSpec)) seglogCrashCard

/-- THE SECOND FORM's CARD OF 'penstocklaw11.SeglogLimits'. -/
def seglogLimitsUptoCard : Claim7 := { stood := { row := seglogLimitsUptoRow, standIns := [], harness := (true, "dc5a8fd7a710fd5b2a9ca5f971cb0d922c3e2571f975de45c079d1d7104e984e"), looks := true }, kinds := [], alts := [], laidByText := true, laidKinds := [.data, .data, .data, .sentinel, .sentinel], laidTests := true, laidLooks := .later }
def SeglogLimitsUptoCardSaid : Prop := Claim7.holds Tryz.pinned (.plain (OpenSpec.upto seglogLimitsSpec)) seglogLimitsUptoCard

/-- THE SECOND FORM's CARD OF 'penstocklaw11.SeglogRolls'. -/
def seglogRollsUptoCard : Claim7 := { stood := { row := seglogRollsUptoRow, standIns := [], harness := (true, "dc5a8fd7a710fd5b2a9ca5f971cb0d922c3e2571f975de45c079d1d7104e984e"), looks := true }, kinds := [], alts := [], laidByText := true, laidKinds := [.data, .data, .data, .sentinel, .sentinel], laidTests := true, laidLooks := .later }
def SeglogRollsUptoCardSaid : Prop := Claim7.holds Tryz.pinned (.plain (OpenSpec.upto seglogRollsSpec)) seglogRollsUptoCard

/-- THE SECOND FORM's CARD OF 'penstocklaw11.SeglogNothing'. -/
def seglogNothingUptoCard : Claim7 := { stood := { row := seglogNothingUptoRow, standIns := [], harness := (true, "dc5a8fd7a710fd5b2a9ca5f971cb0d922c3e2571f975de45c079d1d7104e984e"), looks := true }, kinds := [], alts := [], laidByText := true, laidKinds := [.data, .data, .data, .sentinel, .sentinel], laidTests := true, laidLooks := .later }
def SeglogNothingUptoCardSaid : Prop := Claim7.holds Tryz.pinned (.plain (OpenSpec.upto seglogNothingSpec)) seglogNothingUptoCard

/-- THE SECOND FORM's CARD OF 'penstocklaw11.SeglogApart'. -/
def seglogApartUptoCard : Claim7 := { stood := { row := seglogApartUptoRow, standIns := [], harness := (true, "dc5a8fd7a710fd5b2a9ca5f971cb0d922c3e2571f975de45c079d1d7104e984e"), looks := true }, kinds := [], alts := [], laidByText := true, laidKinds := [.data, .data, .data, .sentinel, .sentinel], laidTests := true, laidLooks := .later }
def SeglogApartUptoCardSaid : Prop := Claim7.holds Tryz.pinned (.plain (OpenSpec.upto seglogApartSpec)) seglogApartUptoCard

/-- THE SECOND FORM's CARD OF 'penstocklaw11.SeglogCrash'. -/
def seglogCrashUptoCard : Claim7 := { stood := { row := seglogCrashUptoRow, standIns := [], harness := (true, "dc5a8fd7a710fd5b2a9ca5f971cb0d922c3e2571f975de45c079d1d7104e984e"), looks := true }, kinds := [], alts := [], laidByText := true, laidKinds := [.data, .data, .data, .sentinel, .sentinel], laidTests := true, laidLooks := .later }
def SeglogCrashUptoCardSaid : Prop := Claim7.holds Tryz.pinned (.plain (OpenSpec.upto seglogCrashSpec)) seglogCrashUptoCard
end Rows
end Go.Proofs.YtdldgbbhagpofaaGreatDoor
