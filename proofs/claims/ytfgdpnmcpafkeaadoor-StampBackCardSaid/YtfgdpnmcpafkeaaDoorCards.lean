/-
  DERIVED. GIVEN WITH THE SEED: THE CARDS: each row of YtfgdpnmcpafkeaaDoorRows.lean that lists a variable, with what it lists TIED to the program's text (the seventh form; the later family's looks); each row that meets fmt, with fmt's text TOLD by the authors' own Lean function (tested against real Go, not proved from fmt's source: count such statements apart). THE CARD IS WHAT COUNTS. Prove the row's statement (the work); the ties are given (YtfgdpnmcpafkeaaDoorTie.lean); close each card by the builder's one call (the guide's Derived/Test/ToyasCard.lean, 'card_holds'). Laid BY PROGRAM, IN A SANDBOX (cutbox-door.mjs). By AI agents, Wed Nov 11 2026. No macro, syntax, notation, axiom, sorry.
-/
import Derived.Test.YtfgdpnmcpafkeaaDoorRows
import GoSem.ClaimSeven
namespace Go.Proofs.YtfgdpnmcpafkeaaDoor
namespace Rows

/-- THE TIED CARD OF 'penstocklaw7.StampTexts'. -/
def stampTextsCard : Claim7 := { stood := { row := stampTextsRow, standIns := [], harness := (true, "704dfa4a704a1a4b82c7469097af12a2ed02bc95df6a1340cc33aacc5d273bf6"), looks := false }, kinds := [], alts := [], laidByText := true, laidKinds := [.data, .data, .data], laidTests := true, laidLooks := .later }
def StampTextsCardSaid : Prop := Claim7.holds Tryd.pinned (.plain (OpenSpec.ofChange stampTextsSpec)) stampTextsCard

/-- THE TIED CARD OF 'penstocklaw7.StampPlaces'. -/
def stampPlacesCard : Claim7 := { stood := { row := stampPlacesRow, standIns := [], harness := (true, "704dfa4a704a1a4b82c7469097af12a2ed02bc95df6a1340cc33aacc5d273bf6"), looks := false }, kinds := [], alts := [], laidByText := true, laidKinds := [.data, .data, .data], laidTests := true, laidLooks := .later }
def StampPlacesCardSaid : Prop := Claim7.holds Tryd.pinned (.plain (OpenSpec.ofChange stampPlacesSpec)) stampPlacesCard

/-- THE TIED CARD OF 'penstocklaw7.StampOrder'. -/
def stampOrderCard : Claim7 := { stood := { row := stampOrderRow, standIns := [], harness := (true, "704dfa4a704a1a4b82c7469097af12a2ed02bc95df6a1340cc33aacc5d273bf6"), looks := false }, kinds := [], alts := [], laidByText := true, laidKinds := [.data, .data, .data], laidTests := true, laidLooks := .later }
def StampOrderCardSaid : Prop := Claim7.holds Tryd.pinned (.plain (OpenSpec.ofChange stampOrderSpec)) stampOrderCard

/-- THE TIED CARD OF 'penstocklaw7.StampCodes'. -/
def stampCodesCard : Claim7 := { stood := { row := stampCodesRow, standIns := [], harness := (true, "704dfa4a704a1a4b82c7469097af12a2ed02bc95df6a1340cc33aacc5d273bf6"), looks := false }, kinds := [], alts := [], laidByText := true, laidKinds := [.data, .data, .data], laidTests := true, laidLooks := .later }
def StampCodesCardSaid : Prop := Claim7.holds Tryd.pinned (.plain (OpenSpec.ofChange stampCodesSpec)) stampCodesCard

/-- THE TIED CARD OF 'penstocklaw7.StampLine'. -/
def stampLineCard : Claim7 := { stood := { row := stampLineRow, standIns := [], harness := (true, "704dfa4a704a1a4b82c7469097af12a2ed02bc95df6a1340cc33aacc5d273bf6"), looks := false }, kinds := [], alts := [], laidByText := true, laidKinds := [.data, .data, .data], laidTests := true, laidLooks := .later }
def StampLineCardSaid : Prop := Claim7.holds Tryd.pinned (.plain (OpenSpec.ofChange stampLineSpec)) stampLineCard

/-- THE TIED CARD OF 'penstocklaw7.StampBack'. -/
def stampBackCard : Claim7 := { stood := { row := stampBackRow, standIns := [], harness := (true, "704dfa4a704a1a4b82c7469097af12a2ed02bc95df6a1340cc33aacc5d273bf6"), looks := false }, kinds := [], alts := [], laidByText := true, laidKinds := [.data, .data, .data], laidTests := true, laidLooks := .later }
def StampBackCardSaid : Prop := Claim7.holds Tryd.pinned (.plain (OpenSpec.ofChange stampBackSpec)) stampBackCard

/-- THE TIED CARD OF 'penstocklaw7.StampMost'. -/
def stampMostCard : Claim7 := { stood := { row := stampMostRow, standIns := [], harness := (true, "704dfa4a704a1a4b82c7469097af12a2ed02bc95df6a1340cc33aacc5d273bf6"), looks := false }, kinds := [], alts := [], laidByText := true, laidKinds := [.data, .data, .data], laidTests := true, laidLooks := .later }
def StampMostCardSaid : Prop := Claim7.holds Tryd.pinned (.plain (OpenSpec.ofChange stampMostSpec)) stampMostCard

/-- THE SECOND FORM's CARD OF 'penstocklaw7.StampTexts'. -/
def stampTextsUptoCard : Claim7 := { stood := { row := stampTextsUptoRow, standIns := [], harness := (true, "704dfa4a704a1a4b82c7469097af12a2ed02bc95df6a1340cc33aacc5d273bf6"), looks := false }, kinds := [], alts := [], laidByText := true, laidKinds := [.data, .data, .data], laidTests := true, laidLooks := .later }
def StampTextsUptoCardSaid : Prop := Claim7.holds Tryd.pinned (.plain (OpenSpec.upto stampTextsSpec)) stampTextsUptoCard

/-- THE SECOND FORM's CARD OF 'penstocklaw7.StampPlaces'. -/
def stampPlacesUptoCard : Claim7 := { stood := { row := stampPlacesUptoRow, standIns := [], harness := (true, "704dfa4a704a1a4b82c7469097af12a2ed02bc95df6a1340cc33aacc5d273bf6"), looks := false }, kinds := [], alts := [], laidByText := true, laidKinds := [.data, .data, .data], laidTests := true, laidLooks := .later }
def StampPlacesUptoCardSaid : Prop := Claim7.holds Tryd.pinned (.plain (OpenSpec.upto stampPlacesSpec)) stampPlacesUptoCard

/-- THE SECOND FORM's CARD OF 'penstocklaw7.StampOrder'. -/
def stampOrderUptoCard : Claim7 := { stood := { row := stampOrderUptoRow, standIns := [], harness := (true, "704dfa4a704a1a4b82c7469097af12a2ed02bc95df6a1340cc33aacc5d273bf6"), looks := false }, kinds := [], alts := [], laidByText := true, laidKinds := [.data, .data, .data], laidTests := true, laidLooks := .later }
def StampOrderUptoCardSaid : Prop := Claim7.holds Tryd.pinned (.plain (OpenSpec.upto stampOrderSpec)) stampOrderUptoCard

/-- THE SECOND FORM's CARD OF 'penstocklaw7.StampCodes'. -/
def stampCodesUptoCard : Claim7 := { stood := { row := stampCodesUptoRow, standIns := [], harness := (true, "704dfa4a704a1a4b82c7469097af12a2ed02bc95df6a1340cc33aacc5d273bf6"), looks := false }, kinds := [], alts := [], laidByText := true, laidKinds := [.data, .data, .data], laidTests := true, laidLooks := .later }
def StampCodesUptoCardSaid : Prop := Claim7.holds Tryd.pinned (.plain (OpenSpec.upto stampCodesSpec)) stampCodesUptoCard

/-- THE SECOND FORM's CARD OF 'penstocklaw7.StampLine'. -/
def stampLineUptoCard : Claim7 := { stood := { row := stampLineUptoRow, standIns := [], harness := (true, "704dfa4a704a1a4b82c7469097af12a2ed02bc95df6a1340cc33aacc5d273bf6"), looks := false }, kinds := [], alts := [], laidByText := true, laidKinds := [.data, .data, .data], laidTests := true, laidLooks := .later }
def StampLineUptoCardSaid : Prop := Claim7.holds Tryd.pinned (.plain (OpenSpec.upto stampLineSpec)) stampLineUptoCard

/-- THE SECOND FORM's CARD OF 'penstocklaw7.StampBack'. -/
def stampBackUptoCard : Claim7 := { stood := { row := stampBackUptoRow, standIns := [], harness := (true, "704dfa4a704a1a4b82c7469097af12a2ed02bc95df6a1340cc33aacc5d273bf6"), looks := false }, kinds := [], alts := [], laidByText := true, laidKinds := [.data, .data, .data], laidTests := true, laidLooks := .later }
def StampBackUptoCardSaid : Prop := Claim7.holds Tryd.pinned (.plain (OpenSpec.upto stampBackSpec)) stampBackUptoCard

/-- THE SECOND FORM's CARD OF 'penstocklaw7.StampMost'. -/
def stampMostUptoCard : Claim7 := { stood := { row := stampMostUptoRow, standIns := [], harness := (true, "704dfa4a704a1a4b82c7469097af12a2ed02bc95df6a1340cc33aacc5d273bf6"), looks := false }, kinds := [], alts := [], laidByText := true, laidKinds := [.data, .data, .data], laidTests := true, laidLooks := .later }
def StampMostUptoCardSaid : Prop := Claim7.holds Tryd.pinned (.plain (OpenSpec.upto stampMostSpec)) stampMostUptoCard
end Rows
end Go.Proofs.YtfgdpnmcpafkeaaDoor
