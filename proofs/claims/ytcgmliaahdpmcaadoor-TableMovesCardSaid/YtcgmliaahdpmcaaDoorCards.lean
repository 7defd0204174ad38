/-
  DERIVED. GIVEN WITH THE SEED: THE CARDS: each row of YtcgmliaahdpmcaaDoorRows.lean that lists a variable, with what it lists TIED to the program's text (the seventh form; the later family's looks); each row that meets fmt, with fmt's text TOLD by the authors' own Lean function (tested against real Go, not proved from fmt's source: count such statements apart). THE CARD IS WHAT COUNTS. Prove the row's statement (the work); the ties are given (YtcgmliaahdpmcaaDoorTie.lean); close each card by the builder's one call (the guide's Derived/Test/ToyasCard.lean, 'card_holds'). Laid BY PROGRAM, IN A SANDBOX (cutbox-door.mjs). By AI agents, Wed Nov 11 2026. No macro, syntax, notation, axiom, sorry.
-/
import Derived.Test.YtcgmliaahdpmcaaDoorRows
import GoSem.ClaimSeven
namespace Go.Proofs.YtcgmliaahdpmcaaDoor
namespace Rows

/-- THE TIED CARD OF 'penstocklaw14.TableKeys'. -/
def tableKeysCard : Claim7 := { stood := { row := tableKeysRow, standIns := [], harness := (true, "a921ffbe6239c34e69ca314ec32c0afc919b197ac3eb47b0b67a5397c4ba5008"), looks := false }, kinds := [], alts := [], laidByText := true, laidKinds := [.data, .pinned], laidTests := true, laidLooks := .later }
def TableKeysCardSaid : Prop := Claim7.holds Tryd.pinned (.plain (OpenSpec.ofChange tableKeysSpec)) tableKeysCard

/-- THE TIED CARD OF 'penstocklaw14.TableGaps'. -/
def tableGapsCard : Claim7 := { stood := { row := tableGapsRow, standIns := [], harness := (true, "a921ffbe6239c34e69ca314ec32c0afc919b197ac3eb47b0b67a5397c4ba5008"), looks := false }, kinds := [], alts := [], laidByText := true, laidKinds := [.data, .pinned], laidTests := true, laidLooks := .later }
def TableGapsCardSaid : Prop := Claim7.holds Tryd.pinned (.plain (OpenSpec.ofChange tableGapsSpec)) tableGapsCard

/-- THE TIED CARD OF 'penstocklaw14.TableNothing'. -/
def tableNothingCard : Claim7 := { stood := { row := tableNothingRow, standIns := [], harness := (true, "a921ffbe6239c34e69ca314ec32c0afc919b197ac3eb47b0b67a5397c4ba5008"), looks := false }, kinds := [], alts := [], laidByText := true, laidKinds := [.data, .pinned], laidTests := true, laidLooks := .later }
def TableNothingCardSaid : Prop := Claim7.holds Tryd.pinned (.plain (OpenSpec.ofChange tableNothingSpec)) tableNothingCard

/-- THE TIED CARD OF 'penstocklaw14.TableMoves'. -/
def tableMovesCard : Claim7 := { stood := { row := tableMovesRow, standIns := [], harness := (true, "a921ffbe6239c34e69ca314ec32c0afc919b197ac3eb47b0b67a5397c4ba5008"), looks := false }, kinds := [], alts := [], laidByText := true, laidKinds := [.data, .pinned], laidTests := true, laidLooks := .later }
def TableMovesCardSaid : Prop := Claim7.holds Tryd.pinned (.plain (OpenSpec.ofChange tableMovesSpec)) tableMovesCard

/-- THE SECOND FORM's CARD OF 'penstocklaw14.TableKeys'. -/
def tableKeysUptoCard : Claim7 := { stood := { row := tableKeysUptoRow, standIns := [], harness := (true, "a921ffbe6239c34e69ca314ec32c0afc919b197ac3eb47b0b67a5397c4ba5008"), looks := false }, kinds := [], alts := [], laidByText := true, laidKinds := [.data, .pinned], laidTests := true, laidLooks := .later }
def TableKeysUptoCardSaid : Prop := Claim7.holds Tryd.pinned (.plain (OpenSpec.upto tableKeysSpec)) tableKeysUptoCard

/-- THE SECOND FORM's CARD OF 'penstocklaw14.TableGaps'. -/
def tableGapsUptoCard : Claim7 := { stood := { row := tableGapsUptoRow, standIns := [], harness := (true, "a921ffbe6239c34e69ca314ec32c0afc919b197ac3eb47b0b67a5397c4ba5008"), looks := false }, kinds := [], alts := [], laidByText := true, laidKinds := [.data, .pinned], laidTests := true, laidLooks := .later }
def TableGapsUptoCardSaid : Prop := Claim7.holds Tryd.pinned (.plain (OpenSpec.upto tableGapsSpec)) tableGapsUptoCard

/-- THE SECOND FORM's CARD OF 'penstocklaw14.TableNothing'. -/
def tableNothingUptoCard : Claim7 := { stood := { row := tableNothingUptoRow, standIns := [], harness := (true, "a921ffbe6239c34e69ca314ec32c0afc919b197ac3eb47b0b67a5397c4ba5008"), looks := false }, kinds := [], alts := [], laidByText := true, laidKinds := [.data, .pinned], laidTests := true, laidLooks := .later }
def TableNothingUptoCardSaid : Prop := Claim7.holds Tryd.pinned (.plain (OpenSpec.upto tableNothingSpec)) tableNothingUptoCard

/-- THE SECOND FORM's CARD OF 'penstocklaw14.TableMoves'. -/
def tableMovesUptoCard : Claim7 := { stood := { row := tableMovesUptoRow, standIns := [], harness := (true, "a921ffbe6239c34e69ca314ec32c0afc919b197ac3eb47b0b67a5397c4ba5008"), looks := false }, kinds := [], alts := [], laidByText := true, laidKinds := [.data, .pinned], laidTests := true, laidLooks := .later }
def TableMovesUptoCardSaid : Prop := Claim7.holds Tryd.pinned (.plain (OpenSpec.upto tableMovesSpec)) tableMovesUptoCard
end Rows
end Go.Proofs.YtcgmliaahdpmcaaDoor
