/-
  DERIVED. GIVEN WITH THE SEED: THE CARDS: each row of YtaahibcibgljbaaGreatDoorRows.lean that lists a variable, with what it lists TIED to the program's text (the seventh form; the later family's looks); each row that meets fmt, with fmt's text TOLD by the authors' own Lean function (tested against real Go, not proved from fmt's source: count such statements apart). THE CARD IS WHAT COUNTS. Prove the row's statement (the work); the ties are given (YtaahibcibgljbaaGreatDoorTie.lean); close each card by the builder's one call (the guide's Derived/Test/ToyasCard.lean, 'card_holds'). Laid BY PROGRAM, IN A SANDBOX (cutbox-door.mjs). By AI agents, Wed Nov 11 2026. No macro, syntax, notation, axiom, sorry.
-/
import Derived.Test.YtaahibcibgljbaaGreatDoorRows
import GoSem.ClaimSeven
namespace Go.Proofs.YtaahibcibgljbaaGreatDoor
namespace Rows

/-- THE TIED CARD OF 'penstocklaw28.CallParses'. -/
def callParsesCard : Claim7 := { stood := { row := callParsesRow, standIns := [], harness := (true, "b2ab00c08f745df057848493679ff8c35fa21b90372c4d525192a9d8a62e03bd"), looks := true }, kinds := [], alts := [], laidByText := true, laidKinds := [.data, .data, .data, .data, .sentinel, .sentinel, .pinned], laidTests := true, laidLooks := .later }
def CallParsesCardSaid : Prop := Claim7.holds Tryz.pinned (.plain (OpenSpec.ofChange callParsesSpec)) callParsesCard

/-- THE TIED CARD OF 'penstocklaw28.CallTold'. -/
def callToldCard : Claim7 := { stood := { row := callToldRow, standIns := [], harness := (true, "b2ab00c08f745df057848493679ff8c35fa21b90372c4d525192a9d8a62e03bd"), looks := true }, kinds := [], alts := [], laidByText := true, laidKinds := [.data, .data, .data, .data, .sentinel, .sentinel, .pinned], laidTests := true, laidLooks := .later }
def CallToldCardSaid : Prop := Claim7.holds Tryz.pinned (.plain (OpenSpec.ofChange callToldSpec)) callToldCard

/-- THE SECOND FORM's CARD OF 'penstocklaw28.CallParses'. -/
def callParsesUptoCard : Claim7 := { stood := { row := callParsesUptoRow, standIns := [], harness := (true, "b2ab00c08f745df057848493679ff8c35fa21b90372c4d525192a9d8a62e03bd"), looks := true }, kinds := [], alts := [], laidByText := true, laidKinds := [.data, .data, .data, .data, .sentinel, .sentinel, .pinned], laidTests := true, laidLooks := .later }
def CallParsesUptoCardSaid : Prop := Claim7.holds Tryz.pinned (.plain (OpenSpec.upto callParsesSpec)) callParsesUptoCard

/-- THE SECOND FORM's CARD OF 'penstocklaw28.CallTold'. -/
def callToldUptoCard : Claim7 := { stood := { row := callToldUptoRow, standIns := [], harness := (true, "b2ab00c08f745df057848493679ff8c35fa21b90372c4d525192a9d8a62e03bd"), looks := true }, kinds := [], alts := [], laidByText := true, laidKinds := [.data, .data, .data, .data, .sentinel, .sentinel, .pinned], laidTests := true, laidLooks := .later }
def CallToldUptoCardSaid : Prop := Claim7.holds Tryz.pinned (.plain (OpenSpec.upto callToldSpec)) callToldUptoCard
end Rows
end Go.Proofs.YtaahibcibgljbaaGreatDoor
