/-
  DERIVED. GIVEN WITH THE SEED: THE CARDS: each row of YtaahibcibgljbaaDoorRows.lean that lists a variable, with what it lists TIED to the program's text (the seventh form; the later family's looks); each row that meets fmt, with fmt's text TOLD by the authors' own Lean function (tested against real Go, not proved from fmt's source: count such statements apart). THE CARD IS WHAT COUNTS. Prove the row's statement (the work); the ties are given (YtaahibcibgljbaaDoorTie.lean); close each card by the builder's one call (the guide's Derived/Test/ToyasCard.lean, 'card_holds'). Laid BY PROGRAM, IN A SANDBOX (cutbox-door.mjs). By AI agents, Wed Nov 11 2026. No macro, syntax, notation, axiom, sorry.
-/
import Derived.Test.YtaahibcibgljbaaDoorRows
import GoSem.ClaimSeven
namespace Go.Proofs.YtaahibcibgljbaaDoor
namespace Rows

/-- THE TIED CARD OF 'penstocklaw28.CallForms'. -/
def callFormsCard : Claim7 := { stood := { row := callFormsRow, standIns := [], harness := (true, "b960394ac854ea3d740503cc895dd88b40f1f61a36c587e576de90f94c1af206"), looks := true }, kinds := [], alts := [], laidByText := true, laidKinds := [.data, .data, .data, .data, .sentinel, .sentinel, .pinned], laidTests := true, laidLooks := .later }
def CallFormsCardSaid : Prop := Claim7.holds Tryd.pinned (.plain (OpenSpec.ofChange callFormsSpec)) callFormsCard

/-- THE TIED CARD OF 'penstocklaw28.CallReplies'. -/
def callRepliesCard : Claim7 := { stood := { row := callRepliesRow, standIns := [], harness := (true, "b960394ac854ea3d740503cc895dd88b40f1f61a36c587e576de90f94c1af206"), looks := true }, kinds := [], alts := [], laidByText := true, laidKinds := [.data, .data, .data, .data, .sentinel, .sentinel, .pinned], laidTests := true, laidLooks := .later }
def CallRepliesCardSaid : Prop := Claim7.holds Tryd.pinned (.plain (OpenSpec.ofChange callRepliesSpec)) callRepliesCard

/-- THE TIED CARD OF 'penstocklaw28.CallStrict'. -/
def callStrictCard : Claim7 := { stood := { row := callStrictRow, standIns := [], harness := (true, "b960394ac854ea3d740503cc895dd88b40f1f61a36c587e576de90f94c1af206"), looks := true }, kinds := [], alts := [], laidByText := true, laidKinds := [.data, .data, .data, .data, .sentinel, .sentinel, .pinned], laidTests := true, laidLooks := .later }
def CallStrictCardSaid : Prop := Claim7.holds Tryd.pinned (.plain (OpenSpec.ofChange callStrictSpec)) callStrictCard

/-- THE TIED CARD OF 'penstocklaw28.CallBack'. -/
def callBackCard : Claim7 := { stood := { row := callBackRow, standIns := [], harness := (true, "b960394ac854ea3d740503cc895dd88b40f1f61a36c587e576de90f94c1af206"), looks := true }, kinds := [], alts := [], laidByText := true, laidKinds := [.data, .data, .data, .data, .sentinel, .sentinel, .pinned], laidTests := true, laidLooks := .later }
def CallBackCardSaid : Prop := Claim7.holds Tryd.pinned (.plain (OpenSpec.ofChange callBackSpec)) callBackCard

/-- THE SECOND FORM's CARD OF 'penstocklaw28.CallForms'. -/
def callFormsUptoCard : Claim7 := { stood := { row := callFormsUptoRow, standIns := [], harness := (true, "b960394ac854ea3d740503cc895dd88b40f1f61a36c587e576de90f94c1af206"), looks := true }, kinds := [], alts := [], laidByText := true, laidKinds := [.data, .data, .data, .data, .sentinel, .sentinel, .pinned], laidTests := true, laidLooks := .later }
def CallFormsUptoCardSaid : Prop := Claim7.holds Tryd.pinned (.plain (OpenSpec.upto callFormsSpec)) callFormsUptoCard

/-- THE SECOND FORM's CARD OF 'penstocklaw28.CallReplies'. -/
def callRepliesUptoCard : Claim7 := { stood := { row := callRepliesUptoRow, standIns := [], harness := (true, "b960394ac854ea3d740503cc895dd88b40f1f61a36c587e576de90f94c1af206"), looks := true }, kinds := [], alts := [], laidByText := true, laidKinds := [.data, .data, .data, .data, .sentinel, .sentinel, .pinned], laidTests := true, laidLooks := .later }
def CallRepliesUptoCardSaid : Prop := Claim7.holds Tryd.pinned (.plain (OpenSpec.upto callRepliesSpec)) callRepliesUptoCard

/-- THE SECOND FORM's CARD OF 'penstocklaw28.CallStrict'. -/
def callStrictUptoCard : Claim7 := { stood := { row := callStrictUptoRow, standIns := [], harness := (true, "b960394ac854ea3d740503cc895dd88b40f1f61a36c587e576de90f94c1af206"), looks := true }, kinds := [], alts := [], laidByText := true, laidKinds := [.data, .data, .data, .data, .sentinel, .sentinel, .pinned], laidTests := true, laidLooks := .later }
def CallStrictUptoCardSaid : Prop := Claim7.holds Tryd.pinned (.plain (OpenSpec.upto callStrictSpec)) callStrictUptoCard

/-- THE SECOND FORM's CARD OF 'penstocklaw28.CallBack'. -/
def callBackUptoCard : Claim7 := { stood := { row := callBackUptoRow, standIns := [], harness := (true, "b960394ac854ea3d740503cc895dd88b40f1f61a36c587e576de90f94c1af206"), looks := true }, kinds := [], alts := [], laidByText := true, laidKinds := [.data, .data, .data, .data, .sentinel, .sentinel, .pinned], laidTests := true, laidLooks := .later }
def CallBackUptoCardSaid : Prop := Claim7.holds Tryd.pinned (.plain (OpenSpec.upto callBackSpec)) callBackUptoCard
end Rows
end Go.Proofs.YtaahibcibgljbaaDoor
