/-
  DERIVED. GIVEN WITH THE SEED: THE CARDS: each row of YtpilcncdgjnbeaaDoorRows.lean that lists a variable, with what it lists TIED to the program's text (the seventh form; the later family's looks); each row that meets fmt, with fmt's text TOLD by the authors' own Lean function (tested against real Go, not proved from fmt's source: count such statements apart). THE CARD IS WHAT COUNTS. Prove the row's statement (the work); the ties are given (YtpilcncdgjnbeaaDoorTie.lean); close each card by the builder's one call (the guide's Derived/Test/ToyasCard.lean, 'card_holds'). Laid BY PROGRAM, IN A SANDBOX (cutbox-door.mjs). By AI agents, Wed Nov 11 2026. No macro, syntax, notation, axiom, sorry.
-/
import Derived.Test.YtpilcncdgjnbeaaDoorRows
import GoSem.ClaimSeven
namespace Go.Proofs.YtpilcncdgjnbeaaDoor
namespace Rows

/-- THE TIED CARD OF 'penstocklaw27.ValueTexts'. -/
def valueTextsCard : Claim7 := { stood := { row := valueTextsRow, standIns := [], harness := (true, "93065cc8a6b8b0a01a83abe347a535c7fc4302ea262de4f7a37387fbc8b497bc"), looks := true }, kinds := [], alts := [], laidByText := true, laidKinds := [.data, .data, .data, .data, .pinned], laidTests := true, laidLooks := .later }
def ValueTextsCardSaid : Prop := Claim7.holds Tryd.pinned (.plain (OpenSpec.ofChange valueTextsSpec)) valueTextsCard

/-- THE TIED CARD OF 'penstocklaw27.ValueDeep'. -/
def valueDeepCard : Claim7 := { stood := { row := valueDeepRow, standIns := [], harness := (true, "93065cc8a6b8b0a01a83abe347a535c7fc4302ea262de4f7a37387fbc8b497bc"), looks := true }, kinds := [], alts := [], laidByText := true, laidKinds := [.data, .data, .data, .data, .pinned], laidTests := true, laidLooks := .later }
def ValueDeepCardSaid : Prop := Claim7.holds Tryd.pinned (.plain (OpenSpec.ofChange valueDeepSpec)) valueDeepCard

/-- THE TIED CARD OF 'penstocklaw27.ValueOther'. -/
def valueOtherCard : Claim7 := { stood := { row := valueOtherRow, standIns := [], harness := (true, "93065cc8a6b8b0a01a83abe347a535c7fc4302ea262de4f7a37387fbc8b497bc"), looks := true }, kinds := [], alts := [], laidByText := true, laidKinds := [.data, .data, .data, .data, .pinned], laidTests := true, laidLooks := .later }
def ValueOtherCardSaid : Prop := Claim7.holds Tryd.pinned (.plain (OpenSpec.ofChange valueOtherSpec)) valueOtherCard

/-- THE TIED CARD OF 'penstocklaw27.ValueMust'. -/
def valueMustCard : Claim7 := { stood := { row := valueMustRow, standIns := [], harness := (true, "93065cc8a6b8b0a01a83abe347a535c7fc4302ea262de4f7a37387fbc8b497bc"), looks := true }, kinds := [], alts := [], laidByText := true, laidKinds := [.data, .data, .data, .data, .pinned], laidTests := true, laidLooks := .later }
def ValueMustCardSaid : Prop := Claim7.holds Tryd.pinned (.plain (OpenSpec.ofChange valueMustSpec)) valueMustCard

/-- THE TIED CARD OF 'penstocklaw27.ValueParses'. -/
def valueParsesCard : Claim7 := { stood := { row := valueParsesRow, standIns := [], harness := (true, "93065cc8a6b8b0a01a83abe347a535c7fc4302ea262de4f7a37387fbc8b497bc"), looks := true }, kinds := [], alts := [], laidByText := true, laidKinds := [.data, .data, .data, .data, .sentinel, .sentinel, .pinned], laidTests := true, laidLooks := .later }
def ValueParsesCardSaid : Prop := Claim7.holds Tryd.pinned (.plain (OpenSpec.ofChange valueParsesSpec)) valueParsesCard

/-- THE TIED CARD OF 'penstocklaw27.ValueNumbers'. -/
def valueNumbersCard : Claim7 := { stood := { row := valueNumbersRow, standIns := [], harness := (true, "93065cc8a6b8b0a01a83abe347a535c7fc4302ea262de4f7a37387fbc8b497bc"), looks := true }, kinds := [], alts := [], laidByText := true, laidKinds := [.data, .data, .data, .data, .sentinel, .sentinel, .pinned], laidTests := true, laidLooks := .later }
def ValueNumbersCardSaid : Prop := Claim7.holds Tryd.pinned (.plain (OpenSpec.ofChange valueNumbersSpec)) valueNumbersCard

/-- THE TIED CARD OF 'penstocklaw27.ValuePairs'. -/
def valuePairsCard : Claim7 := { stood := { row := valuePairsRow, standIns := [], harness := (true, "93065cc8a6b8b0a01a83abe347a535c7fc4302ea262de4f7a37387fbc8b497bc"), looks := true }, kinds := [], alts := [], laidByText := true, laidKinds := [.data, .data, .data, .data, .sentinel, .sentinel, .pinned], laidTests := true, laidLooks := .later }
def ValuePairsCardSaid : Prop := Claim7.holds Tryd.pinned (.plain (OpenSpec.ofChange valuePairsSpec)) valuePairsCard

/-- THE SECOND FORM's CARD OF 'penstocklaw27.ValueTexts'. -/
def valueTextsUptoCard : Claim7 := { stood := { row := valueTextsUptoRow, standIns := [], harness := (true, "93065cc8a6b8b0a01a83abe347a535c7fc4302ea262de4f7a37387fbc8b497bc"), looks := true }, kinds := [], alts := [], laidByText := true, laidKinds := [.data, .data, .data, .data, .pinned], laidTests := true, laidLooks := .later }
def ValueTextsUptoCardSaid : Prop := Claim7.holds Tryd.pinned (.plain (OpenSpec.upto valueTextsSpec)) valueTextsUptoCard

/-- THE SECOND FORM's CARD OF 'penstocklaw27.ValueDeep'. -/
def valueDeepUptoCard : Claim7 := { stood := { row := valueDeepUptoRow, standIns := [], harness := (true, "93065cc8a6b8b0a01a83abe347a535c7fc4302ea262de4f7a37387fbc8b497bc"), looks := true }, kinds := [], alts := [], laidByText := true, laidKinds := [.data, .data, .data, .data, .pinned], laidTests := true, laidLooks := .later }
def ValueDeepUptoCardSaid : Prop := Claim7.holds Tryd.pinned (.plain (OpenSpec.upto valueDeepSpec)) valueDeepUptoCard

/-- THE SECOND FORM's CARD OF 'penstocklaw27.ValueOther'. -/
def valueOtherUptoCard : Claim7 := { stood := { row := valueOtherUptoRow, standIns := [], harness := (true, "93065cc8a6b8b0a01a83abe347a535c7fc4302ea262de4f7a37387fbc8b497bc"), looks := true }, kinds := [], alts := [], laidByText := true, laidKinds := [.data, .data, .data, .data, .pinned], laidTests := true, laidLooks := .later }
def ValueOtherUptoCardSaid : Prop := Claim7.holds Tryd.pinned (.plain (OpenSpec.upto valueOtherSpec)) valueOtherUptoCard

/-- THE SECOND FORM's CARD OF 'penstocklaw27.ValueMust'. -/
def valueMustUptoCard : Claim7 := { stood := { row := valueMustUptoRow, standIns := [], harness := (true, "93065cc8a6b8b0a01a83abe347a535c7fc4302ea262de4f7a37387fbc8b497bc"), looks := true }, kinds := [], alts := [], laidByText := true, laidKinds := [.data, .data, .data, .data, .pinned], laidTests := true, laidLooks := .later }
def ValueMustUptoCardSaid : Prop := Claim7.holds Tryd.pinned (.plain (OpenSpec.upto valueMustSpec)) valueMustUptoCard

/-- THE SECOND FORM's CARD OF 'penstocklaw27.ValueParses'. -/
def valueParsesUptoCard : Claim7 := { stood := { row := valueParsesUptoRow, standIns := [], harness := (true, "93065cc8a6b8b0a01a83abe347a535c7fc4302ea262de4f7a37387fbc8b497bc"), looks := true }, kinds := [], alts := [], laidByText := true, laidKinds := [.data, .data, .data, .data, .sentinel, .sentinel, .pinned], laidTests := true, laidLooks := .later }
def ValueParsesUptoCardSaid : Prop := Claim7.holds Tryd.pinned (.plain (OpenSpec.upto valueParsesSpec)) valueParsesUptoCard

/-- THE SECOND FORM's CARD OF 'penstocklaw27.ValueNumbers'. -/
def valueNumbersUptoCard : Claim7 := { stood := { row := valueNumbersUptoRow, standIns := [], harness := (true, "93065cc8a6b8b0a01a83abe347a535c7fc4302ea262de4f7a37387fbc8b497bc"), looks := true }, kinds := [], alts := [], laidByText := true, laidKinds := [.data, .data, .data, .data, .sentinel, .sentinel, .pinned], laidTests := true, laidLooks := .later }
def ValueNumbersUptoCardSaid : Prop := Claim7.holds Tryd.pinned (.plain (OpenSpec.upto valueNumbersSpec)) valueNumbersUptoCard

/-- THE SECOND FORM's CARD OF 'penstocklaw27.ValuePairs'. -/
def valuePairsUptoCard : Claim7 := { stood := { row := valuePairsUptoRow, standIns := [], harness := (true, "93065cc8a6b8b0a01a83abe347a535c7fc4302ea262de4f7a37387fbc8b497bc"), looks := true }, kinds := [], alts := [], laidByText := true, laidKinds := [.data, .data, .data, .data, .sentinel, .sentinel, .pinned], laidTests := true, laidLooks := .later }
def ValuePairsUptoCardSaid : Prop := Claim7.holds Tryd.pinned (.plain (OpenSpec.upto valuePairsSpec)) valuePairsUptoCard
end Rows
end Go.Proofs.YtpilcncdgjnbeaaDoor
