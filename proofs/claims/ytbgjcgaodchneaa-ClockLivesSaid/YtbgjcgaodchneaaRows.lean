/-
  No cell of these rows narrows 'for every input' (looked for: loops, veiled, ifaces, maps, wideKeys, modest, calm, conditions, laid).
  DERIVED. THE GIVEN ROWS OF THIS SEAT. 6 by the template 'for every input the law returns true; each argument reads behind the call as it read before'; 0 by the template 'total and deterministic' (their statements: YtbgjcgaodchneaaTotals.lean).
  GIVEN WITH THE SEED: the statements are not yours to turn. If you find one false, say at which input.
  Laid BY PROGRAM, IN A SANDBOX (cutbox-rows.mjs): the forced cells as the released guide's own fill.sh prints them over the translation 1f3bbff317ead6a7… (all of the seat's roots in one cut). By AI agents, Wed Nov 11 2026. No macro, syntax, notation, axiom, sorry.
-/
import Derived.Test.YtbgjcgaodchneaaChecked
import GoSem.Claim
import GoSem.ClaimJoined
import GoSem.ClaimMapViews
import Derived.JoinedTies
import Derived.KernelRfl
namespace Go.Proofs.Ytbgjcgaodchneaa
/- THE CELL 'sum', in the pinned program and in every row, IS THE sha256 OF THE DUMP (.gsa) THAT YtbgjcgaodchneaaProg.lean LOADS. Nothing in Lean hashes anything: it is a label: what it is worth is what the hold of that sum in a sandbox is worth. -/
noncomputable def Try.pinned : Pinned := { name := "ytbgjcgaodchneaa", sum := "1f3bbff317ead6a7af9baa935d8b8edbf7718e547d22edea9c96a7b959cd5eb5", checked := Try.checked }
namespace Rows
def none {H : Type} : Left H := { results := [], args := [] }

/-- 'penstocklaw8.ClockOver': WHATEVER THE INPUT: true; the input reads as it did. -/
def clockOverSpec : ChangeSpec := { name := "clockOver", fn := fun _ => fun
  | [d1, d2] => { results := [.lit (.bool true)], args := [d1, d2] }
  | _ => none }
def clockOverRow : OpenClaim := { program := "ytbgjcgaodchneaa", sum := "1f3bbff317ead6a7af9baa935d8b8edbf7718e547d22edea9c96a7b959cd5eb5", func := "penstock/penstocklaw8.ClockOver", spec := "clockOver", apart := false }
def ClockOverSaid : Prop := clockOverRow.holds Try.pinned (OpenSpec.ofChange clockOverSpec)

/-- ITS FALSE NEIGHBOUR: 'it returns false'. Refute it at one input. -/
def clockOverWrong : ChangeSpec := { name := "clockOver", fn := fun _ => fun
  | [d1, d2] => { results := [.lit (.bool false)], args := [d1, d2] }
  | _ => none }
def ClockOverWrongFalsely : Prop := clockOverRow.holds Try.pinned (OpenSpec.ofChange clockOverWrong)

/-- 'penstocklaw8.ClockDrift': WHATEVER THE INPUT: true; the input reads as it did. -/
def clockDriftSpec : ChangeSpec := { name := "clockDrift", fn := fun _ => fun
  | [d1, d2] => { results := [.lit (.bool true)], args := [d1, d2] }
  | _ => none }
def clockDriftRow : OpenClaim := { program := "ytbgjcgaodchneaa", sum := "1f3bbff317ead6a7af9baa935d8b8edbf7718e547d22edea9c96a7b959cd5eb5", func := "penstock/penstocklaw8.ClockDrift", spec := "clockDrift", apart := false }
def ClockDriftSaid : Prop := clockDriftRow.holds Try.pinned (OpenSpec.ofChange clockDriftSpec)

/-- ITS FALSE NEIGHBOUR: 'it returns false'. Refute it at one input. -/
def clockDriftWrong : ChangeSpec := { name := "clockDrift", fn := fun _ => fun
  | [d1, d2] => { results := [.lit (.bool false)], args := [d1, d2] }
  | _ => none }
def ClockDriftWrongFalsely : Prop := clockDriftRow.holds Try.pinned (OpenSpec.ofChange clockDriftWrong)

/-- 'penstocklaw8.ClockLives': WHATEVER THE INPUT: true; the input reads as it did. -/
def clockLivesSpec : ChangeSpec := { name := "clockLives", fn := fun _ => fun
  | [d1, d2] => { results := [.lit (.bool true)], args := [d1, d2] }
  | _ => none }
def clockLivesRow : OpenClaim := { program := "ytbgjcgaodchneaa", sum := "1f3bbff317ead6a7af9baa935d8b8edbf7718e547d22edea9c96a7b959cd5eb5", func := "penstock/penstocklaw8.ClockLives", spec := "clockLives", apart := false }
def ClockLivesSaid : Prop := clockLivesRow.holds Try.pinned (OpenSpec.ofChange clockLivesSpec)

/-- ITS FALSE NEIGHBOUR: 'it returns false'. Refute it at one input. -/
def clockLivesWrong : ChangeSpec := { name := "clockLives", fn := fun _ => fun
  | [d1, d2] => { results := [.lit (.bool false)], args := [d1, d2] }
  | _ => none }
def ClockLivesWrongFalsely : Prop := clockLivesRow.holds Try.pinned (OpenSpec.ofChange clockLivesWrong)

/-- 'penstocklaw8.ClockPlays': WHATEVER THE INPUT: true; the input reads as it did. -/
def clockPlaysSpec : ChangeSpec := { name := "clockPlays", fn := fun _ => fun
  | [d1, d2, d3] => { results := [.lit (.bool true)], args := [d1, d2, d3] }
  | _ => none }
def clockPlaysRow : OpenClaim := { program := "ytbgjcgaodchneaa", sum := "1f3bbff317ead6a7af9baa935d8b8edbf7718e547d22edea9c96a7b959cd5eb5", func := "penstock/penstocklaw8.ClockPlays", spec := "clockPlays", apart := false }
def ClockPlaysSaid : Prop := clockPlaysRow.holds Try.pinned (OpenSpec.ofChange clockPlaysSpec)

/-- ITS FALSE NEIGHBOUR: 'it returns false'. Refute it at one input. -/
def clockPlaysWrong : ChangeSpec := { name := "clockPlays", fn := fun _ => fun
  | [d1, d2, d3] => { results := [.lit (.bool false)], args := [d1, d2, d3] }
  | _ => none }
def ClockPlaysWrongFalsely : Prop := clockPlaysRow.holds Try.pinned (OpenSpec.ofChange clockPlaysWrong)

/-- 'penstocklaw8.ClockRises': WHATEVER THE INPUT: true; the input reads as it did. -/
def clockRisesSpec : ChangeSpec := { name := "clockRises", fn := fun _ => fun
  | [d1, d2, d3] => { results := [.lit (.bool true)], args := [d1, d2, d3] }
  | _ => none }
def clockRisesRow : OpenClaim := { program := "ytbgjcgaodchneaa", sum := "1f3bbff317ead6a7af9baa935d8b8edbf7718e547d22edea9c96a7b959cd5eb5", func := "penstock/penstocklaw8.ClockRises", spec := "clockRises", apart := false }
def ClockRisesSaid : Prop := clockRisesRow.holds Try.pinned (OpenSpec.ofChange clockRisesSpec)

/-- ITS FALSE NEIGHBOUR: 'it returns false'. Refute it at one input. -/
def clockRisesWrong : ChangeSpec := { name := "clockRises", fn := fun _ => fun
  | [d1, d2, d3] => { results := [.lit (.bool false)], args := [d1, d2, d3] }
  | _ => none }
def ClockRisesWrongFalsely : Prop := clockRisesRow.holds Try.pinned (OpenSpec.ofChange clockRisesWrong)

/-- 'penstocklaw8.ClockNothing': WHATEVER THE INPUT: true; the input reads as it did. -/
def clockNothingSpec : ChangeSpec := { name := "clockNothing", fn := fun _ => fun
  | [d] => { results := [.lit (.bool true)], args := [d] }
  | _ => none }
def clockNothingRow : OpenClaim := { program := "ytbgjcgaodchneaa", sum := "1f3bbff317ead6a7af9baa935d8b8edbf7718e547d22edea9c96a7b959cd5eb5", func := "penstock/penstocklaw8.ClockNothing", spec := "clockNothing", apart := false }
def ClockNothingSaid : Prop := clockNothingRow.holds Try.pinned (OpenSpec.ofChange clockNothingSpec)

/-- ITS FALSE NEIGHBOUR: 'it returns false'. Refute it at one input. -/
def clockNothingWrong : ChangeSpec := { name := "clockNothing", fn := fun _ => fun
  | [d] => { results := [.lit (.bool false)], args := [d] }
  | _ => none }
def ClockNothingWrongFalsely : Prop := clockNothingRow.holds Try.pinned (OpenSpec.ofChange clockNothingWrong)

/- THE SECOND FORM. 'bulk': how many values and letters a reading holds, each counted each time it is reached (what is shared counts as often as it is met; a slice's spare places count too). A statement '..UptoSaid' is the law's where the arguments, and the package variables that the reading takes, are together of bulk at most 1048576: NARROWER than '..Said'. Prove '..Said' where nothing that the law and all that it calls make is longer than what came in: it says more and counts as full. Else prove '..UptoSaid'. A law counts once. -/
mutual
def uptoBulk {H : Type} : DataW H → Nat
  | .lit (.string bytes) => bytes.length + 1
  | .lit _ => 1
  | .nil => 1
  | .ptr d => uptoBulk d + 1
  | .slice elems spare => uptoBulkAll elems + uptoBulkAll spare + 1
  | .agg parts => uptoBulkAll parts + 1
  | .iface _ d => uptoBulk d + 1
  | .map entries => uptoBulkEntries entries + 1
  | .held _ => 1
def uptoBulkAll {H : Type} : List (DataW H) → Nat
  | [] => 0
  | d :: r => uptoBulk d + uptoBulkAll r
def uptoBulkEntries {H : Type} : List (Lit × DataW H) → Nat
  | [] => 0
  | x :: r => uptoBulkEntry x + uptoBulkEntries r
def uptoBulkEntry {H : Type} : Lit × DataW H → Nat
  | (.string bytes, d) => bytes.length + uptoBulk d + 1
  | (_, d) => uptoBulk d + 1
 end
def uptoSmall : (H : Type) → List (DataW H) → Bool := fun _ ds => decide (uptoBulkAll ds ≤ 1048576)
def OpenSpec.upto (s : _root_.Go.ChangeSpec) : _root_.Go.OpenSpec := { _root_.Go.OpenSpec.ofChange s with cond := some uptoSmall }

/-- 'penstocklaw8.ClockOver', WHERE WHAT IT READS IS OF BULK AT MOST 1048576: true; the input reads as it did. -/
def clockOverUptoRow : OpenClaim := { program := "ytbgjcgaodchneaa", sum := "1f3bbff317ead6a7af9baa935d8b8edbf7718e547d22edea9c96a7b959cd5eb5", func := "penstock/penstocklaw8.ClockOver", spec := "clockOver", apart := false, narrowed := true }
def ClockOverUptoSaid : Prop := clockOverUptoRow.holds Try.pinned (OpenSpec.upto clockOverSpec)

/-- 'penstocklaw8.ClockDrift', WHERE WHAT IT READS IS OF BULK AT MOST 1048576: true; the input reads as it did. -/
def clockDriftUptoRow : OpenClaim := { program := "ytbgjcgaodchneaa", sum := "1f3bbff317ead6a7af9baa935d8b8edbf7718e547d22edea9c96a7b959cd5eb5", func := "penstock/penstocklaw8.ClockDrift", spec := "clockDrift", apart := false, narrowed := true }
def ClockDriftUptoSaid : Prop := clockDriftUptoRow.holds Try.pinned (OpenSpec.upto clockDriftSpec)

/-- 'penstocklaw8.ClockLives', WHERE WHAT IT READS IS OF BULK AT MOST 1048576: true; the input reads as it did. -/
def clockLivesUptoRow : OpenClaim := { program := "ytbgjcgaodchneaa", sum := "1f3bbff317ead6a7af9baa935d8b8edbf7718e547d22edea9c96a7b959cd5eb5", func := "penstock/penstocklaw8.ClockLives", spec := "clockLives", apart := false, narrowed := true }
def ClockLivesUptoSaid : Prop := clockLivesUptoRow.holds Try.pinned (OpenSpec.upto clockLivesSpec)

/-- 'penstocklaw8.ClockPlays', WHERE WHAT IT READS IS OF BULK AT MOST 1048576: true; the input reads as it did. -/
def clockPlaysUptoRow : OpenClaim := { program := "ytbgjcgaodchneaa", sum := "1f3bbff317ead6a7af9baa935d8b8edbf7718e547d22edea9c96a7b959cd5eb5", func := "penstock/penstocklaw8.ClockPlays", spec := "clockPlays", apart := false, narrowed := true }
def ClockPlaysUptoSaid : Prop := clockPlaysUptoRow.holds Try.pinned (OpenSpec.upto clockPlaysSpec)

/-- 'penstocklaw8.ClockRises', WHERE WHAT IT READS IS OF BULK AT MOST 1048576: true; the input reads as it did. -/
def clockRisesUptoRow : OpenClaim := { program := "ytbgjcgaodchneaa", sum := "1f3bbff317ead6a7af9baa935d8b8edbf7718e547d22edea9c96a7b959cd5eb5", func := "penstock/penstocklaw8.ClockRises", spec := "clockRises", apart := false, narrowed := true }
def ClockRisesUptoSaid : Prop := clockRisesUptoRow.holds Try.pinned (OpenSpec.upto clockRisesSpec)

/-- 'penstocklaw8.ClockNothing', WHERE WHAT IT READS IS OF BULK AT MOST 1048576: true; the input reads as it did. -/
def clockNothingUptoRow : OpenClaim := { program := "ytbgjcgaodchneaa", sum := "1f3bbff317ead6a7af9baa935d8b8edbf7718e547d22edea9c96a7b959cd5eb5", func := "penstock/penstocklaw8.ClockNothing", spec := "clockNothing", apart := false, narrowed := true }
def ClockNothingUptoSaid : Prop := clockNothingUptoRow.holds Try.pinned (OpenSpec.upto clockNothingSpec)

end Rows
end Go.Proofs.Ytbgjcgaodchneaa
