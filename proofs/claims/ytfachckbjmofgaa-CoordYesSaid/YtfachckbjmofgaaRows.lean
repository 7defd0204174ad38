/-
  No cell of these rows narrows 'for every input' (looked for: loops, veiled, ifaces, maps, wideKeys, modest, calm, conditions, laid).
  DERIVED. THE GIVEN ROWS OF THIS SEAT. 4 by the template 'for every input the law returns true; each argument reads behind the call as it read before'; 0 by the template 'total and deterministic' (their statements: YtfachckbjmofgaaTotals.lean).
  GIVEN WITH THE SEED: the statements are not yours to turn. If you find one false, say at which input.
  Laid BY PROGRAM, IN A SANDBOX (cutbox-rows.mjs): the forced cells as the released guide's own fill.sh prints them over the translation 78bd604500cbf221… (all of the seat's roots in one cut). By AI agents, Wed Nov 11 2026. No macro, syntax, notation, axiom, sorry.
-/
import Derived.Test.YtfachckbjmofgaaChecked
import GoSem.Claim
import GoSem.ClaimJoined
import GoSem.ClaimMapViews
import Derived.JoinedTies
import Derived.KernelRfl
namespace Go.Proofs.Ytfachckbjmofgaa
/- THE CELL 'sum', in the pinned program and in every row, IS THE sha256 OF THE DUMP (.gsa) THAT YtfachckbjmofgaaProg.lean LOADS. Nothing in Lean hashes anything: it is a label: what it is worth is what the hold of that sum in a sandbox is worth. -/
noncomputable def Try.pinned : Pinned := { name := "ytfachckbjmofgaa", sum := "78bd604500cbf2211f391fd312bb66614980c2c18ebbaa57af512af2796468c1", checked := Try.checked }
namespace Rows
def none {H : Type} : Left H := { results := [], args := [] }

/-- 'penstocklaw22.CoordParts': WHATEVER THE INPUT: true; the input reads as it did. -/
def coordPartsSpec : ChangeSpec := { name := "coordParts", fn := fun _ => fun
  | [d1, d2] => { results := [.lit (.bool true)], args := [d1, d2] }
  | _ => none }
def coordPartsRow : OpenClaim := { program := "ytfachckbjmofgaa", sum := "78bd604500cbf2211f391fd312bb66614980c2c18ebbaa57af512af2796468c1", func := "penstock/penstocklaw22.CoordParts", spec := "coordParts", unfollowed := true, recurses := true, apart := false }
def CoordPartsSaid : Prop := coordPartsRow.holds Try.pinned (OpenSpec.ofChange coordPartsSpec)

/-- ITS FALSE NEIGHBOUR: 'it returns false'. Refute it at one input. -/
def coordPartsWrong : ChangeSpec := { name := "coordParts", fn := fun _ => fun
  | [d1, d2] => { results := [.lit (.bool false)], args := [d1, d2] }
  | _ => none }
def CoordPartsWrongFalsely : Prop := coordPartsRow.holds Try.pinned (OpenSpec.ofChange coordPartsWrong)

/-- 'penstocklaw22.CoordAsks': WHATEVER THE INPUT: true; the input reads as it did. -/
def coordAsksSpec : ChangeSpec := { name := "coordAsks", fn := fun _ => fun
  | [d1, d2, d3] => { results := [.lit (.bool true)], args := [d1, d2, d3] }
  | _ => none }
def coordAsksRow : OpenClaim := { program := "ytfachckbjmofgaa", sum := "78bd604500cbf2211f391fd312bb66614980c2c18ebbaa57af512af2796468c1", func := "penstock/penstocklaw22.CoordAsks", spec := "coordAsks", unfollowed := true, recurses := true, apart := false }
def CoordAsksSaid : Prop := coordAsksRow.holds Try.pinned (OpenSpec.ofChange coordAsksSpec)

/-- ITS FALSE NEIGHBOUR: 'it returns false'. Refute it at one input. -/
def coordAsksWrong : ChangeSpec := { name := "coordAsks", fn := fun _ => fun
  | [d1, d2, d3] => { results := [.lit (.bool false)], args := [d1, d2, d3] }
  | _ => none }
def CoordAsksWrongFalsely : Prop := coordAsksRow.holds Try.pinned (OpenSpec.ofChange coordAsksWrong)

/-- 'penstocklaw22.CoordYes': WHATEVER THE INPUT: true; the input reads as it did. -/
def coordYesSpec : ChangeSpec := { name := "coordYes", fn := fun _ => fun
  | [d1, d2, d3, d4] => { results := [.lit (.bool true)], args := [d1, d2, d3, d4] }
  | _ => none }
def coordYesRow : OpenClaim := { program := "ytfachckbjmofgaa", sum := "78bd604500cbf2211f391fd312bb66614980c2c18ebbaa57af512af2796468c1", func := "penstock/penstocklaw22.CoordYes", spec := "coordYes", unfollowed := true, recurses := true, apart := false }
def CoordYesSaid : Prop := coordYesRow.holds Try.pinned (OpenSpec.ofChange coordYesSpec)

/-- ITS FALSE NEIGHBOUR: 'it returns false'. Refute it at one input. -/
def coordYesWrong : ChangeSpec := { name := "coordYes", fn := fun _ => fun
  | [d1, d2, d3, d4] => { results := [.lit (.bool false)], args := [d1, d2, d3, d4] }
  | _ => none }
def CoordYesWrongFalsely : Prop := coordYesRow.holds Try.pinned (OpenSpec.ofChange coordYesWrong)

/-- 'penstocklaw22.CoordNothing': WHATEVER THE INPUT: true; the input reads as it did. -/
def coordNothingSpec : ChangeSpec := { name := "coordNothing", fn := fun _ => fun
  | [d1, d2] => { results := [.lit (.bool true)], args := [d1, d2] }
  | _ => none }
def coordNothingRow : OpenClaim := { program := "ytfachckbjmofgaa", sum := "78bd604500cbf2211f391fd312bb66614980c2c18ebbaa57af512af2796468c1", func := "penstock/penstocklaw22.CoordNothing", spec := "coordNothing", unfollowed := true, recurses := true, apart := false }
def CoordNothingSaid : Prop := coordNothingRow.holds Try.pinned (OpenSpec.ofChange coordNothingSpec)

/-- ITS FALSE NEIGHBOUR: 'it returns false'. Refute it at one input. -/
def coordNothingWrong : ChangeSpec := { name := "coordNothing", fn := fun _ => fun
  | [d1, d2] => { results := [.lit (.bool false)], args := [d1, d2] }
  | _ => none }
def CoordNothingWrongFalsely : Prop := coordNothingRow.holds Try.pinned (OpenSpec.ofChange coordNothingWrong)

/- THE SECOND FORM. 'bulk': how many values and letters a reading holds, each counted each time it is reached (what is shared counts as often as it is met; a slice's spare places count too). A statement '..UptoSaid' is the law's where the arguments, and the package variables that the reading takes, are together of bulk at most 1048576: NARROWER than '..Said'. Prove '..Said' where nothing that the law and all that it calls make is longer than what came in: it says more and counts as full. Else prove '..UptoSaid'. A law counts once. -/
mutual
def uptoBulk {H : Type} : DataW H → Nat
  | .lit (.string bytes) => bytes.length + 1
  | .lit _ => 1
  | .nil => 1
  | .ptr d => uptoBulk d + 1
  | .slice elems spare => uptoBulkAll elems + uptoBulkAll spare + 1
  | .agg parts => uptoBulkAll parts + 1
  | .iface _ d => uptoBulk d + 1
  | .map entries => uptoBulkEntries entries + 1
  | .held _ => 1
def uptoBulkAll {H : Type} : List (DataW H) → Nat
  | [] => 0
  | d :: r => uptoBulk d + uptoBulkAll r
def uptoBulkEntries {H : Type} : List (Lit × DataW H) → Nat
  | [] => 0
  | x :: r => uptoBulkEntry x + uptoBulkEntries r
def uptoBulkEntry {H : Type} : Lit × DataW H → Nat
  | (.string bytes, d) => bytes.length + uptoBulk d + 1
  | (_, d) => uptoBulk d + 1
 end
def uptoSmall : (H : Type) → List (DataW H) → Bool := fun _ ds => decide (uptoBulkAll ds ≤ 1048576)
def OpenSpec.upto (s : _root_.Go.ChangeSpec) : _root_.Go.OpenSpec := { _root_.Go.OpenSpec.ofChange s with cond := some uptoSmall }

/-- 'penstocklaw22.CoordParts', WHERE WHAT IT READS IS OF BULK AT MOST 1048576: true; the input reads as it did. -/
def coordPartsUptoRow : OpenClaim := { program := "ytfachckbjmofgaa", sum := "78bd604500cbf2211f391fd312bb66614980c2c18ebbaa57af512af2796468c1", func := "penstock/penstocklaw22.CoordParts", spec := "coordParts", unfollowed := true, recurses := true, apart := false, narrowed := true }
def CoordPartsUptoSaid : Prop := coordPartsUptoRow.holds Try.pinned (OpenSpec.upto coordPartsSpec)

/-- 'penstocklaw22.CoordAsks', WHERE WHAT IT READS IS OF BULK AT MOST 1048576: true; the input reads as it did. -/
def coordAsksUptoRow : OpenClaim := { program := "ytfachckbjmofgaa", sum := "78bd604500cbf2211f391fd312bb66614980c2c18ebbaa57af512af2796468c1", func := "penstock/penstocklaw22.CoordAsks", spec := "coordAsks", unfollowed := true, recurses := true, apart := false, narrowed := true }
def CoordAsksUptoSaid : Prop := coordAsksUptoRow.holds Try.pinned (OpenSpec.upto coordAsksSpec)

/-- 'penstocklaw22.CoordYes', WHERE WHAT IT READS IS OF BULK AT MOST 1048576: true; the input reads as it did. -/
def coordYesUptoRow : OpenClaim := { program := "ytfachckbjmofgaa", sum := "78bd604500cbf2211f391fd312bb66614980c2c18ebbaa57af512af2796468c1", func := "penstock/penstocklaw22.CoordYes", spec := "coordYes", unfollowed := true, recurses := true, apart := false, narrowed := true }
def CoordYesUptoSaid : Prop := coordYesUptoRow.holds Try.pinned (OpenSpec.upto coordYesSpec)

/-- 'penstocklaw22.CoordNothing', WHERE WHAT IT READS IS OF BULK AT MOST 1048576: true; the input reads as it did. -/
def coordNothingUptoRow : OpenClaim := { program := "ytfachckbjmofgaa", sum := "78bd604500cbf2211f391fd312bb66614980c2c18ebbaa57af512af2796468c1", func := "penstock/penstocklaw22.CoordNothing", spec := "coordNothing", unfollowed := true, recurses := true, apart := false, narrowed := true }
def CoordNothingUptoSaid : Prop := coordNothingUptoRow.holds Try.pinned (OpenSpec.upto coordNothingSpec)

end Rows
end Go.Proofs.Ytfachckbjmofgaa
