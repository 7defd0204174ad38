/-
  No cell of these rows narrows 'for every input' (looked for: loops, veiled, ifaces, maps, wideKeys, modest, calm, conditions, laid).
  DERIVED. THE GIVEN ROWS OF THIS SEAT. 6 by the template 'for every input the law returns true; each argument reads behind the call as it read before'; 0 by the template 'total and deterministic' (their statements: YtfjkfcfmbipfhaaTotals.lean).
  GIVEN WITH THE SEED: the statements are not yours to turn. If you find one false, say at which input.
  Laid BY PROGRAM, IN A SANDBOX (cutbox-rows.mjs): the forced cells as the released guide's own fill.sh prints them over the translation 635c70c121d8dacb… (all of the seat's roots in one cut). By AI agents, Wed Nov 11 2026. No macro, syntax, notation, axiom, sorry.
-/
import Derived.Test.YtfjkfcfmbipfhaaChecked
import GoSem.Claim
import GoSem.ClaimJoined
import GoSem.ClaimMapViews
import Derived.JoinedTies
import Derived.KernelRfl
namespace Go.Proofs.Ytfjkfcfmbipfhaa
/- THE CELL 'sum', in the pinned program and in every row, IS THE sha256 OF THE DUMP (.gsa) THAT YtfjkfcfmbipfhaaProg.lean LOADS. Nothing in Lean hashes anything: it is a label: what it is worth is what the hold of that sum in a sandbox is worth. -/
noncomputable def Try.pinned : Pinned := { name := "ytfjkfcfmbipfhaa", sum := "635c70c121d8dacbe77bd01c8987a2efb697f6e71c262119cb48c7df2e2adaa1", checked := Try.checked }
namespace Rows
def none {H : Type} : Left H := { results := [], args := [] }

/-- 'penstocklaw5.DiskLasts': WHATEVER THE INPUT: true; the input reads as it did. -/
def diskLastsSpec : ChangeSpec := { name := "diskLasts", fn := fun _ => fun
  | [d1, d2, d3] => { results := [.lit (.bool true)], args := [d1, d2, d3] }
  | _ => none }
def diskLastsRow : OpenClaim := { program := "ytfjkfcfmbipfhaa", sum := "635c70c121d8dacbe77bd01c8987a2efb697f6e71c262119cb48c7df2e2adaa1", func := "penstock/penstocklaw5.DiskLasts", spec := "diskLasts", inPlace := ["slices.overlaps[*penstock/disk.file]"], unfollowed := true, recurses := true, apart := false }
def DiskLastsSaid : Prop := diskLastsRow.holds Try.pinned (OpenSpec.ofChange diskLastsSpec)

/-- ITS FALSE NEIGHBOUR: 'it returns false'. Refute it at one input. -/
def diskLastsWrong : ChangeSpec := { name := "diskLasts", fn := fun _ => fun
  | [d1, d2, d3] => { results := [.lit (.bool false)], args := [d1, d2, d3] }
  | _ => none }
def DiskLastsWrongFalsely : Prop := diskLastsRow.holds Try.pinned (OpenSpec.ofChange diskLastsWrong)

/-- 'penstocklaw5.DiskCuts': WHATEVER THE INPUT: true; the input reads as it did. -/
def diskCutsSpec : ChangeSpec := { name := "diskCuts", fn := fun _ => fun
  | [d1, d2] => { results := [.lit (.bool true)], args := [d1, d2] }
  | _ => none }
def diskCutsRow : OpenClaim := { program := "ytfjkfcfmbipfhaa", sum := "635c70c121d8dacbe77bd01c8987a2efb697f6e71c262119cb48c7df2e2adaa1", func := "penstock/penstocklaw5.DiskCuts", spec := "diskCuts", inPlace := ["slices.overlaps[*penstock/disk.file]"], unfollowed := true, recurses := true, apart := false }
def DiskCutsSaid : Prop := diskCutsRow.holds Try.pinned (OpenSpec.ofChange diskCutsSpec)

/-- ITS FALSE NEIGHBOUR: 'it returns false'. Refute it at one input. -/
def diskCutsWrong : ChangeSpec := { name := "diskCuts", fn := fun _ => fun
  | [d1, d2] => { results := [.lit (.bool false)], args := [d1, d2] }
  | _ => none }
def DiskCutsWrongFalsely : Prop := diskCutsRow.holds Try.pinned (OpenSpec.ofChange diskCutsWrong)

/-- 'penstocklaw5.DiskFull': WHATEVER THE INPUT: true; the input reads as it did. -/
def diskFullSpec : ChangeSpec := { name := "diskFull", fn := fun _ => fun
  | [d1, d2] => { results := [.lit (.bool true)], args := [d1, d2] }
  | _ => none }
def diskFullRow : OpenClaim := { program := "ytfjkfcfmbipfhaa", sum := "635c70c121d8dacbe77bd01c8987a2efb697f6e71c262119cb48c7df2e2adaa1", func := "penstock/penstocklaw5.DiskFull", spec := "diskFull", inPlace := ["slices.overlaps[*penstock/disk.file]"], unfollowed := true, recurses := true, apart := false }
def DiskFullSaid : Prop := diskFullRow.holds Try.pinned (OpenSpec.ofChange diskFullSpec)

/-- ITS FALSE NEIGHBOUR: 'it returns false'. Refute it at one input. -/
def diskFullWrong : ChangeSpec := { name := "diskFull", fn := fun _ => fun
  | [d1, d2] => { results := [.lit (.bool false)], args := [d1, d2] }
  | _ => none }
def DiskFullWrongFalsely : Prop := diskFullRow.holds Try.pinned (OpenSpec.ofChange diskFullWrong)

/-- 'penstocklaw5.DiskNames': WHATEVER THE INPUT: true; the input reads as it did. -/
def diskNamesSpec : ChangeSpec := { name := "diskNames", fn := fun _ => fun
  | [d1, d2, d3] => { results := [.lit (.bool true)], args := [d1, d2, d3] }
  | _ => none }
def diskNamesRow : OpenClaim := { program := "ytfjkfcfmbipfhaa", sum := "635c70c121d8dacbe77bd01c8987a2efb697f6e71c262119cb48c7df2e2adaa1", func := "penstock/penstocklaw5.DiskNames", spec := "diskNames", inPlace := ["slices.overlaps[*penstock/disk.file]"], unfollowed := true, recurses := true, apart := false }
def DiskNamesSaid : Prop := diskNamesRow.holds Try.pinned (OpenSpec.ofChange diskNamesSpec)

/-- ITS FALSE NEIGHBOUR: 'it returns false'. Refute it at one input. -/
def diskNamesWrong : ChangeSpec := { name := "diskNames", fn := fun _ => fun
  | [d1, d2, d3] => { results := [.lit (.bool false)], args := [d1, d2, d3] }
  | _ => none }
def DiskNamesWrongFalsely : Prop := diskNamesRow.holds Try.pinned (OpenSpec.ofChange diskNamesWrong)

/-- 'penstocklaw5.DiskNothing': WHATEVER THE INPUT: true; the input reads as it did. -/
def diskNothingSpec : ChangeSpec := { name := "diskNothing", fn := fun _ => fun
  | [d1, d2] => { results := [.lit (.bool true)], args := [d1, d2] }
  | _ => none }
def diskNothingRow : OpenClaim := { program := "ytfjkfcfmbipfhaa", sum := "635c70c121d8dacbe77bd01c8987a2efb697f6e71c262119cb48c7df2e2adaa1", func := "penstock/penstocklaw5.DiskNothing", spec := "diskNothing", inPlace := ["slices.overlaps[*penstock/disk.file]"], unfollowed := true, recurses := true, apart := false }
def DiskNothingSaid : Prop := diskNothingRow.holds Try.pinned (OpenSpec.ofChange diskNothingSpec)

/-- ITS FALSE NEIGHBOUR: 'it returns false'. Refute it at one input. -/
def diskNothingWrong : ChangeSpec := { name := "diskNothing", fn := fun _ => fun
  | [d1, d2] => { results := [.lit (.bool false)], args := [d1, d2] }
  | _ => none }
def DiskNothingWrongFalsely : Prop := diskNothingRow.holds Try.pinned (OpenSpec.ofChange diskNothingWrong)

/-- 'penstocklaw5.DiskPlays': WHATEVER THE INPUT: true; the input reads as it did. -/
def diskPlaysSpec : ChangeSpec := { name := "diskPlays", fn := fun _ => fun
  | [d1, d2] => { results := [.lit (.bool true)], args := [d1, d2] }
  | _ => none }
def diskPlaysRow : OpenClaim := { program := "ytfjkfcfmbipfhaa", sum := "635c70c121d8dacbe77bd01c8987a2efb697f6e71c262119cb48c7df2e2adaa1", func := "penstock/penstocklaw5.DiskPlays", spec := "diskPlays", inPlace := ["slices.overlaps[*penstock/disk.file]"], unfollowed := true, recurses := true, apart := false }
def DiskPlaysSaid : Prop := diskPlaysRow.holds Try.pinned (OpenSpec.ofChange diskPlaysSpec)

/-- ITS FALSE NEIGHBOUR: 'it returns false'. Refute it at one input. -/
def diskPlaysWrong : ChangeSpec := { name := "diskPlays", fn := fun _ => fun
  | [d1, d2] => { results := [.lit (.bool false)], args := [d1, d2] }
  | _ => none }
def DiskPlaysWrongFalsely : Prop := diskPlaysRow.holds Try.pinned (OpenSpec.ofChange diskPlaysWrong)

/- THE SECOND FORM. 'bulk': how many values and letters a reading holds, each counted each time it is reached (what is shared counts as often as it is met; a slice's spare places count too). A statement '..UptoSaid' is the law's where the arguments, and the package variables that the reading takes, are together of bulk at most 1048576: NARROWER than '..Said'. Prove '..Said' where nothing that the law and all that it calls make is longer than what came in: it says more and counts as full. Else prove '..UptoSaid'. A law counts once. -/
mutual
def uptoBulk {H : Type} : DataW H → Nat
  | .lit (.string bytes) => bytes.length + 1
  | .lit _ => 1
  | .nil => 1
  | .ptr d => uptoBulk d + 1
  | .slice elems spare => uptoBulkAll elems + uptoBulkAll spare + 1
  | .agg parts => uptoBulkAll parts + 1
  | .iface _ d => uptoBulk d + 1
  | .map entries => uptoBulkEntries entries + 1
  | .held _ => 1
def uptoBulkAll {H : Type} : List (DataW H) → Nat
  | [] => 0
  | d :: r => uptoBulk d + uptoBulkAll r
def uptoBulkEntries {H : Type} : List (Lit × DataW H) → Nat
  | [] => 0
  | x :: r => uptoBulkEntry x + uptoBulkEntries r
def uptoBulkEntry {H : Type} : Lit × DataW H → Nat
  | (.string bytes, d) => bytes.length + uptoBulk d + 1
  | (_, d) => uptoBulk d + 1
 end
def uptoSmall : (H : Type) → List (DataW H) → Bool := fun _ ds => decide (uptoBulkAll ds ≤ 1048576)
def OpenSpec.upto (s : _root_.Go.ChangeSpec) : _root_.Go.OpenSpec := { _root_.Go.OpenSpec.ofChange s with cond := some uptoSmall }

/-- 'penstocklaw5.DiskLasts', WHERE WHAT IT READS IS OF BULK AT MOST 1048576: true; the input reads as it did. -/
def diskLastsUptoRow : OpenClaim := { program := "ytfjkfcfmbipfhaa", sum := "635c70c121d8dacbe77bd01c8987a2efb697f6e71c262119cb48c7df2e2adaa1", func := "penstock/penstocklaw5.DiskLasts", spec := "diskLasts", inPlace := ["slices.overlaps[*penstock/disk.file]"], unfollowed := true, recurses := true, apart := false, narrowed := true }
def DiskLastsUptoSaid : Prop := diskLastsUptoRow.holds Try.pinned (OpenSpec.upto diskLastsSpec)

/-- 'penstocklaw5.DiskCuts', WHERE WHAT IT READS IS OF BULK AT MOST 1048576: true; the input reads as it did. -/
def diskCutsUptoRow : OpenClaim := { program := "ytfjkfcfmbipfhaa", sum := "635c70c121d8dacbe77bd01c8987a2efb697f6e71c262119cb48c7df2e2adaa1", func := "penstock/penstocklaw5.DiskCuts", spec := "diskCuts", inPlace := ["slices.overlaps[*penstock/disk.file]"], unfollowed := true, recurses := true, apart := false, narrowed := true }
def DiskCutsUptoSaid : Prop := diskCutsUptoRow.holds Try.pinned (OpenSpec.upto diskCutsSpec)

/-- 'penstocklaw5.DiskFull', WHERE WHAT IT READS IS OF BULK AT MOST 1048576: true; the input reads as it did. -/
def diskFullUptoRow : OpenClaim := { program := "ytfjkfcfmbipfhaa", sum := "635c70c121d8dacbe77bd01c8987a2efb697f6e71c262119cb48c7df2e2adaa1", func := "penstock/penstocklaw5.DiskFull", spec := "diskFull", inPlace := ["slices.overlaps[*penstock/disk.file]"], unfollowed := true, recurses := true, apart := false, narrowed := true }
def DiskFullUptoSaid : Prop := diskFullUptoRow.holds Try.pinned (OpenSpec.upto diskFullSpec)

/-- 'penstocklaw5.DiskNames', WHERE WHAT IT READS IS OF BULK AT MOST 1048576: true; the input reads as it did. -/
def diskNamesUptoRow : OpenClaim := { program := "ytfjkfcfmbipfhaa", sum := "635c70c121d8dacbe77bd01c8987a2efb697f6e71c262119cb48c7df2e2adaa1", func := "penstock/penstocklaw5.DiskNames", spec := "diskNames", inPlace := ["slices.overlaps[*penstock/disk.file]"], unfollowed := true, recurses := true, apart := false, narrowed := true }
def DiskNamesUptoSaid : Prop := diskNamesUptoRow.holds Try.pinned (OpenSpec.upto diskNamesSpec)

/-- 'penstocklaw5.DiskNothing', WHERE WHAT IT READS IS OF BULK AT MOST 1048576: true; the input reads as it did. -/
def diskNothingUptoRow : OpenClaim := { program := "ytfjkfcfmbipfhaa", sum := "635c70c121d8dacbe77bd01c8987a2efb697f6e71c262119cb48c7df2e2adaa1", func := "penstock/penstocklaw5.DiskNothing", spec := "diskNothing", inPlace := ["slices.overlaps[*penstock/disk.file]"], unfollowed := true, recurses := true, apart := false, narrowed := true }
def DiskNothingUptoSaid : Prop := diskNothingUptoRow.holds Try.pinned (OpenSpec.upto diskNothingSpec)

/-- 'penstocklaw5.DiskPlays', WHERE WHAT IT READS IS OF BULK AT MOST 1048576: true; the input reads as it did. -/
def diskPlaysUptoRow : OpenClaim := { program := "ytfjkfcfmbipfhaa", sum := "635c70c121d8dacbe77bd01c8987a2efb697f6e71c262119cb48c7df2e2adaa1", func := "penstock/penstocklaw5.DiskPlays", spec := "diskPlays", inPlace := ["slices.overlaps[*penstock/disk.file]"], unfollowed := true, recurses := true, apart := false, narrowed := true }
def DiskPlaysUptoSaid : Prop := diskPlaysUptoRow.holds Try.pinned (OpenSpec.upto diskPlaysSpec)

end Rows
end Go.Proofs.Ytfjkfcfmbipfhaa
