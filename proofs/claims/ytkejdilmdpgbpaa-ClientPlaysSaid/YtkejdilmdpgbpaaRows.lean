/-
  No cell of these rows narrows 'for every input' (looked for: loops, veiled, ifaces, maps, wideKeys, modest, calm, conditions, laid).
  DERIVED. THE GIVEN ROWS OF THIS SEAT. 5 by the template 'for every input the law returns true; each argument reads behind the call as it read before'; 0 by the template 'total and deterministic' (their statements: YtkejdilmdpgbpaaTotals.lean).
  GIVEN WITH THE SEED: the statements are not yours to turn. If you find one false, say at which input.
  Laid BY PROGRAM, IN A SANDBOX (cutbox-rows.mjs): the forced cells as the released guide's own fill.sh prints them over the translation b7da64f7736c6ac6… (all of the seat's roots in one cut). By AI agents, Wed Nov 11 2026. No macro, syntax, notation, axiom, sorry.
-/
import Derived.Test.YtkejdilmdpgbpaaChecked
import GoSem.Claim
import GoSem.ClaimJoined
import GoSem.ClaimMapViews
import Derived.JoinedTies
import Derived.KernelRfl
namespace Go.Proofs.Ytkejdilmdpgbpaa
/- THE CELL 'sum', in the pinned program and in every row, IS THE sha256 OF THE DUMP (.gsa) THAT YtkejdilmdpgbpaaProg.lean LOADS. Nothing in Lean hashes anything: it is a label: what it is worth is what the hold of that sum in a sandbox is worth. -/
noncomputable def Try.pinned : Pinned := { name := "ytkejdilmdpgbpaa", sum := "b7da64f7736c6ac6007e7b389b9149ba6644253261c419e16cfbad3dfc8c483a", checked := Try.checked }
namespace Rows
def none {H : Type} : Left H := { results := [], args := [] }

/-- 'penstocklaw25.ClientNothing': WHATEVER THE INPUT: true; the input reads as it did. -/
def clientNothingSpec : ChangeSpec := { name := "clientNothing", fn := fun _ => fun
  | [d] => { results := [.lit (.bool true)], args := [d] }
  | _ => none }
def clientNothingRow : OpenClaim := { program := "ytkejdilmdpgbpaa", sum := "b7da64f7736c6ac6007e7b389b9149ba6644253261c419e16cfbad3dfc8c483a", func := "penstock/penstocklaw25.ClientNothing", spec := "clientNothing", apart := false }
def ClientNothingSaid : Prop := clientNothingRow.holds Try.pinned (OpenSpec.ofChange clientNothingSpec)

/-- ITS FALSE NEIGHBOUR: 'it returns false'. Refute it at one input. -/
def clientNothingWrong : ChangeSpec := { name := "clientNothing", fn := fun _ => fun
  | [d] => { results := [.lit (.bool false)], args := [d] }
  | _ => none }
def ClientNothingWrongFalsely : Prop := clientNothingRow.holds Try.pinned (OpenSpec.ofChange clientNothingWrong)

/-- 'penstocklaw25.ClientLate': WHATEVER THE INPUT: true; the input reads as it did. -/
def clientLateSpec : ChangeSpec := { name := "clientLate", fn := fun _ => fun
  | [d1, d2] => { results := [.lit (.bool true)], args := [d1, d2] }
  | _ => none }
def clientLateRow : OpenClaim := { program := "ytkejdilmdpgbpaa", sum := "b7da64f7736c6ac6007e7b389b9149ba6644253261c419e16cfbad3dfc8c483a", func := "penstock/penstocklaw25.ClientLate", spec := "clientLate", apart := false }
def ClientLateSaid : Prop := clientLateRow.holds Try.pinned (OpenSpec.ofChange clientLateSpec)

/-- ITS FALSE NEIGHBOUR: 'it returns false'. Refute it at one input. -/
def clientLateWrong : ChangeSpec := { name := "clientLate", fn := fun _ => fun
  | [d1, d2] => { results := [.lit (.bool false)], args := [d1, d2] }
  | _ => none }
def ClientLateWrongFalsely : Prop := clientLateRow.holds Try.pinned (OpenSpec.ofChange clientLateWrong)

/-- 'penstocklaw25.ClientOnce': WHATEVER THE INPUT: true; the input reads as it did. -/
def clientOnceSpec : ChangeSpec := { name := "clientOnce", fn := fun _ => fun
  | [d1, d2, d3] => { results := [.lit (.bool true)], args := [d1, d2, d3] }
  | _ => none }
def clientOnceRow : OpenClaim := { program := "ytkejdilmdpgbpaa", sum := "b7da64f7736c6ac6007e7b389b9149ba6644253261c419e16cfbad3dfc8c483a", func := "penstock/penstocklaw25.ClientOnce", spec := "clientOnce", apart := false }
def ClientOnceSaid : Prop := clientOnceRow.holds Try.pinned (OpenSpec.ofChange clientOnceSpec)

/-- ITS FALSE NEIGHBOUR: 'it returns false'. Refute it at one input. -/
def clientOnceWrong : ChangeSpec := { name := "clientOnce", fn := fun _ => fun
  | [d1, d2, d3] => { results := [.lit (.bool false)], args := [d1, d2, d3] }
  | _ => none }
def ClientOnceWrongFalsely : Prop := clientOnceRow.holds Try.pinned (OpenSpec.ofChange clientOnceWrong)

/-- 'penstocklaw25.ClientSeen': WHATEVER THE INPUT: true; the input reads as it did. -/
def clientSeenSpec : ChangeSpec := { name := "clientSeen", fn := fun _ => fun
  | [d] => { results := [.lit (.bool true)], args := [d] }
  | _ => none }
def clientSeenRow : OpenClaim := { program := "ytkejdilmdpgbpaa", sum := "b7da64f7736c6ac6007e7b389b9149ba6644253261c419e16cfbad3dfc8c483a", func := "penstock/penstocklaw25.ClientSeen", spec := "clientSeen", apart := false }
def ClientSeenSaid : Prop := clientSeenRow.holds Try.pinned (OpenSpec.ofChange clientSeenSpec)

/-- ITS FALSE NEIGHBOUR: 'it returns false'. Refute it at one input. -/
def clientSeenWrong : ChangeSpec := { name := "clientSeen", fn := fun _ => fun
  | [d] => { results := [.lit (.bool false)], args := [d] }
  | _ => none }
def ClientSeenWrongFalsely : Prop := clientSeenRow.holds Try.pinned (OpenSpec.ofChange clientSeenWrong)

/-- 'penstocklaw25.ClientPlays': WHATEVER THE INPUT: true; the input reads as it did. -/
def clientPlaysSpec : ChangeSpec := { name := "clientPlays", fn := fun _ => fun
  | [d] => { results := [.lit (.bool true)], args := [d] }
  | _ => none }
def clientPlaysRow : OpenClaim := { program := "ytkejdilmdpgbpaa", sum := "b7da64f7736c6ac6007e7b389b9149ba6644253261c419e16cfbad3dfc8c483a", func := "penstock/penstocklaw25.ClientPlays", spec := "clientPlays", apart := false }
def ClientPlaysSaid : Prop := clientPlaysRow.holds Try.pinned (OpenSpec.ofChange clientPlaysSpec)

/-- ITS FALSE NEIGHBOUR: 'it returns false'. Refute it at one input. -/
def clientPlaysWrong : ChangeSpec := { name := "clientPlays", fn := fun _ => fun
  | [d] => { results := [.lit (.bool false)], args := [d] }
  | _ => none }
def ClientPlaysWrongFalsely : Prop := clientPlaysRow.holds Try.pinned (OpenSpec.ofChange clientPlaysWrong)

/- THE SECOND FORM. 'bulk': how many values and letters a reading holds, each counted each time it is reached (what is shared counts as often as it is met; a slice's spare places count too). A statement '..UptoSaid' is the law's where the arguments, and the package variables that the reading takes, are together of bulk at most 1048576: NARROWER than '..Said'. Prove '..Said' where nothing that the law and all that it calls make is longer than what came in: it says more and counts as full. Else prove '..UptoSaid'. A law counts once. -/
mutual
def uptoBulk {H : Type} : DataW H → Nat
  | .lit (.string bytes) => bytes.length + 1
  | .lit _ => 1
  | .nil => 1
  | .ptr d => uptoBulk d + 1
  | .slice elems spare => uptoBulkAll elems + uptoBulkAll spare + 1
  | .agg parts => uptoBulkAll parts + 1
  | .iface _ d => uptoBulk d + 1
  | .map entries => uptoBulkEntries entries + 1
  | .held _ => 1
def uptoBulkAll {H : Type} : List (DataW H) → Nat
  | [] => 0
  | d :: r => uptoBulk d + uptoBulkAll r
def uptoBulkEntries {H : Type} : List (Lit × DataW H) → Nat
  | [] => 0
  | x :: r => uptoBulkEntry x + uptoBulkEntries r
def uptoBulkEntry {H : Type} : Lit × DataW H → Nat
  | (.string bytes, d) => bytes.length + uptoBulk d + 1
  | (_, d) => uptoBulk d + 1
 end
def uptoSmall : (H : Type) → List (DataW H) → Bool := fun _ ds => decide (uptoBulkAll ds ≤ 1048576)
def OpenSpec.upto (s : _root_.Go.ChangeSpec) : _root_.Go.OpenSpec := { _root_.Go.OpenSpec.ofChange s with cond := some uptoSmall }

/-- 'penstocklaw25.ClientNothing', WHERE WHAT IT READS IS OF BULK AT MOST 1048576: true; the input reads as it did. -/
def clientNothingUptoRow : OpenClaim := { program := "ytkejdilmdpgbpaa", sum := "b7da64f7736c6ac6007e7b389b9149ba6644253261c419e16cfbad3dfc8c483a", func := "penstock/penstocklaw25.ClientNothing", spec := "clientNothing", apart := false, narrowed := true }
def ClientNothingUptoSaid : Prop := clientNothingUptoRow.holds Try.pinned (OpenSpec.upto clientNothingSpec)

/-- 'penstocklaw25.ClientLate', WHERE WHAT IT READS IS OF BULK AT MOST 1048576: true; the input reads as it did. -/
def clientLateUptoRow : OpenClaim := { program := "ytkejdilmdpgbpaa", sum := "b7da64f7736c6ac6007e7b389b9149ba6644253261c419e16cfbad3dfc8c483a", func := "penstock/penstocklaw25.ClientLate", spec := "clientLate", apart := false, narrowed := true }
def ClientLateUptoSaid : Prop := clientLateUptoRow.holds Try.pinned (OpenSpec.upto clientLateSpec)

/-- 'penstocklaw25.ClientOnce', WHERE WHAT IT READS IS OF BULK AT MOST 1048576: true; the input reads as it did. -/
def clientOnceUptoRow : OpenClaim := { program := "ytkejdilmdpgbpaa", sum := "b7da64f7736c6ac6007e7b389b9149ba6644253261c419e16cfbad3dfc8c483a", func := "penstock/penstocklaw25.ClientOnce", spec := "clientOnce", apart := false, narrowed := true }
def ClientOnceUptoSaid : Prop := clientOnceUptoRow.holds Try.pinned (OpenSpec.upto clientOnceSpec)

/-- 'penstocklaw25.ClientSeen', WHERE WHAT IT READS IS OF BULK AT MOST 1048576: true; the input reads as it did. -/
def clientSeenUptoRow : OpenClaim := { program := "ytkejdilmdpgbpaa", sum := "b7da64f7736c6ac6007e7b389b9149ba6644253261c419e16cfbad3dfc8c483a", func := "penstock/penstocklaw25.ClientSeen", spec := "clientSeen", apart := false, narrowed := true }
def ClientSeenUptoSaid : Prop := clientSeenUptoRow.holds Try.pinned (OpenSpec.upto clientSeenSpec)

/-- 'penstocklaw25.ClientPlays', WHERE WHAT IT READS IS OF BULK AT MOST 1048576: true; the input reads as it did. -/
def clientPlaysUptoRow : OpenClaim := { program := "ytkejdilmdpgbpaa", sum := "b7da64f7736c6ac6007e7b389b9149ba6644253261c419e16cfbad3dfc8c483a", func := "penstock/penstocklaw25.ClientPlays", spec := "clientPlays", apart := false, narrowed := true }
def ClientPlaysUptoSaid : Prop := clientPlaysUptoRow.holds Try.pinned (OpenSpec.upto clientPlaysSpec)

end Rows
end Go.Proofs.Ytkejdilmdpgbpaa
