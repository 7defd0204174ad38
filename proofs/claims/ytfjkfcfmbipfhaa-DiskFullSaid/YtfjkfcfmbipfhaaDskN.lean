/- Bags: the memory of a list of files; contracts over one of them. -/
import Derived.Test.YtfjkfcfmbipfhaaDskL
set_option linter.unusedSimpArgs false
set_option linter.unusedVariables false
namespace Go.Sl
theorem sel_mid {α : Type} (x : α) (B : List α) : ∀ A : List α, Sel (A ++ x :: B) x (A ++ B)
  | [] => .here
  | _ :: A => .there (sel_mid x B A)
theorem take_mid {α : Type} (B : List α) : ∀ (X A : List α), Take (A ++ (X ++ B)) X (A ++ B)
  | [], A => .nil
  | x :: X, A => .cons (sel_mid x (X ++ B) A) (take_mid B X A)
theorem all_out {A X B : List Chunk} {h : HP} (a : All (A ++ (X ++ B)) h) : All (X ++ (A ++ B)) h := a.take (take_mid B X A)
theorem all_in {A X B : List Chunk} {h : HP} (a : All (X ++ (A ++ B)) h) : All (A ++ (X ++ B)) h := a.take (take_mid B A X)
/-- A bag of chunks is one chunk. -/
theorem all_pack {X R : List Chunk} {h : HP} (a : All (X ++ R) h) : All (.asn (All X) :: R) h := by
  obtain ⟨h1, h2, d, s1, s2, ha, hr⟩ := all_append.1 a
  exact ⟨h1, h2, d, s1, s2, ha, hr⟩
theorem all_unpack {X R : List Chunk} {h : HP} (a : All (.asn (All X) :: R) h) : All (X ++ R) h := by
  obtain ⟨h1, h2, d, s1, s2, ha, hr⟩ := a
  exact all_append.2 ⟨h1, h2, d, s1, s2, ha, hr⟩
theorem does_same {P : Program} {f : FuncId} {args : List Value} {v : Value} {A A' : List Chunk} (d : Does1 P f args A v) (h1 : ∀ h, All A' h → All A h) (h2 : ∀ h, All A h → All A' h) : Does1 P f args A' v := fun Γ w hh =>
  (d Γ w (hh.mono h1)).mono fun e w' ⟨x, hx, he, hB⟩ => ⟨x, hx, he, hB.mono h2⟩
theorem g_conv {Γ : Ctx} {N : Nat} {fr : Fr} {L L' A R : List Chunk} {φ : Act → World → Prop} (t : Take L A R) (c : ∀ h, All (A ++ R) h → All L' h) (g : G Γ N fr L' φ) : G Γ N fr L φ := fun a w hN hd hf hh =>
  g a w hN hd hf ((hh.take t).mono c)
end Go.Sl
namespace Go.Proofs.Ytfjkfcfmbipfhaa
open Go.Sl facts
attribute [local irreducible] Code.wp wpList Exit.then Exit.inBlock bodyPost Back MidQ G GP QStep VStep CStep SStep Does Post Reads
structure Fi where
  f : Nat
  nm : ByteArray
  sp : Option Addr
  safe : List UInt8
  sc : Nat
  lp : Option Addr
  loose : List UInt8
  lc : Nat
abbrev Fi.L (x : Fi) : List Chunk := [frow x.f x.nm x.sp x.safe.length x.sc x.lp x.loose.length x.lc, .own x.sp x.safe.length x.sc 1 (cells8 x.safe) 5, .own x.lp x.loose.length x.lc 1 (cells8 x.loose) 5]
abbrev Bag (fs : List Fi) : Chunk := .asn (All (fs.flatMap Fi.L))
theorem bag_out {A B : List Fi} {x : Fi} {R : List Chunk} {h : HP} (a : All (Bag (A ++ x :: B) :: R) h) : All (x.L ++ (Bag (A ++ B) :: R)) h := by
  have a1 := all_unpack a
  simp only [List.flatMap_append, List.flatMap_cons, List.append_assoc] at a1
  have a2 := all_out (A := A.flatMap Fi.L) (X := x.L) (B := B.flatMap Fi.L ++ R) a1
  have a3 : All (x.L ++ ((A ++ B).flatMap Fi.L ++ R)) h := by simpa only [List.flatMap_append, List.append_assoc] using a2
  obtain ⟨h1, h2, d, s1, s2, ha, hr⟩ := all_append.1 a3
  exact all_append.2 ⟨h1, h2, d, s1, s2, ha, all_pack hr⟩
theorem bag_in {A B : List Fi} {x : Fi} {R : List Chunk} {h : HP} (a : All (x.L ++ (Bag (A ++ B) :: R)) h) : All (Bag (A ++ x :: B) :: R) h := by
  obtain ⟨h1, h2, d, s1, s2, ha, hr⟩ := all_append.1 a
  have a3 := all_append.2 ⟨h1, h2, d, s1, s2, ha, all_unpack hr⟩
  have a2 : All (x.L ++ (A.flatMap Fi.L ++ (B.flatMap Fi.L ++ R))) h := by simpa only [List.flatMap_append, List.append_assoc] using a3
  have a1 := all_in (A := A.flatMap Fi.L) (X := x.L) (B := B.flatMap Fi.L ++ R) a2
  refine all_pack ?_
  simpa only [List.flatMap_append, List.flatMap_cons, List.append_assoc] using a1
theorem does_bag {f : FuncId} {args : List Value} {v : Value} {A B : List Fi} {x : Fi} (d : Does1 Try.prog f args [frow x.f x.nm x.sp x.safe.length x.sc x.lp x.loose.length x.lc] v) : Does1 Try.prog f args [Bag (A ++ x :: B)] v := by
  refine does_same (A := [frow x.f x.nm x.sp x.safe.length x.sc x.lp x.loose.length x.lc] ++ ([.own x.sp x.safe.length x.sc 1 (cells8 x.safe) 5, .own x.lp x.loose.length x.lc 1 (cells8 x.loose) 5] ++ [Bag (A ++ B)])) (Does.frame d _) (fun h a => ?_) (fun h a => ?_)
  · exact bag_out a
  · exact bag_in (x := x) (A := A) (B := B) a
theorem g_bagOut {Γ : Ctx} {N : Nat} {fr : Fr} {L R : List Chunk} {φ : Act → World → Prop} (A B : List Fi) (x : Fi) (s : Sel L (Bag (A ++ x :: B)) R) (g : G Γ N fr (x.L ++ (Bag (A ++ B) :: R)) φ) : G Γ N fr L φ :=
  g_conv (.cons s .nil) (fun _ => bag_out) g
theorem g_bagIn {Γ : Ctx} {N : Nat} {fr : Fr} {L R : List Chunk} {φ : Act → World → Prop} (A B : List Fi) (x : Fi) (t : Take L (x.L ++ [Bag (A ++ B)]) R) (g : G Γ N fr (Bag (A ++ x :: B) :: R) φ) : G Γ N fr L φ :=
  g_conv t (fun _ h => bag_in h) g
end Go.Proofs.Ytfjkfcfmbipfhaa
