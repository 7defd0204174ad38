/- Part 24: bags of chunks; a contract of the library's whose world only grows. -/
import Derived.Test.YtpilcncdgjnbeaaDoorSlx
set_option linter.unusedSimpArgs false
set_option linter.unusedVariables false
namespace Go.Sl
theorem sel_mid {α : Type} (x : α) (B : List α) : ∀ A : List α, Sel (A ++ x :: B) x (A ++ B)
  | [] => .here
  | _ :: A => .there (sel_mid x B A)
theorem take_mid {α : Type} (B : List α) : ∀ (X A : List α), Take (A ++ (X ++ B)) X (A ++ B)
  | [], A => .nil
  | x :: X, A => .cons (sel_mid x (X ++ B) A) (take_mid B X A)
theorem all_out {A X B : List Chunk} {h : HP} (a : All (A ++ (X ++ B)) h) : All (X ++ (A ++ B)) h := a.take (take_mid B X A)
theorem all_in {A X B : List Chunk} {h : HP} (a : All (X ++ (A ++ B)) h) : All (A ++ (X ++ B)) h := a.take (take_mid B A X)
/-- A bag of chunks is one chunk. -/
theorem all_pack {X R : List Chunk} {h : HP} (a : All (X ++ R) h) : All (.asn (All X) :: R) h := by
  obtain ⟨h1, h2, d, s1, s2, ha, hr⟩ := all_append.1 a
  exact ⟨h1, h2, d, s1, s2, ha, hr⟩
theorem all_unpack {X R : List Chunk} {h : HP} (a : All (.asn (All X) :: R) h) : All (X ++ R) h := by
  obtain ⟨h1, h2, d, s1, s2, ha, hr⟩ := a
  exact all_append.2 ⟨h1, h2, d, s1, s2, ha, hr⟩
theorem does_same {P : Program} {f : FuncId} {args : List Value} {v : Value} {A A' : List Chunk} (d : Does1 P f args A v) (h1 : ∀ h, All A' h → All A h) (h2 : ∀ h, All A h → All A' h) : Does1 P f args A' v := fun Γ w hh =>
  (d Γ w (hh.mono h1)).mono fun e w' ⟨x, hx, he, hB⟩ => ⟨x, hx, he, hB.mono h2⟩
theorem g_conv {Γ : Ctx} {N : Nat} {fr : Fr} {L L' A R : List Chunk} {φ : Act → World → Prop} (t : Take L A R) (c : ∀ h, All (A ++ R) h → All L' h) (g : G Γ N fr L' φ) : G Γ N fr L φ := fun a w hN hd hf hh =>
  g a w hN hd hf ((hh.take t).mono c)
abbrev Bg {α : Type} (F : α → List Chunk) (l : List α) : Chunk := .asn (All (l.flatMap F))
section
variable {α : Type} {F : α → List Chunk} {A B : List α} {x : α} {R : List Chunk} {h : HP}
theorem bg_out (a : All (Bg F (A ++ x :: B) :: R) h) : All (F x ++ (Bg F (A ++ B) :: R)) h := by
  have a1 := all_unpack a
  simp only [List.flatMap_append, List.flatMap_cons, List.append_assoc] at a1
  have a2 := all_out (A := A.flatMap F) (X := F x) (B := B.flatMap F ++ R) a1
  have a3 : All (F x ++ ((A ++ B).flatMap F ++ R)) h := by simpa only [List.flatMap_append, List.append_assoc] using a2
  obtain ⟨h1, h2, d, s1, s2, ha, hr⟩ := all_append.1 a3
  exact all_append.2 ⟨h1, h2, d, s1, s2, ha, all_pack hr⟩
theorem bg_in (a : All (F x ++ (Bg F (A ++ B) :: R)) h) : All (Bg F (A ++ x :: B) :: R) h := by
  obtain ⟨h1, h2, d, s1, s2, ha, hr⟩ := all_append.1 a
  have a3 := all_append.2 ⟨h1, h2, d, s1, s2, ha, all_unpack hr⟩
  have a2 : All (F x ++ (A.flatMap F ++ (B.flatMap F ++ R))) h := by simpa only [List.flatMap_append, List.append_assoc] using a3
  have a1 := all_in (A := A.flatMap F) (X := F x) (B := B.flatMap F ++ R) a2
  refine all_pack ?_
  simpa only [List.flatMap_append, List.flatMap_cons, List.append_assoc] using a1
end
section
variable {Γ : Ctx} {N : Nat} {fr : Fr} {L R : List Chunk} {φ : Act → World → Prop} {α : Type} {F : α → List Chunk}
theorem g_bgOut (A B : List α) (x : α) (s : Sel L (Bg F (A ++ x :: B)) R) (g : G Γ N fr (F x ++ (Bg F (A ++ B) :: R)) φ) : G Γ N fr L φ :=
  g_conv (.cons s .nil) (fun _ => bg_out) g
theorem g_bgIn (A B : List α) (x : α) (t : Take L (F x ++ [Bg F (A ++ B)]) R) (g : G Γ N fr (Bg F (A ++ x :: B) :: R) φ) : G Γ N fr L φ :=
  g_conv t (fun _ h => by
    rw [List.append_assoc] at h
    exact bg_in h) g
theorem g_bgNil (g : G Γ N fr (Bg F [] :: L) φ) : G Γ N fr L φ :=
  fun a w hN hd hf hh => g a w hN hd hf (hh.mono fun h al => ⟨fun _ => none, h, fun _ => .inl rfl, (fun _ _ q => by cases q), HP.sub.refl _, trivial, al⟩)
end
theorem split_at {α : Type} (l : List α) (i : Nat) (h : i < l.length) : l = l.take i ++ l[i] :: l.drop (i + 1) := by
  rw [List.getElem_cons_drop, List.take_append_drop]
/-- A contract of the library's: what was there stays, what is new is forgotten. -/
theorem does_of_below {P : Program} {f : FuncId} {args : List Value} {v : Value} {H : HP} (h : ∀ w, (∀ b o, H b = some o → w.heap[b]? = some o) → Calls P f args.toArray w fun e w' => e = .returned v ∧ Go.RowKit.Below w.heap.size w w') : Does1 P f args [Pile H] v := fun Γ w hh => by
  have hH : ∀ b o, H b = some o → w.heap[b]? = some o := by
    obtain ⟨h, _, s, h1, _, _, s1, _, hc, _⟩ := hh.own
    have hc' : h1 = H := hc
    subst hc'
    exact fun b o hb => s _ _ (s1 _ _ hb)
  refine (h w hH).mono ?_
  rintro e w' ⟨rfl, hB⟩
  exact ⟨(), trivial, rfl, hh.later hB.os hB.tape hB.output hB.size (fun c hc => hB.block c hc)⟩
end Go.Sl
