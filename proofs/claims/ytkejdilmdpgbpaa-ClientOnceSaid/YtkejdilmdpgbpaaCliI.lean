/- The law of polls that bring a part once: cuts with a choice, lists, maps that hold what is asked. -/
import Derived.Test.YtkejdilmdpgbpaaCliH
set_option linter.unusedSimpArgs false
set_option linter.unusedVariables false
namespace Go.Sl
/-- A cut behind which something is known of an x. -/
def MidX (Γ : Ctx) (N : Nat) {X : Type} (F : X → Fr) (M : X → List Chunk) (φ : X → Prop) : Exit → Act → World → Prop
  | .normal, a, w => ∃ x, φ x ∧ a.tmps.size = N ∧ a.defers = [] ∧ (F x).ok a ∧ Holds Γ (M x) w
  | _, _, _ => False
theorem g_midX {Γ : Ctx} {N : Nat} {fr : Fr} {L R : List Chunk} {X : Type} {F : X → Fr} {M : X → List Chunk} {φ : X → Prop} (x : X) (hx : φ x) (s : FrSub fr (F x)) (t : Take L (M x) R) : G Γ N fr L (MidX Γ N F M φ .normal) :=
  fun _ _ hN hd hf hh => ⟨x, hx, hN, hd, hf.sub s, hh.takeDrop t⟩
theorem g_cutX {P : Program} {Γ : Ctx} {N : Nat} {fr : Fr} {L : List Chunk} {Q : Exit → Act → World → Prop} {c : Code} {X : Type} (F : X → Fr) (M : X → List Chunk) (φ : X → Prop) (h : G Γ N fr L (c.wp P (MidX Γ N F M φ))) (k : ∀ x, φ x → G Γ N (F x) (M x) (Q .normal)) : G Γ N fr L (c.wp P Q) := by
  intro a w hN hd hf hh
  refine wp_mono (h a w hN hd hf hh) ?_
  intro e a' w' hq
  cases e with
  | normal => obtain ⟨x, hx, h1, h2, h3, h4⟩ := hq; exact k x hx a' w' h1 h2 h3 h4
  | exit id => exact hq.elim
  | goto l => exact hq.elim
  | ret => exact hq.elim
  | panic ch => exact hq.elim
  | outgrown => exact hq.elim
section
variable {α : Type} {f : α → List Value} {n : Nat}
theorem flat_sub (hf : ∀ a, (f a).length = n) (l : List α) (a m j : Nat) (v : Value) (ha : a ≤ l.length) (h : (((l.drop a).take m).flatMap f)[j]? = some v) : (l.flatMap f)[a * n + j]? = some v := by
  have e : l.flatMap f = (l.take a).flatMap f ++ (((l.drop a).take m).flatMap f ++ ((l.drop a).drop m).flatMap f) := by
    rw [← List.flatMap_append, List.take_append_drop, ← List.flatMap_append, List.take_append_drop]
  have hl : ((l.take a).flatMap f).length = a * n := by rw [flat_len hf, List.length_take, Nat.min_eq_left ha]
  have hj := (List.getElem?_eq_some_iff.1 h).1
  rw [e, List.getElem?_append_right (by omega), hl, show a * n + j - a * n = j by omega, List.getElem?_append_left hj]
  exact h
theorem slAt_sub {b len cap a h : Nat} {e : TypeId} (hf : ∀ a, (f a).length = n) (h1 : ∀ a, (f a).all (·.oneCell') = true) (l : List α) (hl : l.length = len) (h2 : a ≤ h) (h3 : h ≤ len) :
    SlAt (.own (some ⟨b, 0, none⟩) len cap n (l.flatMap f) e) n (some ⟨b, a * n, none⟩) (h - a) (((l.drop a).take (h - a)).flatMap f) := by
  refine ⟨?_, ?_, fun e => (by cases e), fun j v hv => ⟨b, a * n, rfl, reads_own (flat_sub hf l a _ j v (by omega) hv)⟩⟩
  · rw [flat_len hf, List.length_take, List.length_drop, Nat.min_eq_left (by omega)]
  · rw [List.all_flatMap, List.all_eq_true]
    exact fun x _ => h1 x
theorem flat_join (l : List α) (a h : Nat) (h2 : a ≤ h) : (l.take a).flatMap f ++ ((l.drop a).take (h - a)).flatMap f = (l.take h).flatMap f := by
  rw [← List.flatMap_append]
  congr 1
  rw [← List.take_add]
  congr 1
  omega
end
section
variable {κ : Type} [DecidableEq κ]
theorem mget_mem {M : List (κ × Value)} {k : κ} {v : Value} (h : mget M k = some v) : (k, v) ∈ M := by
  induction M with
  | nil => simp [mget] at h
  | cons a M ih =>
    obtain ⟨a, u⟩ := a
    simp only [mget] at h
    by_cases e : k = a
    · rw [if_pos e] at h; cases h; subst e; exact List.mem_cons_self ..
    · rw [if_neg e] at h; exact List.mem_cons_of_mem _ (ih h)
theorem mem_mput {M : List (κ × Value)} {k k' : κ} {v v' : Value} (h : (k', v') ∈ mput M k v) : (k' = k ∧ v' = v) ∨ (k', v') ∈ M := by
  induction M with
  | nil => simp [mput] at h; exact .inl h
  | cons a M ih =>
    obtain ⟨a, u⟩ := a
    simp only [mput] at h
    by_cases e : k = a
    · rw [if_pos e] at h
      rcases List.mem_cons.1 h with h | h
      · cases h; exact .inl ⟨e.symm, rfl⟩
      · exact .inr (List.mem_cons_of_mem _ h)
    · rw [if_neg e] at h
      rcases List.mem_cons.1 h with h | h
      · cases h; exact .inr (List.mem_cons_self ..)
      · rcases ih h with h | h
        · exact .inl h
        · exact .inr (List.mem_cons_of_mem _ h)
theorem mem_mdel {M : List (κ × Value)} {k : κ} {x : κ × Value} (h : x ∈ mdel M k) : x ∈ M := by
  induction M with
  | nil => simp [mdel] at h
  | cons a M ih =>
    obtain ⟨a, u⟩ := a
    simp only [mdel] at h
    by_cases e : k = a
    · rw [if_pos e] at h; exact List.mem_cons_of_mem _ h
    · rw [if_neg e] at h
      rcases List.mem_cons.1 h with h | h
      · rw [h]; exact List.mem_cons_self ..
      · exact List.mem_cons_of_mem _ (ih h)
theorem mget_other {M : List (κ × Value)} {k k' : κ} {v : Value} (h : k' ≠ k) : mget (mput M k v) k' = mget M k' := by
  induction M with
  | nil => simp [mput, mget, h]
  | cons a M ih =>
    obtain ⟨a, u⟩ := a
    simp only [mput]
    by_cases e : k = a
    · have : ¬ k' = a := fun q => h (q.trans e.symm)
      rw [if_pos e]
      simp [mget, this]
    · rw [if_neg e]
      simp only [mget]
      rw [ih]
end
end Go.Sl
