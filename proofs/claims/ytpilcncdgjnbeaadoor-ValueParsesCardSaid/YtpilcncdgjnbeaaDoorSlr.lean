/- Part 17: cuts with a choice; a literal's row as one's own; what stands, less again. -/
import Derived.Test.YtpilcncdgjnbeaaDoorSlq
set_option linter.unusedSimpArgs false
set_option linter.unusedVariables false
namespace Go.Sl
def MidX (Γ : Ctx) (N : Nat) {X : Type} (F : X → Fr) (M : X → List Chunk) (φ : X → Prop) : Exit → Act → World → Prop
  | .normal, a, w => ∃ x, φ x ∧ a.tmps.size = N ∧ a.defers = [] ∧ (F x).ok a ∧ Holds Γ (M x) w
  | _, _, _ => False
theorem g_midX {Γ : Ctx} {N : Nat} {fr : Fr} {L R : List Chunk} {X : Type} {F : X → Fr} {M : X → List Chunk} {φ : X → Prop} (x : X) (hx : φ x) (s : FrSub fr (F x)) (t : Take L (M x) R) : G Γ N fr L (MidX Γ N F M φ .normal) :=
  fun _ _ hN hd hf hh => ⟨x, hx, hN, hd, hf.sub s, hh.takeDrop t⟩
theorem g_cutX {P : Program} {Γ : Ctx} {N : Nat} {fr : Fr} {L : List Chunk} {Q : Exit → Act → World → Prop} {c : Code} {X : Type} (F : X → Fr) (M : X → List Chunk) (φ : X → Prop) (h : G Γ N fr L (c.wp P (MidX Γ N F M φ))) (k : ∀ x, φ x → G Γ N (F x) (M x) (Q .normal)) : G Γ N fr L (c.wp P Q) := by
  intro a w hN hd hf hh
  refine wp_mono (h a w hN hd hf hh) ?_
  intro e a' w' hq
  cases e with
  | normal => obtain ⟨x, hx, h1, h2, h3, h4⟩ := hq; exact k x hx a' w' h1 h2 h3 h4
  | exit id => exact hq.elim
  | goto l => exact hq.elim
  | ret => exact hq.elim
  | panic ch => exact hq.elim
  | outgrown => exact hq.elim
theorem g_toOwn {Γ : Ctx} {N : Nat} {fr : Fr} {L R : List Chunk} {φ : Act → World → Prop} {b len n : Nat} {xs : List Value} {e : TypeId} (s : Sel L (.row b xs e) R) (hl : xs.length = len * n) (ho : xs.all (·.oneCell') = true)
    (g : G Γ N fr (.own (some ⟨b, 0, none⟩) len len n xs e :: R) φ) : G Γ N fr L φ := fun a w hN hd hf hh => g a w hN hd hf ((hh.sel s).toOwn hl ho)
theorem g_unpile {Γ : Ctx} {N : Nat} {fr : Fr} {L R : List Chunk} {φ : Act → World → Prop} {H H' : HP} (hs : HP.sub H H') (s : Sel L (Pile H') R) (g : G Γ N fr (Pile H :: R) φ) : G Γ N fr L φ := fun a w hN hd hf hh =>
  g a w hN hd hf ((hh.sel s).mono fun h ⟨h1, h2, dj, s1, s2, hc, hr⟩ => by
    have hc' : h1 = H' := hc
    subst hc'
    exact ⟨H, h2, HP.disj_sub dj hs, hs.trans s1, s2, rfl, hr⟩)
theorem reads_grow {H H' : HP} (s : HP.sub H H') {a : Addr} {v : Value} (r : Reads (Pile H) a v) : Reads (Pile H') a v := fun hp hc => by
  obtain ⟨xs, e, fz, h1, h2, h3⟩ := r H rfl
  have hc' : hp = H' := hc
  subst hc'
  exact ⟨xs, e, fz, s _ _ h1, h2, h3⟩
end Go.Sl
