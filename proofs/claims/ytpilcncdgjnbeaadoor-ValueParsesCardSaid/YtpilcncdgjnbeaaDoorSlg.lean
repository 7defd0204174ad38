/- From a contract to what a statement asks: what was there is as it was. -/
import Derived.Test.YtpilcncdgjnbeaaDoorSlf
import Derived.RowKit3
import Derived.Below
set_option linter.unusedSimpArgs false
set_option linter.unusedVariables false
namespace Go.Sl
open Go Go.RowKit
abbrev Ctx.of (W : World) : Ctx := ⟨W.heap.size, fun b => fzOf W.heap[b]?, fun _ => none, W.os, W.tape, W.output⟩
/-- All the memory that there is at the start. -/
abbrev Init (W : World) : Chunk := .asn fun h => h = wheap W
theorem holds_init (W : World) : Holds (Ctx.of W) [Init W] W :=
  ⟨rfl, rfl, rfl, ⟨Nat.le_refl _, fun _ _ => rfl⟩, (fun _ _ h => by cases h), wheap W, (fun _ => .inl rfl), HP.sub.refl _, wheap W, fun _ => none, (fun _ => .inr rfl), HP.sub.refl _, (fun _ _ h => by cases h), rfl, trivial⟩
/-- What was there is as it was. -/
structure Stays (W w : World) : Prop where
  kept : W.keptBut w (fun _ => False)
  froz : ∀ a : Addr, a.block < W.heap.size → w.frozen? a = W.frozen? a
  below : Below W.heap.size W w
theorem stays_of_holds {W w : World} {L R : List Chunk} (hh : Holds (Ctx.of W) L w) (s : Sel L (Init W) R) : Stays W w := by
  have hs := hh.sel s
  obtain ⟨h, _, s1, h1, _, _, t1, _, hc, _⟩ := hs.own
  have hc' : h1 = wheap W := hc
  subst hc'
  have keep : ∀ (i : Nat) (o : Obj), W.heap[i]? = some o → w.heap[i]? = some o := fun i o hi => s1 _ _ (t1 _ _ hi)
  have size : W.heap.size ≤ w.heap.size := by
    by_cases h0 : W.heap.size = 0
    · omega
    · have hi' : W.heap[W.heap.size - 1]? = some W.heap[W.heap.size - 1] := by simp
      have := (Array.getElem?_eq_some_iff.1 (keep _ _ hi')).1
      omega
  refine ⟨⟨hh.os, hh.output, fun i hi => ?_⟩, fun a ha => frozen_at a (hh.frz.2 a.block ha), hh.os, hh.tape, hh.output, size, fun k hk => ?_⟩
  · have hi' : W.heap[i]? = some W.heap[i] := by simp [hi]
    rw [keep i _ hi', hi']
    cases W.heap[i] with
    | cells c t fz => exact ⟨rfl, rfl, rfl, fun _ _ => rfl⟩
    | map es k => exact .inr ⟨rfl, rfl⟩
    | _ => rfl
  · have hi' : W.heap[k]? = some W.heap[k] := by simp [hk]
    rw [keep k _ hi', hi']
theorem calls_init {P : Program} {f : FuncId} {args : List Value} {X : Type} {ret : X → Value} {φ : X → Prop} (W : World) (d : Does P f args [Init W] ret (fun _ => [Init W]) φ) :
    Calls P f args.toArray W fun e w => ∃ x, φ x ∧ e = .returned (ret x) ∧ Stays W w :=
  (d (Ctx.of W) W (holds_init W)).mono fun e w ⟨x, hx, he, hh⟩ => ⟨x, hx, he, stays_of_holds hh .here⟩
theorem calls1_init {P : Program} {f : FuncId} {args : List Value} {v : Value} (W : World) (d : Does1 P f args [Init W] v) :
    Calls P f args.toArray W fun e w => e = .returned v ∧ Stays W w :=
  (calls_init W d).mono fun e w ⟨_, _, he, hg⟩ => ⟨he, hg⟩
theorem Does.frame {P : Program} {f : FuncId} {args : List Value} {X : Type} {A : List Chunk} {ret : X → Value} {B : X → List Chunk} {φ : X → Prop} (d : Does P f args A ret B φ) (R : List Chunk) :
    Does P f args (A ++ R) ret (fun x => B x ++ R) φ := fun Γ w hh => by
  obtain ⟨m, dm, hr, hA⟩ := hh.split
  refine (d _ w hA).mono ?_
  rintro e w' ⟨x, hx, rfl, hB⟩
  exact ⟨x, hx, rfl, hB.join dm hr⟩
theorem calls1_nil {P : Program} {f : FuncId} {args : List Value} {v : Value} (W : World) (d : Does1 P f args [] v) :
    Calls P f args.toArray W fun e w => e = .returned v ∧ Stays W w :=
  calls1_init W (Does.frame d [Init W])
/-- A cell of the memory at the start. -/
theorem reads_init {W : World} {b o : Nat} {xs : Array Value} {e : TypeId} {fz : Nat × Nat} {v : Value} (hb : W.heap[b]? = some (.cells xs e fz)) (hv : xs[o]? = some v) : Reads (Init W) ⟨b, o, none⟩ v := fun h hs =>
  ⟨xs, e, fz, by rw [show h = wheap W from hs]; exact hb, rfl, hv⟩
theorem reads_init' {W : World} {b o : Nat} {v : Value} (hv : W.cell? ⟨b, o, none⟩ = some v) : Reads (Init W) ⟨b, o, none⟩ v := by
  unfold World.cell? at hv
  split at hv <;> simp_all
  rename_i hb
  exact reads_init hb hv
end Go.Sl
