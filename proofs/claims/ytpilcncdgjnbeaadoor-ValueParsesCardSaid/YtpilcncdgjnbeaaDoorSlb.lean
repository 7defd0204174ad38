/- Part 2: facts on types, the rules of the code's forms, the rules of the operations. -/
import Derived.Test.YtpilcncdgjnbeaaDoorSla
import Derived.Deep.LoopGhost
set_option linter.unusedSimpArgs false
set_option linter.unusedVariables false
namespace Go.Sl
variable {P : Program} {Γ : Ctx} {L R : List Chunk} {N : Nat} {fr : Fr} {Q : Exit → Act → World → Prop} {ops : Array Oper} {rest : List Oper}

/-! ### Closed facts on types and functions, found by instance -/
class TOne (P : Program) (t : TypeId) : Prop where
  row : (P.underlying t).map TypeDesc.isRow = some false
  size : (P.info? t).map (·.size) = some 1
class TAgg (P : Program) (t : TypeId) (n : outParam Nat) : Prop where
  row : (P.underlying t).map TypeDesc.isRow = some true
  size : (P.info? t).map (·.size) = some n
class TSize (P : Program) (t : TypeId) (n : outParam Nat) : Prop where
  size : (P.info? t).map (·.size) = some n
class TZero (P : Program) (t : TypeId) (z : outParam Value) : Prop where
  zero : (P.info? t).bind (·.zero) = some z
class TDesc (P : Program) (t : TypeId) (d : outParam TypeDesc) : Prop where
  desc : P.underlying t = some d
def fieldOff (P : Program) (s : TypeId) (f : Nat) : Option (Nat × Nat) :=
  match P.underlying s with
  | some (.struct fs) => match fs[f]? with
    | some fd => match (P.info? fd.type).map (·.size) with
      | some n => some (fd.offset, n)
      | none => none
    | none => none
  | _ => none
class FOff (P : Program) (s : TypeId) (f : Nat) (off n : outParam Nat) : Prop where
  off : fieldOff P s f = some (off, n)
  pos : Nat.ble 1 n = true
class Callable (P : Program) (f : FuncId) : Prop where
  call : ∀ args w, (callFunc f args).run P w = .ok (.enter f args) w
theorem callable {f : FuncId} (h : (P.funcs[f]?).map (fun fn => (fn.name == "runtime.NumGoroutine", fn.body.isNone)) = some (false, false)) : Callable P f := ⟨fun args w => by
  cases hf : P.funcs[f]? with
  | none => simp [hf] at h
  | some fn =>
    simp only [hf, Option.map_some, Option.some.injEq, Prod.mk.injEq] at h
    have h1 : ¬ fn.name = "runtime.NumGoroutine" := by simpa using h.1
    have h2 : ¬ fn.body = none := fun e => by have := h.2; simp [e] at this
    simp [callFunc, hf, h1, h2]⟩

theorem run_sizeOf' {t : TypeId} {n : Nat} (h : (P.info? t).map (·.size) = some n) (w : World) : (sizeOf t).run P w = .ok n w := by
  cases hi : P.info? t with
  | none => simp [hi] at h
  | some i => simp only [hi, Option.map_some, Option.some.injEq] at h; simp [sizeOf, typeInfo, hi, h]
theorem run_isAgg' {t : TypeId} {b : Bool} (h : (P.underlying t).map TypeDesc.isRow = some b) (w : World) : (isAgg t).run P w = .ok b w := by
  cases hu : P.underlying t with
  | none => simp [hu] at h
  | some d =>
    simp only [hu, Option.map_some, Option.some.injEq] at h
    unfold isAgg
    rw [Sem.run_bind, run_underlying hu w]
    cases d <;> simp_all [TypeDesc.isRow]
theorem run_zeroValue' {t : TypeId} {z : Value} (h : (P.info? t).bind (·.zero) = some z) (w : World) : (zeroValue t).run P w = .ok z w := by
  cases hi : P.info? t with
  | none => simp [hi] at h
  | some i => simp only [hi, Option.bind_some] at h; simp [zeroValue, typeInfo, hi, h]

/-! ### The forms of code -/
theorem g_seq {x y : Code} (g : G Γ N fr L (x.wp P (Exit.then (y.wp P Q) Q))) : G Γ N fr L ((Code.seq x y).wp P Q) := g.mono fun _ _ h => wp_seq h
theorem g_skip (g : G Γ N fr L (Q .normal)) : G Γ N fr L (Code.skip.wp P Q) := g.mono fun _ _ h => wp_skip h
theorem g_label {l : Nat} (g : G Γ N fr L (Q .normal)) : G Γ N fr L ((Code.label l).wp P Q) := g.mono fun _ _ h => wp_label h
theorem g_exit {id : Nat} (g : G Γ N fr L (Q (.exit id))) : G Γ N fr L ((Code.exit id).wp P Q) := g.mono fun _ _ h => wp_exit h
theorem g_retc (g : G Γ N fr L (Q .ret)) : G Γ N fr L (Code.ret.wp P Q) := g.mono fun _ _ h => wp_ret h
theorem g_block {id : Nat} {c : Code} (g : G Γ N fr L (c.wp P (Exit.inBlock id Q))) : G Γ N fr L ((Code.block id c).wp P Q) := g.mono fun _ _ h => wp_block h
theorem g_region {id : Nat} {l : List Oper} (g : G Γ N fr L (wpList P l.toArray Q l)) : G Γ N fr L ((Code.region id l.toArray false).wp P Q) := g.mono fun _ _ h => wp_region_lit h
theorem g_nil (g : G Γ N fr L (Q .normal)) : G Γ N fr L (wpList P ops Q []) := g
theorem g_cond {c : Operand} {x y : Code} {t : Bool} (hc : ev fr c = some (.bool t)) (gt : t = true → G Γ N fr L (x.wp P Q)) (gf : t = false → G Γ N fr L (y.wp P Q)) : G Γ N fr L ((Code.cond c x y).wp P Q) :=
  fun a w hN hd hf hh => wp_cond_split (hf.ev hc) (fun h => gt h a w hN hd hf hh) (fun h => gf h a w hN hd hf hh)
theorem g_cond_true {c : Operand} {x y : Code} (hc : ev fr c = some (.bool true)) (g : G Γ N fr L (x.wp P Q)) : G Γ N fr L ((Code.cond c x y).wp P Q) :=
  g_cond hc (fun _ => g) (fun h => by cases h)
theorem g_cond_false {c : Operand} {x y : Code} (hc : ev fr c = some (.bool false)) (g : G Γ N fr L (y.wp P Q)) : G Γ N fr L ((Code.cond c x y).wp P Q) :=
  g_cond hc (fun h => by cases h) (fun _ => g)
theorem g_cond_dec {c : Operand} {x y : Code} {p : Prop} {i : Decidable p} (hc : ev fr c = some (.bool (@decide p i))) (gt : p → G Γ N fr L (x.wp P Q)) (gf : ¬ p → G Γ N fr L (y.wp P Q)) : G Γ N fr L ((Code.cond c x y).wp P Q) :=
  g_cond hc (fun h => gt (of_decide_eq_true h)) (fun h => gf (of_decide_eq_false h))

theorem g_then_normal {K : Act → World → Prop} (g : G Γ N fr L K) : G Γ N fr L (Exit.then K Q .normal) := g
theorem g_then_ret {K : Act → World → Prop} (g : G Γ N fr L (Q .ret)) : G Γ N fr L (Exit.then K Q .ret) := g
theorem g_then_exit {K : Act → World → Prop} {i : Nat} (g : G Γ N fr L (Q (.exit i))) : G Γ N fr L (Exit.then K Q (.exit i)) := g
theorem g_in_normal {i : Nat} (g : G Γ N fr L (Q .normal)) : G Γ N fr L (Exit.inBlock i Q .normal) := g
theorem g_in_ret {i : Nat} (g : G Γ N fr L (Q .ret)) : G Γ N fr L (Exit.inBlock i Q .ret) := g
theorem g_in_exit {i : Nat} (g : G Γ N fr L (Q .normal)) : G Γ N fr L (Exit.inBlock i Q (.exit i)) := g.mono fun _ _ h => by simpa [Exit.inBlock] using h
theorem g_in_other {i j : Nat} (hn : Nat.beq j i = false) (g : G Γ N fr L (Q (.exit j))) : G Γ N fr L (Exit.inBlock i Q (.exit j)) := g.mono fun _ _ h => by
  have : j ≠ i := fun e => by subst e; simp at hn
  simpa [Exit.inBlock, this] using h

/-! ### Loops: one ghost -/
def Back {X : Type} (Γ : Ctx) (N : Nat) (fr : X → Fr) (L : X → List Chunk) (φ : X → Prop) (μ : X → Nat) (x : X) : Act → World → Prop :=
  fun a w => ∃ x', μ x' < μ x ∧ φ x' ∧ a.tmps.size = N ∧ a.defers = [] ∧ (fr x').ok a ∧ Holds Γ (L x') w
theorem g_loop {X : Type} {c : Code} (F : X → Fr) (M : X → List Chunk) (φ : X → Prop) (μ : X → Nat) (x₀ : X) (h₀ : φ x₀) (s : FrSub fr (F x₀)) (t : Take L (M x₀) R)
    (round : ∀ x, φ x → G Γ N (F x) (M x) (c.wp P (Exit.then (Back Γ N F M φ μ x) Q))) : G Γ N fr L ((Code.loop c).wp P Q) := by
  intro a w hN hd hf hh
  refine wp_loop_ghost (fun n a w => ∃ x, μ x = n ∧ φ x ∧ a.tmps.size = N ∧ a.defers = [] ∧ (F x).ok a ∧ Holds Γ (M x) w) (μ x₀) ⟨x₀, rfl, h₀, hN, hd, hf.sub s, hh.takeDrop t⟩ ?_
  rintro n a w ⟨x, rfl, hx, hN, hd, hf, hh⟩
  refine wp_mono (round x hx a w hN hd hf hh) ?_
  intro e a' w' hq
  cases e with
  | normal => obtain ⟨x', hlt, h⟩ := hq; exact ⟨μ x', hlt, x', rfl, h⟩
  | exit id => exact hq
  | goto l => exact hq
  | ret => exact hq
  | panic ch => exact hq
  | outgrown => exact hq
theorem g_again {X : Type} {F : X → Fr} {M : X → List Chunk} {φ : X → Prop} {μ : X → Nat} {x : X} (x' : X) (lt : μ x' < μ x) (hx : φ x') (s : FrSub fr (F x')) (t : Take L (M x') R) : G Γ N fr L (Back Γ N F M φ μ x) :=
  fun _ _ hN hd hf hh => ⟨x', lt, hx, hN, hd, hf.sub s, hh.takeDrop t⟩

/-! ### Guards -/
def yieldIn (ops : Array Oper) (fr : Fr) (j : Nat) : Option Value :=
  match (ops[j]?).bind (·.dst) with
  | some t => look fr t
  | none => none
/-- The operation runs: it has no guard, or its guard has said yes. -/
def runsB (ops : Array Oper) (fr : Fr) : Option (Nat × Bool) → Bool
  | none => true
  | some (j, c) => match yieldIn ops fr j with
    | some (.bool b) => b == c
    | _ => false
abbrev Runs (ops : Array Oper) (fr : Fr) (g : Option (Nat × Bool)) : Prop := runsB ops fr g = true
def skipsB (ops : Array Oper) (fr : Fr) : Option (Nat × Bool) → Bool
  | none => false
  | some (j, c) => match yieldIn ops fr j with
    | some (.bool b) => !(b == c)
    | some (.tuple _) => true
    | _ => false
abbrev Skips (ops : Array Oper) (fr : Fr) (g : Option (Nat × Bool)) : Prop := skipsB ops fr g = true

def asB : Value → Option Bool
  | .bool b => some b
  | _ => none
theorem yieldIn_ok {a : Act} (hf : fr.ok a) {j : Nat} {v : Value} (h : yieldIn ops fr j = some v) : yielded ops a.tmps j = asB v := by
  unfold yieldIn at h
  unfold yielded
  cases ht : (ops[j]?).bind (·.dst) with
  | none => simp [ht] at h
  | some t =>
    simp only [ht] at h
    have e := hf t v h
    simp only [Option.bind_some]
    cases hg : a.tmps[t]? with
    | none =>
      rw [Array.getD_eq_getD_getElem?, hg] at e
      simp only [Option.getD_none] at e
      subst e
      rfl
    | some u =>
      rw [Array.getD_eq_getD_getElem?, hg] at e
      simp only [Option.getD_some] at e
      subst e
      cases u <;> rfl
theorem runs_wanted {a : Act} {o : Oper} (hf : fr.ok a) (h : Runs ops fr o.guard) : Region.wanted o (yielded ops a.tmps) = true := by
  unfold Region.wanted
  unfold Runs runsB at h
  cases hg : o.guard with
  | none => rfl
  | some g =>
    obtain ⟨j, c⟩ := g
    simp only [hg] at h
    split at h
    · rename_i b hb
      simp only [yieldIn_ok hf hb, asB]
      rw [eq_of_beq h]
      simp
    · cases h
theorem skips_wanted {a : Act} {o : Oper} (hf : fr.ok a) (h : Skips ops fr o.guard) : Region.wanted o (yielded ops a.tmps) = false := by
  unfold Region.wanted
  unfold Skips skipsB at h
  cases hg : o.guard with
  | none => simp [hg] at h
  | some g =>
    obtain ⟨j, c⟩ := g
    simp only [hg] at h
    split at h
    · rename_i b hb
      simp only [yieldIn_ok hf hb, asB]
      simpa using h
    · rename_i vs hb
      simp [yieldIn_ok hf hb, asB]
    · cases h
theorem blt_lt {d N : Nat} (h : Nat.blt d N = true) : d < N := Nat.le_of_ble_eq_true h

/-! ### One operation: what comes of it -/
/-- What is asked of an operation's result: a value and a world. -/
def resIn (P : Program) (R : Value → World → Prop) : Result Next → Prop
  | .ok (.value u) w => R u w
  | .ok .skip w => R undef w
  | .ok (.enter f args) w => Calls P f args w fun e w' => ∃ u, e = .returned u ∧ R u w'
  | _ => False
def opRes (P : Program) (o : Oper) (a : Act) (w : World) (R : Value → World → Prop) : Prop := resIn P R ((execOp a.eval o).run P w)
theorem opRes.mono {o : Oper} {a : Act} {w : World} {R R' : Value → World → Prop} (h : opRes P o a w R) (f : ∀ u w, R u w → R' u w) : opRes P o a w R' := by
  unfold opRes at *
  generalize (execOp a.eval o).run P w = r at *
  cases r with
  | ok n w' =>
    cases n <;> simp only [resIn] at h ⊢
    case value u => exact f _ _ h
    case skip => exact f _ _ h
    case enter g args => exact h.mono fun e w'' ⟨u, he, hu⟩ => ⟨u, he, f _ _ hu⟩
  | halt x w' => simp only [resIn] at h
theorem opRes.wp {o : Oper} {a : Act} {w : World} {K : Act → World → Prop} (h : opRes P o a w fun u w' => K (a.put o.dst u) w') : o.wp P a w K Q := by
  unfold opRes at h
  unfold Oper.wp
  generalize (execOp a.eval o).run P w = r at *
  cases r with
  | ok n w' =>
    cases n <;> simp only [resIn] at h <;> simp only [Oper.upon]
    case value u => exact h
    case skip => exact h
    case enter g args => exact h.mono fun e w'' ⟨u, he, hu⟩ => by subst he; exact hu
  | halt x w' => simp only [resIn] at h

/-- One value, whatever the memory, which stays as it was (but for garbage). -/
def QStep (P : Program) (Γ : Ctx) (fr : Fr) (o : Oper) (v : Value) : Prop := ∀ a, fr.ok a → ∀ L w, Holds Γ L w → opRes P o a w fun u w' => u = v ∧ Holds Γ L w'
/-- One value over these chunks, which stay as they were. -/
def VStep (P : Program) (Γ : Ctx) (fr : Fr) (L : List Chunk) (o : Oper) (v : Value) : Prop := ∀ a, fr.ok a → ∀ w, Holds Γ L w → opRes P o a w fun u w' => u = v ∧ Holds Γ L w'
/-- A value and other chunks. -/
def CStep (P : Program) (Γ : Ctx) (fr : Fr) (L : List Chunk) (o : Oper) {X : Type} (V : X → Value) (M : X → List Chunk) (φ : X → Prop) : Prop :=
  ∀ a, fr.ok a → ∀ w, Holds Γ L w → opRes P o a w fun u w' => ∃ x, φ x ∧ u = V x ∧ Holds Γ (M x) w'
/-- Nothing but other chunks. -/
def SStep (P : Program) (Γ : Ctx) (fr : Fr) (L : List Chunk) (o : Oper) (M : List Chunk) : Prop := ∀ a, fr.ok a → ∀ w, Holds Γ L w → opRes P o a w fun _ w' => Holds Γ M w'
theorem QStep.v {o : Oper} {v : Value} (q : QStep P Γ fr o v) : VStep P Γ fr L o v := fun a hf w hh => q a hf L w hh
theorem VStep.c {o : Oper} {v : Value} (q : VStep P Γ fr L o v) : CStep P Γ fr L o (X := Unit) (fun _ => v) (fun _ => L) (fun _ => True) := fun a hf w hh => (q a hf w hh).mono fun u w' ⟨e, h⟩ => ⟨(), trivial, e, h⟩
theorem SStep.c {o : Oper} {M : List Chunk} (q : SStep P Γ fr L o M) (hd : o.dst = none) : ∀ a, fr.ok a → ∀ w, Holds Γ L w → opRes P o a w fun _ w' => Holds Γ M w' := by
  have := hd
  exact q
theorem qs_of {o : Oper} {v : Value} (h : ∀ a w, fr.ok a → (execOp a.eval o).run P w = .ok (.value v) w) : QStep P Γ fr o v := fun a hf L w hh => by
  unfold opRes; rw [h a w hf]; exact ⟨rfl, hh⟩
theorem vs_of {o : Oper} {v : Value} (h : ∀ a w, fr.ok a → Holds Γ L w → (execOp a.eval o).run P w = .ok (.value v) w) : VStep P Γ fr L o v := fun a hf w hh => by
  unfold opRes; rw [h a w hf hh]; exact ⟨rfl, hh⟩
theorem cs_of {o : Oper} {X : Type} {V : X → Value} {M : X → List Chunk} {φ : X → Prop} (h : ∀ a w, fr.ok a → Holds Γ L w → ∃ x w', φ x ∧ (execOp a.eval o).run P w = .ok (.value (V x)) w' ∧ Holds Γ (M x) w') : CStep P Γ fr L o V M φ := fun a hf w hh => by
  obtain ⟨x, w', hx, hr, hh'⟩ := h a w hf hh
  unfold opRes; rw [hr]; exact ⟨x, hx, rfl, hh'⟩
theorem ss_of {o : Oper} {M : List Chunk} (h : ∀ a w, fr.ok a → Holds Γ L w → ∃ w', (execOp a.eval o).run P w = .ok .skip w' ∧ Holds Γ M w') : SStep P Γ fr L o M := fun a hf w hh => by
  obtain ⟨w', hr, hh'⟩ := h a w hf hh
  unfold opRes; rw [hr]; exact hh'

/-! ### One operation at the head of a list -/
/-- (A look: an operation stands at the head.) -/
theorem g_ops {o : Oper} (g : G Γ N fr L (wpList P ops Q (o :: rest))) : G Γ N fr L (wpList P ops Q (o :: rest)) := g
theorem g_step {o : Oper} (hg : Runs ops fr o.guard) (h : ∀ a w, a.tmps.size = N → a.defers = [] → fr.ok a → Holds Γ L w → opRes P o a w fun u w' => wpList P ops Q rest (a.put o.dst u) w') : G Γ N fr L (wpList P ops Q (o :: rest)) := by
  intro a w hs hdf hf hh
  unfold wpList
  rw [if_pos (runs_wanted hf hg)]
  exact .inl (opRes.wp (h a w hs hdf hf hh))
section
variable {d : Nat} {op : Op} {ty : TypeId} {pos : String} {aft : Array Edge} {gd : Option (Nat × Bool)} {v : Value}
theorem g_c {X : Type} {V : X → Value} {M : X → List Chunk} {φ : X → Prop} (q : CStep P Γ fr L ⟨some d, op, ty, pos, aft, gd⟩ V M φ) (hg : Runs ops fr gd) (hN : Nat.blt d N = true)
    (k : ∀ x, φ x → G Γ N ((d, V x) :: fr) (M x) (wpList P ops Q rest)) : G Γ N fr L (wpList P ops Q (⟨some d, op, ty, pos, aft, gd⟩ :: rest)) :=
  g_step hg fun a w hs hdf hf hh => (q a hf w hh).mono fun u w' ⟨x, hx, hu, hh'⟩ => by
    subst hu
    exact k x hx _ _ (by simp [Act.put, hs]) hdf (hf.put (by rw [hs]; exact blt_lt hN) _) hh'
theorem g_n {V : Nat → Value} {M : Nat → List Chunk} (q : CStep P Γ fr L ⟨some d, op, ty, pos, aft, gd⟩ V M (fun _ => True)) (hg : Runs ops fr gd) (hN : Nat.blt d N = true)
    (k : ∀ x, G Γ N ((d, V x) :: fr) (M x) (wpList P ops Q rest)) : G Γ N fr L (wpList P ops Q (⟨some d, op, ty, pos, aft, gd⟩ :: rest)) := g_c q hg hN fun x _ => k x
theorem g_v (q : VStep P Γ fr L ⟨some d, op, ty, pos, aft, gd⟩ v) (hg : Runs ops fr gd) (hN : Nat.blt d N = true) (k : G Γ N ((d, v) :: fr) L (wpList P ops Q rest)) : G Γ N fr L (wpList P ops Q (⟨some d, op, ty, pos, aft, gd⟩ :: rest)) :=
  g_c q.c hg hN fun _ _ => k
theorem g_q (q : QStep P Γ fr ⟨some d, op, ty, pos, aft, gd⟩ v) (hg : Runs ops fr gd) (hN : Nat.blt d N = true) (k : G Γ N ((d, v) :: fr) L (wpList P ops Q rest)) : G Γ N fr L (wpList P ops Q (⟨some d, op, ty, pos, aft, gd⟩ :: rest)) :=
  g_v q.v hg hN k
theorem g_s {M : List Chunk} (q : SStep P Γ fr L ⟨none, op, ty, pos, aft, gd⟩ M) (hg : Runs ops fr gd) (k : G Γ N fr M (wpList P ops Q rest)) : G Γ N fr L (wpList P ops Q (⟨none, op, ty, pos, aft, gd⟩ :: rest)) :=
  g_step hg fun a w hs hdf hf hh => (q a hf w hh).mono fun u w' hh' => k _ _ hs hdf hf hh'
end
theorem g_skipOp {o : Oper} {d : Nat} (hg : Skips ops fr o.guard) (hd : o.dst = some d) (hN : Nat.blt d N = true)
    (k : G Γ N ((d, undef) :: fr) L (wpList P ops Q rest)) : G Γ N fr L (wpList P ops Q (o :: rest)) := by
  intro a w hs hdf hf hh
  unfold wpList
  rw [skips_wanted hf hg, hd]
  exact k _ _ (by simp [Act.put, hs]) hdf (hf.put (by rw [hs]; exact blt_lt hN) _) hh
theorem g_skipOp0 {o : Oper} (hg : Skips ops fr o.guard) (hd : o.dst = none)
    (k : G Γ N fr L (wpList P ops Q rest)) : G Γ N fr L (wpList P ops Q (o :: rest)) := by
  intro a w hs hdf hf hh
  unfold wpList
  rw [skips_wanted hf hg, hd]
  exact k _ _ hs hdf hf hh
/-- A slot's truth is parted. -/
theorem g_part {φ : Act → World → Prop} (d : Nat) {t : Bool} (h : look fr d = some (.bool t)) (gt : t = true → G Γ N ((d, .bool true) :: fr) L φ) (gf : t = false → G Γ N ((d, .bool false) :: fr) L φ) : G Γ N fr L φ := by
  intro a w hs hdf hf hh
  have : ∀ b, t = b → Fr.ok ((d, .bool b) :: fr) a := by
    intro b hb t' v e
    subst hb
    simp only [look] at e
    cases hq : Nat.beq d t' with
    | true => rw [hq] at e; simp at e; subst e; rw [← Nat.eq_of_beq_eq_true hq]; exact hf d _ h
    | false => rw [hq] at e; exact hf t' v (by simpa using e)
  cases t with
  | true => exact gt rfl a w hs hdf (this true rfl) hh
  | false => exact gf rfl a w hs hdf (this false rfl) hh
theorem g_guard {o : Oper} {j : Nat} {c t : Bool} {d : Nat} (hg : o.guard = some (j, c)) (hj : (ops[j]?).bind (·.dst) = some d) (h : look fr d = some (.bool t))
    (gt : t = true → G Γ N ((d, .bool true) :: fr) L (wpList P ops Q (o :: rest))) (gf : t = false → G Γ N ((d, .bool false) :: fr) L (wpList P ops Q (o :: rest))) : G Γ N fr L (wpList P ops Q (o :: rest)) := by
  have := hg; have := hj
  exact g_part d h gt gf
theorem g_guard_dec {o : Oper} {j : Nat} {c : Bool} {p : Prop} {i : Decidable p} {d : Nat} (hg : o.guard = some (j, c)) (hj : (ops[j]?).bind (·.dst) = some d) (h : look fr d = some (.bool (@decide p i)))
    (gt : p → G Γ N ((d, .bool true) :: fr) L (wpList P ops Q (o :: rest))) (gf : ¬ p → G Γ N ((d, .bool false) :: fr) L (wpList P ops Q (o :: rest))) : G Γ N fr L (wpList P ops Q (o :: rest)) :=
  g_guard hg hj h (fun h => gt (of_decide_eq_true h)) (fun h => gf (of_decide_eq_false h))

/-! ### Moves -/
section
variable {d : Nat} {ty : TypeId} {pos : String} {aft : Array Edge} {gd : Option (Nat × Bool)} {x y : Operand} {v u : Value} {t t2 : TypeId}
theorem qs_move (hx : ev fr x = some v) : QStep P Γ fr ⟨some d, .move x, ty, pos, aft, gd⟩ (v) :=
  qs_of (fun a w hf => by simp [execOp, hf.ev hx])
theorem qs_assign (hx : ev fr x = some v) : QStep P Γ fr ⟨some d, .assign x, ty, pos, aft, gd⟩ (v) :=
  qs_of (fun a w hf => by simp [execOp, hf.ev hx])
theorem qs_pick_true {c : Operand} (hc : ev fr c = some (.bool true)) (hx : ev fr x = some v) : QStep P Γ fr ⟨some d, .pick c x y, ty, pos, aft, gd⟩ (v) :=
  qs_of (fun a w hf => by simp [execOp, hf.ev hx, hf.ev hc, asBool])
theorem qs_pick_false {c : Operand} (hc : ev fr c = some (.bool false)) (hy : ev fr y = some v) : QStep P Γ fr ⟨some d, .pick c x y, ty, pos, aft, gd⟩ (v) :=
  qs_of (fun a w hf => by simp [execOp, hf.ev hy, hf.ev hc, asBool])
theorem qs_extract {i : Nat} {vs : List Value} (hx : ev fr x = some (.tuple vs.toArray)) (hv : vs[i]? = some v) : QStep P Γ fr ⟨some d, .extract x i, ty, pos, aft, gd⟩ (v) :=
  qs_of (fun a w hf => by simp [execOp, hf.ev hx, Instr.extract, hv])
theorem qs_nilCheck {p : Addr} (hx : ev fr x = some (.pointer (some p))) : QStep P Γ fr ⟨some d, .nilCheck x, ty, pos, aft, gd⟩ (.pointer (some p)) :=
  qs_of (fun a w hf => by simp [execOp, hf.ev hx])
theorem qs_not {b : Bool} (hx : ev fr x = some (.bool b)) : QStep P Γ fr ⟨some d, .unOp .not t x, ty, pos, aft, gd⟩ (.bool (!b)) :=
  qs_of (fun a w hf => by simp [execOp, hf.ev hx, Op.unary])
theorem qs_not_true (hx : ev fr x = some (.bool true)) : QStep P Γ fr ⟨some d, .unOp .not t x, ty, pos, aft, gd⟩ (.bool false) :=
  qs_not hx
theorem qs_not_false (hx : ev fr x = some (.bool false)) : QStep P Γ fr ⟨some d, .unOp .not t x, ty, pos, aft, gd⟩ (.bool true) :=
  qs_not hx
theorem qs_not_dec {p : Prop} [Decidable p] (hx : ev fr x = some (.bool (decide p))) : QStep P Γ fr ⟨some d, .unOp .not t x, ty, pos, aft, gd⟩ (.bool (decide (¬ p))) :=
  by have := qs_not (P := P) (Γ := Γ) (d := d) (ty := ty) (pos := pos) (aft := aft) (gd := gd) (t := t) hx; simpa using this

/-! ### Numbers -/
section
variable {i j : IntKind} {a b : Int}
theorem qs_lss (hx : ev fr x = some (.int i a)) (hy : ev fr y = some (.int i b)) : QStep P Γ fr ⟨some d, .binOp .lss t x y t2, ty, pos, aft, gd⟩ (.bool (decide (a < b))) :=
  qs_of (fun a w hf => by simp [execOp, hf.ev hx, hf.ev hy, eqGuard_at_int, binOp_lss])
theorem qs_leq (hx : ev fr x = some (.int i a)) (hy : ev fr y = some (.int i b)) : QStep P Γ fr ⟨some d, .binOp .leq t x y t2, ty, pos, aft, gd⟩ (.bool (decide (a ≤ b))) :=
  qs_of (fun a w hf => by simp [execOp, hf.ev hx, hf.ev hy, eqGuard_at_int, binOp_leq])
theorem qs_gtr (hx : ev fr x = some (.int i a)) (hy : ev fr y = some (.int i b)) : QStep P Γ fr ⟨some d, .binOp .gtr t x y t2, ty, pos, aft, gd⟩ (.bool (decide (b < a))) :=
  qs_of (fun a w hf => by simp [execOp, hf.ev hx, hf.ev hy, eqGuard_at_int, binOp_gtr])
theorem qs_geq (hx : ev fr x = some (.int i a)) (hy : ev fr y = some (.int i b)) : QStep P Γ fr ⟨some d, .binOp .geq t x y t2, ty, pos, aft, gd⟩ (.bool (decide (b ≤ a))) :=
  qs_of (fun a w hf => by simp [execOp, hf.ev hx, hf.ev hy, eqGuard_at_int, binOp_geq])
theorem qs_eql (hx : ev fr x = some (.int i a)) (hy : ev fr y = some (.int i b)) : QStep P Γ fr ⟨some d, .binOp .eql t x y t2, ty, pos, aft, gd⟩ (.bool (decide (a = b))) :=
  qs_of (fun c w hf => by
    have : (a == b) = decide (a = b) := by by_cases h : a = b <;> simp [h]
    simp [execOp, hf.ev hx, hf.ev hy, eqGuard_at_int, binOp_eql, this])
theorem qs_neq (hx : ev fr x = some (.int i a)) (hy : ev fr y = some (.int i b)) : QStep P Γ fr ⟨some d, .binOp .neq t x y t2, ty, pos, aft, gd⟩ (.bool (decide (a ≠ b))) :=
  qs_of (fun c w hf => by
    have : (a != b) = decide (a ≠ b) := by by_cases h : a = b <;> simp [h]
    simp [execOp, hf.ev hx, hf.ev hy, eqGuard_at_int, binOp_neq, this])
theorem qs_add (hx : ev fr x = some (.int i a)) (hy : ev fr y = some (.int i b)) : QStep P Γ fr ⟨some d, .binOp .add t x y t2, ty, pos, aft, gd⟩ (.int i (i.wrap (a + b))) :=
  qs_of (fun a w hf => by simp [execOp, hf.ev hx, hf.ev hy, eqGuard_at_int, binOp_add, Op.intArith])
theorem qs_sub (hx : ev fr x = some (.int i a)) (hy : ev fr y = some (.int i b)) : QStep P Γ fr ⟨some d, .binOp .sub t x y t2, ty, pos, aft, gd⟩ (.int i (i.wrap (a - b))) :=
  qs_of (fun a w hf => by simp [execOp, hf.ev hx, hf.ev hy, eqGuard_at_int, binOp_sub, Op.intArith])
theorem qs_mul (hx : ev fr x = some (.int i a)) (hy : ev fr y = some (.int i b)) : QStep P Γ fr ⟨some d, .binOp .mul t x y t2, ty, pos, aft, gd⟩ (.int i (i.wrap (a * b))) :=
  qs_of (fun a w hf => by simp [execOp, hf.ev hx, hf.ev hy, eqGuard_at_int, binOp_mul, Op.intArith])
/-- In the range of int. -/
def inI (z : Int) : Prop := -9223372036854775808 ≤ z ∧ z ≤ 9223372036854775807
theorem wrap_in {z : Int} (h : inI z) : IntKind.i64.wrap z = z := IntWalk.i64_in _ ⟨by have := h.1; omega, by have := h.2; omega⟩
theorem qs_addI (hx : ev fr x = some (.int .i64 a)) (hy : ev fr y = some (.int .i64 b)) (hr : inI (a + b)) : QStep P Γ fr ⟨some d, .binOp .add t x y t2, ty, pos, aft, gd⟩ (.int .i64 (a + b)) :=
  by have := qs_add (P := P) (Γ := Γ) (d := d) (ty := ty) (pos := pos) (aft := aft) (gd := gd) (t := t) (t2 := t2) hx hy; rwa [wrap_in hr] at this
theorem qs_subI (hx : ev fr x = some (.int .i64 a)) (hy : ev fr y = some (.int .i64 b)) (hr : inI (a - b)) : QStep P Γ fr ⟨some d, .binOp .sub t x y t2, ty, pos, aft, gd⟩ (.int .i64 (a - b)) :=
  by have := qs_sub (P := P) (Γ := Γ) (d := d) (ty := ty) (pos := pos) (aft := aft) (gd := gd) (t := t) (t2 := t2) hx hy; rwa [wrap_in hr] at this
theorem qs_mulI (hx : ev fr x = some (.int .i64 a)) (hy : ev fr y = some (.int .i64 b)) (hr : inI (a * b)) : QStep P Γ fr ⟨some d, .binOp .mul t x y t2, ty, pos, aft, gd⟩ (.int .i64 (a * b)) :=
  by have := qs_mul (P := P) (Γ := Γ) (d := d) (ty := ty) (pos := pos) (aft := aft) (gd := gd) (t := t) (t2 := t2) hx hy; rwa [wrap_in hr] at this
theorem qs_rem (hx : ev fr x = some (.int i a)) (hy : ev fr y = some (.int i b)) (hb : b ≠ 0) : QStep P Γ fr ⟨some d, .binOp .rem t x y t2, ty, pos, aft, gd⟩ (.int i (a.tmod b)) :=
  qs_of (fun a w hf => by simp [execOp, hf.ev hx, hf.ev hy, eqGuard_at_int, binOp_rem, Op.intDiv, hb])
theorem qs_quo (hx : ev fr x = some (.int i a)) (hy : ev fr y = some (.int i b)) (hb : b ≠ 0) : QStep P Γ fr ⟨some d, .binOp .quo t x y t2, ty, pos, aft, gd⟩ (.int i (i.wrap (a.tdiv b))) :=
  qs_of (fun a w hf => by simp [execOp, hf.ev hx, hf.ev hy, eqGuard_at_int, binOp_quo, Op.intDiv, hb])
theorem qs_convInt {D : TypeDesc} [TDesc P t D] [TDesc P t2 (.int j)] (hx : ev fr x = some (.int i a)) : QStep P Γ fr ⟨some d, .convert t t2 x, ty, pos, aft, gd⟩ (.int j (j.wrap a)) :=
  qs_of (fun c w hf => by simp [execOp, hf.ev hx, convert, run_underlying (TDesc.desc (P := P) (t := t)), run_underlying (TDesc.desc (P := P) (t := t2)), Conv.intToInt])
end

/-! ### Pointers, strings -/
theorem run_eqNilIn {e : TypeId} {p : Option Addr} (h : P.underlying t = some (.pointer e)) (w : World) (m : Nat) : (Op.equalIn (m + 1) t (.pointer p) (.pointer none)).run P w = .ok p.isNone w := by
  cases p <;> simp [Op.equalIn, run_underlying h]
theorem run_eqNil {e : TypeId} {p : Option Addr} (h : P.underlying t = some (.pointer e)) (w : World) : (Op.equal t (.pointer p) (.pointer none)).run P w = .ok p.isNone w := run_eqNilIn h w 9999
theorem qs_eqNil {e : TypeId} {p : Option Addr} [TDesc P t (.pointer e)] (hx : ev fr x = some (.pointer p)) (hy : ev fr y = some (.pointer none)) : QStep P Γ fr ⟨some d, .binOp .eql t x y t2, ty, pos, aft, gd⟩ (.bool p.isNone) :=
  qs_of (fun c w hf => by
    have hb : binOp .eql t (.pointer p) (.pointer none) = (do pure (.bool (← Op.equal t (.pointer p) (.pointer none)))) := by cases p <;> rfl
    simp only [execOp, hf.ev hx, hf.ev hy, eqGuard_at_pointer, hb]
    simp [run_eqNil (TDesc.desc (P := P) (t := t))])
theorem qs_neNil {e : TypeId} {p : Option Addr} [TDesc P t (.pointer e)] (hx : ev fr x = some (.pointer p)) (hy : ev fr y = some (.pointer none)) : QStep P Γ fr ⟨some d, .binOp .neq t x y t2, ty, pos, aft, gd⟩ (.bool p.isSome) :=
  qs_of (fun c w hf => by
    have hb : binOp .neq t (.pointer p) (.pointer none) = (do pure (.bool (!(← Op.equal t (.pointer p) (.pointer none))))) := by cases p <;> rfl
    simp only [execOp, hf.ev hx, hf.ev hy, eqGuard_at_pointer, hb]
    cases p <;> simp [run_eqNil (TDesc.desc (P := P) (t := t))])
/-- The pointer is known: its test's value is written out. -/
theorem qs_eqNil_no {e : TypeId} {p : Addr} [TDesc P t (.pointer e)] (hx : ev fr x = some (.pointer (some p))) (hy : ev fr y = some (.pointer none)) : QStep P Γ fr ⟨some d, .binOp .eql t x y t2, ty, pos, aft, gd⟩ (.bool false) :=
  qs_eqNil hx hy
theorem qs_eqNil_yes {e : TypeId} [TDesc P t (.pointer e)] (hx : ev fr x = some (.pointer none)) (hy : ev fr y = some (.pointer none)) : QStep P Γ fr ⟨some d, .binOp .eql t x y t2, ty, pos, aft, gd⟩ (.bool true) :=
  qs_eqNil hx hy
theorem qs_neNil_yes {e : TypeId} {p : Addr} [TDesc P t (.pointer e)] (hx : ev fr x = some (.pointer (some p))) (hy : ev fr y = some (.pointer none)) : QStep P Γ fr ⟨some d, .binOp .neq t x y t2, ty, pos, aft, gd⟩ (.bool true) :=
  qs_neNil hx hy
theorem qs_neNil_no {e : TypeId} [TDesc P t (.pointer e)] (hx : ev fr x = some (.pointer none)) (hy : ev fr y = some (.pointer none)) : QStep P Γ fr ⟨some d, .binOp .neq t x y t2, ty, pos, aft, gd⟩ (.bool false) :=
  qs_neNil hx hy
/-- Two strings, or structs, by a law on the operation itself. -/
theorem qs_binOp {op : BinOp} {a b : Value} (hx : ev fr x = some a) (hy : ev fr y = some b) (hr : ∀ w, (do eqGuard op t x y a b; binOp op t a b : Sem Value).run P w = .ok v w) : QStep P Γ fr ⟨some d, .binOp op t x y t2, ty, pos, aft, gd⟩ (v) :=
  qs_of (fun c w hf => by
    have := hr w
    simp only [execOp, hf.ev hx, hf.ev hy]
    rw [Sem.run_bind, this]
    rfl)
theorem toList_inj {a b : ByteArray} : a.toList = b.toList ↔ a = b := by
  constructor
  · intro h
    rw [ByteArray.toList_eq, ByteArray.toList_eq] at h
    exact ByteArray.ext (Array.ext' h)
  · rintro rfl; rfl
theorem qs_eqlS {a b : ByteArray} (hx : ev fr x = some (.string a)) (hy : ev fr y = some (.string b)) : QStep P Γ fr ⟨some d, .binOp .eql t x y t2, ty, pos, aft, gd⟩ (.bool (decide (a = b))) :=
  qs_of (fun c w hf => by
    have : (a.toList == b.toList) = decide (a = b) := by by_cases h : a = b <;> simp [h, toList_inj]
    simp [execOp, hf.ev hx, hf.ev hy, eqGuard_at_string, binOp, Op.stringOp, this])
theorem qs_neqS {a b : ByteArray} (hx : ev fr x = some (.string a)) (hy : ev fr y = some (.string b)) : QStep P Γ fr ⟨some d, .binOp .neq t x y t2, ty, pos, aft, gd⟩ (.bool (decide (a ≠ b))) :=
  qs_of (fun c w hf => by
    have : (a.toList == b.toList) = decide (a = b) := by by_cases h : a = b <;> simp [h, toList_inj]
    simp [execOp, hf.ev hx, hf.ev hy, eqGuard_at_string, binOp, Op.stringOp, this])
end
end Go.Sl
