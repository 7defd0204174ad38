/- A small separation logic over the model's worlds, part 1: heaps, chunks, what holds of a world, frames of slots. -/
import Derived.WalkKit
import Derived.ProofKit
import Derived.Great.BuildSlice
import Derived.Deep.MidRow
import Derived.Lib.FrozenHead
set_option linter.unusedSimpArgs false
set_option linter.unusedVariables false
namespace Go.Sl

/-! ### Partial heaps -/
abbrev HP := Nat → Option Obj
def HP.disj (h k : HP) : Prop := ∀ b, h b = none ∨ k b = none
def HP.sub (h k : HP) : Prop := ∀ b o, h b = some o → k b = some o
def HP.union (h k : HP) : HP := fun b => (h b).or (k b)
def HP.one (b : Nat) (o : Obj) : HP := fun c => if c = b then some o else none
def wheap (w : World) : HP := fun b => w.heap[b]?

theorem HP.disj.symm {h k : HP} (d : HP.disj h k) : HP.disj k h := fun b => (d b).symm
theorem HP.sub.refl (h : HP) : HP.sub h h := fun _ _ e => e
theorem HP.sub.trans {a b c : HP} (h : HP.sub a b) (k : HP.sub b c) : HP.sub a c := fun x o e => k x o (h x o e)
theorem HP.sub_union_left (h k : HP) : HP.sub h (HP.union h k) := fun b o e => by simp [HP.union, e]
theorem HP.sub_union_right {h k : HP} (d : HP.disj h k) : HP.sub k (HP.union h k) := fun b o e => by
  rcases d b with x | x
  · simp [HP.union, x, e]
  · rw [x] at e; cases e
theorem HP.union_sub {h k m : HP} (a : HP.sub h m) (b : HP.sub k m) : HP.sub (HP.union h k) m := fun x o e => by
  simp only [HP.union] at e
  cases hx : h x with
  | none => rw [hx] at e; exact b x o (by simpa using e)
  | some y => rw [hx] at e; simp at e; subst e; exact a x _ hx
theorem HP.disj_sub {h h' k : HP} (d : HP.disj h k) (s : HP.sub h' h) : HP.disj h' k := fun b => by
  rcases d b with x | x
  · cases hx : h' b with
    | none => exact .inl rfl
    | some o => rw [s b o hx] at x; cases x
  · exact .inr x
theorem HP.disj_union {h k m : HP} (a : HP.disj h m) (b : HP.disj k m) : HP.disj (HP.union h k) m := fun x => by
  rcases a x with p | p
  · rcases b x with q | q
    · left; simp [HP.union, p, q]
    · exact .inr q
  · exact .inr p
theorem HP.disj_of_union {h k m : HP} (a : HP.disj (HP.union h k) m) : HP.disj h m ∧ HP.disj k m := ⟨fun x => by
  rcases a x with p | p
  · left; simp only [HP.union] at p; cases hx : h x <;> simp_all
  · exact .inr p, fun x => by
  rcases a x with p | p
  · left; simp only [HP.union] at p; cases hx : h x <;> simp_all
  · exact .inr p⟩

/-! ### Chunks -/
inductive Chunk where
  | pt (b : Nat) (o : Obj)
  | asn (A : HP → Prop)
/-- A row of cells. -/
abbrev Chunk.row (b : Nat) (xs : List Value) (e : TypeId) (fz : Nat × Nat := (0, 0)) : Chunk := .pt b (.cells xs.toArray e fz)
/-- A fact that takes no memory. -/
abbrev Chunk.pure (p : Prop) : Chunk := .asn fun _ => p

def Chunk.sat : Chunk → HP → Prop
  | .pt b o, h => h b = some o
  | .asn A, h => A h

def All : List Chunk → HP → Prop
  | [], _ => True
  | c :: L, h => ∃ h1 h2, HP.disj h1 h2 ∧ HP.sub h1 h ∧ HP.sub h2 h ∧ c.sat h1 ∧ All L h2

theorem All.mono {h k : HP} (s : HP.sub h k) : ∀ {L : List Chunk}, All L h → All L k
  | [], _ => trivial
  | _ :: _, ⟨h1, h2, d, s1, s2, c, r⟩ => ⟨h1, h2, d, s1.trans s, s2.trans s, c, r⟩

theorem all_append {h : HP} : ∀ {A R : List Chunk}, All (A ++ R) h ↔ ∃ h1 h2, HP.disj h1 h2 ∧ HP.sub h1 h ∧ HP.sub h2 h ∧ All A h1 ∧ All R h2 := by
  intro A
  induction A generalizing h with
  | nil =>
    intro R
    constructor
    · exact fun r => ⟨fun _ => none, h, fun _ => .inl rfl, (fun _ _ e => by cases e), HP.sub.refl _, trivial, r⟩
    · exact fun ⟨_, _, _, _, s, _, r⟩ => r.mono s
  | cons c A ih =>
    intro R
    constructor
    · rintro ⟨h1, h2, d, s1, s2, hc, hr⟩
      obtain ⟨k1, k2, d', t1, t2, ha, hr'⟩ := ih.1 hr
      refine ⟨HP.union h1 k1, k2, HP.disj_union ((d.symm.symm).symm.symm |> fun d => (HP.disj_sub d.symm t2).symm) d', HP.union_sub s1 (t1.trans s2), t2.trans s2, ⟨h1, k1, (HP.disj_sub d.symm t1).symm, HP.sub_union_left _ _, HP.sub_union_right ((HP.disj_sub d.symm t1).symm), hc, ha⟩, hr'⟩
    · rintro ⟨h1, h2, d, s1, s2, ⟨k1, k2, d', t1, t2, hc, ha⟩, hr⟩
      refine ⟨k1, HP.union k2 h2, ?_, t1.trans s1, HP.union_sub (t2.trans s1) s2, hc, ih.2 ⟨k2, h2, HP.disj_sub d t2, HP.sub_union_left _ _, HP.sub_union_right (HP.disj_sub d t2), ha, hr⟩⟩
      exact (HP.disj_union d'.symm (HP.disj_sub d t1).symm).symm

/-- One out of a list. -/
inductive Sel {α : Type} : List α → α → List α → Prop where
  | here {c : α} {L : List α} : Sel (c :: L) c L
  | there {c d : α} {L R : List α} : Sel L c R → Sel (d :: L) c (d :: R)
/-- Some out of a list. -/
inductive Take {α : Type} : List α → List α → List α → Prop where
  | nil {L : List α} : Take L [] L
  | cons {c : α} {L M A R : List α} : Sel L c M → Take M A R → Take L (c :: A) R

theorem All.sel {L R : List Chunk} {c : Chunk} (s : Sel L c R) : ∀ {h : HP}, All L h → All (c :: R) h := by
  induction s with
  | here => exact fun a => a
  | there _ ih =>
    rintro h ⟨h1, h2, d, s1, s2, hc, hr⟩
    obtain ⟨k1, k2, d', t1, t2, hc', hr'⟩ := ih hr
    refine ⟨k1, HP.union h1 k2, ?_, t1.trans s2, HP.union_sub s1 (t2.trans s2), hc', h1, k2, (HP.disj_sub d.symm t2).symm, HP.sub_union_left _ _, HP.sub_union_right ((HP.disj_sub d.symm t2).symm), hc, hr'⟩
    exact (HP.disj_union (HP.disj_sub d.symm t1).symm d'.symm).symm

theorem All.take {L A R : List Chunk} (t : Take L A R) : ∀ {h : HP}, All L h → All (A ++ R) h := by
  induction t with
  | nil => exact fun a => a
  | cons s _ ih =>
    intro h a
    obtain ⟨h1, h2, d, s1, s2, hc, hr⟩ := a.sel s
    exact ⟨h1, h2, d, s1, s2, hc, ih hr⟩

theorem All.drop_right {A R : List Chunk} {h : HP} (a : All (A ++ R) h) : All A h := by
  obtain ⟨h1, h2, d, s1, s2, ha, _⟩ := all_append.1 a
  exact ha.mono s1

/-! ### What holds of a world -/
def fzOf : Option Obj → Nat × Nat
  | some (.cells _ _ f) => f
  | _ => (0, 0)
theorem frozen_at {w w' : World} (a : Addr) (h : fzOf w'.heap[a.block]? = fzOf w.heap[a.block]?) : w'.frozen? a = w.frozen? a := by
  have e : ∀ v : World, v.frozen? a = (decide ((fzOf v.heap[a.block]?).1 ≤ a.off) && decide (a.off < (fzOf v.heap[a.block]?).2)) := fun v => by
    unfold World.frozen? fzOf
    cases v.heap[a.block]? with
    | none => simp
    | some o => cases o <;> simp
  rw [e, e, h]
structure Ctx where
  sz : Nat
  fz : Nat → Nat × Nat
  hf : HP
  os : Os
  tape : Nat → Question → Nat
  output : Array (Nat × ByteArray)

structure Holds (Γ : Ctx) (L : List Chunk) (w : World) : Prop where
  os : w.os = Γ.os
  tape : w.tape = Γ.tape
  output : w.output = Γ.output
  frz : Γ.sz ≤ w.heap.size ∧ ∀ b : Nat, b < Γ.sz → fzOf w.heap[b]? = Γ.fz b
  frame : HP.sub Γ.hf (wheap w)
  own : ∃ h, HP.disj Γ.hf h ∧ HP.sub h (wheap w) ∧ All L h

variable {Γ : Ctx} {L R : List Chunk} {w : World}

theorem Holds.mono (hh : Holds Γ L w) (f : ∀ h, All L h → All R h) : Holds Γ R w :=
  ⟨hh.os, hh.tape, hh.output, hh.frz, hh.frame, let ⟨h, d, s, a⟩ := hh.own; ⟨h, d, s, f h a⟩⟩
theorem Holds.sel {c : Chunk} (hh : Holds Γ L w) (s : Sel L c R) : Holds Γ (c :: R) w := hh.mono fun _ => All.sel s
theorem Holds.take {A : List Chunk} (hh : Holds Γ L w) (t : Take L A R) : Holds Γ (A ++ R) w := hh.mono fun _ => All.take t
theorem Holds.takeDrop {A : List Chunk} (hh : Holds Γ L w) (t : Take L A R) : Holds Γ A w := hh.mono fun _ a => (All.take t a).drop_right

/-- The memory of the chunks R goes into the frame. -/
def Ctx.add (Γ : Ctx) (k : HP) : Ctx := { Γ with hf := HP.union Γ.hf k }

theorem Holds.split {A : List Chunk} (hh : Holds Γ (A ++ R) w) : ∃ k, HP.disj Γ.hf k ∧ All R k ∧ Holds (Γ.add k) A w := by
  obtain ⟨h, d, s, a⟩ := hh.own
  obtain ⟨h1, h2, d', s1, s2, ha, hr⟩ := all_append.1 a
  exact ⟨h2, (HP.disj_sub d.symm s2).symm, hr, hh.os, hh.tape, hh.output, hh.frz, HP.union_sub hh.frame (s2.trans s), h1, HP.disj_union (HP.disj_sub d.symm s1).symm d'.symm, s1.trans s, ha⟩

theorem Holds.join {A : List Chunk} {k : HP} (d : HP.disj Γ.hf k) (hr : All R k) (hh : Holds (Γ.add k) A w) : Holds Γ (A ++ R) w := by
  obtain ⟨h, d', s, a⟩ := hh.own
  obtain ⟨d1, d2⟩ := HP.disj_of_union d'
  have hfr := hh.frame
  refine ⟨hh.os, hh.tape, hh.output, hh.frz, (HP.sub_union_left _ _).trans hfr, HP.union h k, ?_, HP.union_sub s ((HP.sub_union_right d).trans hfr), all_append.2 ⟨h, k, d2.symm, HP.sub_union_left _ _, HP.sub_union_right d2.symm, a, hr⟩⟩
  exact (HP.disj_union d1.symm d.symm).symm

/-- A known block. -/
theorem Holds.block {b : Nat} {o : Obj} (hh : Holds Γ L w) (s : Sel L (.pt b o) R) : w.heap[b]? = some o := by
  obtain ⟨h, _, s', a⟩ := (hh.sel s).own
  obtain ⟨h1, _, _, s1, _, hc, _⟩ := a
  exact s' _ _ (s1 _ _ hc)

/-- The world that is like the old one but for one known block. -/
theorem Holds.update {b : Nat} {o o' : Obj} {w' : World} (hh : Holds Γ L w) (s : Sel L (.pt b o) R)
    (hos : w'.os = w.os) (htape : w'.tape = w.tape) (hout : w'.output = w.output) (hb : w'.heap[b]? = some o') (hz : fzOf (some o') = fzOf (some o)) (hrest0 : ∀ c, c ≠ b → w'.heap[c]? = w.heap[c]?) : Holds Γ (.pt b o' :: R) w' := by
  have hrest : ∀ c o, c ≠ b → w.heap[c]? = some o → w'.heap[c]? = some o := fun c o hc hx => by rw [hrest0 c hc]; exact hx
  have hs := hh.sel s
  have hbw := hh.block s
  obtain ⟨h, d, s', a⟩ := hs.own
  obtain ⟨h1, h2, d', s1, s2, hc, hr⟩ := a
  have hbf : Γ.hf b = none := (d b).resolve_right (by rw [s1 _ _ hc]; simp)
  have hb2 : h2 b = none := (d' b).resolve_left (by rw [hc]; simp)
  refine ⟨hos.trans hh.os, htape.trans hh.tape, hout.trans hh.output, ⟨?_, fun c hc' => ?_⟩, ?_, HP.union (HP.one b o') h2, ?_, ?_, HP.one b o', h2, ?_, HP.sub_union_left _ _, HP.sub_union_right ?_, ?_, hr⟩
  · rcases Nat.lt_or_ge w'.heap.size Γ.sz with hlt | hge
    · exfalso
      have h1 : w'.heap[w'.heap.size]? = none := by simp
      have h2 : w'.heap.size < w.heap.size := Nat.lt_of_lt_of_le hlt hh.frz.1
      by_cases e : w'.heap.size = b
      · rw [← e, h1] at hb; cases hb
      · rw [hrest0 _ e] at h1
        have := Array.getElem?_eq_none_iff.1 h1
        omega
    · exact hge
  · by_cases e : c = b
    · rw [← hh.frz.2 c hc', e, hb, hbw, hz]
    · rw [← hh.frz.2 c hc', hrest0 c e]
  · intro c x hx
    exact hrest c x (fun e => by rw [e, hbf] at hx; cases hx) (hh.frame c x hx)
  · intro c
    by_cases e : c = b
    · left; rw [e]; exact hbf
    · rcases d c with p | p
      · exact .inl p
      · right
        have : h2 c = none := by cases hx : h2 c with
          | none => rfl
          | some y => rw [s2 _ _ hx] at p; cases p
        simp [HP.union, HP.one, e, this]
  · refine HP.union_sub ?_ ?_
    · intro c x hx
      by_cases e : c = b
      · subst e; simp [HP.one] at hx; subst hx; exact hb
      · simp [HP.one, e] at hx
    · intro c x hx
      exact hrest c x (fun e => by rw [e, hb2] at hx; cases hx) (s' _ _ (s2 _ _ hx))
  · intro c
    by_cases e : c = b
    · right; rw [e]; exact hb2
    · left; simp [HP.one, e]
  · intro c
    by_cases e : c = b
    · right; rw [e]; exact hb2
    · left; simp [HP.one, e]
  · simp [Chunk.sat, HP.one]

/-- A new block. -/
theorem Holds.new {o : Obj} {w' : World} (hh : Holds Γ L w)
    (hos : w'.os = w.os) (htape : w'.tape = w.tape) (hout : w'.output = w.output) (hheap : w'.heap = w.heap.push o) (hz : fzOf (some o) = (0, 0)) : Holds Γ (.pt w.heap.size o :: L) w' := by
  obtain ⟨h, d, s, a⟩ := hh.own
  have hold : ∀ (c : Nat) (x : Obj), w.heap[c]? = some x → w'.heap[c]? = some x := fun c x hx => by
    have hc : c < w.heap.size := (Array.getElem?_eq_some_iff.1 hx).1
    rw [hheap, Array.getElem?_push, if_neg (by omega)]; exact hx
  have hno : ∀ {k : HP}, HP.sub k (wheap w) → k w.heap.size = none := fun {k} hk => by
    cases hx : k w.heap.size with
    | none => rfl
    | some x => have := hk _ _ hx; simp [wheap] at this
  refine ⟨hos.trans hh.os, htape.trans hh.tape, hout.trans hh.output, ⟨by rw [hheap, Array.size_push]; have := hh.frz.1; omega, fun c hc' => ?_⟩, fun c x hx => hold c x (hh.frame c x hx), HP.union (HP.one w.heap.size o) h, ?_, HP.union_sub ?_ (fun c x hx => hold c x (s c x hx)), HP.one w.heap.size o, h, ?_, HP.sub_union_left _ _, HP.sub_union_right ?_, ?_, a⟩
  · have hs := hh.frz.1
    rw [← hh.frz.2 c hc', hheap, Array.getElem?_push, if_neg (by omega)]
  · intro c
    by_cases e : c = w.heap.size
    · left; rw [e]; exact hno hh.frame
    · rcases d c with p | p
      · exact .inl p
      · right; simp [HP.union, HP.one, e, p]
  · intro c x hx
    by_cases e : c = w.heap.size
    · subst e; simp [HP.one] at hx; subst hx; simp [wheap, hheap]
    · simp [HP.one, e] at hx
  · intro c
    by_cases e : c = w.heap.size
    · right; rw [e]; exact hno s
    · left; simp [HP.one, e]
  · intro c
    by_cases e : c = w.heap.size
    · right; rw [e]; exact hno s
    · left; simp [HP.one, e]
  · simp [Chunk.sat, HP.one]

/-- New blocks, behind. -/
theorem Holds.later {w' : World} (hh : Holds Γ L w) (hos : w'.os = w.os) (htape : w'.tape = w.tape) (hout : w'.output = w.output) (hsz : w.heap.size ≤ w'.heap.size) (hold : ∀ c : Nat, c < w.heap.size → w'.heap[c]? = w.heap[c]?) : Holds Γ L w' := by
  obtain ⟨h, d, s, a⟩ := hh.own
  have hsub : ∀ {k : HP}, HP.sub k (wheap w) → HP.sub k (wheap w') := fun {k} hk c x hx => by
    have h1 : w.heap[c]? = some x := hk c x hx
    have h2 : c < w.heap.size := (Array.getElem?_eq_some_iff.1 h1).1
    show w'.heap[c]? = some x
    rw [hold c h2]; exact h1
  refine ⟨hos.trans hh.os, htape.trans hh.tape, hout.trans hh.output, ⟨Nat.le_trans hh.frz.1 hsz, fun c hc => ?_⟩, hsub hh.frame, h, d, hsub s, a⟩
  rw [← hh.frz.2 c hc, hold c (Nat.lt_of_lt_of_le hc hh.frz.1)]
theorem Holds.drew (hh : Holds Γ L w) (n : Nat) : Holds Γ L { w with drawn := n } := ⟨hh.os, hh.tape, hh.output, hh.frz, hh.frame, hh.own⟩

/-- Facts out of a chunk. -/
theorem Holds.get_pure {p : Prop} (hh : Holds Γ L w) (s : Sel L (Chunk.pure p) R) : p := by
  obtain ⟨h, _, _, a⟩ := (hh.sel s).own
  obtain ⟨_, _, _, _, _, hc, _⟩ := a
  exact hc

/-! ### Reading -/
/-- Whatever memory meets the chunk holds v at that address. -/
def Reads (c : Chunk) (a : Addr) (v : Value) : Prop := ∀ h, c.sat h → ∃ xs e fz, h a.block = some (.cells xs e fz) ∧ a.spot = none ∧ xs[a.off]? = some v

theorem Holds.cell {c : Chunk} {a : Addr} {v : Value} (hh : Holds Γ L w) (s : Sel L c R) (r : Reads c a v) : w.cell? a = some v := by
  obtain ⟨h, _, s', al⟩ := (hh.sel s).own
  obtain ⟨h1, _, _, s1, _, hc, _⟩ := al
  obtain ⟨xs, e, fz, hb, hsp, hv⟩ := r h1 hc
  have : w.heap[a.block]? = some (.cells xs e fz) := s' _ _ (s1 _ _ hb)
  simp [World.cell?, this, hsp, hv]

theorem reads_row {b off : Nat} {xs : List Value} {e : TypeId} {fz : Nat × Nat} {v : Value} (h : xs[off]? = some v) : Reads (.row b xs e fz) ⟨b, off, none⟩ v :=
  fun _ hc => ⟨_, _, _, hc, rfl, by simpa using h⟩

/-! ### The frame of slots -/
abbrev Fr := List (Nat × Value)
def look : Fr → Nat → Option Value
  | [], _ => none
  | (t, v) :: r, s => bif Nat.beq t s then some v else look r s
def ev (fr : Fr) : Operand → Option Value
  | .tmp t => look fr t
  | .const v => some v
  | .global g => some (.pointer (some ⟨g, 0, none⟩))
  | .func f => some (.func (.func f) #[] #[])
def Fr.ok (fr : Fr) (a : Act) : Prop := ∀ t v, look fr t = some v → a.tmps.getD t undef = v

theorem Fr.ok.ev {fr : Fr} {a : Act} (h : fr.ok a) {x : Operand} {v : Value} (e : ev fr x = some v) : a.eval x = v := by
  cases x with
  | tmp t => exact h t v e
  | const c => simp [Sl.ev] at e; exact e
  | global g => simp [Sl.ev] at e; rw [← e]; rfl
  | func f => simp [Sl.ev] at e; rw [← e]; rfl

theorem Fr.ok.put {fr : Fr} {a : Act} (h : fr.ok a) {d : Nat} (hd : d < a.tmps.size) (v : Value) : Fr.ok ((d, v) :: fr) (a.put (some d) v) := by
  intro t u e
  simp only [look] at e
  by_cases ht : d = t
  · subst ht
    simp at e
    subst e
    simp [Act.put, hd]
  · have : Nat.beq d t = false := by
      cases hb : Nat.beq d t with
      | false => rfl
      | true => exact absurd (Nat.eq_of_beq_eq_true hb) ht
    rw [this] at e
    have := h t u (by simpa using e)
    rw [← this]
    simp [Act.put, Array.getElem?_setIfInBounds_ne ht]

/-- All that the second frame says the first one says. -/
inductive FrSub : Fr → Fr → Prop where
  | nil {fr : Fr} : FrSub fr []
  | cons {fr fr' : Fr} {t : Nat} {v : Value} : look fr t = some v → FrSub fr fr' → FrSub fr ((t, v) :: fr')

theorem FrSub.look {fr fr' : Fr} (s : FrSub fr fr') : ∀ {t v}, Sl.look fr' t = some v → Sl.look fr t = some v := by
  induction s with
  | nil => intro t v h; simp [Sl.look] at h
  | @cons fr' t v h _ ih =>
    intro t' v' h'
    simp only [Sl.look] at h'
    cases hb : Nat.beq t t' with
    | true => rw [hb] at h'; simp at h'; subst h'; rw [← Nat.eq_of_beq_eq_true hb]; exact h
    | false => rw [hb] at h'; exact ih (by simpa using h')
theorem Fr.ok.sub {fr fr' : Fr} {a : Act} (h : fr.ok a) (s : FrSub fr fr') : fr'.ok a := fun t v e => h t v (s.look e)

/-! ### The judgement -/
def G (Γ : Ctx) (N : Nat) (fr : Fr) (L : List Chunk) (φ : Act → World → Prop) : Prop :=
  ∀ a w, a.tmps.size = N → a.defers = [] → fr.ok a → Holds Γ L w → φ a w

section
variable {N : Nat} {fr : Fr} {φ ψ : Act → World → Prop}
theorem G.mono (g : G Γ N fr L φ) (h : ∀ a w, φ a w → ψ a w) : G Γ N fr L ψ := fun a w hN hd hf hh => h a w (g a w hN hd hf hh)
theorem g_weak {fr' : Fr} (s : FrSub fr fr') (f : ∀ h, All L h → All R h) (g : G Γ N fr' R φ) : G Γ N fr L φ :=
  fun a w hN hd hf hh => g a w hN hd (hf.sub s) (hh.mono f)
theorem g_take {A : List Chunk} (t : Take L A R) (g : G Γ N fr (A ++ R) φ) : G Γ N fr L φ := fun a w hN hd hf hh => g a w hN hd hf (hh.take t)
theorem g_takeDrop {A : List Chunk} {fr' : Fr} (s : FrSub fr fr') (t : Take L A R) (g : G Γ N fr' A φ) : G Γ N fr L φ := fun a w hN hd hf hh => g a w hN hd (hf.sub s) (hh.takeDrop t)
theorem g_pure {p : Prop} (s : Sel L (Chunk.pure p) R) (g : p → G Γ N fr R φ) : G Γ N fr L φ := fun a w hN hd hf hh =>
  g (hh.get_pure s) a w hN hd hf ((hh.sel s).mono fun _ ⟨_, _, _, _, s2, _, r⟩ => r.mono s2)
/-- A chunk is opened. -/
theorem g_open {c : Chunk} {X : Type} {M : X → List Chunk} (s : Sel L c R) (o : ∀ h, c.sat h → ∃ x, All (M x) h) (g : ∀ x, G Γ N fr (M x ++ R) φ) : G Γ N fr L φ := by
  intro a w hN hd hf hh
  have hs := hh.sel s
  obtain ⟨h, d, s', h1, h2, d', s1, s2, hc, hr⟩ := hs.own
  obtain ⟨x, hx⟩ := o h1 hc
  exact g x a w hN hd hf ⟨hh.os, hh.tape, hh.output, hh.frz, hh.frame, h, d, s', all_append.2 ⟨h1, h2, d', s1, s2, hx, hr⟩⟩
/-- Some chunks are shut. -/
theorem g_shut {c : Chunk} {A : List Chunk} (t : Take L A R) (o : ∀ h, All A h → c.sat h) (g : G Γ N fr (c :: R) φ) : G Γ N fr L φ := by
  intro a w hN hd hf hh
  refine g a w hN hd hf ((hh.take t).mono fun h al => ?_)
  obtain ⟨h1, h2, d', s1, s2, hx, hr⟩ := all_append.1 al
  exact ⟨h1, h2, d', s1, s2, o h1 hx, hr⟩
theorem g_exists {X : Type} {A : X → HP → Prop} (s : Sel L (.asn fun h => ∃ x, A x h) R) (g : ∀ x, G Γ N fr (.asn (A x) :: R) φ) : G Γ N fr L φ :=
  g_open (M := fun x => [.asn (A x)]) s (fun h ⟨x, hx⟩ => ⟨x, h, fun _ => none, fun _ => .inr rfl, HP.sub.refl _, (fun _ _ e => by cases e), hx, trivial⟩) g
end
end Go.Sl
