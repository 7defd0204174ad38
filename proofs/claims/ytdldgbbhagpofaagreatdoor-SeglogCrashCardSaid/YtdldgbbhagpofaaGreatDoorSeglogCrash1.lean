/- Contracts and laws that the proof stands on. -/
import Derived.WalkKit
import Derived.ProofKit
import Derived.Great.BuildSlice
import Derived.Deep.MidRow
import Derived.Lib.FrozenHead
import Derived.Deep.LoopGhost
set_option linter.unusedSimpArgs false
set_option linter.unusedVariables false
namespace Go.Sl
abbrev HP := Nat → Option Obj
def HP.disj (h k : HP) : Prop := ∀ b, h b = none ∨ k b = none
def HP.sub (h k : HP) : Prop := ∀ b o, h b = some o → k b = some o
def HP.union (h k : HP) : HP := fun b => (h b).or (k b)
def HP.one (b : Nat) (o : Obj) : HP := fun c => if c = b then some o else none
def wheap (w : World) : HP := fun b => w.heap[b]?
theorem HP.disj.symm {h k : HP} (d : HP.disj h k) : HP.disj k h := fun b => (d b).symm
theorem HP.sub.refl (h : HP) : HP.sub h h := fun _ _ e => e
theorem HP.sub.trans {a b c : HP} (h : HP.sub a b) (k : HP.sub b c) : HP.sub a c := fun x o e => k x o (h x o e)
theorem HP.sub_union_left (h k : HP) : HP.sub h (HP.union h k) := fun b o e => by simp [HP.union, e]
theorem HP.sub_union_right {h k : HP} (d : HP.disj h k) : HP.sub k (HP.union h k) := fun b o e => by
  rcases d b with x | x
  · simp [HP.union, x, e]
  · rw [x] at e; cases e
theorem HP.union_sub {h k m : HP} (a : HP.sub h m) (b : HP.sub k m) : HP.sub (HP.union h k) m := fun x o e => by
  simp only [HP.union] at e
  cases hx : h x with
  | none => rw [hx] at e; exact b x o (by simpa using e)
  | some y => rw [hx] at e; simp at e; subst e; exact a x _ hx
theorem HP.disj_sub {h h' k : HP} (d : HP.disj h k) (s : HP.sub h' h) : HP.disj h' k := fun b => by
  rcases d b with x | x
  · cases hx : h' b with
    | none => exact .inl rfl
    | some o => rw [s b o hx] at x; cases x
  · exact .inr x
theorem HP.disj_union {h k m : HP} (a : HP.disj h m) (b : HP.disj k m) : HP.disj (HP.union h k) m := fun x => by
  rcases a x with p | p
  · rcases b x with q | q
    · left; simp [HP.union, p, q]
    · exact .inr q
  · exact .inr p
theorem HP.disj_of_union {h k m : HP} (a : HP.disj (HP.union h k) m) : HP.disj h m ∧ HP.disj k m := ⟨fun x => by
  rcases a x with p | p
  · left; simp only [HP.union] at p; cases hx : h x <;> simp_all
  · exact .inr p, fun x => by
  rcases a x with p | p
  · left; simp only [HP.union] at p; cases hx : h x <;> simp_all
  · exact .inr p⟩
inductive Chunk where
  | pt (b : Nat) (o : Obj)
  | asn (A : HP → Prop)
abbrev Chunk.row (b : Nat) (xs : List Value) (e : TypeId) (fz : Nat × Nat := (0, 0)) : Chunk := .pt b (.cells xs.toArray e fz)
abbrev Chunk.pure (p : Prop) : Chunk := .asn fun _ => p
def Chunk.sat : Chunk → HP → Prop
  | .pt b o, h => h b = some o
  | .asn A, h => A h
def All : List Chunk → HP → Prop
  | [], _ => True
  | c :: L, h => ∃ h1 h2, HP.disj h1 h2 ∧ HP.sub h1 h ∧ HP.sub h2 h ∧ c.sat h1 ∧ All L h2
theorem All.mono {h k : HP} (s : HP.sub h k) : ∀ {L : List Chunk}, All L h → All L k
  | [], _ => trivial
  | _ :: _, ⟨h1, h2, d, s1, s2, c, r⟩ => ⟨h1, h2, d, s1.trans s, s2.trans s, c, r⟩
theorem all_append {h : HP} : ∀ {A R : List Chunk}, All (A ++ R) h ↔ ∃ h1 h2, HP.disj h1 h2 ∧ HP.sub h1 h ∧ HP.sub h2 h ∧ All A h1 ∧ All R h2 := by
  intro A
  induction A generalizing h with
  | nil =>
    intro R
    constructor
    · exact fun r => ⟨fun _ => none, h, fun _ => .inl rfl, (fun _ _ e => by cases e), HP.sub.refl _, trivial, r⟩
    · exact fun ⟨_, _, _, _, s, _, r⟩ => r.mono s
  | cons c A ih =>
    intro R
    constructor
    · rintro ⟨h1, h2, d, s1, s2, hc, hr⟩
      obtain ⟨k1, k2, d', t1, t2, ha, hr'⟩ := ih.1 hr
      refine ⟨HP.union h1 k1, k2, HP.disj_union ((d.symm.symm).symm.symm |> fun d => (HP.disj_sub d.symm t2).symm) d', HP.union_sub s1 (t1.trans s2), t2.trans s2, ⟨h1, k1, (HP.disj_sub d.symm t1).symm, HP.sub_union_left _ _, HP.sub_union_right ((HP.disj_sub d.symm t1).symm), hc, ha⟩, hr'⟩
    · rintro ⟨h1, h2, d, s1, s2, ⟨k1, k2, d', t1, t2, hc, ha⟩, hr⟩
      refine ⟨k1, HP.union k2 h2, ?_, t1.trans s1, HP.union_sub (t2.trans s1) s2, hc, ih.2 ⟨k2, h2, HP.disj_sub d t2, HP.sub_union_left _ _, HP.sub_union_right (HP.disj_sub d t2), ha, hr⟩⟩
      exact (HP.disj_union d'.symm (HP.disj_sub d t1).symm).symm
inductive Sel {α : Type} : List α → α → List α → Prop where
  | here {c : α} {L : List α} : Sel (c :: L) c L
  | there {c d : α} {L R : List α} : Sel L c R → Sel (d :: L) c (d :: R)
inductive Take {α : Type} : List α → List α → List α → Prop where
  | nil {L : List α} : Take L [] L
  | cons {c : α} {L M A R : List α} : Sel L c M → Take M A R → Take L (c :: A) R
theorem All.sel {L R : List Chunk} {c : Chunk} (s : Sel L c R) : ∀ {h : HP}, All L h → All (c :: R) h := by
  induction s with
  | here => exact fun a => a
  | there _ ih =>
    rintro h ⟨h1, h2, d, s1, s2, hc, hr⟩
    obtain ⟨k1, k2, d', t1, t2, hc', hr'⟩ := ih hr
    refine ⟨k1, HP.union h1 k2, ?_, t1.trans s2, HP.union_sub s1 (t2.trans s2), hc', h1, k2, (HP.disj_sub d.symm t2).symm, HP.sub_union_left _ _, HP.sub_union_right ((HP.disj_sub d.symm t2).symm), hc, hr'⟩
    exact (HP.disj_union (HP.disj_sub d.symm t1).symm d'.symm).symm
theorem All.take {L A R : List Chunk} (t : Take L A R) : ∀ {h : HP}, All L h → All (A ++ R) h := by
  induction t with
  | nil => exact fun a => a
  | cons s _ ih =>
    intro h a
    obtain ⟨h1, h2, d, s1, s2, hc, hr⟩ := a.sel s
    exact ⟨h1, h2, d, s1, s2, hc, ih hr⟩
theorem All.drop_right {A R : List Chunk} {h : HP} (a : All (A ++ R) h) : All A h := by
  obtain ⟨h1, h2, d, s1, s2, ha, _⟩ := all_append.1 a
  exact ha.mono s1
def fzOf : Option Obj → Nat × Nat
  | some (.cells _ _ f) => f
  | _ => (0, 0)
theorem frozen_at {w w' : World} (a : Addr) (h : fzOf w'.heap[a.block]? = fzOf w.heap[a.block]?) : w'.frozen? a = w.frozen? a := by
  have e : ∀ v : World, v.frozen? a = (decide ((fzOf v.heap[a.block]?).1 ≤ a.off) && decide (a.off < (fzOf v.heap[a.block]?).2)) := fun v => by
    unfold World.frozen? fzOf
    cases v.heap[a.block]? with
    | none => simp
    | some o => cases o <;> simp
  rw [e, e, h]
structure Ctx where
  sz : Nat
  fz : Nat → Nat × Nat
  hf : HP
  os : Os
  tape : Nat → Question → Nat
  output : Array (Nat × ByteArray)
  /-- The calls that the activation has put off. -/
  df : List Deferred
structure Holds (Γ : Ctx) (L : List Chunk) (w : World) : Prop where
  os : w.os = Γ.os
  tape : w.tape = Γ.tape
  output : w.output = Γ.output
  frz : Γ.sz ≤ w.heap.size ∧ ∀ b : Nat, b < Γ.sz → fzOf w.heap[b]? = Γ.fz b
  frame : HP.sub Γ.hf (wheap w)
  own : ∃ h, HP.disj Γ.hf h ∧ HP.sub h (wheap w) ∧ All L h
variable {Γ : Ctx} {L R : List Chunk} {w : World}
theorem Holds.mono (hh : Holds Γ L w) (f : ∀ h, All L h → All R h) : Holds Γ R w :=
  ⟨hh.os, hh.tape, hh.output, hh.frz, hh.frame, let ⟨h, d, s, a⟩ := hh.own; ⟨h, d, s, f h a⟩⟩
theorem Holds.sel {c : Chunk} (hh : Holds Γ L w) (s : Sel L c R) : Holds Γ (c :: R) w := hh.mono fun _ => All.sel s
theorem Holds.take {A : List Chunk} (hh : Holds Γ L w) (t : Take L A R) : Holds Γ (A ++ R) w := hh.mono fun _ => All.take t
theorem Holds.takeDrop {A : List Chunk} (hh : Holds Γ L w) (t : Take L A R) : Holds Γ A w := hh.mono fun _ a => (All.take t a).drop_right
def Ctx.add (Γ : Ctx) (k : HP) : Ctx := { Γ with hf := HP.union Γ.hf k }
theorem Holds.split {A : List Chunk} (hh : Holds Γ (A ++ R) w) : ∃ k, HP.disj Γ.hf k ∧ All R k ∧ Holds (Γ.add k) A w := by
  obtain ⟨h, d, s, a⟩ := hh.own
  obtain ⟨h1, h2, d', s1, s2, ha, hr⟩ := all_append.1 a
  exact ⟨h2, (HP.disj_sub d.symm s2).symm, hr, hh.os, hh.tape, hh.output, hh.frz, HP.union_sub hh.frame (s2.trans s), h1, HP.disj_union (HP.disj_sub d.symm s1).symm d'.symm, s1.trans s, ha⟩
theorem Holds.join {A : List Chunk} {k : HP} (d : HP.disj Γ.hf k) (hr : All R k) (hh : Holds (Γ.add k) A w) : Holds Γ (A ++ R) w := by
  obtain ⟨h, d', s, a⟩ := hh.own
  obtain ⟨d1, d2⟩ := HP.disj_of_union d'
  have hfr := hh.frame
  refine ⟨hh.os, hh.tape, hh.output, hh.frz, (HP.sub_union_left _ _).trans hfr, HP.union h k, ?_, HP.union_sub s ((HP.sub_union_right d).trans hfr), all_append.2 ⟨h, k, d2.symm, HP.sub_union_left _ _, HP.sub_union_right d2.symm, a, hr⟩⟩
  exact (HP.disj_union d1.symm d.symm).symm
theorem Holds.block {b : Nat} {o : Obj} (hh : Holds Γ L w) (s : Sel L (.pt b o) R) : w.heap[b]? = some o := by
  obtain ⟨h, _, s', a⟩ := (hh.sel s).own
  obtain ⟨h1, _, _, s1, _, hc, _⟩ := a
  exact s' _ _ (s1 _ _ hc)
theorem Holds.update {b : Nat} {o o' : Obj} {w' : World} (hh : Holds Γ L w) (s : Sel L (.pt b o) R)
    (hos : w'.os = w.os) (htape : w'.tape = w.tape) (hout : w'.output = w.output) (hb : w'.heap[b]? = some o') (hz : fzOf (some o') = fzOf (some o)) (hrest0 : ∀ c, c ≠ b → w'.heap[c]? = w.heap[c]?) : Holds Γ (.pt b o' :: R) w' := by
  have hrest : ∀ c o, c ≠ b → w.heap[c]? = some o → w'.heap[c]? = some o := fun c o hc hx => by rw [hrest0 c hc]; exact hx
  have hs := hh.sel s
  have hbw := hh.block s
  obtain ⟨h, d, s', a⟩ := hs.own
  obtain ⟨h1, h2, d', s1, s2, hc, hr⟩ := a
  have hbf : Γ.hf b = none := (d b).resolve_right (by rw [s1 _ _ hc]; simp)
  have hb2 : h2 b = none := (d' b).resolve_left (by rw [hc]; simp)
  refine ⟨hos.trans hh.os, htape.trans hh.tape, hout.trans hh.output, ⟨?_, fun c hc' => ?_⟩, ?_, HP.union (HP.one b o') h2, ?_, ?_, HP.one b o', h2, ?_, HP.sub_union_left _ _, HP.sub_union_right ?_, ?_, hr⟩
  · rcases Nat.lt_or_ge w'.heap.size Γ.sz with hlt | hge
    · exfalso
      have h1 : w'.heap[w'.heap.size]? = none := by simp
      have h2 : w'.heap.size < w.heap.size := Nat.lt_of_lt_of_le hlt hh.frz.1
      by_cases e : w'.heap.size = b
      · rw [← e, h1] at hb; cases hb
      · rw [hrest0 _ e] at h1
        have := Array.getElem?_eq_none_iff.1 h1
        omega
    · exact hge
  · by_cases e : c = b
    · rw [← hh.frz.2 c hc', e, hb, hbw, hz]
    · rw [← hh.frz.2 c hc', hrest0 c e]
  · intro c x hx
    exact hrest c x (fun e => by rw [e, hbf] at hx; cases hx) (hh.frame c x hx)
  · intro c
    by_cases e : c = b
    · left; rw [e]; exact hbf
    · rcases d c with p | p
      · exact .inl p
      · right
        have : h2 c = none := by cases hx : h2 c with
          | none => rfl
          | some y => rw [s2 _ _ hx] at p; cases p
        simp [HP.union, HP.one, e, this]
  · refine HP.union_sub ?_ ?_
    · intro c x hx
      by_cases e : c = b
      · subst e; simp [HP.one] at hx; subst hx; exact hb
      · simp [HP.one, e] at hx
    · intro c x hx
      exact hrest c x (fun e => by rw [e, hb2] at hx; cases hx) (s' _ _ (s2 _ _ hx))
  · intro c
    by_cases e : c = b
    · right; rw [e]; exact hb2
    · left; simp [HP.one, e]
  · intro c
    by_cases e : c = b
    · right; rw [e]; exact hb2
    · left; simp [HP.one, e]
  · simp [Chunk.sat, HP.one]
theorem Holds.new {o : Obj} {w' : World} (hh : Holds Γ L w)
    (hos : w'.os = w.os) (htape : w'.tape = w.tape) (hout : w'.output = w.output) (hheap : w'.heap = w.heap.push o) (hz : fzOf (some o) = (0, 0)) : Holds Γ (.pt w.heap.size o :: L) w' := by
  obtain ⟨h, d, s, a⟩ := hh.own
  have hold : ∀ (c : Nat) (x : Obj), w.heap[c]? = some x → w'.heap[c]? = some x := fun c x hx => by
    have hc : c < w.heap.size := (Array.getElem?_eq_some_iff.1 hx).1
    rw [hheap, Array.getElem?_push, if_neg (by omega)]; exact hx
  have hno : ∀ {k : HP}, HP.sub k (wheap w) → k w.heap.size = none := fun {k} hk => by
    cases hx : k w.heap.size with
    | none => rfl
    | some x => have := hk _ _ hx; simp [wheap] at this
  refine ⟨hos.trans hh.os, htape.trans hh.tape, hout.trans hh.output, ⟨by rw [hheap, Array.size_push]; have := hh.frz.1; omega, fun c hc' => ?_⟩, fun c x hx => hold c x (hh.frame c x hx), HP.union (HP.one w.heap.size o) h, ?_, HP.union_sub ?_ (fun c x hx => hold c x (s c x hx)), HP.one w.heap.size o, h, ?_, HP.sub_union_left _ _, HP.sub_union_right ?_, ?_, a⟩
  · have hs := hh.frz.1
    rw [← hh.frz.2 c hc', hheap, Array.getElem?_push, if_neg (by omega)]
  · intro c
    by_cases e : c = w.heap.size
    · left; rw [e]; exact hno hh.frame
    · rcases d c with p | p
      · exact .inl p
      · right; simp [HP.union, HP.one, e, p]
  · intro c x hx
    by_cases e : c = w.heap.size
    · subst e; simp [HP.one] at hx; subst hx; simp [wheap, hheap]
    · simp [HP.one, e] at hx
  · intro c
    by_cases e : c = w.heap.size
    · right; rw [e]; exact hno s
    · left; simp [HP.one, e]
  · intro c
    by_cases e : c = w.heap.size
    · right; rw [e]; exact hno s
    · left; simp [HP.one, e]
  · simp [Chunk.sat, HP.one]
theorem Holds.later {w' : World} (hh : Holds Γ L w) (hos : w'.os = w.os) (htape : w'.tape = w.tape) (hout : w'.output = w.output) (hsz : w.heap.size ≤ w'.heap.size) (hold : ∀ c : Nat, c < w.heap.size → w'.heap[c]? = w.heap[c]?) : Holds Γ L w' := by
  obtain ⟨h, d, s, a⟩ := hh.own
  have hsub : ∀ {k : HP}, HP.sub k (wheap w) → HP.sub k (wheap w') := fun {k} hk c x hx => by
    have h1 : w.heap[c]? = some x := hk c x hx
    have h2 : c < w.heap.size := (Array.getElem?_eq_some_iff.1 h1).1
    show w'.heap[c]? = some x
    rw [hold c h2]; exact h1
  refine ⟨hos.trans hh.os, htape.trans hh.tape, hout.trans hh.output, ⟨Nat.le_trans hh.frz.1 hsz, fun c hc => ?_⟩, hsub hh.frame, h, d, hsub s, a⟩
  rw [← hh.frz.2 c hc, hold c (Nat.lt_of_lt_of_le hc hh.frz.1)]
theorem Holds.drew (hh : Holds Γ L w) (n : Nat) : Holds Γ L { w with drawn := n } := ⟨hh.os, hh.tape, hh.output, hh.frz, hh.frame, hh.own⟩
theorem Holds.get_pure {p : Prop} (hh : Holds Γ L w) (s : Sel L (Chunk.pure p) R) : p := by
  obtain ⟨h, _, _, a⟩ := (hh.sel s).own
  obtain ⟨_, _, _, _, _, hc, _⟩ := a
  exact hc
def Reads (c : Chunk) (a : Addr) (v : Value) : Prop := ∀ h, c.sat h → ∃ xs e fz, h a.block = some (.cells xs e fz) ∧ a.spot = none ∧ xs[a.off]? = some v
theorem Holds.cell {c : Chunk} {a : Addr} {v : Value} (hh : Holds Γ L w) (s : Sel L c R) (r : Reads c a v) : w.cell? a = some v := by
  obtain ⟨h, _, s', al⟩ := (hh.sel s).own
  obtain ⟨h1, _, _, s1, _, hc, _⟩ := al
  obtain ⟨xs, e, fz, hb, hsp, hv⟩ := r h1 hc
  have : w.heap[a.block]? = some (.cells xs e fz) := s' _ _ (s1 _ _ hb)
  simp [World.cell?, this, hsp, hv]
theorem reads_row {b off : Nat} {xs : List Value} {e : TypeId} {fz : Nat × Nat} {v : Value} (h : xs[off]? = some v) : Reads (.row b xs e fz) ⟨b, off, none⟩ v :=
  fun _ hc => ⟨_, _, _, hc, rfl, by simpa using h⟩
abbrev Fr := List (Nat × Value)
def look : Fr → Nat → Option Value
  | [], _ => none
  | (t, v) :: r, s => bif Nat.beq t s then some v else look r s
def ev (fr : Fr) : Operand → Option Value
  | .tmp t => look fr t
  | .const v => some v
  | .global g => some (.pointer (some ⟨g, 0, none⟩))
  | .func f => some (.func (.func f) #[] #[])
def Fr.ok (fr : Fr) (a : Act) : Prop := ∀ t v, look fr t = some v → a.tmps.getD t undef = v
theorem Fr.ok.ev {fr : Fr} {a : Act} (h : fr.ok a) {x : Operand} {v : Value} (e : ev fr x = some v) : a.eval x = v := by
  cases x with
  | tmp t => exact h t v e
  | const c => simp [Sl.ev] at e; exact e
  | global g => simp [Sl.ev] at e; rw [← e]; rfl
  | func f => simp [Sl.ev] at e; rw [← e]; rfl
theorem Fr.ok.put {fr : Fr} {a : Act} (h : fr.ok a) {d : Nat} (hd : d < a.tmps.size) (v : Value) : Fr.ok ((d, v) :: fr) (a.put (some d) v) := by
  intro t u e
  simp only [look] at e
  by_cases ht : d = t
  · subst ht
    simp at e
    subst e
    simp [Act.put, hd]
  · have : Nat.beq d t = false := by
      cases hb : Nat.beq d t with
      | false => rfl
      | true => exact absurd (Nat.eq_of_beq_eq_true hb) ht
    rw [this] at e
    have := h t u (by simpa using e)
    rw [← this]
    simp [Act.put, Array.getElem?_setIfInBounds_ne ht]
inductive FrSub : Fr → Fr → Prop where
  | nil {fr : Fr} : FrSub fr []
  | cons {fr fr' : Fr} {t : Nat} {v : Value} : look fr t = some v → FrSub fr fr' → FrSub fr ((t, v) :: fr')
theorem FrSub.look {fr fr' : Fr} (s : FrSub fr fr') : ∀ {t v}, Sl.look fr' t = some v → Sl.look fr t = some v := by
  induction s with
  | nil => intro t v h; simp [Sl.look] at h
  | @cons fr' t v h _ ih =>
    intro t' v' h'
    simp only [Sl.look] at h'
    cases hb : Nat.beq t t' with
    | true => rw [hb] at h'; simp at h'; subst h'; rw [← Nat.eq_of_beq_eq_true hb]; exact h
    | false => rw [hb] at h'; exact ih (by simpa using h')
theorem Fr.ok.sub {fr fr' : Fr} {a : Act} (h : fr.ok a) (s : FrSub fr fr') : fr'.ok a := fun t v e => h t v (s.look e)
def G (Γ : Ctx) (N : Nat) (fr : Fr) (L : List Chunk) (φ : Act → World → Prop) : Prop :=
  ∀ a w, a.tmps.size = N → a.defers = Γ.df → fr.ok a → Holds Γ L w → φ a w
section
variable {N : Nat} {fr : Fr} {φ ψ : Act → World → Prop}
theorem G.mono (g : G Γ N fr L φ) (h : ∀ a w, φ a w → ψ a w) : G Γ N fr L ψ := fun a w hN hd hf hh => h a w (g a w hN hd hf hh)
theorem g_weak {fr' : Fr} (s : FrSub fr fr') (f : ∀ h, All L h → All R h) (g : G Γ N fr' R φ) : G Γ N fr L φ :=
  fun a w hN hd hf hh => g a w hN hd (hf.sub s) (hh.mono f)
theorem g_take {A : List Chunk} (t : Take L A R) (g : G Γ N fr (A ++ R) φ) : G Γ N fr L φ := fun a w hN hd hf hh => g a w hN hd hf (hh.take t)
theorem g_takeDrop {A : List Chunk} {fr' : Fr} (s : FrSub fr fr') (t : Take L A R) (g : G Γ N fr' A φ) : G Γ N fr L φ := fun a w hN hd hf hh => g a w hN hd (hf.sub s) (hh.takeDrop t)
theorem g_pure {p : Prop} (s : Sel L (Chunk.pure p) R) (g : p → G Γ N fr R φ) : G Γ N fr L φ := fun a w hN hd hf hh =>
  g (hh.get_pure s) a w hN hd hf ((hh.sel s).mono fun _ ⟨_, _, _, _, s2, _, r⟩ => r.mono s2)
theorem g_open {c : Chunk} {X : Type} {M : X → List Chunk} (s : Sel L c R) (o : ∀ h, c.sat h → ∃ x, All (M x) h) (g : ∀ x, G Γ N fr (M x ++ R) φ) : G Γ N fr L φ := by
  intro a w hN hd hf hh
  have hs := hh.sel s
  obtain ⟨h, d, s', h1, h2, d', s1, s2, hc, hr⟩ := hs.own
  obtain ⟨x, hx⟩ := o h1 hc
  exact g x a w hN hd hf ⟨hh.os, hh.tape, hh.output, hh.frz, hh.frame, h, d, s', all_append.2 ⟨h1, h2, d', s1, s2, hx, hr⟩⟩
theorem g_shut {c : Chunk} {A : List Chunk} (t : Take L A R) (o : ∀ h, All A h → c.sat h) (g : G Γ N fr (c :: R) φ) : G Γ N fr L φ := by
  intro a w hN hd hf hh
  refine g a w hN hd hf ((hh.take t).mono fun h al => ?_)
  obtain ⟨h1, h2, d', s1, s2, hx, hr⟩ := all_append.1 al
  exact ⟨h1, h2, d', s1, s2, o h1 hx, hr⟩
theorem g_exists {X : Type} {A : X → HP → Prop} (s : Sel L (.asn fun h => ∃ x, A x h) R) (g : ∀ x, G Γ N fr (.asn (A x) :: R) φ) : G Γ N fr L φ :=
  g_open (M := fun x => [.asn (A x)]) s (fun h ⟨x, hx⟩ => ⟨x, h, fun _ => none, fun _ => .inr rfl, HP.sub.refl _, (fun _ _ e => by cases e), hx, trivial⟩) g
end
end Go.Sl

namespace Go.Sl
variable {P : Program} {Γ : Ctx} {L R : List Chunk} {N : Nat} {fr : Fr} {Q : Exit → Act → World → Prop} {ops : Array Oper} {rest : List Oper}
class TOne (P : Program) (t : TypeId) : Prop where
  row : (P.underlying t).map TypeDesc.isRow = some false
  size : (P.info? t).map (·.size) = some 1
class TAgg (P : Program) (t : TypeId) (n : outParam Nat) : Prop where
  row : (P.underlying t).map TypeDesc.isRow = some true
  size : (P.info? t).map (·.size) = some n
class TSize (P : Program) (t : TypeId) (n : outParam Nat) : Prop where
  size : (P.info? t).map (·.size) = some n
class TZero (P : Program) (t : TypeId) (z : outParam Value) : Prop where
  zero : (P.info? t).bind (·.zero) = some z
class TDesc (P : Program) (t : TypeId) (d : outParam TypeDesc) : Prop where
  desc : P.underlying t = some d
def fieldOff (P : Program) (s : TypeId) (f : Nat) : Option (Nat × Nat) :=
  match P.underlying s with
  | some (.struct fs) => match fs[f]? with
    | some fd => match (P.info? fd.type).map (·.size) with
      | some n => some (fd.offset, n)
      | none => none
    | none => none
  | _ => none
class FOff (P : Program) (s : TypeId) (f : Nat) (off n : outParam Nat) : Prop where
  off : fieldOff P s f = some (off, n)
  pos : Nat.ble 1 n = true
class Callable (P : Program) (f : FuncId) : Prop where
  call : ∀ args w, (callFunc f args).run P w = .ok (.enter f args) w
theorem callable {f : FuncId} (h : (P.funcs[f]?).map (fun fn => (fn.name == "runtime.NumGoroutine", fn.body.isNone)) = some (false, false)) : Callable P f := ⟨fun args w => by
  cases hf : P.funcs[f]? with
  | none => simp [hf] at h
  | some fn =>
    simp only [hf, Option.map_some, Option.some.injEq, Prod.mk.injEq] at h
    have h1 : ¬ fn.name = "runtime.NumGoroutine" := by simpa using h.1
    have h2 : ¬ fn.body = none := fun e => by have := h.2; simp [e] at this
    simp [callFunc, hf, h1, h2]⟩
theorem run_sizeOf' {t : TypeId} {n : Nat} (h : (P.info? t).map (·.size) = some n) (w : World) : (sizeOf t).run P w = .ok n w := by
  cases hi : P.info? t with
  | none => simp [hi] at h
  | some i => simp only [hi, Option.map_some, Option.some.injEq] at h; simp [sizeOf, typeInfo, hi, h]
theorem run_isAgg' {t : TypeId} {b : Bool} (h : (P.underlying t).map TypeDesc.isRow = some b) (w : World) : (isAgg t).run P w = .ok b w := by
  cases hu : P.underlying t with
  | none => simp [hu] at h
  | some d =>
    simp only [hu, Option.map_some, Option.some.injEq] at h
    unfold isAgg
    rw [Sem.run_bind, run_underlying hu w]
    cases d <;> simp_all [TypeDesc.isRow]
theorem run_zeroValue' {t : TypeId} {z : Value} (h : (P.info? t).bind (·.zero) = some z) (w : World) : (zeroValue t).run P w = .ok z w := by
  cases hi : P.info? t with
  | none => simp [hi] at h
  | some i => simp only [hi, Option.bind_some] at h; simp [zeroValue, typeInfo, hi, h]
theorem g_seq {x y : Code} (g : G Γ N fr L (x.wp P (Exit.then (y.wp P Q) Q))) : G Γ N fr L ((Code.seq x y).wp P Q) := g.mono fun _ _ h => wp_seq h
theorem g_skip (g : G Γ N fr L (Q .normal)) : G Γ N fr L (Code.skip.wp P Q) := g.mono fun _ _ h => wp_skip h
theorem g_label {l : Nat} (g : G Γ N fr L (Q .normal)) : G Γ N fr L ((Code.label l).wp P Q) := g.mono fun _ _ h => wp_label h
theorem g_exit {id : Nat} (g : G Γ N fr L (Q (.exit id))) : G Γ N fr L ((Code.exit id).wp P Q) := g.mono fun _ _ h => wp_exit h
theorem g_retc (g : G Γ N fr L (Q .ret)) : G Γ N fr L (Code.ret.wp P Q) := g.mono fun _ _ h => wp_ret h
theorem g_block {id : Nat} {c : Code} (g : G Γ N fr L (c.wp P (Exit.inBlock id Q))) : G Γ N fr L ((Code.block id c).wp P Q) := g.mono fun _ _ h => wp_block h
theorem g_region {id : Nat} {l : List Oper} (g : G Γ N fr L (wpList P l.toArray Q l)) : G Γ N fr L ((Code.region id l.toArray false).wp P Q) := g.mono fun _ _ h => wp_region_lit h
theorem g_nil (g : G Γ N fr L (Q .normal)) : G Γ N fr L (wpList P ops Q []) := g
theorem g_cond {c : Operand} {x y : Code} {t : Bool} (hc : ev fr c = some (.bool t)) (gt : t = true → G Γ N fr L (x.wp P Q)) (gf : t = false → G Γ N fr L (y.wp P Q)) : G Γ N fr L ((Code.cond c x y).wp P Q) :=
  fun a w hN hd hf hh => wp_cond_split (hf.ev hc) (fun h => gt h a w hN hd hf hh) (fun h => gf h a w hN hd hf hh)
theorem g_cond_true {c : Operand} {x y : Code} (hc : ev fr c = some (.bool true)) (g : G Γ N fr L (x.wp P Q)) : G Γ N fr L ((Code.cond c x y).wp P Q) :=
  g_cond hc (fun _ => g) (fun h => by cases h)
theorem g_cond_false {c : Operand} {x y : Code} (hc : ev fr c = some (.bool false)) (g : G Γ N fr L (y.wp P Q)) : G Γ N fr L ((Code.cond c x y).wp P Q) :=
  g_cond hc (fun h => by cases h) (fun _ => g)
theorem g_cond_dec {c : Operand} {x y : Code} {p : Prop} {i : Decidable p} (hc : ev fr c = some (.bool (@decide p i))) (gt : p → G Γ N fr L (x.wp P Q)) (gf : ¬ p → G Γ N fr L (y.wp P Q)) : G Γ N fr L ((Code.cond c x y).wp P Q) :=
  g_cond hc (fun h => gt (of_decide_eq_true h)) (fun h => gf (of_decide_eq_false h))
theorem g_then_normal {K : Act → World → Prop} (g : G Γ N fr L K) : G Γ N fr L (Exit.then K Q .normal) := g
theorem g_then_ret {K : Act → World → Prop} (g : G Γ N fr L (Q .ret)) : G Γ N fr L (Exit.then K Q .ret) := g
theorem g_then_exit {K : Act → World → Prop} {i : Nat} (g : G Γ N fr L (Q (.exit i))) : G Γ N fr L (Exit.then K Q (.exit i)) := g
theorem g_in_normal {i : Nat} (g : G Γ N fr L (Q .normal)) : G Γ N fr L (Exit.inBlock i Q .normal) := g
theorem g_in_ret {i : Nat} (g : G Γ N fr L (Q .ret)) : G Γ N fr L (Exit.inBlock i Q .ret) := g
theorem g_in_exit {i : Nat} (g : G Γ N fr L (Q .normal)) : G Γ N fr L (Exit.inBlock i Q (.exit i)) := g.mono fun _ _ h => by simpa [Exit.inBlock] using h
theorem g_in_other {i j : Nat} (hn : Nat.beq j i = false) (g : G Γ N fr L (Q (.exit j))) : G Γ N fr L (Exit.inBlock i Q (.exit j)) := g.mono fun _ _ h => by
  have : j ≠ i := fun e => by subst e; simp at hn
  simpa [Exit.inBlock, this] using h
def Back {X : Type} (Γ : Ctx) (N : Nat) (fr : X → Fr) (L : X → List Chunk) (φ : X → Prop) (μ : X → Nat) (x : X) : Act → World → Prop :=
  fun a w => ∃ x', μ x' < μ x ∧ φ x' ∧ a.tmps.size = N ∧ a.defers = Γ.df ∧ (fr x').ok a ∧ Holds Γ (L x') w
theorem g_loop {X : Type} {c : Code} (F : X → Fr) (M : X → List Chunk) (φ : X → Prop) (μ : X → Nat) (x₀ : X) (h₀ : φ x₀) (s : FrSub fr (F x₀)) (t : Take L (M x₀) R)
    (round : ∀ x, φ x → G Γ N (F x) (M x) (c.wp P (Exit.then (Back Γ N F M φ μ x) Q))) : G Γ N fr L ((Code.loop c).wp P Q) := by
  intro a w hN hd hf hh
  refine wp_loop_ghost (fun n a w => ∃ x, μ x = n ∧ φ x ∧ a.tmps.size = N ∧ a.defers = Γ.df ∧ (F x).ok a ∧ Holds Γ (M x) w) (μ x₀) ⟨x₀, rfl, h₀, hN, hd, hf.sub s, hh.takeDrop t⟩ ?_
  rintro n a w ⟨x, rfl, hx, hN, hd, hf, hh⟩
  refine wp_mono (round x hx a w hN hd hf hh) ?_
  intro e a' w' hq
  cases e with
  | normal => obtain ⟨x', hlt, h⟩ := hq; exact ⟨μ x', hlt, x', rfl, h⟩
  | exit id => exact hq
  | goto l => exact hq
  | ret => exact hq
  | panic ch => exact hq
  | outgrown => exact hq
theorem g_again {X : Type} {F : X → Fr} {M : X → List Chunk} {φ : X → Prop} {μ : X → Nat} {x : X} (x' : X) (lt : μ x' < μ x) (hx : φ x') (s : FrSub fr (F x')) (t : Take L (M x') R) : G Γ N fr L (Back Γ N F M φ μ x) :=
  fun _ _ hN hd hf hh => ⟨x', lt, hx, hN, hd, hf.sub s, hh.takeDrop t⟩
def yieldIn (ops : Array Oper) (fr : Fr) (j : Nat) : Option Value :=
  match (ops[j]?).bind (·.dst) with
  | some t => look fr t
  | none => none
def runsB (ops : Array Oper) (fr : Fr) : Option (Nat × Bool) → Bool
  | none => true
  | some (j, c) => match yieldIn ops fr j with
    | some (.bool b) => b == c
    | _ => false
abbrev Runs (ops : Array Oper) (fr : Fr) (g : Option (Nat × Bool)) : Prop := runsB ops fr g = true
def skipsB (ops : Array Oper) (fr : Fr) : Option (Nat × Bool) → Bool
  | none => false
  | some (j, c) => match yieldIn ops fr j with
    | some (.bool b) => !(b == c)
    | some (.tuple _) => true
    | _ => false
abbrev Skips (ops : Array Oper) (fr : Fr) (g : Option (Nat × Bool)) : Prop := skipsB ops fr g = true
def asB : Value → Option Bool
  | .bool b => some b
  | _ => none
theorem yieldIn_ok {a : Act} (hf : fr.ok a) {j : Nat} {v : Value} (h : yieldIn ops fr j = some v) : yielded ops a.tmps j = asB v := by
  unfold yieldIn at h
  unfold yielded
  cases ht : (ops[j]?).bind (·.dst) with
  | none => simp [ht] at h
  | some t =>
    simp only [ht] at h
    have e := hf t v h
    simp only [Option.bind_some]
    cases hg : a.tmps[t]? with
    | none =>
      rw [Array.getD_eq_getD_getElem?, hg] at e
      simp only [Option.getD_none] at e
      subst e
      rfl
    | some u =>
      rw [Array.getD_eq_getD_getElem?, hg] at e
      simp only [Option.getD_some] at e
      subst e
      cases u <;> rfl
theorem runs_wanted {a : Act} {o : Oper} (hf : fr.ok a) (h : Runs ops fr o.guard) : Region.wanted o (yielded ops a.tmps) = true := by
  unfold Region.wanted
  unfold Runs runsB at h
  cases hg : o.guard with
  | none => rfl
  | some g =>
    obtain ⟨j, c⟩ := g
    simp only [hg] at h
    split at h
    · rename_i b hb
      simp only [yieldIn_ok hf hb, asB]
      rw [eq_of_beq h]
      simp
    · cases h
theorem skips_wanted {a : Act} {o : Oper} (hf : fr.ok a) (h : Skips ops fr o.guard) : Region.wanted o (yielded ops a.tmps) = false := by
  unfold Region.wanted
  unfold Skips skipsB at h
  cases hg : o.guard with
  | none => simp [hg] at h
  | some g =>
    obtain ⟨j, c⟩ := g
    simp only [hg] at h
    split at h
    · rename_i b hb
      simp only [yieldIn_ok hf hb, asB]
      simpa using h
    · rename_i vs hb
      simp [yieldIn_ok hf hb, asB]
    · cases h
theorem blt_lt {d N : Nat} (h : Nat.blt d N = true) : d < N := Nat.le_of_ble_eq_true h
def resIn (P : Program) (R : Value → World → Prop) : Result Next → Prop
  | .ok (.value u) w => R u w
  | .ok .skip w => R undef w
  | .ok (.enter f args) w => Calls P f args w fun e w' => ∃ u, e = .returned u ∧ R u w'
  | _ => False
def opRes (P : Program) (o : Oper) (a : Act) (w : World) (R : Value → World → Prop) : Prop := resIn P R ((execOp a.eval o).run P w)
theorem opRes.mono {o : Oper} {a : Act} {w : World} {R R' : Value → World → Prop} (h : opRes P o a w R) (f : ∀ u w, R u w → R' u w) : opRes P o a w R' := by
  unfold opRes at *
  generalize (execOp a.eval o).run P w = r at *
  cases r with
  | ok n w' =>
    cases n <;> simp only [resIn] at h ⊢
    case value u => exact f _ _ h
    case skip => exact f _ _ h
    case enter g args => exact h.mono fun e w'' ⟨u, he, hu⟩ => ⟨u, he, f _ _ hu⟩
  | halt x w' => simp only [resIn] at h
theorem opRes.wp {o : Oper} {a : Act} {w : World} {K : Act → World → Prop} (h : opRes P o a w fun u w' => K (a.put o.dst u) w') : o.wp P a w K Q := by
  unfold opRes at h
  unfold Oper.wp
  generalize (execOp a.eval o).run P w = r at *
  cases r with
  | ok n w' =>
    cases n <;> simp only [resIn] at h <;> simp only [Oper.upon]
    case value u => exact h
    case skip => exact h
    case enter g args => exact h.mono fun e w'' ⟨u, he, hu⟩ => by subst he; exact hu
  | halt x w' => simp only [resIn] at h
def QStep (P : Program) (Γ : Ctx) (fr : Fr) (o : Oper) (v : Value) : Prop := ∀ a, fr.ok a → ∀ L w, Holds Γ L w → opRes P o a w fun u w' => u = v ∧ Holds Γ L w'
def VStep (P : Program) (Γ : Ctx) (fr : Fr) (L : List Chunk) (o : Oper) (v : Value) : Prop := ∀ a, fr.ok a → ∀ w, Holds Γ L w → opRes P o a w fun u w' => u = v ∧ Holds Γ L w'
def CStep (P : Program) (Γ : Ctx) (fr : Fr) (L : List Chunk) (o : Oper) {X : Type} (V : X → Value) (M : X → List Chunk) (φ : X → Prop) : Prop :=
  ∀ a, fr.ok a → ∀ w, Holds Γ L w → opRes P o a w fun u w' => ∃ x, φ x ∧ u = V x ∧ Holds Γ (M x) w'
def SStep (P : Program) (Γ : Ctx) (fr : Fr) (L : List Chunk) (o : Oper) (M : List Chunk) : Prop := ∀ a, fr.ok a → ∀ w, Holds Γ L w → opRes P o a w fun _ w' => Holds Γ M w'
theorem QStep.v {o : Oper} {v : Value} (q : QStep P Γ fr o v) : VStep P Γ fr L o v := fun a hf w hh => q a hf L w hh
theorem VStep.c {o : Oper} {v : Value} (q : VStep P Γ fr L o v) : CStep P Γ fr L o (X := Unit) (fun _ => v) (fun _ => L) (fun _ => True) := fun a hf w hh => (q a hf w hh).mono fun u w' ⟨e, h⟩ => ⟨(), trivial, e, h⟩
theorem SStep.c {o : Oper} {M : List Chunk} (q : SStep P Γ fr L o M) (hd : o.dst = none) : ∀ a, fr.ok a → ∀ w, Holds Γ L w → opRes P o a w fun _ w' => Holds Γ M w' := by
  have := hd
  exact q
theorem qs_of {o : Oper} {v : Value} (h : ∀ a w, fr.ok a → (execOp a.eval o).run P w = .ok (.value v) w) : QStep P Γ fr o v := fun a hf L w hh => by
  unfold opRes; rw [h a w hf]; exact ⟨rfl, hh⟩
theorem vs_of {o : Oper} {v : Value} (h : ∀ a w, fr.ok a → Holds Γ L w → (execOp a.eval o).run P w = .ok (.value v) w) : VStep P Γ fr L o v := fun a hf w hh => by
  unfold opRes; rw [h a w hf hh]; exact ⟨rfl, hh⟩
theorem cs_of {o : Oper} {X : Type} {V : X → Value} {M : X → List Chunk} {φ : X → Prop} (h : ∀ a w, fr.ok a → Holds Γ L w → ∃ x w', φ x ∧ (execOp a.eval o).run P w = .ok (.value (V x)) w' ∧ Holds Γ (M x) w') : CStep P Γ fr L o V M φ := fun a hf w hh => by
  obtain ⟨x, w', hx, hr, hh'⟩ := h a w hf hh
  unfold opRes; rw [hr]; exact ⟨x, hx, rfl, hh'⟩
theorem ss_of {o : Oper} {M : List Chunk} (h : ∀ a w, fr.ok a → Holds Γ L w → ∃ w', (execOp a.eval o).run P w = .ok .skip w' ∧ Holds Γ M w') : SStep P Γ fr L o M := fun a hf w hh => by
  obtain ⟨w', hr, hh'⟩ := h a w hf hh
  unfold opRes; rw [hr]; exact hh'
theorem g_ops {o : Oper} (g : G Γ N fr L (wpList P ops Q (o :: rest))) : G Γ N fr L (wpList P ops Q (o :: rest)) := g
theorem g_step {o : Oper} (hg : Runs ops fr o.guard) (h : ∀ a w, a.tmps.size = N → a.defers = Γ.df → fr.ok a → Holds Γ L w → opRes P o a w fun u w' => wpList P ops Q rest (a.put o.dst u) w') : G Γ N fr L (wpList P ops Q (o :: rest)) := by
  intro a w hs hdf hf hh
  unfold wpList
  rw [if_pos (runs_wanted hf hg)]
  exact .inl (opRes.wp (h a w hs hdf hf hh))
section
variable {d : Nat} {op : Op} {ty : TypeId} {pos : String} {aft : Array Edge} {gd : Option (Nat × Bool)} {v : Value}
theorem g_c {X : Type} {V : X → Value} {M : X → List Chunk} {φ : X → Prop} (q : CStep P Γ fr L ⟨some d, op, ty, pos, aft, gd⟩ V M φ) (hg : Runs ops fr gd) (hN : Nat.blt d N = true)
    (k : ∀ x, φ x → G Γ N ((d, V x) :: fr) (M x) (wpList P ops Q rest)) : G Γ N fr L (wpList P ops Q (⟨some d, op, ty, pos, aft, gd⟩ :: rest)) :=
  g_step hg fun a w hs hdf hf hh => (q a hf w hh).mono fun u w' ⟨x, hx, hu, hh'⟩ => by
    subst hu
    exact k x hx _ _ (by simp [Act.put, hs]) hdf (hf.put (by rw [hs]; exact blt_lt hN) _) hh'
theorem g_n {V : Nat → Value} {M : Nat → List Chunk} (q : CStep P Γ fr L ⟨some d, op, ty, pos, aft, gd⟩ V M (fun _ => True)) (hg : Runs ops fr gd) (hN : Nat.blt d N = true)
    (k : ∀ x, G Γ N ((d, V x) :: fr) (M x) (wpList P ops Q rest)) : G Γ N fr L (wpList P ops Q (⟨some d, op, ty, pos, aft, gd⟩ :: rest)) := g_c q hg hN fun x _ => k x
theorem g_v (q : VStep P Γ fr L ⟨some d, op, ty, pos, aft, gd⟩ v) (hg : Runs ops fr gd) (hN : Nat.blt d N = true) (k : G Γ N ((d, v) :: fr) L (wpList P ops Q rest)) : G Γ N fr L (wpList P ops Q (⟨some d, op, ty, pos, aft, gd⟩ :: rest)) :=
  g_c q.c hg hN fun _ _ => k
theorem g_q (q : QStep P Γ fr ⟨some d, op, ty, pos, aft, gd⟩ v) (hg : Runs ops fr gd) (hN : Nat.blt d N = true) (k : G Γ N ((d, v) :: fr) L (wpList P ops Q rest)) : G Γ N fr L (wpList P ops Q (⟨some d, op, ty, pos, aft, gd⟩ :: rest)) :=
  g_v q.v hg hN k
theorem g_s {M : List Chunk} (q : SStep P Γ fr L ⟨none, op, ty, pos, aft, gd⟩ M) (hg : Runs ops fr gd) (k : G Γ N fr M (wpList P ops Q rest)) : G Γ N fr L (wpList P ops Q (⟨none, op, ty, pos, aft, gd⟩ :: rest)) :=
  g_step hg fun a w hs hdf hf hh => (q a hf w hh).mono fun u w' hh' => k _ _ hs hdf hf hh'
end
theorem g_skipOp {o : Oper} {d : Nat} (hg : Skips ops fr o.guard) (hd : o.dst = some d) (hN : Nat.blt d N = true)
    (k : G Γ N ((d, undef) :: fr) L (wpList P ops Q rest)) : G Γ N fr L (wpList P ops Q (o :: rest)) := by
  intro a w hs hdf hf hh
  unfold wpList
  rw [skips_wanted hf hg, hd]
  exact k _ _ (by simp [Act.put, hs]) hdf (hf.put (by rw [hs]; exact blt_lt hN) _) hh
theorem g_skipOp0 {o : Oper} (hg : Skips ops fr o.guard) (hd : o.dst = none)
    (k : G Γ N fr L (wpList P ops Q rest)) : G Γ N fr L (wpList P ops Q (o :: rest)) := by
  intro a w hs hdf hf hh
  unfold wpList
  rw [skips_wanted hf hg, hd]
  exact k _ _ hs hdf hf hh
theorem g_part {φ : Act → World → Prop} (d : Nat) {t : Bool} (h : look fr d = some (.bool t)) (gt : t = true → G Γ N ((d, .bool true) :: fr) L φ) (gf : t = false → G Γ N ((d, .bool false) :: fr) L φ) : G Γ N fr L φ := by
  intro a w hs hdf hf hh
  have : ∀ b, t = b → Fr.ok ((d, .bool b) :: fr) a := by
    intro b hb t' v e
    subst hb
    simp only [look] at e
    cases hq : Nat.beq d t' with
    | true => rw [hq] at e; simp at e; subst e; rw [← Nat.eq_of_beq_eq_true hq]; exact hf d _ h
    | false => rw [hq] at e; exact hf t' v (by simpa using e)
  cases t with
  | true => exact gt rfl a w hs hdf (this true rfl) hh
  | false => exact gf rfl a w hs hdf (this false rfl) hh
theorem g_guard {o : Oper} {j : Nat} {c t : Bool} {d : Nat} (hg : o.guard = some (j, c)) (hj : (ops[j]?).bind (·.dst) = some d) (h : look fr d = some (.bool t))
    (gt : t = true → G Γ N ((d, .bool true) :: fr) L (wpList P ops Q (o :: rest))) (gf : t = false → G Γ N ((d, .bool false) :: fr) L (wpList P ops Q (o :: rest))) : G Γ N fr L (wpList P ops Q (o :: rest)) := by
  have := hg; have := hj
  exact g_part d h gt gf
theorem g_guard_dec {o : Oper} {j : Nat} {c : Bool} {p : Prop} {i : Decidable p} {d : Nat} (hg : o.guard = some (j, c)) (hj : (ops[j]?).bind (·.dst) = some d) (h : look fr d = some (.bool (@decide p i)))
    (gt : p → G Γ N ((d, .bool true) :: fr) L (wpList P ops Q (o :: rest))) (gf : ¬ p → G Γ N ((d, .bool false) :: fr) L (wpList P ops Q (o :: rest))) : G Γ N fr L (wpList P ops Q (o :: rest)) :=
  g_guard hg hj h (fun h => gt (of_decide_eq_true h)) (fun h => gf (of_decide_eq_false h))
section
variable {d : Nat} {ty : TypeId} {pos : String} {aft : Array Edge} {gd : Option (Nat × Bool)} {x y : Operand} {v u : Value} {t t2 : TypeId}
theorem qs_move (hx : ev fr x = some v) : QStep P Γ fr ⟨some d, .move x, ty, pos, aft, gd⟩ (v) :=
  qs_of (fun a w hf => by simp [execOp, hf.ev hx])
theorem qs_assign (hx : ev fr x = some v) : QStep P Γ fr ⟨some d, .assign x, ty, pos, aft, gd⟩ (v) :=
  qs_of (fun a w hf => by simp [execOp, hf.ev hx])
theorem qs_pick_true {c : Operand} (hc : ev fr c = some (.bool true)) (hx : ev fr x = some v) : QStep P Γ fr ⟨some d, .pick c x y, ty, pos, aft, gd⟩ (v) :=
  qs_of (fun a w hf => by simp [execOp, hf.ev hx, hf.ev hc, asBool])
theorem qs_pick_false {c : Operand} (hc : ev fr c = some (.bool false)) (hy : ev fr y = some v) : QStep P Γ fr ⟨some d, .pick c x y, ty, pos, aft, gd⟩ (v) :=
  qs_of (fun a w hf => by simp [execOp, hf.ev hy, hf.ev hc, asBool])
theorem qs_extract {i : Nat} {vs : List Value} (hx : ev fr x = some (.tuple vs.toArray)) (hv : vs[i]? = some v) : QStep P Γ fr ⟨some d, .extract x i, ty, pos, aft, gd⟩ (v) :=
  qs_of (fun a w hf => by simp [execOp, hf.ev hx, Instr.extract, hv])
theorem qs_nilCheck {p : Addr} (hx : ev fr x = some (.pointer (some p))) : QStep P Γ fr ⟨some d, .nilCheck x, ty, pos, aft, gd⟩ (.pointer (some p)) :=
  qs_of (fun a w hf => by simp [execOp, hf.ev hx])
theorem qs_not {b : Bool} (hx : ev fr x = some (.bool b)) : QStep P Γ fr ⟨some d, .unOp .not t x, ty, pos, aft, gd⟩ (.bool (!b)) :=
  qs_of (fun a w hf => by simp [execOp, hf.ev hx, Op.unary])
theorem qs_not_true (hx : ev fr x = some (.bool true)) : QStep P Γ fr ⟨some d, .unOp .not t x, ty, pos, aft, gd⟩ (.bool false) :=
  qs_not hx
theorem qs_not_false (hx : ev fr x = some (.bool false)) : QStep P Γ fr ⟨some d, .unOp .not t x, ty, pos, aft, gd⟩ (.bool true) :=
  qs_not hx
theorem qs_not_dec {p : Prop} [Decidable p] (hx : ev fr x = some (.bool (decide p))) : QStep P Γ fr ⟨some d, .unOp .not t x, ty, pos, aft, gd⟩ (.bool (decide (¬ p))) :=
  by have := qs_not (P := P) (Γ := Γ) (d := d) (ty := ty) (pos := pos) (aft := aft) (gd := gd) (t := t) hx; simpa using this
section
variable {i j : IntKind} {a b : Int}
theorem qs_lss (hx : ev fr x = some (.int i a)) (hy : ev fr y = some (.int i b)) : QStep P Γ fr ⟨some d, .binOp .lss t x y t2, ty, pos, aft, gd⟩ (.bool (decide (a < b))) :=
  qs_of (fun a w hf => by simp [execOp, hf.ev hx, hf.ev hy, eqGuard_at_int, binOp_lss])
theorem qs_leq (hx : ev fr x = some (.int i a)) (hy : ev fr y = some (.int i b)) : QStep P Γ fr ⟨some d, .binOp .leq t x y t2, ty, pos, aft, gd⟩ (.bool (decide (a ≤ b))) :=
  qs_of (fun a w hf => by simp [execOp, hf.ev hx, hf.ev hy, eqGuard_at_int, binOp_leq])
theorem qs_gtr (hx : ev fr x = some (.int i a)) (hy : ev fr y = some (.int i b)) : QStep P Γ fr ⟨some d, .binOp .gtr t x y t2, ty, pos, aft, gd⟩ (.bool (decide (b < a))) :=
  qs_of (fun a w hf => by simp [execOp, hf.ev hx, hf.ev hy, eqGuard_at_int, binOp_gtr])
theorem qs_geq (hx : ev fr x = some (.int i a)) (hy : ev fr y = some (.int i b)) : QStep P Γ fr ⟨some d, .binOp .geq t x y t2, ty, pos, aft, gd⟩ (.bool (decide (b ≤ a))) :=
  qs_of (fun a w hf => by simp [execOp, hf.ev hx, hf.ev hy, eqGuard_at_int, binOp_geq])
theorem qs_eql (hx : ev fr x = some (.int i a)) (hy : ev fr y = some (.int i b)) : QStep P Γ fr ⟨some d, .binOp .eql t x y t2, ty, pos, aft, gd⟩ (.bool (decide (a = b))) :=
  qs_of (fun c w hf => by
    have : (a == b) = decide (a = b) := by by_cases h : a = b <;> simp [h]
    simp [execOp, hf.ev hx, hf.ev hy, eqGuard_at_int, binOp_eql, this])
theorem qs_neq (hx : ev fr x = some (.int i a)) (hy : ev fr y = some (.int i b)) : QStep P Γ fr ⟨some d, .binOp .neq t x y t2, ty, pos, aft, gd⟩ (.bool (decide (a ≠ b))) :=
  qs_of (fun c w hf => by
    have : (a != b) = decide (a ≠ b) := by by_cases h : a = b <;> simp [h]
    simp [execOp, hf.ev hx, hf.ev hy, eqGuard_at_int, binOp_neq, this])
theorem qs_add (hx : ev fr x = some (.int i a)) (hy : ev fr y = some (.int i b)) : QStep P Γ fr ⟨some d, .binOp .add t x y t2, ty, pos, aft, gd⟩ (.int i (i.wrap (a + b))) :=
  qs_of (fun a w hf => by simp [execOp, hf.ev hx, hf.ev hy, eqGuard_at_int, binOp_add, Op.intArith])
theorem qs_sub (hx : ev fr x = some (.int i a)) (hy : ev fr y = some (.int i b)) : QStep P Γ fr ⟨some d, .binOp .sub t x y t2, ty, pos, aft, gd⟩ (.int i (i.wrap (a - b))) :=
  qs_of (fun a w hf => by simp [execOp, hf.ev hx, hf.ev hy, eqGuard_at_int, binOp_sub, Op.intArith])
theorem qs_mul (hx : ev fr x = some (.int i a)) (hy : ev fr y = some (.int i b)) : QStep P Γ fr ⟨some d, .binOp .mul t x y t2, ty, pos, aft, gd⟩ (.int i (i.wrap (a * b))) :=
  qs_of (fun a w hf => by simp [execOp, hf.ev hx, hf.ev hy, eqGuard_at_int, binOp_mul, Op.intArith])
def inI (z : Int) : Prop := -9223372036854775808 ≤ z ∧ z ≤ 9223372036854775807
theorem wrap_in {z : Int} (h : inI z) : IntKind.i64.wrap z = z := IntWalk.i64_in _ ⟨by have := h.1; omega, by have := h.2; omega⟩
theorem qs_addI (hx : ev fr x = some (.int .i64 a)) (hy : ev fr y = some (.int .i64 b)) (hr : inI (a + b)) : QStep P Γ fr ⟨some d, .binOp .add t x y t2, ty, pos, aft, gd⟩ (.int .i64 (a + b)) :=
  by have := qs_add (P := P) (Γ := Γ) (d := d) (ty := ty) (pos := pos) (aft := aft) (gd := gd) (t := t) (t2 := t2) hx hy; rwa [wrap_in hr] at this
theorem qs_subI (hx : ev fr x = some (.int .i64 a)) (hy : ev fr y = some (.int .i64 b)) (hr : inI (a - b)) : QStep P Γ fr ⟨some d, .binOp .sub t x y t2, ty, pos, aft, gd⟩ (.int .i64 (a - b)) :=
  by have := qs_sub (P := P) (Γ := Γ) (d := d) (ty := ty) (pos := pos) (aft := aft) (gd := gd) (t := t) (t2 := t2) hx hy; rwa [wrap_in hr] at this
theorem qs_mulI (hx : ev fr x = some (.int .i64 a)) (hy : ev fr y = some (.int .i64 b)) (hr : inI (a * b)) : QStep P Γ fr ⟨some d, .binOp .mul t x y t2, ty, pos, aft, gd⟩ (.int .i64 (a * b)) :=
  by have := qs_mul (P := P) (Γ := Γ) (d := d) (ty := ty) (pos := pos) (aft := aft) (gd := gd) (t := t) (t2 := t2) hx hy; rwa [wrap_in hr] at this
theorem qs_rem (hx : ev fr x = some (.int i a)) (hy : ev fr y = some (.int i b)) (hb : b ≠ 0) : QStep P Γ fr ⟨some d, .binOp .rem t x y t2, ty, pos, aft, gd⟩ (.int i (a.tmod b)) :=
  qs_of (fun a w hf => by simp [execOp, hf.ev hx, hf.ev hy, eqGuard_at_int, binOp_rem, Op.intDiv, hb])
theorem qs_quo (hx : ev fr x = some (.int i a)) (hy : ev fr y = some (.int i b)) (hb : b ≠ 0) : QStep P Γ fr ⟨some d, .binOp .quo t x y t2, ty, pos, aft, gd⟩ (.int i (i.wrap (a.tdiv b))) :=
  qs_of (fun a w hf => by simp [execOp, hf.ev hx, hf.ev hy, eqGuard_at_int, binOp_quo, Op.intDiv, hb])
theorem qs_convInt {D : TypeDesc} [TDesc P t D] [TDesc P t2 (.int j)] (hx : ev fr x = some (.int i a)) : QStep P Γ fr ⟨some d, .convert t t2 x, ty, pos, aft, gd⟩ (.int j (j.wrap a)) :=
  qs_of (fun c w hf => by simp [execOp, hf.ev hx, convert, run_underlying (TDesc.desc (P := P) (t := t)), run_underlying (TDesc.desc (P := P) (t := t2)), Conv.intToInt])
end
theorem run_eqNilIn {e : TypeId} {p : Option Addr} (h : P.underlying t = some (.pointer e)) (w : World) (m : Nat) : (Op.equalIn (m + 1) t (.pointer p) (.pointer none)).run P w = .ok p.isNone w := by
  cases p <;> simp [Op.equalIn, run_underlying h]
theorem run_eqNil {e : TypeId} {p : Option Addr} (h : P.underlying t = some (.pointer e)) (w : World) : (Op.equal t (.pointer p) (.pointer none)).run P w = .ok p.isNone w := run_eqNilIn h w 9999
theorem qs_eqNil {e : TypeId} {p : Option Addr} [TDesc P t (.pointer e)] (hx : ev fr x = some (.pointer p)) (hy : ev fr y = some (.pointer none)) : QStep P Γ fr ⟨some d, .binOp .eql t x y t2, ty, pos, aft, gd⟩ (.bool p.isNone) :=
  qs_of (fun c w hf => by
    have hb : binOp .eql t (.pointer p) (.pointer none) = (do pure (.bool (← Op.equal t (.pointer p) (.pointer none)))) := by cases p <;> rfl
    simp only [execOp, hf.ev hx, hf.ev hy, eqGuard_at_pointer, hb]
    simp [run_eqNil (TDesc.desc (P := P) (t := t))])
theorem qs_neNil {e : TypeId} {p : Option Addr} [TDesc P t (.pointer e)] (hx : ev fr x = some (.pointer p)) (hy : ev fr y = some (.pointer none)) : QStep P Γ fr ⟨some d, .binOp .neq t x y t2, ty, pos, aft, gd⟩ (.bool p.isSome) :=
  qs_of (fun c w hf => by
    have hb : binOp .neq t (.pointer p) (.pointer none) = (do pure (.bool (!(← Op.equal t (.pointer p) (.pointer none))))) := by cases p <;> rfl
    simp only [execOp, hf.ev hx, hf.ev hy, eqGuard_at_pointer, hb]
    cases p <;> simp [run_eqNil (TDesc.desc (P := P) (t := t))])
theorem qs_eqNil_no {e : TypeId} {p : Addr} [TDesc P t (.pointer e)] (hx : ev fr x = some (.pointer (some p))) (hy : ev fr y = some (.pointer none)) : QStep P Γ fr ⟨some d, .binOp .eql t x y t2, ty, pos, aft, gd⟩ (.bool false) :=
  qs_eqNil hx hy
theorem qs_eqNil_yes {e : TypeId} [TDesc P t (.pointer e)] (hx : ev fr x = some (.pointer none)) (hy : ev fr y = some (.pointer none)) : QStep P Γ fr ⟨some d, .binOp .eql t x y t2, ty, pos, aft, gd⟩ (.bool true) :=
  qs_eqNil hx hy
theorem qs_neNil_yes {e : TypeId} {p : Addr} [TDesc P t (.pointer e)] (hx : ev fr x = some (.pointer (some p))) (hy : ev fr y = some (.pointer none)) : QStep P Γ fr ⟨some d, .binOp .neq t x y t2, ty, pos, aft, gd⟩ (.bool true) :=
  qs_neNil hx hy
theorem qs_neNil_no {e : TypeId} [TDesc P t (.pointer e)] (hx : ev fr x = some (.pointer none)) (hy : ev fr y = some (.pointer none)) : QStep P Γ fr ⟨some d, .binOp .neq t x y t2, ty, pos, aft, gd⟩ (.bool false) :=
  qs_neNil hx hy
theorem qs_binOp {op : BinOp} {a b : Value} (hx : ev fr x = some a) (hy : ev fr y = some b) (hr : ∀ w, (do eqGuard op t x y a b; binOp op t a b : Sem Value).run P w = .ok v w) : QStep P Γ fr ⟨some d, .binOp op t x y t2, ty, pos, aft, gd⟩ (v) :=
  qs_of (fun c w hf => by
    have := hr w
    simp only [execOp, hf.ev hx, hf.ev hy]
    rw [Sem.run_bind, this]
    rfl)
theorem toList_inj {a b : ByteArray} : a.toList = b.toList ↔ a = b := by
  constructor
  · intro h
    rw [ByteArray.toList_eq, ByteArray.toList_eq] at h
    exact ByteArray.ext (Array.ext' h)
  · rintro rfl; rfl
theorem qs_eqlS {a b : ByteArray} (hx : ev fr x = some (.string a)) (hy : ev fr y = some (.string b)) : QStep P Γ fr ⟨some d, .binOp .eql t x y t2, ty, pos, aft, gd⟩ (.bool (decide (a = b))) :=
  qs_of (fun c w hf => by
    have : (a.toList == b.toList) = decide (a = b) := by by_cases h : a = b <;> simp [h, toList_inj]
    simp [execOp, hf.ev hx, hf.ev hy, eqGuard_at_string, binOp, Op.stringOp, this])
theorem qs_neqS {a b : ByteArray} (hx : ev fr x = some (.string a)) (hy : ev fr y = some (.string b)) : QStep P Γ fr ⟨some d, .binOp .neq t x y t2, ty, pos, aft, gd⟩ (.bool (decide (a ≠ b))) :=
  qs_of (fun c w hf => by
    have : (a.toList == b.toList) = decide (a = b) := by by_cases h : a = b <;> simp [h, toList_inj]
    simp [execOp, hf.ev hx, hf.ev hy, eqGuard_at_string, binOp, Op.stringOp, this])
end
end Go.Sl
