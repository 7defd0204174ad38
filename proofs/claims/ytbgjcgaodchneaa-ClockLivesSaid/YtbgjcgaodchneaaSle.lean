/- Part 5: cuts where ways meet again; regions that leave their order open. -/
import Derived.Test.YtbgjcgaodchneaaSld
import Derived.Deep.Quiet
set_option linter.unusedSimpArgs false
set_option linter.unusedVariables false
namespace Go.Sl
variable {P : Program} {Γ : Ctx} {L R : List Chunk} {N : Nat} {fr : Fr} {Q : Exit → Act → World → Prop} {ops : Array Oper} {rest : List Oper}

/-! ### A cut -/
def MidQ (Γ : Ctx) (N : Nat) (fr : Fr) (L : List Chunk) : Exit → Act → World → Prop
  | .normal, a, w => a.tmps.size = N ∧ a.defers = [] ∧ fr.ok a ∧ Holds Γ L w
  | _, _, _ => False
theorem g_mid {fr' : Fr} {L' : List Chunk} (s : FrSub fr fr') (t : Take L L' R) : G Γ N fr L (MidQ Γ N fr' L' .normal) :=
  fun _ _ hN hd hf hh => ⟨hN, hd, hf.sub s, hh.takeDrop t⟩
/-- All that the second frame says of other slots the first one says. -/
inductive FrBut (d : Nat) : Fr → Fr → Prop where
  | nil {fr : Fr} : FrBut d fr []
  | cons {fr fr' : Fr} {t : Nat} {v : Value} : look fr t = some v → FrBut d fr fr' → FrBut d fr ((t, v) :: fr')
  | same {fr fr' : Fr} {v : Value} : FrBut d fr fr' → FrBut d fr ((d, v) :: fr')
  | refl {fr : Fr} : FrBut d fr fr
  | tail {fr fr' : Fr} {t : Nat} {v : Value} : Sl.look fr' t = none → FrBut d fr fr' → FrBut d ((t, v) :: fr) fr'
  | tailD {fr fr' : Fr} {v : Value} : FrBut d fr fr' → FrBut d ((d, v) :: fr) fr'
theorem FrBut.look {d : Nat} {fr fr' : Fr} (s : FrBut d fr fr') : ∀ {t v}, Nat.beq d t = false → Sl.look fr' t = some v → Sl.look fr t = some v := by
  induction s with
  | nil => intro t v _ h; simp [Sl.look] at h
  | @cons fr fr' t v h _ ih =>
    intro t' v' hne h'
    simp only [Sl.look] at h'
    cases hb : Nat.beq t t' with
    | true => rw [hb] at h'; simp at h'; subst h'; rw [← Nat.eq_of_beq_eq_true hb]; exact h
    | false => rw [hb] at h'; exact ih hne (by simpa using h')
  | same _ ih =>
    intro t' v' hne h'
    simp only [Sl.look, hne] at h'
    exact ih hne (by simpa using h')
  | refl => exact fun _ h => h
  | @tail fr fr' t v h _ ih =>
    intro t' v' hne h'
    simp only [Sl.look]
    cases hb : Nat.beq t t' with
    | true => rw [← Nat.eq_of_beq_eq_true hb, h] at h'; cases h'
    | false => simpa using ih hne h'
  | tailD _ ih =>
    intro t' v' hne h'
    simp only [Sl.look, hne]
    simpa using ih hne h'
theorem Fr.ok.but {d : Nat} {v : Value} {fr fr' : Fr} {a : Act} (h : fr.ok a) (hd : Sl.look fr d = some v) (s : FrBut d fr fr') : Fr.ok ((d, v) :: fr') a := by
  intro t u e
  simp only [Sl.look] at e
  cases hb : Nat.beq d t with
  | true => rw [hb] at e; simp at e; subst e; rw [← Nat.eq_of_beq_eq_true hb]; exact h d _ hd
  | false => rw [hb] at e; exact h t u (s.look hb (by simpa using e))
theorem g_midB {d : Nat} {v : Value} {fr' : Fr} {L' : List Chunk} (h : look fr d = some v) (s : FrBut d fr fr') (t : Take L L' R) : G Γ N fr L (MidQ Γ N ((d, v) :: fr') L' .normal) :=
  fun _ _ hN hd hf hh => ⟨hN, hd, hf.but h s, hh.takeDrop t⟩
/-- What stands behind a piece of code is shown once, of the frame and the chunks that are named. -/
theorem g_cutC {c : Code} {fr' : Fr} {L' : List Chunk} (h : G Γ N fr L (c.wp P (MidQ Γ N fr' L'))) (k : G Γ N fr' L' (Q .normal)) : G Γ N fr L (c.wp P Q) := by
  intro a w hN hd hf hh
  refine wp_mono (h a w hN hd hf hh) ?_
  intro e a' w' hq
  cases e with
  | normal => exact k a' w' hq.1 hq.2.1 hq.2.2.1 hq.2.2.2
  | exit id => exact hq.elim
  | goto l => exact hq.elim
  | ret => exact hq.elim
  | panic ch => exact hq.elim
  | outgrown => exact hq.elim
/-- .. of a region that reckons one truth. -/
theorem g_regB {id : Nat} {l : List Oper} {u : Bool} (d : Nat) (h : G Γ N fr L (wpList P l.toArray (MidQ Γ N ((d, .bool u) :: fr) L) l)) (k : G Γ N ((d, .bool u) :: fr) L (Q .normal)) :
    G Γ N fr L ((Code.region id l.toArray false).wp P Q) := g_cutC (g_region h) k
theorem g_regV {id : Nat} {l : List Oper} {fr' : Fr} {L' : List Chunk} (h : G Γ N fr L (wpList P l.toArray (MidQ Γ N fr' L') l)) (k : G Γ N fr' L' (Q .normal)) :
    G Γ N fr L ((Code.region id l.toArray false).wp P Q) := g_cutC (g_region h) k
def litB : Value → Bool
  | .bool true => true
  | .bool false => true
  | _ => true
/-- (A look: the guard's truth is written out.) -/
theorem g_lit {o : Oper} {j : Nat} {c : Bool} {dm : Nat} (hg : o.guard = some (j, c)) (hj : (ops[j]?).bind (·.dst) = some dm) (h : (look fr dm).map litB = some true) (g : G Γ N fr L (wpList P ops Q (o :: rest))) : G Γ N fr L (wpList P ops Q (o :: rest)) := by
  have := hg; have := hj; have := h
  exact g
/-- A guard is parted; the two ways meet at the cut. -/
theorem g_partM {o : Oper} {j : Nat} {c : Bool} {p : Prop} {i : Decidable p} {u1 u2 : Bool} {d dm : Nat} {fr0 : Fr} {L0 : List Chunk} (hg : o.guard = some (j, c)) (hj : (ops[j]?).bind (·.dst) = some dm) (h : look fr dm = some (.bool (@decide p i)))
    (gt : p → G Γ N ((dm, .bool true) :: fr) L (wpList P ops (MidQ Γ N ((d, .bool u1) :: fr0) L0) (o :: rest)))
    (gf : ¬ p → G Γ N ((dm, .bool false) :: fr) L (wpList P ops (MidQ Γ N ((d, .bool u2) :: fr0) L0) (o :: rest))) :
    G Γ N fr L (wpList P ops (MidQ Γ N ((d, .bool (cond (@decide p i) u1 u2)) :: fr0) L0) (o :: rest)) := by
  refine g_guard_dec hg hj h (fun hp => ?_) (fun hp => ?_)
  · simpa [hp] using gt hp
  · simpa [hp] using gf hp
theorem g_partMB {o : Oper} {j : Nat} {c t : Bool} {u1 u2 : Bool} {d dm : Nat} {fr0 : Fr} {L0 : List Chunk} (hg : o.guard = some (j, c)) (hj : (ops[j]?).bind (·.dst) = some dm) (h : look fr dm = some (.bool t))
    (gt : t = true → G Γ N ((dm, .bool true) :: fr) L (wpList P ops (MidQ Γ N ((d, .bool u1) :: fr0) L0) (o :: rest)))
    (gf : t = false → G Γ N ((dm, .bool false) :: fr) L (wpList P ops (MidQ Γ N ((d, .bool u2) :: fr0) L0) (o :: rest))) :
    G Γ N fr L (wpList P ops (MidQ Γ N ((d, .bool (cond t u1 u2)) :: fr0) L0) (o :: rest)) := by
  refine g_guard hg hj h (fun hp => ?_) (fun hp => ?_)
  · subst hp; exact gt rfl
  · subst hp; exact gf rfl

/-! ### A region that leaves its order open: a plan in which each operation is taken when it may be -/
inductive Plan where
  | done
  | take (i : Nat) (p : Plan)
  | one (i : Nat) (p : Plan)
  | two (i : Nat) (p : Plan) (j : Nat) (q : Plan)

def planB (ops : Array Oper) : Nat → Array Bool → Plan → Bool
  | _, listed, .done => (Region.ready .any ops listed).isEmpty
  | n + 1, listed, .take i p => (Region.ready .any ops listed).contains i && Region.free .any ops listed i && planB ops n (listed.setIfInBounds i true) p
  | n + 1, listed, .one i p => (Region.ready .any ops listed == [i]) && planB ops n (listed.setIfInBounds i true) p
  | n + 1, listed, .two i p j q => (Region.ready .any ops listed == [i, j]) && planB ops n (listed.setIfInBounds i true) p && planB ops n (listed.setIfInBounds j true) q
  | 0, _, _ => false
def planOk (l : List Oper) (p : Plan) : Bool := Region.noSelect l.toArray && planB l.toArray l.length (Array.replicate l.length false) p

/-- It yields v whatever the memory is. -/
def YieldsF (P : Program) (ops : Array Oper) (Γ : Ctx) (o : Oper) (v : Value) (a : Act) : Prop :=
  (Region.wanted o (yielded ops a.tmps) = true ∧ ∀ L w, Holds Γ L w → opRes P o a w fun u w' => u = v ∧ Holds Γ L w') ∨
  (Region.wanted o (yielded ops a.tmps) = false ∧ v = undef)
def StepL (P : Program) (ops : Array Oper) (Γ : Ctx) (i : Nat) (K : Act → List Chunk → Prop) (a : Act) (L : List Chunk) : Prop :=
  ∃ o, ops[i]? = some o ∧
    ((Region.wanted o (yielded ops a.tmps) = true ∧ ∃ (X : Type) (V : X → Value) (M : X → List Chunk) (φ : X → Prop),
        (∀ w, Holds Γ L w → opRes P o a w fun u w' => ∃ x, φ x ∧ u = V x ∧ Holds Γ (M x) w') ∧ ∀ x, φ x → K (a.put o.dst (V x)) (M x)) ∨
     (Region.wanted o (yielded ops a.tmps) = false ∧ K (a.put o.dst undef) L))

theorem StepL.mono {i : Nat} {K K' : Act → List Chunk → Prop} {a : Act} (h : StepL P ops Γ i K a L) (f : ∀ a L, K a L → K' a L) : StepL P ops Γ i K' a L := by
  obtain ⟨o, ho, h⟩ := h
  refine ⟨o, ho, ?_⟩
  rcases h with ⟨hw, X, V, M, φ, h1, h2⟩ | ⟨hw, h⟩
  · exact .inl ⟨hw, X, V, M, φ, h1, fun x hx => f _ _ (h2 x hx)⟩
  · exact .inr ⟨hw, f _ _ h⟩

/-- Whatever order is picked from here on. -/
def AnyL (P : Program) (ops : Array Oper) (Q : Exit → Act → World → Prop) (Γ : Ctx) : Nat → Array Bool → Act → List Chunk → Prop
  | 0, listed, a, L => Region.ready .any ops listed = [] ∧ ∀ w, Holds Γ L w → Q .normal a w
  | n + 1, listed, a, L => (Region.ready .any ops listed = [] → ∀ w, Holds Γ L w → Q .normal a w) ∧
      ∀ i ∈ Region.ready .any ops listed, StepL P ops Γ i (AnyL P ops Q Γ n (listed.setIfInBounds i true)) a L

theorem any_wp : ∀ (n : Nat) (listed : Array Bool) (a : Act) (L : List Chunk), AnyL P ops Q Γ n listed a L → ∀ w, Holds Γ L w → wpAny P .any ops Q n listed a w
  | 0, _, _, _, h, w, hw => ⟨h.1, h.2 w hw⟩
  | n + 1, listed, a, L, h, w, hw => by
    refine ⟨fun h0 => h.1 h0 w hw, fun i hi => ?_⟩
    obtain ⟨o, ho, hs⟩ := h.2 i hi
    unfold wpOp
    rw [ho]
    simp only []
    rcases hs with ⟨hwt, X, V, M, φ, h1, h2⟩ | ⟨hwt, hK⟩
    · rw [if_pos hwt]
      refine .inl (opRes.wp ((h1 w hw).mono fun u w' ⟨x, hx, hu, hh⟩ => ?_))
      subst hu
      exact any_wp n _ _ _ (h2 x hx) w' hh
    · rw [hwt]
      exact any_wp n _ _ _ hK w hw

theorem opRes_put {o : Oper} (hs : ∀ cs b, o.op ≠ .select cs b) {a : Act} {dst : Option Tmp} {v : Value} (h : ∀ d, dst = some d → d ∉ o.looksAt ops) {w : World} {R : Value → World → Prop} : opRes P o (a.put dst v) w R ↔ opRes P o a w R := by
  unfold opRes
  rw [execOp_put o hs a dst v h]

theorem YieldsF.put {oi oj : Oper} {v u : Value} {a : Act} (hsi : ∀ cs b, oi.op ≠ .select cs b) (h3 : ∀ d, oj.dst = some d → d ∉ oi.looksAt ops) (hy : YieldsF P ops Γ oi v a) : YieldsF P ops Γ oi v (a.put oj.dst u) := by
  unfold YieldsF at *
  rw [wanted_put oi a oj.dst u h3]
  rcases hy with ⟨hw, h⟩ | ⟨hw, h⟩
  · exact .inl ⟨hw, fun L w hh => (opRes_put hsi h3).2 (h L w hh)⟩
  · exact .inr ⟨hw, h⟩

theorem stepL_put {j : Nat} {oi oj : Oper} {v : Value} (hj : ops[j]? = some oj) (hap : oi.apart ops oj = true) (hsi : ∀ cs b, oi.op ≠ .select cs b) (hsj : ∀ cs b, oj.op ≠ .select cs b)
    {K : Act → List Chunk → Prop} {a : Act} (hy : YieldsF P ops Γ oi v a) (h : StepL P ops Γ j K (a.put oi.dst v) L) :
    StepL P ops Γ j (fun a' L' => YieldsF P ops Γ oi v a' ∧ K (a'.put oi.dst v) L') a L := by
  obtain ⟨h1, h2, h3⟩ := Oper.apart_spec hap
  obtain ⟨o, ho, hs⟩ := h
  rw [hj] at ho
  obtain rfl := Option.some.inj ho
  refine ⟨oj, hj, ?_⟩
  rw [wanted_put oj a oi.dst v h1] at hs
  rcases hs with ⟨hw, X, V, M, φ, p1, p2⟩ | ⟨hw, hK⟩
  · exact .inl ⟨hw, X, V, M, φ, fun w hh => (opRes_put hsj h1).1 (p1 w hh), fun x hx => ⟨hy.put hsi h3, by rw [← Act.put_comm a v (V x) h2]; exact p2 x hx⟩⟩
  · exact .inr ⟨hw, hy.put hsi h3, by rw [← Act.put_comm a v undef h2]; exact hK⟩

theorem YieldsF.step {i : Nat} {oi : Oper} {v : Value} {a : Act} (hi : ops[i]? = some oi) (hy : YieldsF P ops Γ oi v a) {K : Act → List Chunk → Prop} (h : K (a.put oi.dst v) L) : StepL P ops Γ i K a L := by
  refine ⟨oi, hi, ?_⟩
  rcases hy with ⟨hw, hv⟩ | ⟨hw, rfl⟩
  · exact .inl ⟨hw, Unit, fun _ => v, fun _ => L, fun _ => True, fun w hh => (hv L w hh).mono fun u w' ⟨e, hh'⟩ => ⟨(), trivial, e, hh'⟩, fun _ _ => h⟩
  · exact .inr ⟨hw, h⟩

/-- An operation that may come up now, whose value hangs on no memory that the others touch, may be taken first. -/
theorem anyL_first {i : Nat} {oi : Oper} {v : Value} (hi : ops[i]? = some oi) (hsel : ∀ (j : Nat) (o : Oper) cs b, ops[j]? = some o → o.op ≠ .select cs b) :
    ∀ (n : Nat) (listed : Array Bool) (a : Act) (L : List Chunk),
      (∀ j oj, ops[j]? = some oj → j ≠ i → listed.getD j true = false → (∀ e ∈ oj.after, Region.binds .any e = true → e.on ≠ i) → oi.apart ops oj = true) →
      i ∈ Region.ready .any ops listed → YieldsF P ops Γ oi v a →
      AnyL P ops Q Γ n (listed.setIfInBounds i true) (a.put oi.dst v) L → AnyL P ops Q Γ (n + 1) listed a L := by
  intro n
  induction n with
  | zero =>
    intro listed a L _ hr hy H
    refine ⟨fun h => (by rw [h] at hr; cases hr), fun j hj => ?_⟩
    by_cases hji : j = i
    · subst hji; exact hy.step hi H
    · have := ready_mono hj hji
      rw [H.1] at this
      cases this
  | succ n ih =>
    intro listed a L hfree hr hy H
    refine ⟨fun h => (by rw [h] at hr; cases hr), fun j hj => ?_⟩
    by_cases hji : j = i
    · subst hji; exact hy.step hi H
    · have h1 := H.2 j (ready_mono hj hji)
      obtain ⟨hjun, oj, hoj, hall⟩ := mem_ready.1 hj
      have hnot : ∀ e ∈ oj.after, Region.binds .any e = true → e.on ≠ i := fun e he hb heq => by
        have h1 := hall e he hb
        have h0 := (mem_ready.1 hr).1
        rw [heq] at h1
        rcases Nat.lt_or_ge i listed.size with h' | h'
        · simp [h'] at h0 h1; rw [h0] at h1; cases h1
        · simp [Array.getElem?_eq_none h'] at h1
      have h2 := stepL_put hoj (hfree j oj hoj hji hjun hnot) (fun cs b => hsel i oi cs b hi) (fun cs b => hsel j oj cs b hoj) hy h1
      have hfree' : ∀ k ok, ops[k]? = some ok → k ≠ i → (listed.setIfInBounds j true).getD k true = false →
          (∀ e ∈ ok.after, Region.binds .any e = true → e.on ≠ i) → oi.apart ops ok = true := fun k ok hk hki hun hno => by
        refine hfree k ok hk hki ?_ hno
        by_cases hjk : j = k
        · subst hjk; exact hjun
        · rw [getD_set_ne true hjk] at hun; exact hun
      refine h2.mono (fun a' L' h3 => ih (listed.setIfInBounds j true) a' L' hfree' (ready_mono hr (Ne.symm hji)) h3.1 ?_)
      rw [Array.setIfInBounds_comm _ _ hji]
      exact h3.2

/-- What is shown along a plan. -/
def AP (P : Program) (ops : Array Oper) (Q : Exit → Act → World → Prop) (Γ : Ctx) : Plan → Act → List Chunk → Prop
  | .done, a, L => ∀ w, Holds Γ L w → Q .normal a w
  | .take i p, a, L => ∃ o v, ops[i]? = some o ∧ YieldsF P ops Γ o v a ∧ AP P ops Q Γ p (a.put o.dst v) L
  | .one i p, a, L => StepL P ops Γ i (AP P ops Q Γ p) a L
  | .two i p j q, a, L => StepL P ops Γ i (AP P ops Q Γ p) a L ∧ StepL P ops Γ j (AP P ops Q Γ q) a L

theorem ap_any (hs : Region.noSelect ops = true) : ∀ (p : Plan) (n : Nat) (listed : Array Bool) (a : Act) (L : List Chunk), planB ops n listed p = true → AP P ops Q Γ p a L → AnyL P ops Q Γ n listed a L
  | .done, n, listed, a, L, hb, h => by
    have h0 : Region.ready .any ops listed = [] := by cases n <;> simpa [planB] using hb
    cases n with
    | zero => exact ⟨h0, h⟩
    | succ n => exact ⟨fun _ => h, fun i hi => by rw [h0] at hi; cases hi⟩
  | .take i p, n, listed, a, L, hb, h => by
    cases n with
    | zero => simp [planB] at hb
    | succ n =>
      simp only [planB, Bool.and_eq_true] at hb
      obtain ⟨⟨hr, hf⟩, hb⟩ := hb
      obtain ⟨o, v, ho, hy, h⟩ := h
      exact anyL_first ho (Region.noSelect_spec hs) n listed a L (Region.free_spec ho hf) (by simpa using hr) hy (ap_any hs p n _ _ _ hb h)
  | .one i p, n, listed, a, L, hb, h => by
    cases n with
    | zero => simp [planB] at hb
    | succ n =>
      simp only [planB, Bool.and_eq_true, beq_iff_eq] at hb
      obtain ⟨hr, hb⟩ := hb
      refine ⟨fun h0 => (by rw [hr] at h0; cases h0), fun j hj => ?_⟩
      rw [hr] at hj
      obtain rfl : j = i := by simpa using hj
      exact StepL.mono h fun a' L' h' => ap_any hs p n _ _ _ hb h'
  | .two i p k q, n, listed, a, L, hb, h => by
    cases n with
    | zero => simp [planB] at hb
    | succ n =>
      simp only [planB, Bool.and_eq_true, beq_iff_eq] at hb
      obtain ⟨⟨hr, hb1⟩, hb2⟩ := hb
      refine ⟨fun h0 => (by rw [hr] at h0; cases h0), fun j hj => ?_⟩
      rw [hr] at hj
      rcases (by simpa using hj : j = i ∨ j = k) with rfl | rfl
      · exact StepL.mono h.1 fun a' L' h' => ap_any hs p n _ _ _ hb1 h'
      · exact StepL.mono h.2 fun a' L' h' => ap_any hs q n _ _ _ hb2 h'

/-! ### The judgement along a plan -/
class Mixed (P : Program) : Prop where
  mixed : P.follows .mixedOrders = true
def GP (P : Program) (ops : Array Oper) (Q : Exit → Act → World → Prop) (Γ : Ctx) (N : Nat) (fr : Fr) (L : List Chunk) (p : Plan) : Prop :=
  ∀ a, a.tmps.size = N → a.defers = [] → fr.ok a → AP P ops Q Γ p a L

/-- Some chunks are laid into the frame: nothing in the region writes them. -/
theorem g_draw {id : Nat} {l : List Oper} {C : List Chunk} [M : Mixed P] (plan : Plan) (hp : planOk l plan = true) (t : Take L C R)
    (h : ∀ k, HP.disj Γ.hf k → All C k → GP P l.toArray Q (Γ.add k) N fr R plan) : G Γ N fr L ((Code.region id l.toArray true).wp P Q) := by
  intro a w hN hd hf hh
  have hh1 := hh.take t
  simp only [planOk, Bool.and_eq_true] at hp
  have hh2 : Holds Γ (R ++ C) w := hh1.mono fun h' al => by
    obtain ⟨h1, h2, d, s1, s2, p1, p2⟩ := all_append.1 al
    exact all_append.2 ⟨h2, h1, d.symm, s2, s1, p2, p1⟩
  obtain ⟨k, dk, hk, hr⟩ := hh2.split
  refine wp_region_any M.mixed ?_
  have := ap_any hp.1 plan _ _ a R hp.2 (h k dk hk a hN hd hf)
  exact any_wp _ _ a R (by simpa using this) _ (hr.drew _)
/-- .. all of them: the region only reads. -/
theorem take_all : ∀ (L : List Chunk), Take L L []
  | [] => .nil
  | _ :: L => .cons .here (take_all L)

theorem gp_done {C : List Chunk} {k : HP} (hd : HP.disj Γ.hf k) (hk : All C k) (g : G Γ N fr (L ++ C) (Q .normal)) : GP P ops Q (Γ.add k) N fr L .done :=
  fun a hN hdf hf w hh => g a w hN hdf hf (hh.join hd hk)

theorem gp_take {i : Nat} {p : Plan} (g : GP P ops Q Γ N fr L (.take i p)) : GP P ops Q Γ N fr L (.take i p) := g
theorem gp_one {i : Nat} {p : Plan} (g : GP P ops Q Γ N fr L (.one i p)) : GP P ops Q Γ N fr L (.one i p) := g
section
variable {i j : Nat} {d : Nat} {op : Op} {ty : TypeId} {pos : String} {aft : Array Edge} {gd : Option (Nat × Bool)} {v : Value} {p q : Plan}
theorem gp_q (h : QStep P Γ fr ⟨some d, op, ty, pos, aft, gd⟩ v) (hi : ops[i]? = some ⟨some d, op, ty, pos, aft, gd⟩) (hg : Runs ops fr gd) (hN : Nat.blt d N = true) (k : GP P ops Q Γ N ((d, v) :: fr) L p) : GP P ops Q Γ N fr L (.take i p) :=
  fun a hs hdf hf => ⟨_, v, hi, .inl ⟨runs_wanted (o := ⟨some d, op, ty, pos, aft, gd⟩) hf hg, fun L w hh => h a hf L w hh⟩, k _ (by simp [Act.put, hs]) hdf (hf.put (by rw [hs]; exact blt_lt hN) _)⟩
theorem gp_skip (hi : ops[i]? = some ⟨some d, op, ty, pos, aft, gd⟩) (hg : Skips ops fr gd) (hN : Nat.blt d N = true) (k : GP P ops Q Γ N ((d, undef) :: fr) L p) : GP P ops Q Γ N fr L (.take i p) :=
  fun a hs hdf hf => ⟨_, undef, hi, .inr ⟨skips_wanted (o := ⟨some d, op, ty, pos, aft, gd⟩) hf hg, rfl⟩, k _ (by simp [Act.put, hs]) hdf (hf.put (by rw [hs]; exact blt_lt hN) _)⟩
theorem gp_c' {X : Type} {V : X → Value} {M : X → List Chunk} {φ : X → Prop} {K : Act → List Chunk → Prop} (h : CStep P Γ fr L ⟨some d, op, ty, pos, aft, gd⟩ V M φ) (hi : ops[i]? = some ⟨some d, op, ty, pos, aft, gd⟩) (hg : Runs ops fr gd) (hN : Nat.blt d N = true)
    (k : ∀ x, φ x → ∀ a, a.tmps.size = N → a.defers = [] → Fr.ok ((d, V x) :: fr) a → K a (M x)) : ∀ a, a.tmps.size = N → a.defers = [] → fr.ok a → StepL P ops Γ i K a L :=
  fun a hs hdf hf => ⟨_, hi, .inl ⟨runs_wanted (o := ⟨some d, op, ty, pos, aft, gd⟩) hf hg, X, V, M, φ, fun w hh => h a hf w hh, fun x hx => k x hx _ (by simp [Act.put, hs]) hdf (hf.put (by rw [hs]; exact blt_lt hN) _)⟩⟩
theorem gp_c {X : Type} {V : X → Value} {M : X → List Chunk} {φ : X → Prop} (h : CStep P Γ fr L ⟨some d, op, ty, pos, aft, gd⟩ V M φ) (hi : ops[i]? = some ⟨some d, op, ty, pos, aft, gd⟩) (hg : Runs ops fr gd) (hN : Nat.blt d N = true)
    (k : ∀ x, φ x → GP P ops Q Γ N ((d, V x) :: fr) (M x) p) : GP P ops Q Γ N fr L (.one i p) := gp_c' h hi hg hN k
theorem gp_n {V : Nat → Value} {M : Nat → List Chunk} (h : CStep P Γ fr L ⟨some d, op, ty, pos, aft, gd⟩ V M (fun _ => True)) (hi : ops[i]? = some ⟨some d, op, ty, pos, aft, gd⟩) (hg : Runs ops fr gd) (hN : Nat.blt d N = true)
    (k : ∀ x, GP P ops Q Γ N ((d, V x) :: fr) (M x) p) : GP P ops Q Γ N fr L (.one i p) := gp_c' h hi hg hN fun x _ => k x
theorem gp_v (h : VStep P Γ fr L ⟨some d, op, ty, pos, aft, gd⟩ v) (hi : ops[i]? = some ⟨some d, op, ty, pos, aft, gd⟩) (hg : Runs ops fr gd) (hN : Nat.blt d N = true)
    (k : GP P ops Q Γ N ((d, v) :: fr) L p) : GP P ops Q Γ N fr L (.one i p) := gp_c' h.c hi hg hN fun _ _ => k
theorem gp_s {M : List Chunk} (h : SStep P Γ fr L ⟨none, op, ty, pos, aft, gd⟩ M) (hi : ops[i]? = some ⟨none, op, ty, pos, aft, gd⟩) (hg : Runs ops fr gd)
    (k : GP P ops Q Γ N fr M p) : GP P ops Q Γ N fr L (.one i p) :=
  fun a hs hdf hf => ⟨_, hi, .inl ⟨runs_wanted (o := ⟨none, op, ty, pos, aft, gd⟩) hf hg, Value, fun u => u, fun _ => M, fun _ => True, fun w hh => (h a hf w hh).mono fun u _ hh' => ⟨u, trivial, rfl, hh'⟩, fun _ _ => k _ hs hdf hf⟩⟩
theorem gp_oneSkip (hi : ops[i]? = some ⟨some d, op, ty, pos, aft, gd⟩) (hg : Skips ops fr gd) (hN : Nat.blt d N = true) (k : GP P ops Q Γ N ((d, undef) :: fr) L p) : GP P ops Q Γ N fr L (.one i p) :=
  fun a hs hdf hf => ⟨_, hi, .inr ⟨skips_wanted (o := ⟨some d, op, ty, pos, aft, gd⟩) hf hg, k _ (by simp [Act.put, hs]) hdf (hf.put (by rw [hs]; exact blt_lt hN) _)⟩⟩
/-- Two orders. -/
theorem gp_two (h1 : GP P ops Q Γ N fr L (.one i p)) (h2 : GP P ops Q Γ N fr L (.one j q)) : GP P ops Q Γ N fr L (.two i p j q) := fun a hs hdf hf => ⟨h1 a hs hdf hf, h2 a hs hdf hf⟩
theorem gp_part {t : Bool} {pl : Plan} (dm : Nat) (h : look fr dm = some (.bool t)) (gt : t = true → GP P ops Q Γ N ((dm, .bool true) :: fr) L pl) (gf : t = false → GP P ops Q Γ N ((dm, .bool false) :: fr) L pl) : GP P ops Q Γ N fr L pl := by
  intro a hs hdf hf
  have : ∀ b, t = b → Fr.ok ((dm, .bool b) :: fr) a := by
    intro b hb t' v e
    subst hb
    simp only [look] at e
    cases hq : Nat.beq dm t' with
    | true => rw [hq] at e; simp at e; subst e; rw [← Nat.eq_of_beq_eq_true hq]; exact hf dm _ h
    | false => rw [hq] at e; exact hf t' v (by simpa using e)
  cases t with
  | true => exact gt rfl a hs hdf (this true rfl)
  | false => exact gf rfl a hs hdf (this false rfl)
theorem gp_lit {c : Bool} {dm : Nat} (hi : ops[i]? = some ⟨some d, op, ty, pos, aft, some (j, c)⟩) (hj : (ops[j]?).bind (·.dst) = some dm) (h : (look fr dm).map litB = some true) (g : GP P ops Q Γ N fr L (.take i p)) : GP P ops Q Γ N fr L (.take i p) := by
  have := hi; have := hj; have := h
  exact g
theorem gp_guard {c t : Bool} {dm m : Nat} {Γ0 : Ctx} {fr0 : Fr} {L0 : List Chunk} {u1 u2 : Bool} (hi : ops[i]? = some ⟨some d, op, ty, pos, aft, some (j, c)⟩) (hj : (ops[j]?).bind (·.dst) = some dm) (h : look fr dm = some (.bool t))
    (gt : t = true → GP P ops (MidQ Γ0 N ((m, .bool u1) :: fr0) L0) Γ N ((dm, .bool true) :: fr) L (.take i p))
    (gf : t = false → GP P ops (MidQ Γ0 N ((m, .bool u2) :: fr0) L0) Γ N ((dm, .bool false) :: fr) L (.take i p)) :
    GP P ops (MidQ Γ0 N ((m, .bool (cond t u1 u2)) :: fr0) L0) Γ N fr L (.take i p) := by
  have := hi; have := hj
  refine gp_part dm h (fun hp => ?_) (fun hp => ?_)
  · subst hp; exact gt rfl
  · subst hp; exact gf rfl
theorem gp_guard_dec {c : Bool} {s : Prop} {is : Decidable s} {dm m : Nat} {Γ0 : Ctx} {fr0 : Fr} {L0 : List Chunk} {u1 u2 : Bool} (hi : ops[i]? = some ⟨some d, op, ty, pos, aft, some (j, c)⟩) (hj : (ops[j]?).bind (·.dst) = some dm) (h : look fr dm = some (.bool (@decide s is)))
    (gt : s → GP P ops (MidQ Γ0 N ((m, .bool u1) :: fr0) L0) Γ N ((dm, .bool true) :: fr) L (.take i p))
    (gf : ¬ s → GP P ops (MidQ Γ0 N ((m, .bool u2) :: fr0) L0) Γ N ((dm, .bool false) :: fr) L (.take i p)) :
    GP P ops (MidQ Γ0 N ((m, .bool (cond (@decide s is) u1 u2)) :: fr0) L0) Γ N fr L (.take i p) :=
  gp_guard hi hj h (fun h => gt (of_decide_eq_true h)) (fun h => gf (of_decide_eq_false h))
end

/-- A region that only reads and reckons one truth: all chunks stand still. -/
theorem g_drawB {id : Nat} {l : List Oper} {u : Bool} [M : Mixed P] (d : Nat) (plan : Plan) (hp : planOk l plan = true)
    (h : ∀ k, HP.disj Γ.hf k → All L k → GP P l.toArray (MidQ Γ N ((d, .bool u) :: fr) L) (Γ.add k) N fr [] plan) (k : G Γ N ((d, .bool u) :: fr) L (Q .normal)) :
    G Γ N fr L ((Code.region id l.toArray true).wp P Q) := g_cutC (g_draw plan hp (take_all L) h) k

/-! ### Reading what stands still -/
theorem frozen_cell {C : List Chunk} {k : HP} {c : Chunk} {p : Addr} {v : Value} {w : World} (hk : All C k) (s : Sel C c R) (r : Reads c p v) (hh : Holds (Γ.add k) L w) (hd : HP.disj Γ.hf k) : w.cell? p = some v := by
  obtain ⟨h1, _, _, s1, _, hc, _⟩ := All.sel s hk
  obtain ⟨xs, e, fz, hb, hsp, hv⟩ := r h1 hc
  have : w.heap[p.block]? = some (.cells xs e fz) := hh.frame _ _ (HP.sub_union_right hd _ _ (s1 _ _ hb))
  simp [World.cell?, this, hsp, hv]
section
variable {d : Nat} {ty : TypeId} {pos : String} {aft : Array Edge} {gd : Option (Nat × Bool)} {x : Operand} {v : Value} {t : TypeId} {C : List Chunk} {k : HP}
theorem qs_loadFR {c : Chunk} {p : Addr} [T : TOne P t] (hd : HP.disj Γ.hf k) (hk : All C k) (hx : ev fr x = some (.pointer (some p))) (s : Sel C c R) (r : Reads c p v) : QStep P (Γ.add k) fr ⟨some d, .load t x, ty, pos, aft, gd⟩ v := fun a hf L w hh => by
  unfold opRes
  have : (execOp a.eval (⟨some d, .load t x, ty, pos, aft, gd⟩ : Oper)).run P w = .ok (.value v) w := by simp [execOp, hf.ev hx, run_load1 T.row (frozen_cell hk s r hh hd)]
  rw [this]; exact ⟨rfl, hh⟩
theorem qs_loadF {b o : Nat} {xs : List Value} {e : TypeId} {fz : Nat × Nat} [T : TOne P t] (hd : HP.disj Γ.hf k) (hk : All C k) (hx : ev fr x = some (.pointer (some ⟨b, o, none⟩))) (s : Sel C (.row b xs e fz) R) (r : xs[o]? = some v) : QStep P (Γ.add k) fr ⟨some d, .load t x, ty, pos, aft, gd⟩ v :=
  qs_loadFR hd hk hx s (reads_row r)
theorem qs_loadFAR {c : Chunk} {b o n : Nat} {cs : List Value} [T : TAgg P t n] (hd : HP.disj Γ.hf k) (hk : All C k) (hx : ev fr x = some (.pointer (some ⟨b, o, none⟩))) (s : Sel C c R) (hl : cs.length = n) (r : ∀ (j : Nat) (v : Value), cs[j]? = some v → Reads c ⟨b, o + j, none⟩ v) :
    QStep P (Γ.add k) fr ⟨some d, .load t x, ty, pos, aft, gd⟩ (.agg cs.toArray) := fun a hf L w hh => by
  unfold opRes
  have : (execOp a.eval (⟨some d, .load t x, ty, pos, aft, gd⟩ : Oper)).run P w = .ok (.value (.agg cs.toArray)) w := by simp [execOp, hf.ev hx, run_loadA T.row T.size hl (fun j v hv => frozen_cell hk s (r j v hv) hh hd)]
  rw [this]; exact ⟨rfl, hh⟩
theorem qs_loadFA {b o n : Nat} {xs cs : List Value} {e : TypeId} {fz : Nat × Nat} [T : TAgg P t n] (hd : HP.disj Γ.hf k) (hk : All C k) (hx : ev fr x = some (.pointer (some ⟨b, o, none⟩))) (s : Sel C (.row b xs e fz) R) (c : Cut xs o n cs) :
    QStep P (Γ.add k) fr ⟨some d, .load t x, ty, pos, aft, gd⟩ (.agg cs.toArray) := qs_loadFAR hd hk hx s c.get.1 (fun j v hv => reads_row (c.get.2 j v hv))
end
end Go.Sl
