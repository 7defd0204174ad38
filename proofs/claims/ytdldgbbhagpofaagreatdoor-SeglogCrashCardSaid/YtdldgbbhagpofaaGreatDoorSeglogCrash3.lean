/- Contracts and laws that the proof stands on. -/
import Derived.Test.YtdldgbbhagpofaaGreatDoorSeglogCrash2
import Derived.Deep.Quiet
import Derived.Laws.StructEq
import Derived.Laws.Small
set_option linter.unusedSimpArgs false
set_option linter.unusedVariables false
namespace Go.Sl
variable {P : Program} {Γ : Ctx} {L R : List Chunk} {N : Nat} {fr : Fr} {Q : Exit → Act → World → Prop} {ops : Array Oper} {rest : List Oper}
def MidQ (Γ : Ctx) (N : Nat) (fr : Fr) (L : List Chunk) : Exit → Act → World → Prop
  | .normal, a, w => a.tmps.size = N ∧ a.defers = Γ.df ∧ fr.ok a ∧ Holds Γ L w
  | _, _, _ => False
theorem g_mid {fr' : Fr} {L' : List Chunk} (s : FrSub fr fr') (t : Take L L' R) : G Γ N fr L (MidQ Γ N fr' L' .normal) :=
  fun _ _ hN hd hf hh => ⟨hN, hd, hf.sub s, hh.takeDrop t⟩
inductive FrBut (d : Nat) : Fr → Fr → Prop where
  | nil {fr : Fr} : FrBut d fr []
  | cons {fr fr' : Fr} {t : Nat} {v : Value} : look fr t = some v → FrBut d fr fr' → FrBut d fr ((t, v) :: fr')
  | same {fr fr' : Fr} {v : Value} : FrBut d fr fr' → FrBut d fr ((d, v) :: fr')
  | refl {fr : Fr} : FrBut d fr fr
  | tail {fr fr' : Fr} {t : Nat} {v : Value} : Sl.look fr' t = none → FrBut d fr fr' → FrBut d ((t, v) :: fr) fr'
  | tailD {fr fr' : Fr} {v : Value} : FrBut d fr fr' → FrBut d ((d, v) :: fr) fr'
theorem FrBut.look {d : Nat} {fr fr' : Fr} (s : FrBut d fr fr') : ∀ {t v}, Nat.beq d t = false → Sl.look fr' t = some v → Sl.look fr t = some v := by
  induction s with
  | nil => intro t v _ h; simp [Sl.look] at h
  | @cons fr fr' t v h _ ih =>
    intro t' v' hne h'
    simp only [Sl.look] at h'
    cases hb : Nat.beq t t' with
    | true => rw [hb] at h'; simp at h'; subst h'; rw [← Nat.eq_of_beq_eq_true hb]; exact h
    | false => rw [hb] at h'; exact ih hne (by simpa using h')
  | same _ ih =>
    intro t' v' hne h'
    simp only [Sl.look, hne] at h'
    exact ih hne (by simpa using h')
  | refl => exact fun _ h => h
  | @tail fr fr' t v h _ ih =>
    intro t' v' hne h'
    simp only [Sl.look]
    cases hb : Nat.beq t t' with
    | true => rw [← Nat.eq_of_beq_eq_true hb, h] at h'; cases h'
    | false => simpa using ih hne h'
  | tailD _ ih =>
    intro t' v' hne h'
    simp only [Sl.look, hne]
    simpa using ih hne h'
theorem Fr.ok.but {d : Nat} {v : Value} {fr fr' : Fr} {a : Act} (h : fr.ok a) (hd : Sl.look fr d = some v) (s : FrBut d fr fr') : Fr.ok ((d, v) :: fr') a := by
  intro t u e
  simp only [Sl.look] at e
  cases hb : Nat.beq d t with
  | true => rw [hb] at e; simp at e; subst e; rw [← Nat.eq_of_beq_eq_true hb]; exact h d _ hd
  | false => rw [hb] at e; exact h t u (s.look hb (by simpa using e))
theorem g_midB {d : Nat} {v : Value} {fr' : Fr} {L' : List Chunk} (h : look fr d = some v) (s : FrBut d fr fr') (t : Take L L' R) : G Γ N fr L (MidQ Γ N ((d, v) :: fr') L' .normal) :=
  fun _ _ hN hd hf hh => ⟨hN, hd, hf.but h s, hh.takeDrop t⟩
theorem g_cutC {c : Code} {fr' : Fr} {L' : List Chunk} (h : G Γ N fr L (c.wp P (MidQ Γ N fr' L'))) (k : G Γ N fr' L' (Q .normal)) : G Γ N fr L (c.wp P Q) := by
  intro a w hN hd hf hh
  refine wp_mono (h a w hN hd hf hh) ?_
  intro e a' w' hq
  cases e with
  | normal => exact k a' w' hq.1 hq.2.1 hq.2.2.1 hq.2.2.2
  | exit id => exact hq.elim
  | goto l => exact hq.elim
  | ret => exact hq.elim
  | panic ch => exact hq.elim
  | outgrown => exact hq.elim
theorem g_regB {id : Nat} {l : List Oper} {u : Bool} (d : Nat) (h : G Γ N fr L (wpList P l.toArray (MidQ Γ N ((d, .bool u) :: fr) L) l)) (k : G Γ N ((d, .bool u) :: fr) L (Q .normal)) :
    G Γ N fr L ((Code.region id l.toArray false).wp P Q) := g_cutC (g_region h) k
theorem g_regV {id : Nat} {l : List Oper} {fr' : Fr} {L' : List Chunk} (h : G Γ N fr L (wpList P l.toArray (MidQ Γ N fr' L') l)) (k : G Γ N fr' L' (Q .normal)) :
    G Γ N fr L ((Code.region id l.toArray false).wp P Q) := g_cutC (g_region h) k
def litB : Value → Bool
  | .bool true => true
  | .bool false => true
  | _ => true
theorem g_lit {o : Oper} {j : Nat} {c : Bool} {dm : Nat} (hg : o.guard = some (j, c)) (hj : (ops[j]?).bind (·.dst) = some dm) (h : (look fr dm).map litB = some true) (g : G Γ N fr L (wpList P ops Q (o :: rest))) : G Γ N fr L (wpList P ops Q (o :: rest)) := by
  have := hg; have := hj; have := h
  exact g
theorem g_partM {o : Oper} {j : Nat} {c : Bool} {p : Prop} {i : Decidable p} {u1 u2 : Bool} {d dm : Nat} {fr0 : Fr} {L0 : List Chunk} (hg : o.guard = some (j, c)) (hj : (ops[j]?).bind (·.dst) = some dm) (h : look fr dm = some (.bool (@decide p i)))
    (gt : p → G Γ N ((dm, .bool true) :: fr) L (wpList P ops (MidQ Γ N ((d, .bool u1) :: fr0) L0) (o :: rest)))
    (gf : ¬ p → G Γ N ((dm, .bool false) :: fr) L (wpList P ops (MidQ Γ N ((d, .bool u2) :: fr0) L0) (o :: rest))) :
    G Γ N fr L (wpList P ops (MidQ Γ N ((d, .bool (cond (@decide p i) u1 u2)) :: fr0) L0) (o :: rest)) := by
  refine g_guard_dec hg hj h (fun hp => ?_) (fun hp => ?_)
  · simpa [hp] using gt hp
  · simpa [hp] using gf hp
theorem g_partMB {o : Oper} {j : Nat} {c t : Bool} {u1 u2 : Bool} {d dm : Nat} {fr0 : Fr} {L0 : List Chunk} (hg : o.guard = some (j, c)) (hj : (ops[j]?).bind (·.dst) = some dm) (h : look fr dm = some (.bool t))
    (gt : t = true → G Γ N ((dm, .bool true) :: fr) L (wpList P ops (MidQ Γ N ((d, .bool u1) :: fr0) L0) (o :: rest)))
    (gf : t = false → G Γ N ((dm, .bool false) :: fr) L (wpList P ops (MidQ Γ N ((d, .bool u2) :: fr0) L0) (o :: rest))) :
    G Γ N fr L (wpList P ops (MidQ Γ N ((d, .bool (cond t u1 u2)) :: fr0) L0) (o :: rest)) := by
  refine g_guard hg hj h (fun hp => ?_) (fun hp => ?_)
  · subst hp; exact gt rfl
  · subst hp; exact gf rfl
inductive Plan where
  | done
  | take (i : Nat) (p : Plan)
  | see (i : Nat) (D : List Nat) (p : Plan)
  | one (i : Nat) (p : Plan)
  | two (i : Nat) (p : Plan) (j : Nat) (q : Plan)
  | thaw (i : Nat) (p : Plan)
def Plan.thaws : Plan → List Nat
  | .done => []
  | .take _ p => p.thaws
  | .see _ _ p => p.thaws
  | .one _ p => p.thaws
  | .two _ p _ q => p.thaws ++ q.thaws
  | .thaw i p => i :: p.thaws
def waitB (ops : Array Oper) (listed : Array Bool) (i : Nat) (D : List Nat) : Bool :=
  D.all fun j => (!listed.getD j true) && (match ops[j]? with | none => false | some o => o.after.any fun e => Region.binds .any e && (e.on == i || D.contains e.on))
def planB (th : List Nat) (ops : Array Oper) : Nat → Array Bool → Plan → Bool
  | _, listed, .done => (Region.ready .any ops listed).isEmpty
  | n + 1, listed, .take i p => (Region.ready .any ops listed).contains i && Region.free .any ops listed i && planB th ops n (listed.setIfInBounds i true) p
  | n + 1, listed, .see i D p => (Region.ready .any ops listed).contains i && Region.free .any ops listed i && waitB ops listed i D && th.all (fun j => D.contains j || listed.getD j false) && planB th ops n (listed.setIfInBounds i true) p
  | n + 1, listed, .one i p => (Region.ready .any ops listed == [i]) && planB th ops n (listed.setIfInBounds i true) p
  | n + 1, listed, .two i p j q => (Region.ready .any ops listed == [i, j]) && planB th ops n (listed.setIfInBounds i true) p && planB th ops n (listed.setIfInBounds j true) q
  | n + 1, listed, .thaw i p => (Region.ready .any ops listed == [i]) && th.contains i && planB th ops n (listed.setIfInBounds i true) p
  | 0, _, _ => false
def planOk (l : List Oper) (p : Plan) : Bool := Region.noSelect l.toArray && planB p.thaws l.toArray l.length (Array.replicate l.length false) p
def YieldsF (P : Program) (ops : Array Oper) (Γ : Ctx) (o : Oper) (v : Value) (a : Act) : Prop :=
  (Region.wanted o (yielded ops a.tmps) = true ∧ ∀ L w, Holds Γ L w → opRes P o a w fun u w' => u = v ∧ Holds Γ L w') ∨
  (Region.wanted o (yielded ops a.tmps) = false ∧ v = undef)
def StepL (P : Program) (ops : Array Oper) (th : List Nat) (Γ : Ctx) (i : Nat) (K : Act → Ctx → List Chunk → Prop) (a : Act) (L : List Chunk) : Prop :=
  ∃ o, ops[i]? = some o ∧
    ((Region.wanted o (yielded ops a.tmps) = true ∧ ∃ (X : Type) (V : X → Value) (C : X → Ctx) (M : X → List Chunk) (φ : X → Prop), (i ∉ th → ∀ x, C x = Γ) ∧
        (∀ w, Holds Γ L w → opRes P o a w fun u w' => ∃ x, φ x ∧ u = V x ∧ Holds (C x) (M x) w') ∧ ∀ x, φ x → K (a.put o.dst (V x)) (C x) (M x)) ∨
     (Region.wanted o (yielded ops a.tmps) = false ∧ K (a.put o.dst undef) Γ L))
theorem StepL.mono {th : List Nat} {i : Nat} {K K' : Act → Ctx → List Chunk → Prop} {a : Act} (h : StepL P ops th Γ i K a L) (f : ∀ a Γ L, K a Γ L → K' a Γ L) : StepL P ops th Γ i K' a L := by
  obtain ⟨o, ho, h⟩ := h
  refine ⟨o, ho, ?_⟩
  rcases h with ⟨hw, X, V, C, M, φ, h0, h1, h2⟩ | ⟨hw, h⟩
  · exact .inl ⟨hw, X, V, C, M, φ, h0, h1, fun x hx => f _ _ _ (h2 x hx)⟩
  · exact .inr ⟨hw, f _ _ _ h⟩
def AnyL (P : Program) (ops : Array Oper) (Q : Exit → Act → World → Prop) (th : List Nat) : Nat → Array Bool → Act → Ctx → List Chunk → Prop
  | 0, listed, a, Γ, L => Region.ready .any ops listed = [] ∧ ∀ w, Holds Γ L w → Q .normal a w
  | n + 1, listed, a, Γ, L => (Region.ready .any ops listed = [] → ∀ w, Holds Γ L w → Q .normal a w) ∧
      ∀ i ∈ Region.ready .any ops listed, StepL P ops th Γ i (AnyL P ops Q th n (listed.setIfInBounds i true)) a L
theorem any_wp {th : List Nat} : ∀ (n : Nat) (listed : Array Bool) (a : Act) (Γ : Ctx) (L : List Chunk), AnyL P ops Q th n listed a Γ L → ∀ w, Holds Γ L w → wpAny P .any ops Q n listed a w
  | 0, _, _, _, _, h, w, hw => ⟨h.1, h.2 w hw⟩
  | n + 1, listed, a, Γ, L, h, w, hw => by
    refine ⟨fun h0 => h.1 h0 w hw, fun i hi => ?_⟩
    obtain ⟨o, ho, hs⟩ := h.2 i hi
    unfold wpOp
    rw [ho]
    simp only []
    rcases hs with ⟨hwt, X, V, C, M, φ, _, h1, h2⟩ | ⟨hwt, hK⟩
    · rw [if_pos hwt]
      refine .inl (opRes.wp ((h1 w hw).mono fun u w' ⟨x, hx, hu, hh⟩ => ?_))
      subst hu
      exact any_wp n _ _ _ _ (h2 x hx) w' hh
    · rw [hwt]
      exact any_wp n _ _ _ _ hK w hw
theorem opRes_put {o : Oper} (hs : ∀ cs b, o.op ≠ .select cs b) {a : Act} {dst : Option Tmp} {v : Value} (h : ∀ d, dst = some d → d ∉ o.looksAt ops) {w : World} {R : Value → World → Prop} : opRes P o (a.put dst v) w R ↔ opRes P o a w R := by
  unfold opRes
  rw [execOp_put o hs a dst v h]
theorem YieldsF.put {oi oj : Oper} {v u : Value} {a : Act} (hsi : ∀ cs b, oi.op ≠ .select cs b) (h3 : ∀ d, oj.dst = some d → d ∉ oi.looksAt ops) (hy : YieldsF P ops Γ oi v a) : YieldsF P ops Γ oi v (a.put oj.dst u) := by
  unfold YieldsF at *
  rw [wanted_put oi a oj.dst u h3]
  rcases hy with ⟨hw, h⟩ | ⟨hw, h⟩
  · exact .inl ⟨hw, fun L w hh => (opRes_put hsi h3).2 (h L w hh)⟩
  · exact .inr ⟨hw, h⟩
def YieldsX (P : Program) (ops : Array Oper) (all : Bool) (Γ : Ctx) (o : Oper) (v : Value) (a : Act) : Prop := YieldsF P ops Γ o v a ∧ (all = true → ∀ Δ, YieldsF P ops Δ o v a)
theorem stepL_put {th : List Nat} {all : Bool} {j : Nat} {oi oj : Oper} {v : Value} (hj : ops[j]? = some oj) (hap : oi.apart ops oj = true) (hsi : ∀ cs b, oi.op ≠ .select cs b) (hsj : ∀ cs b, oj.op ≠ .select cs b) (hth : all = false → j ∉ th)
    {K : Act → Ctx → List Chunk → Prop} {a : Act} (hy : YieldsX P ops all Γ oi v a) (h : StepL P ops th Γ j K (a.put oi.dst v) L) :
    StepL P ops th Γ j (fun a' Γ' L' => YieldsX P ops all Γ' oi v a' ∧ K (a'.put oi.dst v) Γ' L') a L := by
  obtain ⟨h1, h2, h3⟩ := Oper.apart_spec hap
  obtain ⟨o, ho, hs⟩ := h
  rw [hj] at ho
  obtain rfl := Option.some.inj ho
  refine ⟨oj, hj, ?_⟩
  rw [wanted_put oj a oi.dst v h1] at hs
  have hput : ∀ (Δ : Ctx) (u : Value), (all = true ∨ Δ = Γ) → YieldsX P ops all Δ oi v (a.put oj.dst u) := fun Δ u hd => by
    refine ⟨?_, fun ha Δ' => (hy.2 ha Δ').put hsi h3⟩
    rcases hd with ha | rfl
    · exact (hy.2 ha Δ).put hsi h3
    · exact hy.1.put hsi h3
  rcases hs with ⟨hw, X, V, C, M, φ, p0, p1, p2⟩ | ⟨hw, hK⟩
  · refine .inl ⟨hw, X, V, C, M, φ, p0, fun w hh => (opRes_put hsj h1).1 (p1 w hh), fun x hx => ⟨hput _ _ ?_, by rw [← Act.put_comm a v (V x) h2]; exact p2 x hx⟩⟩
    cases ha : all with
    | true => exact .inl rfl
    | false => exact .inr (p0 (hth ha) x)
  · exact .inr ⟨hw, hput _ _ (.inr rfl), by rw [← Act.put_comm a v undef h2]; exact hK⟩
theorem YieldsF.step {th : List Nat} {i : Nat} {oi : Oper} {v : Value} {a : Act} (hi : ops[i]? = some oi) (hy : YieldsF P ops Γ oi v a) {K : Act → Ctx → List Chunk → Prop} (h : K (a.put oi.dst v) Γ L) : StepL P ops th Γ i K a L := by
  refine ⟨oi, hi, ?_⟩
  rcases hy with ⟨hw, hv⟩ | ⟨hw, rfl⟩
  · exact .inl ⟨hw, Unit, fun _ => v, fun _ => Γ, fun _ => L, fun _ => True, fun _ _ => rfl, fun w hh => (hv L w hh).mono fun u w' ⟨e, hh'⟩ => ⟨(), trivial, e, hh'⟩, fun _ _ => h⟩
  · exact .inr ⟨hw, h⟩
theorem anyL_first {th : List Nat} (all : Bool) (D : List Nat) {i : Nat} {oi : Oper} {v : Value} (hi : ops[i]? = some oi) (hsel : ∀ (j : Nat) (o : Oper) cs b, ops[j]? = some o → o.op ≠ .select cs b)
    (hcl : ∀ j oj, ops[j]? = some oj → j ∈ D → ∃ e ∈ oj.after, Region.binds .any e = true ∧ (e.on = i ∨ e.on ∈ D)) :
    ∀ (n : Nat) (listed : Array Bool) (a : Act) (Γ : Ctx) (L : List Chunk),
      (∀ j oj, ops[j]? = some oj → j ≠ i → listed.getD j true = false → (∀ e ∈ oj.after, Region.binds .any e = true → e.on ≠ i) → oi.apart ops oj = true) →
      (∀ j ∈ D, listed.getD j true = false) → (all = false → ∀ j ∈ th, j ∈ D ∨ listed.getD j false = true) →
      i ∈ Region.ready .any ops listed → YieldsX P ops all Γ oi v a →
      AnyL P ops Q th n (listed.setIfInBounds i true) (a.put oi.dst v) Γ L → AnyL P ops Q th (n + 1) listed a Γ L := by
  intro n
  induction n with
  | zero =>
    intro listed a Γ L _ _ _ hr hy H
    refine ⟨fun h => (by rw [h] at hr; cases hr), fun j hj => ?_⟩
    by_cases hji : j = i
    · subst hji; exact hy.1.step hi H
    · have := ready_mono hj hji
      rw [H.1] at this
      cases this
  | succ n ih =>
    intro listed a Γ L hfree hD hT hr hy H
    refine ⟨fun h => (by rw [h] at hr; cases hr), fun j hj => ?_⟩
    by_cases hji : j = i
    · subst hji; exact hy.1.step hi H
    · have h1 := H.2 j (ready_mono hj hji)
      obtain ⟨hjun, oj, hoj, hall⟩ := mem_ready.1 hj
      have hno0 : ∀ e ∈ oj.after, Region.binds .any e = true → ∀ k, listed.getD k true = false → e.on ≠ k := fun e he hb k hk heq => by
        have h1 := hall e he hb
        rw [heq] at h1
        rcases Nat.lt_or_ge k listed.size with h' | h'
        · simp [h'] at hk h1; rw [hk] at h1; cases h1
        · simp [Array.getElem?_eq_none h'] at h1
      have hnot : ∀ e ∈ oj.after, Region.binds .any e = true → e.on ≠ i := fun e he hb => hno0 e he hb i (mem_ready.1 hr).1
      have hjD : j ∉ D := fun hm => by
        obtain ⟨e, he, hb, h⟩ := hcl j oj hoj hm
        rcases h with h | h
        · exact hnot e he hb h
        · exact hno0 e he hb e.on (hD _ h) rfl
      have hjT : all = false → j ∉ th := fun ha hm => by
        rcases hT ha j hm with h | h
        · exact hjD h
        · rcases Nat.lt_or_ge j listed.size with h' | h'
          · simp [h'] at hjun h; rw [hjun] at h; cases h
          · simp [Array.getElem?_eq_none h'] at h
      have h2 := stepL_put hoj (hfree j oj hoj hji hjun hnot) (fun cs b => hsel i oi cs b hi) (fun cs b => hsel j oj cs b hoj) hjT hy h1
      have hfree' : ∀ k ok, ops[k]? = some ok → k ≠ i → (listed.setIfInBounds j true).getD k true = false →
          (∀ e ∈ ok.after, Region.binds .any e = true → e.on ≠ i) → oi.apart ops ok = true := fun k ok hk hki hun hno => by
        refine hfree k ok hk hki ?_ hno
        by_cases hjk : j = k
        · subst hjk; exact hjun
        · rw [getD_set_ne true hjk] at hun; exact hun
      have hD' : ∀ k ∈ D, (listed.setIfInBounds j true).getD k true = false := fun k hk => by
        have hjk : j ≠ k := fun e => hjD (by rw [e]; exact hk)
        rw [getD_set_ne true hjk]; exact hD k hk
      have hT' : all = false → ∀ k ∈ th, k ∈ D ∨ (listed.setIfInBounds j true).getD k false = true := fun ha k hk => by
        rcases hT ha k hk with h | h
        · exact .inl h
        · right
          by_cases hjk : j = k
          · subst hjk; exact absurd hk (hjT ha)
          · simp only [Array.getD_eq_getD_getElem?, Array.getElem?_setIfInBounds_ne hjk] at h ⊢; exact h
      refine h2.mono (fun a' Γ' L' h3 => ih (listed.setIfInBounds j true) a' Γ' L' hfree' hD' hT' (ready_mono hr (Ne.symm hji)) h3.1 ?_)
      rw [Array.setIfInBounds_comm _ _ hji]
      exact h3.2
def AP (P : Program) (ops : Array Oper) (Q : Exit → Act → World → Prop) : Plan → Act → Ctx → List Chunk → Prop
  | .done, a, Γ, L => ∀ w, Holds Γ L w → Q .normal a w
  | .take i p, a, Γ, L => ∃ o v, ops[i]? = some o ∧ (∀ Δ, YieldsF P ops Δ o v a) ∧ AP P ops Q p (a.put o.dst v) Γ L
  | .see i _ p, a, Γ, L => ∃ o v, ops[i]? = some o ∧ YieldsF P ops Γ o v a ∧ AP P ops Q p (a.put o.dst v) Γ L
  | .one i p, a, Γ, L => StepL P ops [i] Γ i (fun a' Γ' L' => Γ' = Γ ∧ AP P ops Q p a' Γ' L') a L
  | .two i p j q, a, Γ, L => StepL P ops [i] Γ i (fun a' Γ' L' => Γ' = Γ ∧ AP P ops Q p a' Γ' L') a L ∧ StepL P ops [j] Γ j (fun a' Γ' L' => Γ' = Γ ∧ AP P ops Q q a' Γ' L') a L
  | .thaw i p, a, Γ, L => StepL P ops [i] Γ i (AP P ops Q p) a L
theorem StepL.still {th : List Nat} {i : Nat} {K : Act → Ctx → List Chunk → Prop} {a : Act} (h : StepL P ops [i] Γ i (fun a' Γ' L' => Γ' = Γ ∧ K a' Γ' L') a L) : StepL P ops th Γ i K a L := by
  obtain ⟨o, ho, h⟩ := h
  refine ⟨o, ho, ?_⟩
  rcases h with ⟨hw, X, V, C, M, φ, h0, h1, h2⟩ | ⟨hw, h⟩
  · refine .inl ⟨hw, {x : X // φ x}, fun x => V x.1, fun _ => Γ, fun x => M x.1, fun _ => True, fun _ _ => rfl, fun w hh => (h1 w hh).mono fun u w' ⟨x, hx, e, hh'⟩ => ⟨⟨x, hx⟩, trivial, e, by rw [← (h2 x hx).1]; exact hh'⟩, fun x _ => ?_⟩
    have := (h2 x.1 x.2)
    rw [← this.1]
    exact this.2
  · exact .inr ⟨hw, h.2⟩
theorem StepL.free {th : List Nat} {i : Nat} {K : Act → Ctx → List Chunk → Prop} {a : Act} (hi : i ∈ th) (h : StepL P ops [i] Γ i K a L) : StepL P ops th Γ i K a L := by
  obtain ⟨o, ho, h⟩ := h
  refine ⟨o, ho, ?_⟩
  rcases h with ⟨hw, X, V, C, M, φ, h0, h1, h2⟩ | ⟨hw, h⟩
  · exact .inl ⟨hw, X, V, C, M, φ, fun hn => absurd hi hn, h1, h2⟩
  · exact .inr ⟨hw, h⟩
theorem waitB_spec {listed : Array Bool} {i : Nat} {D : List Nat} (h : waitB ops listed i D = true) : (∀ j ∈ D, listed.getD j true = false) ∧ ∀ j oj, ops[j]? = some oj → j ∈ D → ∃ e ∈ oj.after, Region.binds .any e = true ∧ (e.on = i ∨ e.on ∈ D) := by
  simp only [waitB, List.all_eq_true, Bool.and_eq_true, Bool.not_eq_true'] at h
  refine ⟨fun j hj => (h j hj).1, fun j oj ho hj => ?_⟩
  have := (h j hj).2
  rw [ho] at this
  simp only [Array.any_eq_true', Bool.and_eq_true, Bool.or_eq_true, beq_iff_eq, List.contains_iff_mem] at this
  obtain ⟨e, he, hb, h⟩ := this
  exact ⟨e, he, hb, h⟩
theorem ap_any {th : List Nat} (hs : Region.noSelect ops = true) : ∀ (p : Plan) (n : Nat) (listed : Array Bool) (a : Act) (Γ : Ctx) (L : List Chunk), planB th ops n listed p = true → AP P ops Q p a Γ L → AnyL P ops Q th n listed a Γ L
  | .done, n, listed, a, Γ, L, hb, h => by
    have h0 : Region.ready .any ops listed = [] := by cases n <;> simpa [planB] using hb
    cases n with
    | zero => exact ⟨h0, h⟩
    | succ n => exact ⟨fun _ => h, fun i hi => by rw [h0] at hi; cases hi⟩
  | .take i p, n, listed, a, Γ, L, hb, h => by
    cases n with
    | zero => simp [planB] at hb
    | succ n =>
      simp only [planB, Bool.and_eq_true] at hb
      obtain ⟨⟨hr, hf⟩, hb⟩ := hb
      obtain ⟨o, v, ho, hy, h⟩ := h
      exact anyL_first true [] ho (Region.noSelect_spec hs) (fun _ _ _ hm => by cases hm) n listed a Γ L (Region.free_spec ho hf) (fun _ hm => by cases hm) (fun h => by cases h) (by simpa using hr) ⟨hy Γ, fun _ => hy⟩ (ap_any hs p n _ _ _ _ hb h)
  | .see i D p, n, listed, a, Γ, L, hb, h => by
    cases n with
    | zero => simp [planB] at hb
    | succ n =>
      simp only [planB, Bool.and_eq_true] at hb
      obtain ⟨⟨⟨⟨hr, hf⟩, hw⟩, ht⟩, hb⟩ := hb
      obtain ⟨o, v, ho, hy, h⟩ := h
      obtain ⟨w1, w2⟩ := waitB_spec hw
      refine anyL_first false D ho (Region.noSelect_spec hs) w2 n listed a Γ L (Region.free_spec ho hf) w1 (fun _ j hj => ?_) (by simpa using hr) ⟨hy, fun h => by cases h⟩ (ap_any hs p n _ _ _ _ hb h)
      have := List.all_eq_true.1 ht j hj
      simpa using this
  | .one i p, n, listed, a, Γ, L, hb, h => by
    cases n with
    | zero => simp [planB] at hb
    | succ n =>
      simp only [planB, Bool.and_eq_true, beq_iff_eq] at hb
      obtain ⟨hr, hb⟩ := hb
      refine ⟨fun h0 => (by rw [hr] at h0; cases h0), fun j hj => ?_⟩
      rw [hr] at hj
      obtain rfl : j = i := by simpa using hj
      exact StepL.mono (StepL.still h) fun a' Γ' L' h' => ap_any hs p n _ _ _ _ hb h'
  | .two i p k q, n, listed, a, Γ, L, hb, h => by
    cases n with
    | zero => simp [planB] at hb
    | succ n =>
      simp only [planB, Bool.and_eq_true, beq_iff_eq] at hb
      obtain ⟨⟨hr, hb1⟩, hb2⟩ := hb
      refine ⟨fun h0 => (by rw [hr] at h0; cases h0), fun j hj => ?_⟩
      rw [hr] at hj
      rcases (by simpa using hj : j = i ∨ j = k) with rfl | rfl
      · exact StepL.mono (StepL.still h.1) fun a' Γ' L' h' => ap_any hs p n _ _ _ _ hb1 h'
      · exact StepL.mono (StepL.still h.2) fun a' Γ' L' h' => ap_any hs q n _ _ _ _ hb2 h'
  | .thaw i p, n, listed, a, Γ, L, hb, h => by
    cases n with
    | zero => simp [planB] at hb
    | succ n =>
      simp only [planB, Bool.and_eq_true, beq_iff_eq] at hb
      obtain ⟨⟨hr, ht⟩, hb⟩ := hb
      refine ⟨fun h0 => (by rw [hr] at h0; cases h0), fun j hj => ?_⟩
      rw [hr] at hj
      obtain rfl : j = i := by simpa using hj
      exact StepL.mono (StepL.free (by simpa using ht) h) fun a' Γ' L' h' => ap_any hs p n _ _ _ _ hb h'
class Mixed (P : Program) : Prop where
  mixed : P.follows .mixedOrders = true
def GP (P : Program) (ops : Array Oper) (Q : Exit → Act → World → Prop) (Γ : Ctx) (N : Nat) (fr : Fr) (L : List Chunk) (p : Plan) : Prop :=
  ∀ a, a.tmps.size = N → a.defers = Γ.df → fr.ok a → AP P ops Q p a Γ L
theorem g_draw {id : Nat} {l : List Oper} {C : List Chunk} [M : Mixed P] (plan : Plan) (hp : planOk l plan = true) (t : Take L C R)
    (h : ∀ k, HP.disj Γ.hf k → All C k → GP P l.toArray Q (Γ.add k) N fr R plan) : G Γ N fr L ((Code.region id l.toArray true).wp P Q) := by
  intro a w hN hd hf hh
  have hh1 := hh.take t
  simp only [planOk, Bool.and_eq_true] at hp
  have hh2 : Holds Γ (R ++ C) w := hh1.mono fun h' al => by
    obtain ⟨h1, h2, d, s1, s2, p1, p2⟩ := all_append.1 al
    exact all_append.2 ⟨h2, h1, d.symm, s2, s1, p2, p1⟩
  obtain ⟨k, dk, hk, hr⟩ := hh2.split
  refine wp_region_any M.mixed ?_
  have := ap_any hp.1 plan _ _ a _ R hp.2 (h k dk hk a hN hd hf)
  exact any_wp _ _ a _ R (by simpa using this) _ (hr.drew _)
theorem take_all : ∀ (L : List Chunk), Take L L []
  | [] => .nil
  | _ :: L => .cons .here (take_all L)
theorem gp_done {C : List Chunk} {k : HP} (hd : HP.disj Γ.hf k) (hk : All C k) (g : G Γ N fr (L ++ C) (Q .normal)) : GP P ops Q (Γ.add k) N fr L .done :=
  fun a hN hdf hf w hh => g a w hN hdf hf (hh.join hd hk)
theorem gp_take {i : Nat} {p : Plan} (g : GP P ops Q Γ N fr L (.take i p)) : GP P ops Q Γ N fr L (.take i p) := g
theorem gp_see {i : Nat} {D : List Nat} {p : Plan} (g : GP P ops Q Γ N fr L (.see i D p)) : GP P ops Q Γ N fr L (.see i D p) := g
theorem gp_one {i : Nat} {p : Plan} (g : GP P ops Q Γ N fr L (.one i p)) : GP P ops Q Γ N fr L (.one i p) := g
section
variable {i j : Nat} {d : Nat} {op : Op} {ty : TypeId} {pos : String} {aft : Array Edge} {gd : Option (Nat × Bool)} {v : Value} {p q : Plan}
theorem gp_q (h : ∀ Δ, QStep P Δ fr ⟨some d, op, ty, pos, aft, gd⟩ v) (hi : ops[i]? = some ⟨some d, op, ty, pos, aft, gd⟩) (hg : Runs ops fr gd) (hN : Nat.blt d N = true) (k : GP P ops Q Γ N ((d, v) :: fr) L p) : GP P ops Q Γ N fr L (.take i p) :=
  fun a hs hdf hf => ⟨_, v, hi, fun Δ => .inl ⟨runs_wanted (o := ⟨some d, op, ty, pos, aft, gd⟩) hf hg, fun L w hh => h Δ a hf L w hh⟩, k _ (by simp [Act.put, hs]) hdf (hf.put (by rw [hs]; exact blt_lt hN) _)⟩
theorem gp_skip (hi : ops[i]? = some ⟨some d, op, ty, pos, aft, gd⟩) (hg : Skips ops fr gd) (hN : Nat.blt d N = true) (k : GP P ops Q Γ N ((d, undef) :: fr) L p) : GP P ops Q Γ N fr L (.take i p) :=
  fun a hs hdf hf => ⟨_, undef, hi, fun Δ => .inr ⟨skips_wanted (o := ⟨some d, op, ty, pos, aft, gd⟩) hf hg, rfl⟩, k _ (by simp [Act.put, hs]) hdf (hf.put (by rw [hs]; exact blt_lt hN) _)⟩
theorem gp_sq {D : List Nat} (h : QStep P Γ fr ⟨some d, op, ty, pos, aft, gd⟩ v) (hi : ops[i]? = some ⟨some d, op, ty, pos, aft, gd⟩) (hg : Runs ops fr gd) (hN : Nat.blt d N = true) (k : GP P ops Q Γ N ((d, v) :: fr) L p) : GP P ops Q Γ N fr L (.see i D p) :=
  fun a hs hdf hf => ⟨_, v, hi, .inl ⟨runs_wanted (o := ⟨some d, op, ty, pos, aft, gd⟩) hf hg, fun L w hh => h a hf L w hh⟩, k _ (by simp [Act.put, hs]) hdf (hf.put (by rw [hs]; exact blt_lt hN) _)⟩
theorem gp_sskip {D : List Nat} (hi : ops[i]? = some ⟨some d, op, ty, pos, aft, gd⟩) (hg : Skips ops fr gd) (hN : Nat.blt d N = true) (k : GP P ops Q Γ N ((d, undef) :: fr) L p) : GP P ops Q Γ N fr L (.see i D p) :=
  fun a hs hdf hf => ⟨_, undef, hi, .inr ⟨skips_wanted (o := ⟨some d, op, ty, pos, aft, gd⟩) hf hg, rfl⟩, k _ (by simp [Act.put, hs]) hdf (hf.put (by rw [hs]; exact blt_lt hN) _)⟩
theorem gp_c' {X : Type} {V : X → Value} {M : X → List Chunk} {φ : X → Prop} {K : Act → Ctx → List Chunk → Prop} (h : CStep P Γ fr L ⟨some d, op, ty, pos, aft, gd⟩ V M φ) (hi : ops[i]? = some ⟨some d, op, ty, pos, aft, gd⟩) (hg : Runs ops fr gd) (hN : Nat.blt d N = true)
    (k : ∀ x, φ x → ∀ a, a.tmps.size = N → a.defers = Γ.df → Fr.ok ((d, V x) :: fr) a → K a Γ (M x)) : ∀ a, a.tmps.size = N → a.defers = Γ.df → fr.ok a → StepL P ops [i] Γ i (fun a' Γ' L' => Γ' = Γ ∧ K a' Γ' L') a L :=
  fun a hs hdf hf => ⟨_, hi, .inl ⟨runs_wanted (o := ⟨some d, op, ty, pos, aft, gd⟩) hf hg, X, V, fun _ => Γ, M, φ, fun _ _ => rfl, fun w hh => h a hf w hh, fun x hx => ⟨rfl, k x hx _ (by simp [Act.put, hs]) hdf (hf.put (by rw [hs]; exact blt_lt hN) _)⟩⟩⟩
theorem gp_c {X : Type} {V : X → Value} {M : X → List Chunk} {φ : X → Prop} (h : CStep P Γ fr L ⟨some d, op, ty, pos, aft, gd⟩ V M φ) (hi : ops[i]? = some ⟨some d, op, ty, pos, aft, gd⟩) (hg : Runs ops fr gd) (hN : Nat.blt d N = true)
    (k : ∀ x, φ x → GP P ops Q Γ N ((d, V x) :: fr) (M x) p) : GP P ops Q Γ N fr L (.one i p) := gp_c' (K := AP P ops Q p) h hi hg hN k
theorem gp_n {V : Nat → Value} {M : Nat → List Chunk} (h : CStep P Γ fr L ⟨some d, op, ty, pos, aft, gd⟩ V M (fun _ => True)) (hi : ops[i]? = some ⟨some d, op, ty, pos, aft, gd⟩) (hg : Runs ops fr gd) (hN : Nat.blt d N = true)
    (k : ∀ x, GP P ops Q Γ N ((d, V x) :: fr) (M x) p) : GP P ops Q Γ N fr L (.one i p) := gp_c h hi hg hN fun x _ => k x
theorem gp_v (h : VStep P Γ fr L ⟨some d, op, ty, pos, aft, gd⟩ v) (hi : ops[i]? = some ⟨some d, op, ty, pos, aft, gd⟩) (hg : Runs ops fr gd) (hN : Nat.blt d N = true)
    (k : GP P ops Q Γ N ((d, v) :: fr) L p) : GP P ops Q Γ N fr L (.one i p) := gp_c h.c hi hg hN fun _ _ => k
theorem gp_s {M : List Chunk} (h : SStep P Γ fr L ⟨none, op, ty, pos, aft, gd⟩ M) (hi : ops[i]? = some ⟨none, op, ty, pos, aft, gd⟩) (hg : Runs ops fr gd)
    (k : GP P ops Q Γ N fr M p) : GP P ops Q Γ N fr L (.one i p) :=
  fun a hs hdf hf => ⟨_, hi, .inl ⟨runs_wanted (o := ⟨none, op, ty, pos, aft, gd⟩) hf hg, Value, fun u => u, fun _ => Γ, fun _ => M, fun _ => True, fun _ _ => rfl, fun w hh => (h a hf w hh).mono fun u _ hh' => ⟨u, trivial, rfl, hh'⟩, fun _ _ => ⟨rfl, k _ hs hdf hf⟩⟩⟩
theorem gp_oneSkip (hi : ops[i]? = some ⟨some d, op, ty, pos, aft, gd⟩) (hg : Skips ops fr gd) (hN : Nat.blt d N = true) (k : GP P ops Q Γ N ((d, undef) :: fr) L p) : GP P ops Q Γ N fr L (.one i p) :=
  fun a hs hdf hf => ⟨_, hi, .inr ⟨skips_wanted (o := ⟨some d, op, ty, pos, aft, gd⟩) hf hg, rfl, k _ (by simp [Act.put, hs]) hdf (hf.put (by rw [hs]; exact blt_lt hN) _)⟩⟩
theorem gp_thaw {X : Type} {V : X → Value} {M : X → List Chunk} {φ : X → Prop} {C : List Chunk} {m : HP} {C' R' : X → List Chunk} (hd : HP.disj Γ.hf m) (hk : All C m) (h : CStep P (Γ.add m) fr L ⟨some d, op, ty, pos, aft, gd⟩ V M φ) (t : ∀ x, Take (M x ++ C) (C' x) (R' x))
    (k : ∀ x m', φ x → HP.disj Γ.hf m' → All (C' x) m' → GP P ops Q (Γ.add m') N ((d, V x) :: fr) (R' x) p) (hi : ops[i]? = some ⟨some d, op, ty, pos, aft, gd⟩) (hg : Runs ops fr gd) (hN : Nat.blt d N = true) : GP P ops Q (Γ.add m) N fr L (.thaw i p) :=
  fun a hs hdf hf => ⟨_, hi, .inl ⟨runs_wanted (o := ⟨some d, op, ty, pos, aft, gd⟩) hf hg, X × HP, fun x => V x.1, fun x => Γ.add x.2, fun x => R' x.1, fun x => φ x.1 ∧ HP.disj Γ.hf x.2 ∧ All (C' x.1) x.2, fun hn => absurd (by simp) hn,
    fun w hh => (h a hf w hh).mono fun u w' ⟨x, hx, e, hh'⟩ => by
      have h1 := (hh'.join hd hk).take (t x)
      have h2 : Holds Γ (R' x ++ C' x) w' := h1.mono fun h' al => by
        obtain ⟨h1, h2, dj, s1, s2, p1, p2⟩ := all_append.1 al
        exact all_append.2 ⟨h2, h1, dj.symm, s2, s1, p2, p1⟩
      obtain ⟨m', dm, hm, hr⟩ := h2.split
      exact ⟨(x, m'), ⟨hx, dm, hm⟩, e, hr⟩,
    fun x hx => k x.1 x.2 hx.1 hx.2.1 hx.2.2 _ (by simp [Act.put, hs]) hdf (hf.put (by rw [hs]; exact blt_lt hN) _)⟩⟩
def Plan.head : Plan → Option Nat
  | .take i _ => some i
  | .see i _ _ => some i
  | .one i _ => some i
  | .thaw i _ => some i
  | _ => none
theorem gp_two (h1 : GP P ops Q Γ N fr L (.one i p)) (h2 : GP P ops Q Γ N fr L (.one j q)) : GP P ops Q Γ N fr L (.two i p j q) := fun a hs hdf hf => ⟨h1 a hs hdf hf, h2 a hs hdf hf⟩
theorem gp_part {t : Bool} {pl : Plan} (dm : Nat) (h : look fr dm = some (.bool t)) (gt : t = true → GP P ops Q Γ N ((dm, .bool true) :: fr) L pl) (gf : t = false → GP P ops Q Γ N ((dm, .bool false) :: fr) L pl) : GP P ops Q Γ N fr L pl := by
  intro a hs hdf hf
  have : ∀ b, t = b → Fr.ok ((dm, .bool b) :: fr) a := by
    intro b hb t' v e
    subst hb
    simp only [look] at e
    cases hq : Nat.beq dm t' with
    | true => rw [hq] at e; simp at e; subst e; rw [← Nat.eq_of_beq_eq_true hq]; exact hf dm _ h
    | false => rw [hq] at e; exact hf t' v (by simpa using e)
  cases t with
  | true => exact gt rfl a hs hdf (this true rfl)
  | false => exact gf rfl a hs hdf (this false rfl)
theorem gp_lit {c : Bool} {dm : Nat} {pl : Plan} (hp : pl.head = some i) (hi : ops[i]? = some ⟨some d, op, ty, pos, aft, some (j, c)⟩) (hj : (ops[j]?).bind (·.dst) = some dm) (h : (look fr dm).map litB = some true) (g : GP P ops Q Γ N fr L pl) : GP P ops Q Γ N fr L pl := by
  have := hi; have := hj; have := h
  exact g
theorem gp_guard {c t : Bool} {dm m : Nat} {Γ0 : Ctx} {fr0 : Fr} {L0 : List Chunk} {u1 u2 : Bool} {pl : Plan} (hp : pl.head = some i) (hi : ops[i]? = some ⟨some d, op, ty, pos, aft, some (j, c)⟩) (hj : (ops[j]?).bind (·.dst) = some dm) (h : look fr dm = some (.bool t))
    (gt : t = true → GP P ops (MidQ Γ0 N ((m, .bool u1) :: fr0) L0) Γ N ((dm, .bool true) :: fr) L pl)
    (gf : t = false → GP P ops (MidQ Γ0 N ((m, .bool u2) :: fr0) L0) Γ N ((dm, .bool false) :: fr) L pl) :
    GP P ops (MidQ Γ0 N ((m, .bool (cond t u1 u2)) :: fr0) L0) Γ N fr L pl := by
  have := hi; have := hj
  refine gp_part dm h (fun hp => ?_) (fun hp => ?_)
  · subst hp; exact gt rfl
  · subst hp; exact gf rfl
theorem gp_guard_dec {c : Bool} {s : Prop} {is : Decidable s} {dm m : Nat} {Γ0 : Ctx} {fr0 : Fr} {L0 : List Chunk} {u1 u2 : Bool} {pl : Plan} (hp : pl.head = some i) (hi : ops[i]? = some ⟨some d, op, ty, pos, aft, some (j, c)⟩) (hj : (ops[j]?).bind (·.dst) = some dm) (h : look fr dm = some (.bool (@decide s is)))
    (gt : s → GP P ops (MidQ Γ0 N ((m, .bool u1) :: fr0) L0) Γ N ((dm, .bool true) :: fr) L pl)
    (gf : ¬ s → GP P ops (MidQ Γ0 N ((m, .bool u2) :: fr0) L0) Γ N ((dm, .bool false) :: fr) L pl) :
    GP P ops (MidQ Γ0 N ((m, .bool (cond (@decide s is) u1 u2)) :: fr0) L0) Γ N fr L pl :=
  gp_guard hp hi hj h (fun h => gt (of_decide_eq_true h)) (fun h => gf (of_decide_eq_false h))
end
theorem g_drawB {id : Nat} {l : List Oper} {u : Bool} [M : Mixed P] (d : Nat) (plan : Plan) (hp : planOk l plan = true)
    (h : ∀ k, HP.disj Γ.hf k → All L k → GP P l.toArray (MidQ Γ N ((d, .bool u) :: fr) L) (Γ.add k) N fr [] plan) (k : G Γ N ((d, .bool u) :: fr) L (Q .normal)) :
    G Γ N fr L ((Code.region id l.toArray true).wp P Q) := g_cutC (g_draw plan hp (take_all L) h) k
theorem frozen_cell {C : List Chunk} {k : HP} {c : Chunk} {p : Addr} {v : Value} {w : World} (hk : All C k) (s : Sel C c R) (r : Reads c p v) (hh : Holds (Γ.add k) L w) (hd : HP.disj Γ.hf k) : w.cell? p = some v := by
  obtain ⟨h1, _, _, s1, _, hc, _⟩ := All.sel s hk
  obtain ⟨xs, e, fz, hb, hsp, hv⟩ := r h1 hc
  have : w.heap[p.block]? = some (.cells xs e fz) := hh.frame _ _ (HP.sub_union_right hd _ _ (s1 _ _ hb))
  simp [World.cell?, this, hsp, hv]
section
variable {d : Nat} {ty : TypeId} {pos : String} {aft : Array Edge} {gd : Option (Nat × Bool)} {x : Operand} {v : Value} {t : TypeId} {C : List Chunk} {k : HP}
theorem qs_loadFR {c : Chunk} {p : Addr} [T : TOne P t] (hd : HP.disj Γ.hf k) (hk : All C k) (hx : ev fr x = some (.pointer (some p))) (s : Sel C c R) (r : Reads c p v) : QStep P (Γ.add k) fr ⟨some d, .load t x, ty, pos, aft, gd⟩ v := fun a hf L w hh => by
  unfold opRes
  have : (execOp a.eval (⟨some d, .load t x, ty, pos, aft, gd⟩ : Oper)).run P w = .ok (.value v) w := by simp [execOp, hf.ev hx, run_load1 T.row (frozen_cell hk s r hh hd)]
  rw [this]; exact ⟨rfl, hh⟩
theorem qs_loadF {b o : Nat} {xs : List Value} {e : TypeId} {fz : Nat × Nat} [T : TOne P t] (hd : HP.disj Γ.hf k) (hk : All C k) (hx : ev fr x = some (.pointer (some ⟨b, o, none⟩))) (s : Sel C (.row b xs e fz) R) (r : xs[o]? = some v) : QStep P (Γ.add k) fr ⟨some d, .load t x, ty, pos, aft, gd⟩ v :=
  qs_loadFR hd hk hx s (reads_row r)
theorem qs_loadFAR {c : Chunk} {b o n : Nat} {cs : List Value} [T : TAgg P t n] (hd : HP.disj Γ.hf k) (hk : All C k) (hx : ev fr x = some (.pointer (some ⟨b, o, none⟩))) (s : Sel C c R) (hl : cs.length = n) (r : ∀ (j : Nat) (v : Value), cs[j]? = some v → Reads c ⟨b, o + j, none⟩ v) :
    QStep P (Γ.add k) fr ⟨some d, .load t x, ty, pos, aft, gd⟩ (.agg cs.toArray) := fun a hf L w hh => by
  unfold opRes
  have : (execOp a.eval (⟨some d, .load t x, ty, pos, aft, gd⟩ : Oper)).run P w = .ok (.value (.agg cs.toArray)) w := by simp [execOp, hf.ev hx, run_loadA T.row T.size hl (fun j v hv => frozen_cell hk s (r j v hv) hh hd)]
  rw [this]; exact ⟨rfl, hh⟩
theorem qs_loadFA {b o n : Nat} {xs cs : List Value} {e : TypeId} {fz : Nat × Nat} [T : TAgg P t n] (hd : HP.disj Γ.hf k) (hk : All C k) (hx : ev fr x = some (.pointer (some ⟨b, o, none⟩))) (s : Sel C (.row b xs e fz) R) (c : Cut xs o n cs) :
    QStep P (Γ.add k) fr ⟨some d, .load t x, ty, pos, aft, gd⟩ (.agg cs.toArray) := qs_loadFAR hd hk hx s c.get.1 (fun j v hv => reads_row (c.get.2 j v hv))
end
end Go.Sl

namespace Go.Sl
variable {P : Program} {Γ : Ctx} {L R : List Chunk} {N : Nat} {fr : Fr} {Q : Exit → Act → World → Prop} {ops : Array Oper} {rest : List Oper}
class TFields (P : Program) (t : TypeId) (fs : outParam (List (TypeId × Nat))) : Prop where
  struct : P.underlying t = some (.struct (P.fieldsOf t))
  fields : (P.fieldsOf t).toList.map (fun f => ((f.type, f.offset), f.name == "_")) = fs.map fun x => (x, false)
  held : P.stoodInHeld t = false
  guard : P.eqGuardType P.depth t = false
def EqRun (P : Program) (n : Nat) (t : TypeId) (x y : Value) (r : Bool) : Prop := ∀ d, n ≤ d → ∀ w, (Op.equalIn d t x y).run P w = .ok r w
inductive EqFs (P : Program) (n : Nat) (xs ys : List Value) : List (TypeId × Nat) → Bool → Prop where
  | nil : EqFs P n xs ys [] true
  | one {ft : TypeId} {off : Nat} {x y : Value} {r r' : Bool} {fs : List (TypeId × Nat)} [T : TOne P ft] : xs[off]? = some x → ys[off]? = some y → EqRun P n ft x y r → EqFs P n xs ys fs r' → EqFs P n xs ys ((ft, off) :: fs) (r && r')
  | agg {ft : TypeId} {off m : Nat} {cs cs' : List Value} {r r' : Bool} {fs : List (TypeId × Nat)} [T : TAgg P ft m] : Cut xs off m cs → Cut ys off m cs' → EqRun P n ft (.agg cs.toArray) (.agg cs'.toArray) r → EqFs P n xs ys fs r' → EqFs P n xs ys ((ft, off) :: fs) (r && r')
theorem eqFs_one {n : Nat} {xs ys : List Value} {ft : TypeId} {off : Nat} {x y : Value} {r r' : Bool} {fs : List (TypeId × Nat)} (T : TOne P ft) (h1 : xs[off]? = some x) (h2 : ys[off]? = some y) (h3 : EqRun P n ft x y r) (h4 : EqFs P n xs ys fs r') : EqFs P n xs ys ((ft, off) :: fs) (r && r') := .one h1 h2 h3 h4
theorem eqFs_agg {n : Nat} {xs ys : List Value} {ft : TypeId} {off m : Nat} {cs cs' : List Value} {r r' : Bool} {fs : List (TypeId × Nat)} (T : TAgg P ft m) (h1 : Cut xs off m cs) (h2 : Cut ys off m cs') (h3 : EqRun P n ft (.agg cs.toArray) (.agg cs'.toArray) r) (h4 : EqFs P n xs ys fs r') : EqFs P n xs ys ((ft, off) :: fs) (r && r') := .agg h1 h2 h3 h4
theorem eqRun_int {t : TypeId} {k k' : IntKind} {a b : Int} [D : TDesc P t (.int k')] : EqRun P 1 t (.int k a) (.int k b) (decide (a = b)) := fun d hd w => by
  cases d with
  | zero => omega
  | succ d =>
    have : (a == b) = decide (a = b) := by by_cases h : a = b <;> simp [h]
    rw [← this]
    exact run_equalIn_int w d t k k' a b D.desc
theorem eqRun_bool {t : TypeId} {a b : Bool} [D : TDesc P t .bool] : EqRun P 1 t (.bool a) (.bool b) (a == b) := fun d hd w => by
  cases d with
  | zero => omega
  | succ d => exact run_equalIn_bool' w d t a b D.desc
theorem eqRun_string {t : TypeId} {a b : ByteArray} [D : TDesc P t .string] : EqRun P 1 t (.string a) (.string b) (decide (a = b)) := fun d hd w => by
  cases d with
  | zero => omega
  | succ d =>
    have : (a.toList == b.toList) = decide (a = b) := by by_cases h : a = b <;> simp [h, toList_inj]
    rw [← this]
    exact run_equalIn_string w d t a b D.desc
theorem EqRun.mono {n m : Nat} {t : TypeId} {x y : Value} {r : Bool} (h : EqRun P n t x y r) (le : n ≤ m) : EqRun P m t x y r := fun d hd w => h d (by omega) w
theorem run_part1 {t : TypeId} {cs : List Value} {off : Nat} {v : Value} [T : TOne P t] (h : cs[off]? = some v) (w : World) : (part t cs.toArray off).run P w = .ok v w := by
  simp [part, run_isAgg' T.row, h]
theorem cut_extract {xs cs : List Value} {o n : Nat} (h : Cut xs o n cs) : (xs.drop o).take n = cs := by
  induction h with
  | zero => simp
  | take _ ih => simpa using ih
  | skip _ ih => simpa using ih
theorem run_partA {t : TypeId} {xs cs : List Value} {off n : Nat} [T : TAgg P t n] (h : Cut xs off n cs) (w : World) : (part t xs.toArray off).run P w = .ok (.agg cs.toArray) w := by
  have := cut_extract h
  simp only [part, Sem.run_bind, run_isAgg' T.row, Result.andThen_ok, if_true, run_sizeOf' T.size, Sem.run_pure]
  congr 2
  apply Array.ext'
  simp [← this]
theorem eqFs_run {n : Nat} {xs ys : List Value} {d : Nat} (hd : n ≤ d) : ∀ {fs : List (TypeId × Nat)} {r : Bool}, EqFs P n xs ys fs r → ∀ (Fs : List Field), Fs.map (fun f => ((f.type, f.offset), f.name == "_")) = fs.map (fun x => (x, false)) → ∀ w, (Op.eqFields d xs.toArray ys.toArray Fs).run P w = .ok r w := by
  intro fs r h
  induction h with
  | nil =>
    intro Fs hF w
    have : Fs = [] := by simpa using hF
    subst this
    simp [Op.eqFields]
  | @one ft off x y r r' fs T hx hy he _ ih =>
    intro Fs hF w
    match Fs, hF with
    | f :: Fs, hF =>
      simp only [List.map_cons, List.cons.injEq, Prod.mk.injEq] at hF
      obtain ⟨⟨⟨e1, e2⟩, e3⟩, hF⟩ := hF
      have h3 : f.name ≠ "_" := by simpa using e3
      simp only [Op.eqFields, if_pos h3, e1, e2]
      rw [Sem.run_bind, run_part1 hx, Result.andThen_ok, Sem.run_bind, run_part1 hy, Result.andThen_ok, Sem.run_bind, he d hd, Result.andThen_ok]
      cases r
      · simp
      · simp [ih Fs hF w]
  | @agg ft off m cs cs' r r' fs T hx hy he _ ih =>
    intro Fs hF w
    match Fs, hF with
    | f :: Fs, hF =>
      simp only [List.map_cons, List.cons.injEq, Prod.mk.injEq] at hF
      obtain ⟨⟨⟨e1, e2⟩, e3⟩, hF⟩ := hF
      have h3 : f.name ≠ "_" := by simpa using e3
      simp only [Op.eqFields, if_pos h3, e1, e2]
      rw [Sem.run_bind, run_partA hx, Result.andThen_ok, Sem.run_bind, run_partA hy, Result.andThen_ok, Sem.run_bind, he d hd, Result.andThen_ok]
      cases r
      · simp
      · simp [ih Fs hF w]
theorem eqRun_struct {n : Nat} {t : TypeId} {fs : List (TypeId × Nat)} {xs ys : List Value} {r : Bool} [T : TFields P t fs] (h : EqFs P n xs ys fs r) : EqRun P (n + 1) t (.agg xs.toArray) (.agg ys.toArray) r := fun d hd w => by
  cases d with
  | zero => omega
  | succ d => rw [run_equalIn_struct w d t _ _ T.struct T.held]; exact eqFs_run (by omega) h _ T.fields w
theorem eqRun_structM {t : TypeId} {fs : List (TypeId × Nat)} {xs ys : List Value} {r : Bool} (T : TFields P t fs) (h : EqFs P 1 xs ys fs r) : EqRun P 3 t (.agg xs.toArray) (.agg ys.toArray) r := (eqRun_struct h).mono (by omega)
section
variable {d : Nat} {ty : TypeId} {pos : String} {aft : Array Edge} {gd : Option (Nat × Bool)} {x y : Operand} {v u : Value} {t t2 : TypeId}
theorem qs_eqA {fs : List (TypeId × Nat)} {xs ys : List Value} {r : Bool} [T : TFields P t fs] (hx : ev fr x = some (.agg xs.toArray)) (hy : ev fr y = some (.agg ys.toArray)) (h : EqFs P 3 xs ys fs r) :
    QStep P Γ fr ⟨some d, .binOp .eql t x y t2, ty, pos, aft, gd⟩ (.bool r) := qs_of (fun a w hf => by
  have h1 := eqRun_struct (P := P) (t := t) h 10000 (by omega) w
  have hb : binOp .eql t (.agg xs.toArray) (.agg ys.toArray) = (do pure (.bool (← Op.equal t (.agg xs.toArray) (.agg ys.toArray)))) := rfl
  have h2 : (Op.equal t (.agg xs.toArray) (.agg ys.toArray)).run P w = .ok r w := h1
  simp only [execOp, hf.ev hx, hf.ev hy, hb]
  simp [run_eqGuard_agg w .eql t x y _ _ T.guard, h2])
theorem qs_neA {fs : List (TypeId × Nat)} {xs ys : List Value} {r : Bool} [T : TFields P t fs] (hx : ev fr x = some (.agg xs.toArray)) (hy : ev fr y = some (.agg ys.toArray)) (h : EqFs P 3 xs ys fs r) :
    QStep P Γ fr ⟨some d, .binOp .neq t x y t2, ty, pos, aft, gd⟩ (.bool (!r)) := qs_of (fun a w hf => by
  have h1 := eqRun_struct (P := P) (t := t) h 10000 (by omega) w
  have hb : binOp .neq t (.agg xs.toArray) (.agg ys.toArray) = (do pure (.bool (!(← Op.equal t (.agg xs.toArray) (.agg ys.toArray))))) := rfl
  have h2 : (Op.equal t (.agg xs.toArray) (.agg ys.toArray)).run P w = .ok r w := h1
  simp only [execOp, hf.ev hx, hf.ev hy, hb]
  simp [run_eqGuard_agg w .neq t x y _ _ T.guard, h2])
end
class TFds (P : Program) (t : TypeId) (fs : outParam (List (TypeId × Nat))) : Prop where
  struct : P.underlying t = some (.struct (P.fieldsOf t))
  fields : (P.fieldsOf t).toList.map (fun f => (f.type, f.offset)) = fs
section
variable {d : Nat} {ty : TypeId} {pos : String} {aft : Array Edge} {gd : Option (Nat × Bool)} {x y : Operand} {t t2 : TypeId} {v : Value}
theorem run_field {s ft : TypeId} {f off : Nat} {fs : List (TypeId × Nat)} {xs : List Value} (T : TFds P s fs) (hf : fs[f]? = some (ft, off)) (w : World) (h : (part ft xs.toArray off).run P w = .ok v w) :
    (Instr.field s (.agg xs.toArray) f).run P w = .ok v w := by
  have h2 : ((P.fieldsOf s).toList.map (fun f => (f.type, f.offset)))[f]? = some (ft, off) := by rw [T.fields]; exact hf
  simp only [List.getElem?_map, Option.map_eq_some_iff] at h2
  obtain ⟨g, hg, he⟩ := h2
  simp only [Prod.mk.injEq] at he
  obtain ⟨rfl, rfl⟩ := he
  have hg' : (P.fieldsOf s)[f]? = some g := by simpa using hg
  simp only [Instr.field, Sem.run_bind, run_underlying T.struct, Result.andThen_ok, hg']
  simp [asAgg, h]
theorem qs_field1 {s ft : TypeId} {f off : Nat} {fs : List (TypeId × Nat)} {xs : List Value} (T : TFds P s fs) (hx : ev fr x = some (.agg xs.toArray)) (hf : fs[f]? = some (ft, off)) (O : TOne P ft) (hv : xs[off]? = some v) :
    QStep P Γ fr ⟨some d, .field s x f, ty, pos, aft, gd⟩ v := qs_of (fun c w hf' => by
  simp [execOp, hf'.ev hx, run_field T hf w (run_part1 (T := O) hv w)])
theorem qs_fieldA {s ft : TypeId} {f off n : Nat} {fs : List (TypeId × Nat)} {xs cs : List Value} (T : TFds P s fs) (hx : ev fr x = some (.agg xs.toArray)) (hf : fs[f]? = some (ft, off)) (O : TAgg P ft n) (hc : Cut xs off n cs) :
    QStep P Γ fr ⟨some d, .field s x f, ty, pos, aft, gd⟩ (.agg cs.toArray) := qs_of (fun c w hf' => by
  simp [execOp, hf'.ev hx, run_field T hf w (run_partA (T := O) hc w)])
end
section
variable {d : Nat} {ty : TypeId} {pos : String} {aft : Array Edge} {gd : Option (Nat × Bool)} {x y : Operand} {t t2 : TypeId} {p q : Bool} {C : List Chunk} {m : HP}
theorem qs_eqlB [D : TDesc P t .bool] (hx : ev fr x = some (.bool p)) (hy : ev fr y = some (.bool q)) : QStep P Γ fr ⟨some d, .binOp .eql t x y t2, ty, pos, aft, gd⟩ (.bool (decide (p = q))) := qs_of (fun c w hf => by
  have e : (p == q) = decide (p = q) := by cases p <;> cases q <;> rfl
  simp [execOp, hf.ev hx, hf.ev hy, eqGuard_at_bool, run_eql_bool w t p q D.desc, e])
theorem qs_neqB [D : TDesc P t .bool] (hx : ev fr x = some (.bool p)) (hy : ev fr y = some (.bool q)) : QStep P Γ fr ⟨some d, .binOp .neq t x y t2, ty, pos, aft, gd⟩ (.bool (decide (p ≠ q))) := qs_of (fun c w hf => by
  have e : (!(p == q)) = decide (p ≠ q) := by cases p <;> cases q <;> rfl
  simp [execOp, hf.ev hx, hf.ev hy, eqGuard_at_bool, run_neq_bool w t p q D.desc, e])
theorem vs_loadX {c : Chunk} {b o k n : Nat} {xs cs : List Value} [T : TAgg P t n] (hx : ev fr x = some (.pointer (some ⟨b, o + k, none⟩))) (s : Sel L c R) (h : ∀ (j : Nat) (v : Value), xs[j]? = some v → Reads c ⟨b, o + j, none⟩ v) (ct : Cut xs k n cs) :
    VStep P Γ fr L ⟨some d, .load t x, ty, pos, aft, gd⟩ (.agg cs.toArray) := vs_loadAR hx s ct.get.1 (fun j v hv => by have := h (k + j) v (ct.get.2 j v hv); rwa [← Nat.add_assoc] at this)
theorem qs_loadFX {c : Chunk} {b o k n : Nat} {xs cs : List Value} [T : TAgg P t n] (hd : HP.disj Γ.hf m) (hk : All C m) (hx : ev fr x = some (.pointer (some ⟨b, o + k, none⟩))) (s : Sel C c R) (h : ∀ (j : Nat) (v : Value), xs[j]? = some v → Reads c ⟨b, o + j, none⟩ v) (ct : Cut xs k n cs) :
    QStep P (Γ.add m) fr ⟨some d, .load t x, ty, pos, aft, gd⟩ (.agg cs.toArray) := qs_loadFAR hd hk hx s ct.get.1 (fun j v hv => by have := h (k + j) v (ct.get.2 j v hv); rwa [← Nat.add_assoc] at this)
variable {v : Value}
theorem vs_loadR' {c : Chunk} {p : Addr} (T : TOne P t) (hx : ev fr x = some (.pointer (some p))) (r : Reads c p v) (s : Sel L c R) : VStep P Γ fr L ⟨some d, .load t x, ty, pos, aft, gd⟩ (v) := vs_loadR hx s r
theorem vs_load' {b o : Nat} {xs : List Value} {e : TypeId} {fz : Nat × Nat} (T : TOne P t) (hx : ev fr x = some (.pointer (some ⟨b, o, none⟩))) (s : Sel L (.row b xs e fz) R) (r : xs[o]? = some v) : VStep P Γ fr L ⟨some d, .load t x, ty, pos, aft, gd⟩ (v) := vs_load hx s r
theorem vs_loadAR' {c : Chunk} {b o n : Nat} {cs : List Value} (T : TAgg P t n) (hx : ev fr x = some (.pointer (some ⟨b, o, none⟩))) (r : ∀ (j : Nat) (v : Value), cs[j]? = some v → Reads c ⟨b, o + j, none⟩ v) (s : Sel L c R) (hl : cs.length = n) : VStep P Γ fr L ⟨some d, .load t x, ty, pos, aft, gd⟩ (.agg cs.toArray) := vs_loadAR hx s hl r
theorem vs_loadA' {b o n : Nat} {xs cs : List Value} {e : TypeId} {fz : Nat × Nat} (T : TAgg P t n) (hx : ev fr x = some (.pointer (some ⟨b, o, none⟩))) (s : Sel L (.row b xs e fz) R) (c : Cut xs o n cs) : VStep P Γ fr L ⟨some d, .load t x, ty, pos, aft, gd⟩ (.agg cs.toArray) := vs_loadA hx s c
theorem vs_loadX' {c : Chunk} {b o k n : Nat} {xs cs : List Value} (T : TAgg P t n) (hx : ev fr x = some (.pointer (some ⟨b, o + k, none⟩))) (h : ∀ (j : Nat) (v : Value), xs[j]? = some v → Reads c ⟨b, o + j, none⟩ v) (ct : Cut xs k n cs) (s : Sel L c R) : VStep P Γ fr L ⟨some d, .load t x, ty, pos, aft, gd⟩ (.agg cs.toArray) := vs_loadX hx s h ct
theorem qs_loadFR' {c : Chunk} {p : Addr} (T : TOne P t) (hd : HP.disj Γ.hf m) (hk : All C m) (hx : ev fr x = some (.pointer (some p))) (r : Reads c p v) (s : Sel C c R) : QStep P (Γ.add m) fr ⟨some d, .load t x, ty, pos, aft, gd⟩ v := qs_loadFR hd hk hx s r
theorem qs_loadF' {b o : Nat} {xs : List Value} {e : TypeId} {fz : Nat × Nat} (T : TOne P t) (hd : HP.disj Γ.hf m) (hk : All C m) (hx : ev fr x = some (.pointer (some ⟨b, o, none⟩))) (s : Sel C (.row b xs e fz) R) (r : xs[o]? = some v) : QStep P (Γ.add m) fr ⟨some d, .load t x, ty, pos, aft, gd⟩ v := qs_loadF hd hk hx s r
theorem qs_loadFAR' {c : Chunk} {b o n : Nat} {cs : List Value} (T : TAgg P t n) (hd : HP.disj Γ.hf m) (hk : All C m) (hx : ev fr x = some (.pointer (some ⟨b, o, none⟩))) (r : ∀ (j : Nat) (v : Value), cs[j]? = some v → Reads c ⟨b, o + j, none⟩ v) (s : Sel C c R) (hl : cs.length = n) : QStep P (Γ.add m) fr ⟨some d, .load t x, ty, pos, aft, gd⟩ (.agg cs.toArray) := qs_loadFAR hd hk hx s hl r
theorem qs_loadFA' {b o n : Nat} {xs cs : List Value} {e : TypeId} {fz : Nat × Nat} (T : TAgg P t n) (hd : HP.disj Γ.hf m) (hk : All C m) (hx : ev fr x = some (.pointer (some ⟨b, o, none⟩))) (s : Sel C (.row b xs e fz) R) (c : Cut xs o n cs) : QStep P (Γ.add m) fr ⟨some d, .load t x, ty, pos, aft, gd⟩ (.agg cs.toArray) := qs_loadFA hd hk hx s c
theorem qs_loadFX' {c : Chunk} {b o k n : Nat} {xs cs : List Value} (T : TAgg P t n) (hd : HP.disj Γ.hf m) (hk : All C m) (hx : ev fr x = some (.pointer (some ⟨b, o + k, none⟩))) (h : ∀ (j : Nat) (v : Value), xs[j]? = some v → Reads c ⟨b, o + j, none⟩ v) (ct : Cut xs k n cs) (s : Sel C c R) : QStep P (Γ.add m) fr ⟨some d, .load t x, ty, pos, aft, gd⟩ (.agg cs.toArray) := qs_loadFX hd hk hx s h ct
theorem ss_storeA' {b o n : Nat} {xs vs ys : List Value} {e : TypeId} (T : TAgg P t n) (hx : ev fr x = some (.pointer (some ⟨b, o, none⟩))) (hy : ev fr y = some (.agg vs.toArray)) (hn : Nat.beq vs.length n = true) (h1 : vs.all (·.oneCell') = true) (s : Sel L (.row b xs e) R) (p : Put xs o vs ys) : SStep P Γ fr L ⟨none, .store t x y, ty, pos, aft, gd⟩ (.row b ys e :: R) := ss_storeA hx hy hn h1 s p
theorem ss_store' {b o : Nat} {xs ys : List Value} {e : TypeId} (T : TOne P t) (hx : ev fr x = some (.pointer (some ⟨b, o, none⟩))) (hy : ev fr y = some v) (h1 : v.oneCell' = true) (s : Sel L (.row b xs e) R) (p : Put xs o [v] ys) : SStep P Γ fr L ⟨none, .store t x y, ty, pos, aft, gd⟩ (.row b ys e :: R) := ss_store hx hy h1 s p
end
def isPt : Chunk → Bool
  | .pt _ _ => true
  | _ => false
def onB (A : List Chunk) (b : Nat) : Bool := A.any fun c => match c with
  | .pt b' _ => Nat.beq b' b
  | _ => false
def HP.cut (h : HP) (p : Nat → Bool) : HP := fun b => bif p b then h b else none
theorem HP.cut_sub (h : HP) (p : Nat → Bool) : HP.sub (h.cut p) h := fun b o e => by
  unfold HP.cut at e; cases hp : p b <;> simp_all
theorem HP.cut_mono {h k : HP} (s : HP.sub h k) (p : Nat → Bool) : HP.sub (h.cut p) (k.cut p) := fun b o e => by
  unfold HP.cut at *; cases hp : p b <;> simp_all; exact s _ _ e
theorem all_cut : ∀ {A : List Chunk} {h : HP} (p : Nat → Bool), A.all isPt = true → (∀ b, onB A b = true → p b = true) → All A h → All A (h.cut p)
  | [], _, _, _, _, _ => trivial
  | c :: A, h, p, ht, hp, ⟨h1, h2, d, s1, s2, hc, ha⟩ => by
    simp only [List.all_cons, Bool.and_eq_true] at ht
    refine ⟨h1.cut p, h2.cut p, ?_, HP.cut_mono s1 p, HP.cut_mono s2 p, ?_, all_cut p ht.2 (fun b hb => hp b (by simp [onB] at hb ⊢; exact .inr hb)) ha⟩
    · intro b
      rcases d b with e | e
      · left; unfold HP.cut; cases p b <;> simp [e]
      · right; unfold HP.cut; cases p b <;> simp [e]
    · cases c with
      | pt b o =>
        have hc' : h1 b = some o := hc
        have : p b = true := hp b (by simp [onB])
        simp [Chunk.sat, HP.cut, this, hc']
      | asn => simp [isPt] at ht
theorem all_same : ∀ {A : List Chunk} {h k : HP}, A.all isPt = true → All A h → All A k → ∀ b, onB A b = true → h b = k b ∧ (h b).isSome = true
  | [], _, _, _, _, _, b, hb => by simp [onB] at hb
  | c :: A, h, k, ht, ⟨h1, h2, _, s1, s2, hc, ha⟩, ⟨k1, k2, _, t1, t2, kc, ka⟩, b, hb => by
    simp only [List.all_cons, Bool.and_eq_true] at ht
    by_cases hbA : onB A b = true
    · have := all_same ht.2 ha ka b hbA
      obtain ⟨e, hs⟩ := this
      obtain ⟨o, ho⟩ := Option.isSome_iff_exists.1 hs
      have := s2 _ _ ho
      have := t2 _ _ (e ▸ ho)
      simp_all
    · cases c with
      | asn => simp [isPt] at ht
      | pt b' o =>
        have : b' = b := by
          simp only [onB, List.any_cons, Bool.or_eq_true] at hb
          rcases hb with e | e
          · exact Nat.eq_of_beq_eq_true e
          · exact absurd e hbA
        subst this
        have e1 : h b' = some o := s1 _ _ hc
        have e2 : k b' = some o := t1 _ _ kc
        simp [e1, e2]
section
variable {d : Nat} {ty : TypeId} {pos : String} {aft : Array Edge} {gd : Option (Nat × Bool)} {v : Value} {f : FuncId} {xs : List Operand} {vs : List Value} {tys : Array TypeId} {A C : List Chunk} {k : HP} {i : Nat} {p : Plan}
theorem qs_callF [Cb : Callable P f] (fn : Does1 P f vs A v) (hd : HP.disj Γ.hf k) (hk : All C k) (hA : A.all isPt = true) (he : Evs fr xs vs) (tk : Take C A R) :
    QStep P (Γ.add k) fr ⟨some d, .call ⟨.value (.func f), xs.toArray, tys⟩, ty, pos, aft, gd⟩ v := by
  intro a hf L w hh
  unfold opRes
  rw [run_call he hf _ rfl]
  obtain ⟨h, dh, sh, al⟩ := hh.own
  have hkA : All A k := (All.take tk hk).drop_right
  have hfr : HP.sub (HP.union Γ.hf k) (wheap w) := hh.frame
  have fk : HP.sub k (wheap w) := (HP.sub_union_right hd).trans hfr
  have ff : HP.sub Γ.hf (wheap w) := (HP.sub_union_left _ _).trans hfr
  obtain ⟨df, dk⟩ := HP.disj_of_union dh
  let kA : HP := k.cut (onB A)
  let kR : HP := k.cut (fun b => !onB A b)
  let Γ' : Ctx := { Γ with hf := HP.union (HP.union Γ.hf kR) h }
  have sA : HP.sub kA k := HP.cut_sub _ _
  have sR : HP.sub kR k := HP.cut_sub _ _
  have dAR : HP.disj kA kR := fun b => by
    show k.cut (onB A) b = none ∨ k.cut (fun b => !onB A b) b = none
    unfold HP.cut
    by_cases e : onB A b = true <;> simp [e]
  have H0 : Holds Γ' A w := by
    refine ⟨hh.os, hh.tape, hh.output, hh.frz, HP.union_sub (HP.union_sub ff (sR.trans fk)) sh, kA, ?_, sA.trans fk, all_cut _ hA (fun _ hb => hb) hkA⟩
    exact HP.disj_union (HP.disj_union (HP.disj_sub hd.symm sA).symm dAR.symm) (HP.disj_sub dk sA).symm
  refine (fn Γ' w H0).mono ?_
  rintro e w' ⟨_, _, rfl, hB⟩
  refine ⟨_, rfl, rfl, ?_⟩
  obtain ⟨h', dh', sh', al'⟩ := hB.own
  have hf' : HP.sub (HP.union (HP.union Γ.hf kR) h) (wheap w') := hB.frame
  have fR : HP.sub (HP.union Γ.hf kR) (wheap w') := (HP.sub_union_left _ _).trans hf'
  have dfR : HP.disj Γ.hf kR := (HP.disj_sub hd.symm sR).symm
  refine ⟨hB.os, hB.tape, hB.output, hB.frz, HP.union_sub ((HP.sub_union_left _ _).trans fR) ?_, h, dh, (HP.sub_union_right ?_).trans hf', al⟩
  · intro b o hb
    by_cases hbA : onB A b = true
    · have := all_same hA hkA al' b hbA
      exact sh' _ _ (by rw [← this.1]; exact hb)
    · exact fR _ _ (HP.sub_union_right dfR _ _ (by
        show k.cut (fun b => !onB A b) b = some o
        unfold HP.cut
        simp [hbA, hb]))
  · exact HP.disj_union df (HP.disj_sub dk sR)
end
end Go.Sl
