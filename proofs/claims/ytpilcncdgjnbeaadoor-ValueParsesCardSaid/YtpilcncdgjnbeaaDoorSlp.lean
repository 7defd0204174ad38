/- Part 15: a call over what stands, while it stands still. -/
import Derived.Test.YtpilcncdgjnbeaaDoorSlo
set_option linter.unusedSimpArgs false
set_option linter.unusedVariables false
namespace Go.Sl
variable {P : Program} {Γ : Ctx} {L R : List Chunk} {N : Nat} {fr : Fr}
variable {d : Nat} {ty : TypeId} {pos : String} {aft : Array Edge} {gd : Option (Nat × Bool)} {f : FuncId} {xs : List Operand} {vs : List Value} {tys : Array TypeId} {C : List Chunk} {k H : HP}
theorem cs_callP [Cb : Callable P f] {X : Type} {ret : X → Value} {φ : X → Prop} (fn : Does P f vs [Pile H] ret (fun _ => [Pile H]) φ) (hd : HP.disj Γ.hf k) (hk : All C k) (he : Evs fr xs vs) (s : Sel C (Pile H) R) :
    CStep P (Γ.add k) fr L ⟨some d, .call ⟨.value (.func f), xs.toArray, tys⟩, ty, pos, aft, gd⟩ ret (fun _ => L) φ := by
  intro a hf w hh
  unfold opRes
  rw [run_call he hf _ rfl]
  obtain ⟨h, dh, sh, al⟩ := hh.own
  obtain ⟨h1, _, _, sA, _, hc, _⟩ := All.sel s hk
  have hc' : h1 = H := hc
  subst hc'
  have hfr : HP.sub (HP.union Γ.hf k) (wheap w) := hh.frame
  have fk : HP.sub k (wheap w) := (HP.sub_union_right hd).trans hfr
  have ff : HP.sub Γ.hf (wheap w) := (HP.sub_union_left _ _).trans hfr
  obtain ⟨df, dk⟩ := HP.disj_of_union dh
  let kR : HP := k.cut (fun b => (h1 b).isNone)
  let Γ' : Ctx := { Γ with hf := HP.union (HP.union Γ.hf kR) h }
  have sR : HP.sub kR k := HP.cut_sub _ _
  have dAR : HP.disj h1 kR := fun b => by
    show h1 b = none ∨ k.cut (fun b => (h1 b).isNone) b = none
    unfold HP.cut
    cases hq : h1 b with
    | none => exact .inl rfl
    | some o => right; simp [hq]
  have H0 : Holds Γ' [Pile h1] w := by
    refine ⟨hh.os, hh.tape, hh.output, hh.frz, HP.union_sub (HP.union_sub ff (sR.trans fk)) sh, h1, ?_, sA.trans fk, h1, fun _ => none, fun _ => .inr rfl, HP.sub.refl _, (fun _ _ e => by cases e), rfl, trivial⟩
    exact HP.disj_union (HP.disj_union (HP.disj_sub hd.symm sA).symm dAR.symm) (HP.disj_sub dk sA).symm
  refine (fn Γ' w H0).mono ?_
  rintro e w' ⟨x, hx, rfl, hB⟩
  refine ⟨_, rfl, x, hx, rfl, ?_⟩
  obtain ⟨h', dh', sh', g1, _, _, t1, _, gc, _⟩ := hB.own
  have gc' : g1 = h1 := gc
  subst gc'
  have hf' : HP.sub (HP.union (HP.union Γ.hf kR) h) (wheap w') := hB.frame
  have fR : HP.sub (HP.union Γ.hf kR) (wheap w') := (HP.sub_union_left _ _).trans hf'
  have dfR : HP.disj Γ.hf kR := (HP.disj_sub hd.symm sR).symm
  refine ⟨hB.os, hB.tape, hB.output, hB.frz, HP.union_sub ((HP.sub_union_left _ _).trans fR) ?_, h, dh, (HP.sub_union_right ?_).trans hf', al⟩
  · intro b o hb
    cases hg : g1 b with
    | some o' =>
      have e1 := sA _ _ hg
      rw [hb] at e1
      cases e1
      exact sh' _ _ (t1 _ _ hg)
    | none =>
      exact fR _ _ (HP.sub_union_right dfR _ _ (by
        show k.cut (fun b => (g1 b).isNone) b = some o
        unfold HP.cut
        simp [hg, hb]))
  · exact HP.disj_union df (HP.disj_sub dk sR)
/-- An element of a slice that is only read. -/
theorem slAt_elem {α : Type} {g : α → List Value} {n m : Nat} {c : Chunk} {p : Option Addr} {l : List α} (h : SlAt c n p m (l.flatMap g)) (hg : ∀ a, (g a).length = n) (hn : 0 < n) {i : Nat} {a : α} (hi : l[i]? = some a) :
    ∃ b o, p = some ⟨b, o, none⟩ ∧ ∀ (j : Nat) (v : Value), (g a)[j]? = some v → Reads c ⟨b, o + i * n + j, none⟩ v := by
  have h0 : (g a)[0]? = some ((g a)[0]'(by rw [hg]; exact hn)) := List.getElem?_eq_getElem _
  obtain ⟨b, o, rfl, _⟩ := h.reads _ _ (flat_get hg l i a hi 0 _ h0)
  refine ⟨b, o, rfl, fun j v hv => ?_⟩
  obtain ⟨b', o', e, r⟩ := h.reads _ _ (flat_get hg l i a hi j v hv)
  simp only [Option.some.injEq, Addr.mk.injEq, and_true] at e
  obtain ⟨rfl, rfl⟩ := e
  rw [Nat.add_assoc]
  exact r
/-- One cell of a slice of single cells. -/
theorem slAt_cell {m : Nat} {c : Chunk} {p : Option Addr} {ws : List Value} (h : SlAt c 1 p m ws) {i : Nat} {v : Value} (hi : ws[i]? = some v) : ∃ b o, p = some ⟨b, o, none⟩ ∧ Reads c ⟨b, o + i, none⟩ v := h.reads i v hi
theorem p_cP {ops : Array Oper} {Q : Exit → Act → World → Prop} {i : Nat} {pl : Plan} [Cb : Callable P f] {X : Type} {ret : X → Value} {φ : X → Prop} (fn : Does P f vs [Pile H] ret (fun _ => [Pile H]) φ) (hd : HP.disj Γ.hf k) (hk : All C k)
    (K : ∀ x, φ x → GP P ops Q (Γ.add k) N ((d, ret x) :: fr) L pl) (hi : ops[i]? = some ⟨some d, .call ⟨.value (.func f), xs.toArray, tys⟩, ty, pos, aft, gd⟩ := by exact rfl) (hg : Runs ops fr gd := by exact rfl) (hN : Nat.blt d N = true := by exact rfl) (he : Evs fr xs vs := by (repeat (first | exact Evs.nil | refine Evs.cons rfl ?_)); first | done | fail) (s : Sel C (Pile H) R := by (repeat (first | exact Sel.here | apply Sel.there)); first | done | fail) :
    GP P ops Q (Γ.add k) N fr L (.one i pl) := gp_c (cs_callP fn hd hk he s) hi hg hN K
end Go.Sl
