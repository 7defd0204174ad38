/- A call that lays new memory to what stands, while what stands is read by others; contracts: SameEvents, SameBatch of what is alike; Events; small. -/
import Derived.Test.YtkejdilmdpgbpaaPlaF
import Derived.Test.YtkejdilmdpgbpaaAlkA
set_option linter.unusedSimpArgs false
set_option linter.unusedVariables false
namespace Go.Sl
/-- What is in the one and not in the other. -/
def HP.less (G H : HP) : HP := G.cut fun b => (H b).isNone
theorem HP.less_none {G H : HP} {b : Nat} {o : Obj} (h : H b = some o) : HP.less G H b = none := by simp [HP.less, HP.cut, h]
theorem HP.less_some {G H : HP} {b : Nat} (h : H b = none) : HP.less G H b = G b := by simp [HP.less, HP.cut, h]
theorem HP.less_sub (G H : HP) : HP.sub (HP.less G H) G := HP.cut_sub _ _
section
variable {P : Program} {Γ : Ctx} {L R : List Chunk} {N : Nat} {fr : Fr}
variable {d : Nat} {ty : TypeId} {pos : String} {aft : Array Edge} {gd : Option (Nat × Bool)} {f : FuncId} {xs : List Operand} {vs : List Value} {tys : Array TypeId} {C RC A : List Chunk} {k H G : HP}
theorem cs_callG [Cb : Callable P f] {X : Type} {ret : X → Value} {φ : X → Prop} {B : X → List Chunk} {Hf : X → HP} (fn : Does P f vs (Pile G :: A) ret (fun x => Pile (Hf x) :: B x) φ) (hGH : HP.sub H G) (hgr : ∀ x, φ x → HP.sub G (Hf x)) (hd : HP.disj Γ.hf k) (hk : All C k) (he : Evs fr xs vs) (sC : Sel C (Pile H) RC) (tk : Take L (Pile (HP.less G H) :: A) R) :
    CStep P (Γ.add k) fr L ⟨some d, .call ⟨.value (.func f), xs.toArray, tys⟩, ty, pos, aft, gd⟩ ret (fun x => Pile (HP.less (Hf x) H) :: (B x ++ R)) φ := by
  intro a hf w hh
  unfold opRes
  rw [run_call he hf _ rfl]
  obtain ⟨h, dh, sh, al⟩ := hh.own
  obtain ⟨h1, _, _, sA, _, hc, _⟩ := All.sel sC hk
  have hc' : h1 = H := hc
  subst hc'
  obtain ⟨p1, p2, dp, t1, t2, hp1, hrest⟩ := All.take tk al
  have hp1' : p1 = HP.less G h1 := hp1
  subst hp1'
  have hfr : HP.sub (HP.union Γ.hf k) (wheap w) := hh.frame
  have fk : HP.sub k (wheap w) := (HP.sub_union_right hd).trans hfr
  have ff : HP.sub Γ.hf (wheap w) := (HP.sub_union_left _ _).trans hfr
  obtain ⟨df, dk⟩ := HP.disj_of_union dh
  let kR : HP := k.cut (fun b => (h1 b).isNone)
  have kRn : ∀ b o, h1 b = some o → kR b = none := fun b o e => by show k.cut _ b = none; simp [HP.cut, e]
  have kRs : ∀ b, h1 b = none → kR b = k b := fun b e => by show k.cut _ b = k b; simp [HP.cut, e]
  let Γ' : Ctx := { Γ with hf := HP.union Γ.hf kR }
  have sR : HP.sub kR k := HP.cut_sub _ _
  have sG : HP.sub G (wheap w) := fun b o e => by
    cases hq : h1 b with
    | some o' =>
      have e1 := hGH b o' hq
      rw [e] at e1
      cases e1
      exact fk _ _ (sA _ _ hq)
    | none => exact sh _ _ (t1 _ _ (by rw [HP.less_some hq]; exact e))
  have dG2 : HP.disj G p2 := fun b => by
    cases hq : h1 b with
    | some o' =>
      right
      have e1 := sA _ _ hq
      have e2 := (dk b).resolve_left (by rw [e1]; simp)
      cases e3 : p2 b with
      | none => rfl
      | some o => rw [t2 _ _ e3] at e2; cases e2
    | none =>
      rcases dp b with e | e
      · left; rw [HP.less_some hq] at e; exact e
      · exact .inr e
  have dΓG : HP.disj (HP.union Γ.hf kR) G := fun b => by
    cases hq : h1 b with
    | some o' =>
      left
      have e1 := sA _ _ hq
      have e2 := (hd b).resolve_right (by rw [e1]; simp)
      show (Γ.hf b).or (kR b) = none
      rw [e2, kRn b o' hq]
      rfl
    | none =>
      cases e : G b with
      | none => exact .inr rfl
      | some o =>
        left
        have e1 : h b = some o := t1 _ _ (by rw [HP.less_some hq]; exact e)
        have e2 := (df b).resolve_right (by rw [e1]; simp)
        have e3 := (dk b).resolve_right (by rw [e1]; simp)
        show (Γ.hf b).or (kR b) = none
        rw [e2, kRs b hq, e3]
        rfl
  have dΓ2 : HP.disj (HP.union Γ.hf kR) p2 := HP.disj_union (HP.disj_sub df.symm t2).symm (HP.disj_sub (HP.disj_sub dk.symm t2) (HP.sub.refl _)).symm |> fun q => by
    refine HP.disj_union (HP.disj_sub df.symm t2).symm ?_
    exact HP.disj_sub (HP.disj_sub dk.symm t2).symm sR
  have H0 : Holds Γ' ((Pile G :: A) ++ R) w := by
    refine ⟨hh.os, hh.tape, hh.output, hh.frz, HP.union_sub ff (sR.trans fk), HP.union G p2, ?_, HP.union_sub sG (t2.trans sh), G, p2, dG2, HP.sub_union_left _ _, HP.sub_union_right dG2, rfl, hrest⟩
    exact (HP.disj_union dΓG.symm dΓ2.symm).symm
  refine ((Does.frame fn R) Γ' w H0).mono ?_
  rintro e w' ⟨x, hx, rfl, hB⟩
  refine ⟨_, rfl, x, hx, rfl, ?_⟩
  obtain ⟨h', dh', sh', g1, g2, dg, u1, u2, gc, gr⟩ := hB.own
  have gc' : g1 = Hf x := gc
  subst gc'
  have hgx := hgr x hx
  have hf' : HP.sub (HP.union Γ.hf kR) (wheap w') := hB.frame
  have dfR : HP.disj Γ.hf kR := (HP.disj_sub hd.symm sR).symm
  have dh'' : HP.disj (HP.union Γ.hf kR) h' := dh'
  obtain ⟨dfh, dkh⟩ := HP.disj_of_union dh''
  have hin : ∀ b o, h1 b = some o → Hf x b = some o := fun b o e => hgx _ _ (hGH _ _ e)
  have dl2 : HP.disj (HP.less (Hf x) h1) g2 := HP.disj_sub dg (HP.less_sub _ _)
  have dkl : HP.disj k (HP.less (Hf x) h1) := fun b => by
    cases hq : h1 b with
    | some o' => exact .inr (HP.less_none hq)
    | none =>
      rcases dkh b with e | e
      · left; rw [← kRs b hq]; exact e
      · right
        cases e3 : HP.less (Hf x) h1 b with
        | none => rfl
        | some o => rw [u1 _ _ (HP.less_sub _ _ _ _ e3)] at e; cases e
  have dkg : HP.disj k g2 := fun b => by
    cases hq : h1 b with
    | some o' =>
      right
      exact (dg b).resolve_left (by rw [hin b o' hq]; simp)
    | none =>
      rcases dkh b with e | e
      · left; rw [← kRs b hq]; exact e
      · right
        cases e3 : g2 b with
        | none => rfl
        | some o => rw [u2 _ _ e3] at e; cases e
  have dfl : HP.disj Γ.hf (HP.less (Hf x) h1) := (HP.disj_sub dfh.symm ((HP.less_sub _ _).trans u1)).symm
  have dfg : HP.disj Γ.hf g2 := (HP.disj_sub dfh.symm u2).symm
  refine ⟨hB.os, hB.tape, hB.output, hB.frz, HP.union_sub ((HP.sub_union_left _ _).trans hf') ?_, HP.union (HP.less (Hf x) h1) g2, ?_, HP.union_sub (((HP.less_sub _ _).trans u1).trans sh') (u2.trans sh'), HP.less (Hf x) h1, g2, dl2, HP.sub_union_left _ _, HP.sub_union_right dl2, rfl, gr⟩
  · intro b o hb
    cases hq : h1 b with
    | some o' =>
      have e1 := sA _ _ hq
      rw [hb] at e1
      cases e1
      exact sh' _ _ (u1 _ _ (hin b _ hq))
    | none => exact hf' _ _ (HP.sub_union_right dfR _ _ (by rw [kRs b hq]; exact hb))
  · exact (HP.disj_union (HP.disj_union dfl dkl).symm (HP.disj_union dfg dkg).symm).symm
theorem p_cG {ops : Array Oper} {Q : Exit → Act → World → Prop} {i : Nat} {pl : Plan} [Cb : Callable P f] {X : Type} {ret : X → Value} {φ : X → Prop} {B : X → List Chunk} {Hf : X → HP} (fn : Does P f vs (Pile G :: A) ret (fun x => Pile (Hf x) :: B x) φ) (hGH : HP.sub H G) (hgr : ∀ x, φ x → HP.sub G (Hf x)) (hd : HP.disj Γ.hf k) (hk : All C k)
    (K : ∀ x, φ x → GP P ops Q (Γ.add k) N ((d, ret x) :: fr) (Pile (HP.less (Hf x) H) :: (B x ++ R)) pl) (hi : ops[i]? = some ⟨some d, .call ⟨.value (.func f), xs.toArray, tys⟩, ty, pos, aft, gd⟩ := by exact rfl) (hg : Runs ops fr gd := by exact rfl) (hN : Nat.blt d N = true := by exact rfl) (he : Evs fr xs vs := by (repeat (first | exact Evs.nil | refine Evs.cons rfl ?_)); first | done | fail) (sC : Sel C (Pile H) RC := by (repeat (first | exact Sel.here | apply Sel.there)); first | done | fail) (tk : Take L (Pile (HP.less G H) :: A) R := by (repeat (first | exact Take.nil | apply Take.cons | exact Sel.here | apply Sel.there)); first | done | fail) :
    GP P ops Q (Γ.add k) N fr L (.one i pl) := gp_c (cs_callG fn hGH hgr hd hk he sC tk) hi hg hN K
end
theorem g_pile0 {Γ : Ctx} {N : Nat} {fr : Fr} {L : List Chunk} {φ : Act → World → Prop} (H : HP) (g : G Γ N fr (Pile (HP.less H H) :: L) φ) : G Γ N fr L φ := fun a w hN hd hf hh => g a w hN hd hf (hh.mono fun h al => ⟨HP.less H H, h, fun b => .inl (by cases e : H b with
  | none => rw [HP.less_some e]; exact e
  | some o => exact HP.less_none e), (fun b o e => by
    cases e2 : H b with
    | none => rw [HP.less_some e2, e2] at e; cases e
    | some o' => rw [HP.less_none e2] at e; cases e), HP.sub.refl _, rfl, al⟩)
theorem g_join {Γ : Ctx} {N : Nat} {fr : Fr} {L R R1 : List Chunk} {φ : Act → World → Prop} {H K : HP} (hs : HP.sub H K) (s1 : Sel L (Pile (HP.less K H)) R1) (s2 : Sel R1 (Pile H) R) (g : G Γ N fr (Pile K :: R) φ) : G Γ N fr L φ := fun a w hN hd hf hh => by
  refine g a w hN hd hf ((hh.take (Take.cons s1 (Take.cons s2 .nil))).mono fun h al => ?_)
  obtain ⟨h1, h2, dj, t1, t2, e1, h3, h4, dj2, u1, u2, e2, hr⟩ := al
  have e1' : h1 = HP.less K H := e1
  have e2' : h3 = H := e2
  subst e1' e2'
  refine ⟨K, h4, fun b => ?_, fun b o e => ?_, u2.trans t2, rfl, hr⟩
  · cases hq : h3 b with
    | some o => exact .inr ((dj2 b).resolve_left (by rw [hq]; simp))
    | none =>
      rcases dj b with e | e
      · left; rw [HP.less_some hq] at e; exact e
      · right
        cases e3 : h4 b with
        | none => rfl
        | some o => rw [u2 _ _ e3] at e; cases e
  · cases hq : h3 b with
    | some o' =>
      have := hs b o' hq
      rw [e] at this
      cases this
      exact t2 _ _ (u1 _ _ hq)
    | none => exact t1 _ _ (by rw [HP.less_some hq]; exact e)
/-- The same contract, its chunks in another order. -/
theorem does_perm {P : Program} {f : FuncId} {args : List Value} {X : Type} {A A2 R : List Chunk} {ret : X → Value} {B B2 : X → List Chunk} {φ : X → Prop} (t : Take A2 A R) (t2 : ∀ x, ∃ R2, Take (B x) (B2 x) R2) (d : Does P f args A ret B φ) : Does P f args A2 ret B2 φ := fun Γ w hh =>
  (d Γ w (hh.takeDrop t)).mono fun e w' ⟨x, hx, he, hB⟩ => ⟨x, hx, he, by obtain ⟨R2, h⟩ := t2 x; exact hB.takeDrop h⟩
end Go.Sl
