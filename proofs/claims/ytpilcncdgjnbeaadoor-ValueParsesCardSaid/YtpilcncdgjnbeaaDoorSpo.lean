/- Parts of texts and of arrays; shifts; a contract over what stands holds over more. -/
import Derived.Test.YtpilcncdgjnbeaaDoorSpn
import Derived.Test.YtpilcncdgjnbeaaDoorSlz
import Derived.Lib.MapLaws
import Derived.Lib.TrimUEq
import Derived.Lib.RuneCountTail
import Derived.Lib.ValidLaws
set_option linter.unusedSimpArgs false
set_option linter.unusedVariables false
namespace Go.Sl
variable {P : Program} {Γ : Ctx} {L R : List Chunk} {N : Nat} {fr : Fr} {Q : Exit → Act → World → Prop} {ops : Array Oper} {rest : List Oper}
variable {d : Nat} {ty : TypeId} {pos : String} {aft : Array Edge} {gd : Option (Nat × Bool)} {x y z : Operand} {v u : Value} {t t2 tx : TypeId}
/-- A part of a text. -/
theorem qs_sliceStr {s : ByteArray} {l h : Nat} {lo hi : Option Operand} (D : TDesc P t .string) (hx : ev fr x = some (.string s)) (hl : Bnd fr 0 lo l) (hh : Bnd fr s.size hi h) (h1 : l ≤ h) (h2 : h ≤ s.size) :
    QStep P Γ fr ⟨some d, .slice t x lo hi none, ty, pos, aft, gd⟩ (.string (s.extract l h)) := qs_of (fun a w hf => by
  have key : ∀ (lv hv : Option Value), (lo.map a.eval = lv) → (hi.map a.eval = hv) → (Instr.sliceBounds false s.size s.size lv hv none).run P w = .ok (l, h, s.size) w → (execOp a.eval ⟨some d, .slice t x lo hi none, ty, pos, aft, gd⟩).run P w = .ok (.value (.string (s.extract l h))) w := by
    intro lv hv e1 e2 e3
    simp only [execOp, hf.ev hx, e1, e2, Option.map_none, Instr.sliceAt, Instr.slice, Sem.run_bind, run_underlying D.desc, Result.andThen_ok, Option.isSome_none, Bool.false_eq_true, if_false, e3, Sem.run_pure]
  cases hl with
  | none =>
    cases hh with
    | none => exact key none none rfl rfl (by simp [Instr.sliceBounds])
    | @some x' i' n' g1 g2 =>
      subst g2
      exact key none (some (.int .i64 h)) rfl (by simp [hf.ev g1]) (by simp [Instr.sliceBounds, run_sliceBound, h2])
  | @some x' i' n' g1 g2 =>
    subst g2
    cases hh with
    | none => exact key (some (.int .i64 l)) none (by simp [hf.ev g1]) rfl (by simp [Instr.sliceBounds, run_sliceBound, h1])
    | @some x2 i2 n2 g3 g4 =>
      subst g4
      exact key (some (.int .i64 l)) (some (.int .i64 h)) (by simp [hf.ev g1]) (by simp [hf.ev g3]) (by simp [Instr.sliceBounds, run_sliceBound, h1, h2]))
/-- The first part of an array that is a variable. -/
theorem qs_sliceArr {e : TypeId} {n h b o k : Nat} {kk : IntKind} {hi : Operand} (D : TDesc P t (.array n e)) (S : TSize P e k) (hx : ev fr x = some (.pointer (some ⟨b, o, none⟩))) (hh : ev fr hi = some (.int kk (h : Int))) (h2 : h ≤ n) (hz : n ≠ 0) :
    QStep P Γ fr ⟨some d, .slice t x none (some hi) none, ty, pos, aft, gd⟩ (.slice (some ⟨b, o, none⟩) h n) := qs_of (fun a w hf => by
  have hn : P.arrayLen t = n := by simp [Program.arrayLen, D.desc]
  have he : P.elem t = e := by simp [Program.elem, D.desc]
  have hr := run_sliceAt_array_h (P := P) w t ⟨b, o, none⟩ (by rw [hn, he]; exact D.desc) kk (h : Int) (by omega) (by rw [hn]; omega)
  rw [hn, he, run_sizeOf' S.size] at hr
  simp only [Result.andThen_ok, Int.toNat_natCast] at hr
  simp only [execOp, hf.ev hx, Option.map_none, Option.map_some, hf.ev hh, Sem.run_bind, hr]
  simp [slicedAt, hz, Addr.add])
theorem qs_shrK {i k : IntKind} {a n : Nat} (hx : ev fr x = some (.int i (a : Int))) (hy : ev fr y = some (.int k (n : Int))) (hn : n ≤ i.bits) : QStep P Γ fr ⟨some d, .binOp .shr t x y t2, ty, pos, aft, gd⟩ (.int i ((a / 2 ^ n : Nat) : Int)) :=
  qs_of (fun c w hf => by
    have e0 : ¬ ((n : Int) < 0) := by omega
    have e1 : min (n : Int).toNat i.bits = n := by
      rw [Int.toNat_natCast]; omega
    have e2 : (a : Int).fdiv (2 ^ n) = ((a / 2 ^ n : Nat) : Int) := by
      rw [Int.fdiv_eq_ediv_of_nonneg _ (by exact_mod_cast Nat.zero_le _)]
      norm_cast
    simp only [execOp, hf.ev hx, hf.ev hy, eqGuard_at_int, binOp_shr, Op.shift, e0, if_false, e1, e2]
    simp)
/-- What holds over what stands holds when more does. -/
theorem does1_grow {f : FuncId} {args : List Value} {H H' : HP} (s : HP.sub H H') (fn : Does1 P f args [Pile H] v) : Does1 P f args [Pile H'] v := by
  intro Γ w hh
  obtain ⟨h, dh, sh, h1, h2, d12, s1, s2, hc, _⟩ := hh.own
  have hc' : h1 = H' := hc
  subst hc'
  let R : HP := h1.cut (fun b => (H b).isNone)
  have sR : HP.sub R h1 := HP.cut_sub _ _
  have dR : HP.disj H R := fun b => by
    show H b = none ∨ h1.cut (fun b => (H b).isNone) b = none
    unfold HP.cut
    cases hq : H b with
    | none => exact .inl rfl
    | some o => right; simp [hq]
  have dfR : HP.disj Γ.hf R := (HP.disj_sub dh.symm (sR.trans s1)).symm
  have dfH : HP.disj Γ.hf H := (HP.disj_sub dh.symm (s.trans s1)).symm
  have H0 : Holds (Γ.add R) [Pile H] w := by
    refine ⟨hh.os, hh.tape, hh.output, hh.frz, HP.union_sub hh.frame ((sR.trans s1).trans sh), H, ?_, (s.trans s1).trans sh, H, fun _ => none, fun _ => .inr rfl, HP.sub.refl _, (fun _ _ e => by cases e), rfl, trivial⟩
    exact HP.disj_union dfH dR.symm
  refine (fn (Γ.add R) w H0).mono ?_
  rintro e w' ⟨x, hx, rfl, hB⟩
  refine ⟨x, hx, rfl, ?_⟩
  obtain ⟨h', dh', sh', g1, _, _, t1, _, gc, _⟩ := hB.own
  have gc' : g1 = H := gc
  subst gc'
  have hf' : HP.sub (HP.union Γ.hf R) (wheap w') := hB.frame
  refine ⟨hB.os, hB.tape, hB.output, hB.frz, (HP.sub_union_left _ _).trans hf', h1, (HP.disj_sub dh.symm s1).symm, ?_, h1, fun _ => none, fun _ => .inr rfl, HP.sub.refl _, (fun _ _ e => by cases e), rfl, trivial⟩
  intro b o hb
  cases hg : g1 b with
  | some o' =>
    have e1 := s _ _ hg
    rw [hb] at e1
    cases e1
    exact sh' _ _ (t1 _ _ hg)
  | none => exact hf' _ _ (HP.sub_union_right dfR _ _ (by
      show h1.cut (fun b => (g1 b).isNone) b = some o
      unfold HP.cut
      simp [hg, hb]))
end Go.Sl
