/- Proved: CoordYes answers true for every input that its statement covers, and what was there stays as it was. Conditions: none beyond the statement's own. -/
import Derived.Test.YtfachckbjmofgaaRows
import Derived.WalkKit
import Derived.ProofKit
import Derived.OpenShut
import Derived.Test.YtfachckbjmofgaaCrdX
set_option linter.unusedSimpArgs false
set_option linter.unusedVariables false
namespace Go.Proofs.Ytfachckbjmofgaa.coordYes
open Go Go.ChangeShapes Go.WideShapes Go.ChangeAt Go.RowKit Go.Sl facts
theorem own : ownKnob Try.prog.godebug = none := by kernel_rfl
theorem laidOut : laidOutB Try.prog = true := by kernel_rfl
set_option maxRecDepth 100000 in
theorem lifted (os : Os) (started : os.Started) (H : Type) (enc : TypeId × Value → H) :
    ReturnsInHanded {} Try.checked os 5 .any (Rows.coordYesSpec.pre6 enc Try.prog Try.f5 Rows.coordYesRow.domain false) (Rows.coordYesSpec.post enc Try.prog Try.f5 false true false false) := by
  refine returnsInHanded_of_change (C := Try.checked) own started (by kernel_rfl) Try.func5
    (ChangeSpec.witness6 (enc := enc) (C := Try.checked) false ⟨#[], #[(.slice none 0 0), (.int .i64 0), (.int .i64 0), (.int .i64 0)], []⟩ 8 (by kernel_rfl) (by kernel_rfl) (by kernel_rfl) (by kernel_rfl)) ?_
  intro W base args ds gs before hval0 hW hcnd _
  have hval : ∀ (j : Nat) t v, Try.f5.params[j]? = some t → args[j]? = some v → Value.okWide Try.prog W .any base t v := hval0
  have hW' := hW
  obtain ⟨p, q, hA0, hV, rfl, hfz, hnd⟩ := hW
  have hA : DataW.TrodAll enc Try.prog W 0 (fun _ => true) true Try.f5.params.toList args.toList ds p := hA0
  rw [Try.params5] at hA hval
  obtain ⟨v0, vs0, d0, ds0, p0, q0, hargs, rfl, rfl, h0, r0⟩ := trodAll_cons hA
  obtain ⟨v1, vs1, d1, ds1, p1, q1, rfl, rfl, rfl, h1, r1⟩ := trodAll_cons r0
  obtain ⟨v2, vs2, d2, ds2, p2, q2, rfl, rfl, rfl, h2, r2⟩ := trodAll_cons r1
  obtain ⟨v3, vs3, d3, ds3, p3, q3, rfl, rfl, rfl, h3, r3⟩ := trodAll_cons r2
  obtain ⟨rfl, rfl, rfl⟩ := trodAll_nil r3
  obtain rfl : args = #[v0, v1, v2, v3] := by cases args; simp_all
  obtain ⟨rfl, rfl⟩ := trodVars_none hV
  obtain ⟨x0, e0, s0⟩ := arg_one Try.underlying28 rfl (hval 0 28 v0 rfl rfl) h0
  obtain rfl : v0 = x0.val := by simpa using e0
  obtain ⟨a1, e1, w1⟩ := arg_one Try.underlying3 rfl (hval 1 3 v1 rfl rfl) h1
  obtain rfl : v1 = .int .i64 a1 := by simpa using e1
  obtain ⟨a2, e2, w2⟩ := arg_one Try.underlying3 rfl (hval 2 3 v2 rfl rfl) h2
  obtain rfl : v2 = .int .i64 a2 := by simpa using e2
  obtain ⟨a3, e3, w3⟩ := arg_one Try.underlying3 rfl (hval 3 3 v3 rfl rfl) h3
  obtain rfl : v3 = .int .i64 a3 := by simpa using e3
  have walk : Calls Try.prog 5 #[x0.val, .int .i64 a1, .int .i64 a2, .int .i64 a3] W fun e w => e = .returned (.bool true) ∧ Stays W w := by
    obtain ⟨i1, i2, i3⟩ := ints_of (c := [x0.val]) ⟨rfl, s0⟩
    exact calls1_init W (yesLaw x0.place x0.cap x0.xs i1 i2 a1 a2 a3)
  refine walk.mono fun e W' ⟨he, hst⟩ => ?_
  subst he
  exact ⟨_, rfl, law_post laidOut (by kernel_rfl) rfl rfl Try.underlying4 hW' rfl hst⟩
theorem over : Rows.coordYesRow.holds Try.pinned (OpenSpec.ofChange Rows.coordYesSpec) :=
  OpenClaim.holds_of_wide 5 Try.f5 rfl rfl rfl rfl rfl rfl rfl ⟨rfl, rfl, rfl, rfl, rfl⟩ rfl rfl rfl rfl rfl (by kernel_rfl) Try.func5 (by kernel_rfl)
    (of_decide_eq_true (by kernel_rfl)) (by unfold Func.isWrapper; first | (rw [if_pos (by decide +kernel)]; kernel_rfl) | (rw [if_neg (by decide +kernel)]; exact ⟨rfl, rfl⟩))
    (fun os started H enc _ => lifted os started H enc)
theorem proved : Rows.CoordYesSaid := over
#print axioms proved
end Go.Proofs.Ytfachckbjmofgaa.coordYes
