/- Proved: CoordAsks answers true for every input that its statement covers, and what was there stays as it was. Conditions: none beyond the statement's own. -/
import Derived.Test.YtfachckbjmofgaaRows
import Derived.WalkKit
import Derived.ProofKit
import Derived.OpenShut
import Derived.Test.YtfachckbjmofgaaCrdS
set_option linter.unusedSimpArgs false
set_option linter.unusedVariables false
namespace Go.Proofs.Ytfachckbjmofgaa.coordAsks
open Go Go.ChangeShapes Go.WideShapes Go.ChangeAt Go.RowKit Go.Sl facts
theorem own : ownKnob Try.prog.godebug = none := by kernel_rfl
theorem laidOut : laidOutB Try.prog = true := by kernel_rfl
set_option maxRecDepth 100000 in
theorem lifted (os : Os) (started : os.Started) (H : Type) (enc : TypeId × Value → H) :
    ReturnsInHanded {} Try.checked os 4 .any (Rows.coordAsksSpec.pre6 enc Try.prog Try.f4 Rows.coordAsksRow.domain false) (Rows.coordAsksSpec.post enc Try.prog Try.f4 false true false false) := by
  refine returnsInHanded_of_change (C := Try.checked) own started (by kernel_rfl) Try.func4
    (ChangeSpec.witness6 (enc := enc) (C := Try.checked) false ⟨#[], #[(.slice none 0 0), (.agg [(.string ByteArray.empty), (.slice none 0 0)].toArray), (.slice none 0 0)], []⟩ 8 (by kernel_rfl) (by kernel_rfl) (by kernel_rfl) (by kernel_rfl)) ?_
  intro W base args ds gs before hval0 hW hcnd _
  have hval : ∀ (j : Nat) t v, Try.f4.params[j]? = some t → args[j]? = some v → Value.okWide Try.prog W .any base t v := hval0
  have hW' := hW
  obtain ⟨p, q, hA0, hV, rfl, hfz, hnd⟩ := hW
  have hA : DataW.TrodAll enc Try.prog W 0 (fun _ => true) true Try.f4.params.toList args.toList ds p := hA0
  rw [Try.params4] at hA hval
  obtain ⟨v0, vs0, d0, ds0, p0, q0, hargs, rfl, rfl, h0, r0⟩ := trodAll_cons hA
  obtain ⟨v1, vs1, d1, ds1, p1, q1, rfl, rfl, rfl, h1, r1⟩ := trodAll_cons r0
  obtain ⟨v2, vs2, d2, ds2, p2, q2, rfl, rfl, rfl, h2, r2⟩ := trodAll_cons r1
  obtain ⟨rfl, rfl, rfl⟩ := trodAll_nil r2
  obtain rfl : args = #[v0, v1, v2] := by cases args; simp_all
  obtain ⟨rfl, rfl⟩ := trodVars_none hV
  obtain ⟨x0, e0, s0⟩ := arg_one Try.underlying22 rfl (hval 0 22 v0 rfl rfl) h0
  obtain rfl : v0 = x0.val := by simpa using e0
  obtain ⟨x1, c1, rfl, s1⟩ := arg_agg (hval 1 25 v1 rfl rfl) h1
  obtain ⟨x2, e2, s2⟩ := arg_one Try.underlying28 rfl (hval 2 28 v2 rfl rfl) h2
  obtain rfl : v2 = x2.val := by simpa using e2
  have walk : Calls Try.prog 4 #[x0.val, .agg c1.toArray, x2.val] W fun e w => e = .returned (.bool true) ∧ Stays W w := by
    obtain ⟨r1, r2, r3⟩ := rgs_of (c := [x0.val]) ⟨rfl, s0⟩
    obtain ⟨rfl, hb⟩ := btT_of s1
    obtain ⟨i1, i2, i3⟩ := ints_of (c := [x2.val]) ⟨rfl, s2⟩
    have q := asksLaw x0.place x0.cap (x0.xs.map rgT) r1 r3 (btT x1) hb x2.place x2.cap x2.xs i1 i2
    rw [List.length_map] at q
    exact calls1_init W q
  refine walk.mono fun e W' ⟨he, hst⟩ => ?_
  subst he
  exact ⟨_, rfl, law_post laidOut (by kernel_rfl) rfl rfl Try.underlying4 hW' rfl hst⟩
theorem over : Rows.coordAsksRow.holds Try.pinned (OpenSpec.ofChange Rows.coordAsksSpec) :=
  OpenClaim.holds_of_wide 4 Try.f4 rfl rfl rfl rfl rfl rfl rfl ⟨rfl, rfl, rfl, rfl, rfl⟩ rfl rfl rfl rfl rfl (by kernel_rfl) Try.func4 (by kernel_rfl)
    (of_decide_eq_true (by kernel_rfl)) (by unfold Func.isWrapper; first | (rw [if_pos (by decide +kernel)]; kernel_rfl) | (rw [if_neg (by decide +kernel)]; exact ⟨rfl, rfl⟩))
    (fun os started H enc _ => lifted os started H enc)
theorem proved : Rows.CoordAsksSaid := over
#print axioms proved
end Go.Proofs.Ytfachckbjmofgaa.coordAsks
