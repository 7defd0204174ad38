/- Proved: CallTold answers true for every input that its statement covers, and what was there stays as it was. Conditions: none beyond the statement's own. -/
import Derived.Test.YtaahibcibgljbaaGreatDoorTie
import Derived.Test.YtaahibcibgljbaaGreatDoorCards
import Derived.WalkKit
import Derived.ProofKit
import Derived.SevenTiedAt
import Derived.Test.YtaahibcibgljbaaGreatDoorCallTold19
import Derived.Test.YtaahibcibgljbaaGreatDoorCallTold26
import Derived.Test.YtaahibcibgljbaaGreatDoorCallTold27
set_option linter.unusedSimpArgs false
set_option linter.unusedVariables false
namespace Go.Proofs.YtaahibcibgljbaaGreatDoor.callTold
open Go Go.ChangeShapes Go.WideShapes Go.ChangeAt Go.RowKit Go.Sl facts
set_option maxRecDepth 100000 in
theorem lifted (os : Os) (started : os.Started) (H : Type) (enc : TypeId × Value → H) :
    ReturnsInHanded {} Tryz.checked os 4 .any (fun w args => (Rows.callToldSpec.pre enc Tryz.prog Tryz.f4 [] false w args ∧ laidMetH Tryz.prog lstE w) ∧ sizedMet enc Tryz.prog Tryz.f4 (OpenSpec.ofChange Rows.callToldSpec) false w args)
      (Rows.callToldSpec.post enc Tryz.prog Tryz.f4 false true false false) := by
  refine returnsInHanded_and_shaped (C := Tryz.checked) (X := fun w _ => laidMetH Tryz.prog lstE w) (fun _ _ _ hh h => h.of_heap hh) own started (by kernel_rfl) Tryz.func4
    (ChangeSpec.witness_shaped (enc := enc) (C := Tryz.checked) (os := os) (X := fun w _ => laidMetH Tryz.prog lstE w) false (doorW os) #[(.int .i64 0), (.agg [(.int .i64 0), (.int .i64 0), (.int .i64 0)].toArray), (.slice none 0 0), (.int .i64 0)] 8 rfl (World.shaped_of_RefB (by kernel_rfl) (by kernel_rfl)) (by kernel_rfl) (by kernel_rfl) (by kernel_rfl) (doorE_met os _)) ?_
  intro W base args ds gs before hsh hval0 hW _ hL
  have hI := varI_of hsh
  obtain ⟨hT, hE⟩ := err_of hL
  have hval : ∀ (j : Nat) t v, Tryz.f4.params[j]? = some t → args[j]? = some v → Value.okWide Tryz.prog W .any base t v := hval0
  have hW' := hW
  obtain ⟨p, q, hA0, hV, rfl, hfz, hnd⟩ := hW
  have hA : DataW.TrodAll enc Tryz.prog W 0 (fun _ => true) true Tryz.f4.params.toList args.toList ds p := hA0
  rw [Tryz.params4] at hA hval
  obtain ⟨v0, vs0, d0, ds0, p0, q0, hargs, rfl, rfl, h0, r0⟩ := trodAll_cons hA
  obtain ⟨v1, vs1, d1, ds1, p1, q1, rfl, rfl, rfl, h1, r1⟩ := trodAll_cons r0
  obtain ⟨v2, vs2, d2, ds2, p2, q2, rfl, rfl, rfl, h2, r2⟩ := trodAll_cons r1
  obtain ⟨v3, vs3, d3, ds3, p3, q3, rfl, rfl, rfl, h3, r3⟩ := trodAll_cons r2
  obtain ⟨rfl, rfl, rfl⟩ := trodAll_nil r3
  obtain rfl : args = #[v0, v1, v2, v3] := by cases args; simp_all
  obtain ⟨rfl, rfl⟩ := trodVars_none hV
  obtain ⟨a0, e0, w0⟩ := arg_one Tryz.underlying3 rfl (hval 0 3 v0 rfl rfl) h0
  obtain rfl : v0 = .int .i64 a0 := by simpa using e0
  obtain ⟨x1, c1, rfl, s1⟩ := arg_agg (hval 1 24 v1 rfl rfl) h1
  obtain ⟨x2, e2, s2⟩ := arg_one Tryz.underlying47 rfl (hval 2 47 v2 rfl rfl) h2
  obtain rfl : v2 = x2.val := by simpa using e2
  obtain ⟨a3, e3, w3⟩ := arg_one Tryz.underlying3 rfl (hval 3 3 v3 rfl rfl) h3
  obtain rfl : v3 = .int .i64 a3 := by simpa using e3
  have walk : Calls Tryz.prog 4 #[.int .i64 a0, .agg c1.toArray, x2.val, .int .i64 a3] W fun e w => e = .returned (.bool true) ∧ Stays W w := by
    obtain ⟨e1, j1, j2, j3⟩ := stT_of s1
    subst e1
    obtain ⟨k1, k2, k3⟩ := ints_of s2
    exact calls1_init W (told hT hE (it_of hL) hI a0 _ _ _ a3 _ _ _ ⟨k1, k3, k2, j1, j2, j3, inI_wfV w0, inI_wfV w3⟩)
  refine walk.mono fun e W' ⟨he, hst⟩ => ?_
  subst he
  exact ⟨_, rfl, law_post laidOut (by kernel_rfl) rfl rfl Tryz.underlying4 hW' rfl hst⟩
theorem over : Rows.CallToldSaid :=
  OpenClaim.holds_of_wide 4 Tryz.f4 rfl rfl rfl rfl rfl rfl rfl ⟨rfl, rfl, rfl, rfl, rfl⟩ rfl rfl rfl rfl rfl (by kernel_rfl) Tryz.func4 (by kernel_rfl)
    (of_decide_eq_true (by kernel_rfl)) (by unfold Func.isWrapper; first | (rw [if_pos (by decide +kernel)]; kernel_rfl) | (rw [if_neg (by decide +kernel)]; exact ⟨rfl, rfl⟩))
    (fun os started H enc _ => lifted os started H enc)
theorem proved : Rows.CallToldCardSaid :=
  Claim7.holds_tied_plain_at .later [] [.data, .data, .data, .data, .sentinel, .sentinel, .pinned] true (true, "b2ab00c08f745df057848493679ff8c35fa21b90372c4d525192a9d8a62e03bd") true
    over (fun _ h => by cases h) (by kernel_rfl) (fun _ h => by cases h) callTold_row_tie rfl ⟨rfl, rfl⟩ (by kernel_rfl) rfl
    (fun f fn hf hfn => by
      obtain rfl : f = 4 := Option.some.inj ((show Tryz.prog.funcNamed "penstock/penstocklaw28.CallTold" = some 4 by kernel_rfl).symm.trans hf) |>.symm
      obtain rfl : fn = Tryz.f4 := (Option.some.inj (Tryz.func4.symm.trans hfn)).symm
      exact ⟨by kernel_rfl, fun j t ht => by
        rw [Tryz.params4] at ht
        have hm : t ∈ [3, 24, 47, 3] := by simpa using Array.mem_of_getElem? ht
        have hall : ([3, 24, 47, 3].all fun u => !Tryz.prog.wantsStandIn u) = true := by kernel_rfl
        exact (show Tryz.prog.wantsStandIn t = false by simpa using List.all_eq_true.1 hall t hm)⟩)
    (by kernel_rfl)
#print axioms proved
end Go.Proofs.YtaahibcibgljbaaGreatDoor.callTold
