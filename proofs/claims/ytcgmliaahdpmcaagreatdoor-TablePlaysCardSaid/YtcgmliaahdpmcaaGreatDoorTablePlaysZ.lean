/- Proved: TablePlays answers true for every input that its statement covers, and what was there stays as it was. Conditions: none beyond the statement's own. -/
import Derived.Test.YtcgmliaahdpmcaaGreatDoorTie
import Derived.Test.YtcgmliaahdpmcaaGreatDoorCards
import Derived.WalkKit
import Derived.ProofKit
import Derived.SevenTiedAt
import Derived.Test.YtcgmliaahdpmcaaGreatDoorTablePlays11
import Derived.Test.YtcgmliaahdpmcaaGreatDoorTablePlays13
import Derived.Test.YtcgmliaahdpmcaaGreatDoorTablePlays28
set_option linter.unusedSimpArgs false
set_option linter.unusedVariables false
namespace Go.Proofs.YtcgmliaahdpmcaaGreatDoor.tablePlays
open Go Go.ChangeShapes Go.WideShapes Go.ChangeAt Go.RowKit Go.Sl facts
theorem int_top {n : Int} (h : (Lit.int .i64 n).wf = true) : n ≤ 9223372036854775807 := by
  simp only [Lit.wf, Bool.and_eq_true, decide_eq_true_eq] at h
  have h2 := h.2
  have : IntKind.i64.max = 9223372036854775807 := by decide
  omega
set_option maxRecDepth 100000 in
set_option synthInstance.maxHeartbeats 400000 in
set_option synthInstance.maxSize 1000 in
theorem lifted (os : Os) (started : os.Started) (H : Type) (enc : TypeId × Value → H) :
    ReturnsInHanded {} Tryz.checked os 3 .any (fun w args => (Rows.tablePlaysSpec.pre enc Tryz.prog Tryz.f3 [] false w args ∧ laidMetH Tryz.prog lst w) ∧ sizedMet enc Tryz.prog Tryz.f3 (OpenSpec.ofChange Rows.tablePlaysSpec) false w args)
      (Rows.tablePlaysSpec.post enc Tryz.prog Tryz.f3 false true false false) := by
  refine returnsInHanded_of_change_and (C := Tryz.checked) (X := fun w _ => laidMetH Tryz.prog lst w) (fun _ _ _ hh h => h.of_heap hh) own started (by kernel_rfl) Tryz.func3
    (ChangeSpec.witness_shaped (enc := enc) (C := Tryz.checked) (os := os) (X := fun w _ => laidMetH Tryz.prog lst w) false (doorW os) #[(.slice none 0 0), (.string ByteArray.empty), (.string ByteArray.empty), (.int .i64 0), (.int .i64 0)] 8 rfl (World.shaped_of_RefB (by kernel_rfl) (by kernel_rfl)) (by kernel_rfl) (by kernel_rfl) (by kernel_rfl) (door_met os _)) ?_
  intro W base args ds gs before hval0 hW _ _ hL _
  have hT := tab_of hL
  have hval : ∀ (j : Nat) t v, Tryz.f3.params[j]? = some t → args[j]? = some v → Value.okWide Tryz.prog W .any base t v := hval0
  have hW' := hW
  obtain ⟨p, q, hA0, hV, rfl, hfz, hnd⟩ := hW
  have hA : DataW.TrodAll enc Tryz.prog W 0 (fun _ => true) true Tryz.f3.params.toList args.toList ds p := hA0
  rw [Tryz.params3] at hA hval
  obtain ⟨v0, vs0, d0, ds0, p0, q0, hargs, rfl, rfl, h0, r0⟩ := trodAll_cons hA
  obtain ⟨v1, vs1, d1, ds1, p1, q1, rfl, rfl, rfl, h1, r1⟩ := trodAll_cons r0
  obtain ⟨v2, vs2, d2, ds2, p2, q2, rfl, rfl, rfl, h2, r2⟩ := trodAll_cons r1
  obtain ⟨v3, vs3, d3, ds3, p3, q3, rfl, rfl, rfl, h3, r3⟩ := trodAll_cons r2
  obtain ⟨v4, vs4, d4, ds4, p4, q4, rfl, rfl, rfl, h4, r4⟩ := trodAll_cons r3
  obtain ⟨rfl, rfl, rfl⟩ := trodAll_nil r4
  obtain rfl : args = #[v0, v1, v2, v3, v4] := by cases args; simp_all
  obtain ⟨rfl, rfl⟩ := trodVars_none hV
  obtain ⟨x0, e0, s0⟩ := arg_one Tryz.underlying22 rfl (hval 0 22 v0 rfl rfl) h0
  obtain rfl : v0 = x0.val := by simpa using e0
  obtain ⟨a1, e1, w1⟩ := arg_one Tryz.underlying9 rfl (hval 1 9 v1 rfl rfl) h1
  obtain rfl : v1 = .string a1 := by simpa using e1
  obtain ⟨a2, e2, w2⟩ := arg_one Tryz.underlying9 rfl (hval 2 9 v2 rfl rfl) h2
  obtain rfl : v2 = .string a2 := by simpa using e2
  obtain ⟨a3, e3, w3⟩ := arg_one Tryz.underlying3 rfl (hval 3 3 v3 rfl rfl) h3
  obtain rfl : v3 = .int .i64 a3 := by simpa using e3
  obtain ⟨a4, e4, w4⟩ := arg_one Tryz.underlying3 rfl (hval 4 3 v4 rfl rfl) h4
  obtain rfl : v4 = .int .i64 a4 := by simpa using e4
  have walk : Calls Tryz.prog 3 #[x0.val, .string a1, .string a2, .int .i64 a3, .int .i64 a4] W fun e w => e = .returned (.bool true) ∧ Stays W w := by
      obtain ⟨s2, s3⟩ := stepsAt_of (c := [x0.val]) ⟨rfl, s0⟩
      have h := plays hT x0.place x0.cap (x0.xs.map stpT) s2 (by rw [List.length_map]; exact s3) a1 a2 (by have := w1; unfold maxLen at this; omega) (by have := w2; unfold maxLen at this; omega) a3 a4 (int_top w3)
      rw [List.length_map] at h
      exact calls1_init W h
  refine walk.mono fun e W' ⟨he, hst⟩ => ?_
  subst he
  exact ⟨_, rfl, law_post laidOut (by kernel_rfl) rfl rfl Tryz.underlying4 hW' rfl hst⟩
theorem over : Rows.TablePlaysSaid :=
  OpenClaim.holds_of_wide 3 Tryz.f3 rfl rfl rfl rfl rfl rfl rfl ⟨rfl, rfl, rfl, rfl, rfl⟩ rfl rfl rfl rfl rfl (by kernel_rfl) Tryz.func3 (by kernel_rfl)
    (of_decide_eq_true (by kernel_rfl)) (by unfold Func.isWrapper; first | (rw [if_pos (by decide +kernel)]; kernel_rfl) | (rw [if_neg (by decide +kernel)]; exact ⟨rfl, rfl⟩))
    (fun os started H enc _ => lifted os started H enc)
theorem proved : Rows.TablePlaysCardSaid :=
  Claim7.holds_tied_plain_at .later [] [.data, .pinned] true (true, "6d77602de31075b281d552368230664115afd5d6a34fef9a2845033f0a1babb7") false
    over (fun _ h => by cases h) (by kernel_rfl) (fun _ h => by cases h) tablePlays_row_tie rfl ⟨rfl, rfl⟩ (by kernel_rfl) rfl
    (fun f fn hf hfn => by
      obtain rfl : f = 3 := Option.some.inj ((show Tryz.prog.funcNamed "penstock/penstocklaw14.TablePlays" = some 3 by kernel_rfl).symm.trans hf) |>.symm
      obtain rfl : fn = Tryz.f3 := (Option.some.inj (Tryz.func3.symm.trans hfn)).symm
      exact ⟨by kernel_rfl, fun j t ht => by
        rw [Tryz.params3] at ht
        have hm : t ∈ [22, 9, 9, 3, 3] := by simpa using Array.mem_of_getElem? ht
        have hall : ([22, 9, 9, 3, 3].all fun u => !Tryz.prog.wantsStandIn u) = true := by kernel_rfl
        exact (show Tryz.prog.wantsStandIn t = false by simpa using List.all_eq_true.1 hall t hm)⟩)
    (by kernel_rfl)
#print axioms proved
end Go.Proofs.YtcgmliaahdpmcaaGreatDoor.tablePlays
