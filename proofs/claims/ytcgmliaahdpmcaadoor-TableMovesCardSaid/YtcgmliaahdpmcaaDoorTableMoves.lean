/- Proved: TableMoves answers true for every input that its statement covers, and what was there stays as it was. Conditions: none beyond the statement's own. -/
import Derived.Test.YtcgmliaahdpmcaaDoorTie
import Derived.Test.YtcgmliaahdpmcaaDoorCards
import Derived.WalkKit
import Derived.ProofKit
import Derived.SevenTiedAt
import Derived.Test.YtcgmliaahdpmcaaDoorTabL
import Derived.Test.YtcgmliaahdpmcaaDoorTabY
import Derived.Test.YtcgmliaahdpmcaaDoorTabO
set_option linter.unusedSimpArgs false
set_option linter.unusedVariables false
namespace Go.Proofs.YtcgmliaahdpmcaaDoor.tableMoves
open Go Go.ChangeShapes Go.WideShapes Go.ChangeAt Go.RowKit Go.Sl facts
theorem rgT_of {W : World} {x : Int × Int × Int × Int × Unit} {c : List Value} (h : Opens.is (P := Tryd.prog) (t := 41) W x c) : ∃ r : Rg, c = r.cells := by
  obtain ⟨h0, ⟨h1, _⟩, ⟨h2, _⟩, ⟨h3, _⟩, ⟨h4, _⟩, _⟩ := h
  match c, h0 with
  | [c0, c1, c2, c3], _ =>
    simp at h1 h2 h3 h4
    subst h1 h2 h3 h4
    exact ⟨⟨x.1, x.2.1, x.2.2.1, x.2.2.2.1⟩, rfl⟩
set_option maxRecDepth 100000 in
set_option synthInstance.maxHeartbeats 400000 in
set_option synthInstance.maxSize 1000 in
theorem lifted (os : Os) (started : os.Started) (H : Type) (enc : TypeId × Value → H) :
    ReturnsInHanded {} Tryd.checked os 6 .any (fun w args => (Rows.tableMovesSpec.pre enc Tryd.prog Tryd.f6 [] false w args ∧ laidMetH Tryd.prog lst w) ∧ sizedMet enc Tryd.prog Tryd.f6 (OpenSpec.ofChange Rows.tableMovesSpec) false w args)
      (Rows.tableMovesSpec.post enc Tryd.prog Tryd.f6 false true false false) := by
  refine returnsInHanded_of_change_and (C := Tryd.checked) (X := fun w _ => laidMetH Tryd.prog lst w) (fun _ _ _ hh h => h.of_heap hh) own started (by kernel_rfl) Tryd.func6
    (ChangeSpec.witness_shaped (enc := enc) (C := Tryd.checked) (os := os) (X := fun w _ => laidMetH Tryd.prog lst w) false (doorW os) #[(.slice none 0 0), (.agg [(.int .i64 0), (.int .i64 0), (.int .i64 0), (.int .i64 0)].toArray)] 8 rfl (World.shaped_of_RefB (by kernel_rfl) (by kernel_rfl)) (by kernel_rfl) (by kernel_rfl) (by kernel_rfl) (door_met os _)) ?_
  intro W base args ds gs before hval0 hW _ _ hL _
  have hT := tab_of hL
  have hval : ∀ (j : Nat) t v, Tryd.f6.params[j]? = some t → args[j]? = some v → Value.okWide Tryd.prog W .any base t v := hval0
  have hW' := hW
  obtain ⟨p, q, hA0, hV, rfl, hfz, hnd⟩ := hW
  have hA : DataW.TrodAll enc Tryd.prog W 0 (fun _ => true) true Tryd.f6.params.toList args.toList ds p := hA0
  rw [Tryd.params6] at hA hval
  obtain ⟨v0, vs0, d0, ds0, p0, q0, hargs, rfl, rfl, h0, r0⟩ := trodAll_cons hA
  obtain ⟨v1, vs1, d1, ds1, p1, q1, rfl, rfl, rfl, h1, r1⟩ := trodAll_cons r0
  obtain ⟨rfl, rfl, rfl⟩ := trodAll_nil r1
  obtain rfl : args = #[v0, v1] := by cases args; simp_all
  obtain ⟨rfl, rfl⟩ := trodVars_none hV
  obtain ⟨x0, e0, s0⟩ := arg_one Tryd.underlying36 rfl (hval 0 36 v0 rfl rfl) h0
  obtain rfl : v0 = x0.val := by simpa using e0
  obtain ⟨x1, c1, rfl, s1⟩ := arg_agg (hval 1 41 v1 rfl rfl) h1
  have walk : Calls Tryd.prog 6 #[x0.val, .agg c1.toArray] W fun e w => e = .returned (.bool true) ∧ Stays W w := by
    obtain ⟨s2, s3⟩ := stepsAt_of (c := [x0.val]) ⟨rfl, s0⟩
    obtain ⟨r, rfl⟩ := rgT_of s1
    have h := moves hT x0.place x0.cap (x0.xs.map stpT) s2 (by rw [List.length_map]; exact s3) r
    rw [List.length_map] at h
    exact calls1_init W h
  refine walk.mono fun e W' ⟨he, hst⟩ => ?_
  subst he
  exact ⟨_, rfl, law_post laidOut (by kernel_rfl) rfl rfl Tryd.underlying4 hW' rfl hst⟩
theorem over : Rows.TableMovesSaid :=
  OpenClaim.holds_of_wide 6 Tryd.f6 rfl rfl rfl rfl rfl rfl rfl ⟨rfl, rfl, rfl, rfl, rfl⟩ rfl rfl rfl rfl rfl (by kernel_rfl) Tryd.func6 (by kernel_rfl)
    (of_decide_eq_true (by kernel_rfl)) (by unfold Func.isWrapper; first | (rw [if_pos (by decide +kernel)]; kernel_rfl) | (rw [if_neg (by decide +kernel)]; exact ⟨rfl, rfl⟩))
    (fun os started H enc _ => lifted os started H enc)
theorem proved : Rows.TableMovesCardSaid :=
  Claim7.holds_tied_plain_at .later [] [.data, .pinned] true (true, "a921ffbe6239c34e69ca314ec32c0afc919b197ac3eb47b0b67a5397c4ba5008") false
    over (fun _ h => by cases h) (by kernel_rfl) (fun _ h => by cases h) tableMoves_row_tie rfl ⟨rfl, rfl⟩ (by kernel_rfl) rfl
    (fun f fn hf hfn => by
      obtain rfl : f = 6 := Option.some.inj ((show Tryd.prog.funcNamed "penstock/penstocklaw14.TableMoves" = some 6 by kernel_rfl).symm.trans hf) |>.symm
      obtain rfl : fn = Tryd.f6 := (Option.some.inj (Tryd.func6.symm.trans hfn)).symm
      exact ⟨by kernel_rfl, fun j t ht => by
        rw [Tryd.params6] at ht
        have hm : t ∈ [36, 41] := by simpa using Array.mem_of_getElem? ht
        have hall : ([36, 41].all fun u => !Tryd.prog.wantsStandIn u) = true := by kernel_rfl
        exact (show Tryd.prog.wantsStandIn t = false by simpa using List.all_eq_true.1 hall t hm)⟩)
    (by kernel_rfl)
#print axioms proved
end Go.Proofs.YtcgmliaahdpmcaaDoor.tableMoves
