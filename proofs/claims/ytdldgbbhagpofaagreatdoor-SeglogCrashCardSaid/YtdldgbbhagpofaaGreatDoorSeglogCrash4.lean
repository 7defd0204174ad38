/- Contracts and laws that the proof stands on. -/
import Derived.Test.YtdldgbbhagpofaaGreatDoorSeglogCrash3
import Derived.Deep.AppendSrc
import Derived.Laws.AppendOwn
import Derived.Laws.Slices
import Derived.Room.Entries
set_option linter.unusedSimpArgs false
set_option linter.unusedVariables false
namespace Go.Sl
variable {P : Program} {Γ : Ctx} {L R : List Chunk} {N : Nat} {fr : Fr} {Q : Exit → Act → World → Prop} {ops : Array Oper} {rest : List Oper}
section
variable {d : Nat} {op : Op} {ty : TypeId} {pos : String} {aft : Array Edge} {gd : Option (Nat × Bool)} {v : Value} {f : FuncId} {xs : List Operand} {vs : List Value} {tys : Array TypeId} {A : List Chunk}
theorem s_q (k : G Γ N ((d, v) :: fr) L (wpList P ops Q rest)) (hg : Runs ops fr gd := by exact rfl) (hN : Nat.blt d N = true := by exact rfl)
    (q : QStep P Γ fr ⟨some d, op, ty, pos, aft, gd⟩ v := by first | (apply qs_move <;> exact rfl) | (apply qs_fieldAddr <;> exact rfl) | (apply qs_assign <;> exact rfl) | (apply qs_nilCheck <;> exact rfl) | (apply qs_lss <;> exact rfl) | (apply qs_leq <;> exact rfl) | (apply qs_gtr <;> exact rfl) | (apply qs_geq <;> exact rfl) | (apply qs_eql <;> exact rfl) | (apply qs_neq <;> exact rfl) | (apply qs_addI <;> first | exact rfl | exact ⟨by omega, by omega⟩ | exact ⟨by simp only []; omega, by simp only []; omega⟩) | (apply qs_subI <;> first | exact rfl | exact ⟨by omega, by omega⟩ | exact ⟨by simp only []; omega, by simp only []; omega⟩) | (apply qs_mulI <;> first | exact rfl | exact ⟨by omega, by omega⟩ | exact ⟨by simp only []; omega, by simp only []; omega⟩) | (apply qs_pick_true <;> exact rfl) | (apply qs_pick_false <;> exact rfl) | (apply qs_not_true <;> exact rfl) | (apply qs_not_false <;> exact rfl) | (apply qs_not_dec <;> exact rfl) | (apply qs_not <;> exact rfl) | (apply qs_extract <;> exact rfl) | (apply qs_eqNil_no <;> exact rfl) | (apply qs_eqNil_yes <;> exact rfl) | (apply qs_neNil_yes <;> exact rfl) | (apply qs_neNil_no <;> exact rfl) | (apply qs_eqlS <;> exact rfl) | (apply qs_neqS <;> exact rfl) | (apply qs_eqlB <;> exact rfl) | (apply qs_neqB <;> exact rfl) | (apply qs_build; exact (by (repeat (first | exact Bld.nil | apply Bld.cons rfl FOff.off (by first | exact CellsOf.agg | exact CellsOf.one rfl) rfl (by (repeat (first | exact Put.nil | apply Put.here | apply Put.skip)); first | done | fail))); first | done | fail)) | (apply qs_eqA; exact rfl; exact rfl; exact (by (repeat (first | exact EqFs.nil | (apply eqFs_one; exact inferInstance; exact rfl; exact rfl) | (apply eqFs_agg; exact inferInstance; exact (by (repeat (first | exact Cut.zero | apply Cut.take | apply Cut.skip)); first | done | fail); exact (by (repeat (first | exact Cut.zero | apply Cut.take | apply Cut.skip)); first | done | fail)) | exact eqRun_int.mono (by omega) | exact eqRun_string.mono (by omega) | exact eqRun_bool.mono (by omega) | (apply eqRun_structM; exact inferInstance))); first | done | fail)) | (apply qs_neA; exact rfl; exact rfl; exact (by (repeat (first | exact EqFs.nil | (apply eqFs_one; exact inferInstance; exact rfl; exact rfl) | (apply eqFs_agg; exact inferInstance; exact (by (repeat (first | exact Cut.zero | apply Cut.take | apply Cut.skip)); first | done | fail); exact (by (repeat (first | exact Cut.zero | apply Cut.take | apply Cut.skip)); first | done | fail)) | exact eqRun_int.mono (by omega) | exact eqRun_string.mono (by omega) | exact eqRun_bool.mono (by omega) | (apply eqRun_structM; exact inferInstance))); first | done | fail)) | (apply qs_lenSlice <;> exact rfl) | (apply qs_lenString <;> exact rfl) | (apply qs_indexSlice1 <;> first | exact rfl | omega) | (apply qs_indexSliceN <;> first | exact rfl | omega) | (apply qs_indexSlice <;> first | exact rfl | omega) | (apply qs_indexArr <;> first | exact rfl | omega) | (apply qs_field1; exact inferInstance; exact rfl; exact rfl; exact inferInstance; exact rfl) | (apply qs_fieldA; exact inferInstance; exact rfl; exact rfl; exact inferInstance; exact (by (repeat (first | exact Cut.zero | apply Cut.take | apply Cut.skip)); first | done | fail)) | fail) : G Γ N fr L (wpList P ops Q (⟨some d, op, ty, pos, aft, gd⟩ :: rest)) := g_q q hg hN k
theorem s_v (k : G Γ N ((d, v) :: fr) L (wpList P ops Q rest)) (hg : Runs ops fr gd := by exact rfl) (hN : Nat.blt d N = true := by exact rfl)
    (q : VStep P Γ fr L ⟨some d, op, ty, pos, aft, gd⟩ v := by first | (apply vs_load'; exact inferInstance; exact rfl; exact (by (repeat (first | exact Sel.here | apply Sel.there)); first | done | fail); exact rfl) | (apply vs_loadA'; exact inferInstance; exact rfl; exact (by (repeat (first | exact Sel.here | apply Sel.there)); first | done | fail); exact (by (repeat (first | exact Cut.zero | apply Cut.take | apply Cut.skip)); first | done | fail)) | (apply vs_loadR'; exact inferInstance; exact rfl; exact hr _ (by omega); exact (by (repeat (first | exact Sel.here | apply Sel.there)); first | done | fail)) | (apply vs_loadAR'; exact inferInstance; exact rfl; exact hr _ (by omega); exact (by (repeat (first | exact Sel.here | apply Sel.there)); first | done | fail); exact rfl) | (apply vs_loadR'; exact inferInstance; exact rfl; apply hcell; exact rfl; exact (by (repeat (first | exact Sel.here | apply Sel.there)); first | done | fail)) | (apply vs_loadX'; exact inferInstance; exact rfl; exact hcell; exact (by (repeat (first | exact Cut.zero | apply Cut.take | apply Cut.skip)); first | done | fail); exact (by (repeat (first | exact Sel.here | apply Sel.there)); first | done | fail)) | (apply vs_loadAR'; exact inferInstance; exact rfl; exact hrow; exact (by (repeat (first | exact Sel.here | apply Sel.there)); first | done | fail); exact rfl) | (apply vs_loadAR'; exact inferInstance; exact rfl; exact hrow2; exact (by (repeat (first | exact Sel.here | apply Sel.there)); first | done | fail); exact rfl) | (apply vs_loadR'; exact inferInstance; exact rfl; exact hr2 _ (by omega); exact (by (repeat (first | exact Sel.here | apply Sel.there)); first | done | fail)) | (apply vs_loadR'; exact inferInstance; exact rfl; apply hcell2; exact rfl; exact (by (repeat (first | exact Sel.here | apply Sel.there)); first | done | fail)) | fail) : G Γ N fr L (wpList P ops Q (⟨some d, op, ty, pos, aft, gd⟩ :: rest)) := g_v q hg hN k
theorem s_n {V : Nat → Value} {M : Nat → List Chunk} (k : ∀ x, G Γ N ((d, V x) :: fr) (M x) (wpList P ops Q rest)) (hg : Runs ops fr gd := by exact rfl) (hN : Nat.blt d N = true := by exact rfl)
    (q : CStep P Γ fr L ⟨some d, op, ty, pos, aft, gd⟩ V M (fun _ => True) := by first | (apply cs_boxA; exact rfl) | (apply cs_box1; exact rfl; exact rfl) | exact cs_allocA | exact cs_alloc1 rfl | (apply cs_buildSlice; exact rfl; exact rfl; exact rfl; exact (by (repeat (first | exact Parts.nil | apply Parts.cons rfl (by first | exact CellsOf.agg | exact CellsOf.one rfl) rfl | exact App.nil | apply App.cons)); first | done | fail)) | fail) : G Γ N fr L (wpList P ops Q (⟨some d, op, ty, pos, aft, gd⟩ :: rest)) := g_n q hg hN k
theorem s_s {M : List Chunk} (k : G Γ N fr M (wpList P ops Q rest)) (hg : Runs ops fr gd := by exact rfl)
    (q : SStep P Γ fr L ⟨none, op, ty, pos, aft, gd⟩ M := by first | (apply ss_store'; exact inferInstance; exact rfl; exact rfl; exact rfl; exact (by (repeat (first | exact Sel.here | apply Sel.there)); first | done | fail); exact (by (repeat (first | exact Put.nil | apply Put.here | apply Put.skip)); first | done | fail)) | (apply ss_storeA'; exact inferInstance; exact rfl; exact rfl; exact rfl; exact rfl; exact (by (repeat (first | exact Sel.here | apply Sel.there)); first | done | fail); exact (by (repeat (first | exact Put.nil | apply Put.here | apply Put.skip)); first | done | fail)) | fail) : G Γ N fr L (wpList P ops Q (⟨none, op, ty, pos, aft, gd⟩ :: rest)) := g_s q hg k
theorem s_x {o : Oper} (k : G Γ N ((d, undef) :: fr) L (wpList P ops Q rest)) (hg : Skips ops fr o.guard := by exact rfl) (hd : o.dst = some d := by exact rfl) (hN : Nat.blt d N = true := by exact rfl) : G Γ N fr L (wpList P ops Q (o :: rest)) := g_skipOp hg hd hN k
theorem s_y {o : Oper} (k : G Γ N fr L (wpList P ops Q rest)) (hg : Skips ops fr o.guard := by exact rfl) (hd : o.dst = none := by exact rfl) : G Γ N fr L (wpList P ops Q (o :: rest)) := g_skipOp0 hg hd k
theorem s_p [C : Callable P f] (fn : Does1 P f vs [] v) (k : G Γ N ((d, v) :: fr) L (wpList P ops Q rest)) (hg : Runs ops fr gd := by exact rfl) (hN : Nat.blt d N = true := by exact rfl) (he : Evs fr xs vs := by (repeat (first | exact Evs.nil | refine Evs.cons rfl ?_)); first | done | fail) :
    G Γ N fr L (wpList P ops Q (⟨some d, .call ⟨.value (.func f), xs.toArray, tys⟩, ty, pos, aft, gd⟩ :: rest)) := g_q (qs_call fn he) hg hN k
theorem s_k [C : Callable P f] (fn : Does1 P f vs A v) (k : G Γ N ((d, v) :: fr) (A ++ R) (wpList P ops Q rest)) (hg : Runs ops fr gd := by exact rfl) (hN : Nat.blt d N = true := by exact rfl) (he : Evs fr xs vs := by (repeat (first | exact Evs.nil | refine Evs.cons rfl ?_)); first | done | fail) (tk : Take L A R := by (repeat (first | exact Take.nil | apply Take.cons | exact Sel.here | apply Sel.there)); first | done | fail) :
    G Γ N fr L (wpList P ops Q (⟨some d, .call ⟨.value (.func f), xs.toArray, tys⟩, ty, pos, aft, gd⟩ :: rest)) := g_call1 fn hg hN he tk k
theorem s_c [C : Callable P f] {X : Type} {ret : X → Value} {B : X → List Chunk} {φ : X → Prop} (fn : Does P f vs A ret B φ) (k : ∀ x, φ x → G Γ N ((d, ret x) :: fr) (B x ++ R) (wpList P ops Q rest)) (hg : Runs ops fr gd := by exact rfl) (hN : Nat.blt d N = true := by exact rfl) (he : Evs fr xs vs := by (repeat (first | exact Evs.nil | refine Evs.cons rfl ?_)); first | done | fail) (tk : Take L A R := by (repeat (first | exact Take.nil | apply Take.cons | exact Sel.here | apply Sel.there)); first | done | fail) :
    G Γ N fr L (wpList P ops Q (⟨some d, .call ⟨.value (.func f), xs.toArray, tys⟩, ty, pos, aft, gd⟩ :: rest)) := g_call fn hg hN he tk k
end
theorem s_m {d : Nat} {v : Value} {fr' : Fr} {L' : List Chunk} (h : look fr d = some v := by exact rfl) (s : FrBut d fr fr' := by (repeat (first | exact FrBut.refl | refine FrBut.tail rfl ?_ | refine FrBut.tailD ?_ | exact FrBut.nil | refine FrBut.cons rfl ?_ | apply FrBut.same)); first | done | fail) (t : Take L L' R := by (repeat (first | exact Take.nil | apply Take.cons | exact Sel.here | apply Sel.there)); first | done | fail) : G Γ N fr L (MidQ Γ N ((d, v) :: fr') L' .normal) := g_midB h s t
section
variable {i j : Nat} {d : Nat} {op : Op} {ty : TypeId} {pos : String} {aft : Array Edge} {gd : Option (Nat × Bool)} {v : Value} {p : Plan} {f : FuncId} {xs : List Operand} {vs : List Value} {tys : Array TypeId} {A : List Chunk}
theorem p_q (k : GP P ops Q Γ N ((d, v) :: fr) L p) (hi : ops[i]? = some ⟨some d, op, ty, pos, aft, gd⟩ := by exact rfl) (hg : Runs ops fr gd := by exact rfl) (hN : Nat.blt d N = true := by exact rfl)
    (q : ∀ Δ, QStep P Δ fr ⟨some d, op, ty, pos, aft, gd⟩ v := by intro Δ; exact (by first | (apply qs_move <;> exact rfl) | (apply qs_fieldAddr <;> exact rfl) | (apply qs_assign <;> exact rfl) | (apply qs_nilCheck <;> exact rfl) | (apply qs_lss <;> exact rfl) | (apply qs_leq <;> exact rfl) | (apply qs_gtr <;> exact rfl) | (apply qs_geq <;> exact rfl) | (apply qs_eql <;> exact rfl) | (apply qs_neq <;> exact rfl) | (apply qs_addI <;> first | exact rfl | exact ⟨by omega, by omega⟩ | exact ⟨by simp only []; omega, by simp only []; omega⟩) | (apply qs_subI <;> first | exact rfl | exact ⟨by omega, by omega⟩ | exact ⟨by simp only []; omega, by simp only []; omega⟩) | (apply qs_mulI <;> first | exact rfl | exact ⟨by omega, by omega⟩ | exact ⟨by simp only []; omega, by simp only []; omega⟩) | (apply qs_pick_true <;> exact rfl) | (apply qs_pick_false <;> exact rfl) | (apply qs_not_true <;> exact rfl) | (apply qs_not_false <;> exact rfl) | (apply qs_not_dec <;> exact rfl) | (apply qs_not <;> exact rfl) | (apply qs_extract <;> exact rfl) | (apply qs_eqNil_no <;> exact rfl) | (apply qs_eqNil_yes <;> exact rfl) | (apply qs_neNil_yes <;> exact rfl) | (apply qs_neNil_no <;> exact rfl) | (apply qs_eqlS <;> exact rfl) | (apply qs_neqS <;> exact rfl) | (apply qs_eqlB <;> exact rfl) | (apply qs_neqB <;> exact rfl) | (apply qs_build; exact (by (repeat (first | exact Bld.nil | apply Bld.cons rfl FOff.off (by first | exact CellsOf.agg | exact CellsOf.one rfl) rfl (by (repeat (first | exact Put.nil | apply Put.here | apply Put.skip)); first | done | fail))); first | done | fail)) | (apply qs_eqA; exact rfl; exact rfl; exact (by (repeat (first | exact EqFs.nil | (apply eqFs_one; exact inferInstance; exact rfl; exact rfl) | (apply eqFs_agg; exact inferInstance; exact (by (repeat (first | exact Cut.zero | apply Cut.take | apply Cut.skip)); first | done | fail); exact (by (repeat (first | exact Cut.zero | apply Cut.take | apply Cut.skip)); first | done | fail)) | exact eqRun_int.mono (by omega) | exact eqRun_string.mono (by omega) | exact eqRun_bool.mono (by omega) | (apply eqRun_structM; exact inferInstance))); first | done | fail)) | (apply qs_neA; exact rfl; exact rfl; exact (by (repeat (first | exact EqFs.nil | (apply eqFs_one; exact inferInstance; exact rfl; exact rfl) | (apply eqFs_agg; exact inferInstance; exact (by (repeat (first | exact Cut.zero | apply Cut.take | apply Cut.skip)); first | done | fail); exact (by (repeat (first | exact Cut.zero | apply Cut.take | apply Cut.skip)); first | done | fail)) | exact eqRun_int.mono (by omega) | exact eqRun_string.mono (by omega) | exact eqRun_bool.mono (by omega) | (apply eqRun_structM; exact inferInstance))); first | done | fail)) | (apply qs_lenSlice <;> exact rfl) | (apply qs_lenString <;> exact rfl) | (apply qs_indexSlice1 <;> first | exact rfl | omega) | (apply qs_indexSliceN <;> first | exact rfl | omega) | (apply qs_indexSlice <;> first | exact rfl | omega) | (apply qs_indexArr <;> first | exact rfl | omega) | (apply qs_field1; exact inferInstance; exact rfl; exact rfl; exact inferInstance; exact rfl) | (apply qs_fieldA; exact inferInstance; exact rfl; exact rfl; exact inferInstance; exact (by (repeat (first | exact Cut.zero | apply Cut.take | apply Cut.skip)); first | done | fail)) | fail)) : GP P ops Q Γ N fr L (.take i p) := gp_q q hi hg hN k
theorem p_sq {D : List Nat} (k : GP P ops Q Γ N ((d, v) :: fr) L p) (hi : ops[i]? = some ⟨some d, op, ty, pos, aft, gd⟩ := by exact rfl) (hg : Runs ops fr gd := by exact rfl) (hN : Nat.blt d N = true := by exact rfl)
    (q : QStep P Γ fr ⟨some d, op, ty, pos, aft, gd⟩ v := by first | (apply qs_move <;> exact rfl) | (apply qs_fieldAddr <;> exact rfl) | (apply qs_assign <;> exact rfl) | (apply qs_nilCheck <;> exact rfl) | (apply qs_lss <;> exact rfl) | (apply qs_leq <;> exact rfl) | (apply qs_gtr <;> exact rfl) | (apply qs_geq <;> exact rfl) | (apply qs_eql <;> exact rfl) | (apply qs_neq <;> exact rfl) | (apply qs_addI <;> first | exact rfl | exact ⟨by omega, by omega⟩ | exact ⟨by simp only []; omega, by simp only []; omega⟩) | (apply qs_subI <;> first | exact rfl | exact ⟨by omega, by omega⟩ | exact ⟨by simp only []; omega, by simp only []; omega⟩) | (apply qs_mulI <;> first | exact rfl | exact ⟨by omega, by omega⟩ | exact ⟨by simp only []; omega, by simp only []; omega⟩) | (apply qs_pick_true <;> exact rfl) | (apply qs_pick_false <;> exact rfl) | (apply qs_not_true <;> exact rfl) | (apply qs_not_false <;> exact rfl) | (apply qs_not_dec <;> exact rfl) | (apply qs_not <;> exact rfl) | (apply qs_extract <;> exact rfl) | (apply qs_eqNil_no <;> exact rfl) | (apply qs_eqNil_yes <;> exact rfl) | (apply qs_neNil_yes <;> exact rfl) | (apply qs_neNil_no <;> exact rfl) | (apply qs_eqlS <;> exact rfl) | (apply qs_neqS <;> exact rfl) | (apply qs_eqlB <;> exact rfl) | (apply qs_neqB <;> exact rfl) | (apply qs_build; exact (by (repeat (first | exact Bld.nil | apply Bld.cons rfl FOff.off (by first | exact CellsOf.agg | exact CellsOf.one rfl) rfl (by (repeat (first | exact Put.nil | apply Put.here | apply Put.skip)); first | done | fail))); first | done | fail)) | (apply qs_eqA; exact rfl; exact rfl; exact (by (repeat (first | exact EqFs.nil | (apply eqFs_one; exact inferInstance; exact rfl; exact rfl) | (apply eqFs_agg; exact inferInstance; exact (by (repeat (first | exact Cut.zero | apply Cut.take | apply Cut.skip)); first | done | fail); exact (by (repeat (first | exact Cut.zero | apply Cut.take | apply Cut.skip)); first | done | fail)) | exact eqRun_int.mono (by omega) | exact eqRun_string.mono (by omega) | exact eqRun_bool.mono (by omega) | (apply eqRun_structM; exact inferInstance))); first | done | fail)) | (apply qs_neA; exact rfl; exact rfl; exact (by (repeat (first | exact EqFs.nil | (apply eqFs_one; exact inferInstance; exact rfl; exact rfl) | (apply eqFs_agg; exact inferInstance; exact (by (repeat (first | exact Cut.zero | apply Cut.take | apply Cut.skip)); first | done | fail); exact (by (repeat (first | exact Cut.zero | apply Cut.take | apply Cut.skip)); first | done | fail)) | exact eqRun_int.mono (by omega) | exact eqRun_string.mono (by omega) | exact eqRun_bool.mono (by omega) | (apply eqRun_structM; exact inferInstance))); first | done | fail)) | (apply qs_lenSlice <;> exact rfl) | (apply qs_lenString <;> exact rfl) | (apply qs_indexSlice1 <;> first | exact rfl | omega) | (apply qs_indexSliceN <;> first | exact rfl | omega) | (apply qs_indexSlice <;> first | exact rfl | omega) | (apply qs_indexArr <;> first | exact rfl | omega) | (apply qs_field1; exact inferInstance; exact rfl; exact rfl; exact inferInstance; exact rfl) | (apply qs_fieldA; exact inferInstance; exact rfl; exact rfl; exact inferInstance; exact (by (repeat (first | exact Cut.zero | apply Cut.take | apply Cut.skip)); first | done | fail)) | fail) : GP P ops Q Γ N fr L (.see i D p) := gp_sq q hi hg hN k
theorem p_f {D : List Nat} (k : GP P ops Q Γ N ((d, v) :: fr) L p) (hi : ops[i]? = some ⟨some d, op, ty, pos, aft, gd⟩ := by exact rfl) (hg : Runs ops fr gd := by exact rfl) (hN : Nat.blt d N = true := by exact rfl)
    (q : QStep P Γ fr ⟨some d, op, ty, pos, aft, gd⟩ v := by first | (apply qs_loadF'; exact inferInstance; exact hd; exact hk; exact rfl; exact (by (repeat (first | exact Sel.here | apply Sel.there)); first | done | fail); exact rfl) | (apply qs_loadFA'; exact inferInstance; exact hd; exact hk; exact rfl; exact (by (repeat (first | exact Sel.here | apply Sel.there)); first | done | fail); exact (by (repeat (first | exact Cut.zero | apply Cut.take | apply Cut.skip)); first | done | fail)) | (apply qs_loadFR'; exact inferInstance; exact hd; exact hk; exact rfl; exact hr _ (by omega); exact (by (repeat (first | exact Sel.here | apply Sel.there)); first | done | fail)) | (apply qs_loadFAR'; exact inferInstance; exact hd; exact hk; exact rfl; exact hr _ (by omega); exact (by (repeat (first | exact Sel.here | apply Sel.there)); first | done | fail); exact rfl) | (apply qs_loadFR'; exact inferInstance; exact hd; exact hk; exact rfl; apply hcell; exact rfl; exact (by (repeat (first | exact Sel.here | apply Sel.there)); first | done | fail)) | (apply qs_loadFX'; exact inferInstance; exact hd; exact hk; exact rfl; exact hcell; exact (by (repeat (first | exact Cut.zero | apply Cut.take | apply Cut.skip)); first | done | fail); exact (by (repeat (first | exact Sel.here | apply Sel.there)); first | done | fail)) | (apply qs_loadFAR'; exact inferInstance; exact hd; exact hk; exact rfl; exact hrow; exact (by (repeat (first | exact Sel.here | apply Sel.there)); first | done | fail); exact rfl) | (apply qs_loadFAR'; exact inferInstance; exact hd; exact hk; exact rfl; exact hrow2; exact (by (repeat (first | exact Sel.here | apply Sel.there)); first | done | fail); exact rfl) | (apply qs_loadFR'; exact inferInstance; exact hd; exact hk; exact rfl; exact hr2 _ (by omega); exact (by (repeat (first | exact Sel.here | apply Sel.there)); first | done | fail)) | (apply qs_loadFR'; exact inferInstance; exact hd; exact hk; exact rfl; apply hcell2; exact rfl; exact (by (repeat (first | exact Sel.here | apply Sel.there)); first | done | fail)) | fail) : GP P ops Q Γ N fr L (.see i D p) := gp_sq q hi hg hN k
theorem p_x (k : GP P ops Q Γ N ((d, undef) :: fr) L p) (hi : ops[i]? = some ⟨some d, op, ty, pos, aft, gd⟩ := by exact rfl) (hg : Skips ops fr gd := by exact rfl) (hN : Nat.blt d N = true := by exact rfl) : GP P ops Q Γ N fr L (.take i p) := gp_skip hi hg hN k
theorem p_p [C : Callable P f] (fn : Does1 P f vs [] v) (k : GP P ops Q Γ N ((d, v) :: fr) L p) (hi : ops[i]? = some ⟨some d, .call ⟨.value (.func f), xs.toArray, tys⟩, ty, pos, aft, gd⟩ := by exact rfl) (hg : Runs ops fr gd := by exact rfl) (hN : Nat.blt d N = true := by exact rfl) (he : Evs fr xs vs := by (repeat (first | exact Evs.nil | refine Evs.cons rfl ?_)); first | done | fail) :
    GP P ops Q Γ N fr L (.take i p) := gp_q (fun _ => qs_call fn he) hi hg hN k
theorem p_sp {D : List Nat} [C : Callable P f] (fn : Does1 P f vs [] v) (k : GP P ops Q Γ N ((d, v) :: fr) L p) (hi : ops[i]? = some ⟨some d, .call ⟨.value (.func f), xs.toArray, tys⟩, ty, pos, aft, gd⟩ := by exact rfl) (hg : Runs ops fr gd := by exact rfl) (hN : Nat.blt d N = true := by exact rfl) (he : Evs fr xs vs := by (repeat (first | exact Evs.nil | refine Evs.cons rfl ?_)); first | done | fail) :
    GP P ops Q Γ N fr L (.see i D p) := gp_sq (qs_call fn he) hi hg hN k
theorem p_sx {D : List Nat} (k : GP P ops Q Γ N ((d, undef) :: fr) L p) (hi : ops[i]? = some ⟨some d, op, ty, pos, aft, gd⟩ := by exact rfl) (hg : Skips ops fr gd := by exact rfl) (hN : Nat.blt d N = true := by exact rfl) : GP P ops Q Γ N fr L (.see i D p) := gp_sskip hi hg hN k
theorem p_h {D : List Nat} [Cb : Callable P f] {C : List Chunk} {m : HP} (fn : Does1 P f vs A v) (hd : HP.disj Γ.hf m) (hk : All C m) (k : GP P ops Q (Γ.add m) N ((d, v) :: fr) L p) (hi : ops[i]? = some ⟨some d, .call ⟨.value (.func f), xs.toArray, tys⟩, ty, pos, aft, gd⟩ := by exact rfl) (hg : Runs ops fr gd := by exact rfl) (hN : Nat.blt d N = true := by exact rfl) (he : Evs fr xs vs := by (repeat (first | exact Evs.nil | refine Evs.cons rfl ?_)); first | done | fail) (tk : Take C A R := by (repeat (first | exact Take.nil | apply Take.cons | exact Sel.here | apply Sel.there)); first | done | fail) (hA : A.all isPt = true := by exact rfl) :
    GP P ops Q (Γ.add m) N fr L (.see i D p) := gp_sq (qs_callF fn hd hk hA he tk) hi hg hN k
theorem p_v (k : GP P ops Q Γ N ((d, v) :: fr) L p) (hi : ops[i]? = some ⟨some d, op, ty, pos, aft, gd⟩ := by exact rfl) (hg : Runs ops fr gd := by exact rfl) (hN : Nat.blt d N = true := by exact rfl)
    (q : VStep P Γ fr L ⟨some d, op, ty, pos, aft, gd⟩ v := by first | (apply vs_load'; exact inferInstance; exact rfl; exact (by (repeat (first | exact Sel.here | apply Sel.there)); first | done | fail); exact rfl) | (apply vs_loadA'; exact inferInstance; exact rfl; exact (by (repeat (first | exact Sel.here | apply Sel.there)); first | done | fail); exact (by (repeat (first | exact Cut.zero | apply Cut.take | apply Cut.skip)); first | done | fail)) | (apply vs_loadR'; exact inferInstance; exact rfl; exact hr _ (by omega); exact (by (repeat (first | exact Sel.here | apply Sel.there)); first | done | fail)) | (apply vs_loadAR'; exact inferInstance; exact rfl; exact hr _ (by omega); exact (by (repeat (first | exact Sel.here | apply Sel.there)); first | done | fail); exact rfl) | (apply vs_loadR'; exact inferInstance; exact rfl; apply hcell; exact rfl; exact (by (repeat (first | exact Sel.here | apply Sel.there)); first | done | fail)) | (apply vs_loadX'; exact inferInstance; exact rfl; exact hcell; exact (by (repeat (first | exact Cut.zero | apply Cut.take | apply Cut.skip)); first | done | fail); exact (by (repeat (first | exact Sel.here | apply Sel.there)); first | done | fail)) | (apply vs_loadAR'; exact inferInstance; exact rfl; exact hrow; exact (by (repeat (first | exact Sel.here | apply Sel.there)); first | done | fail); exact rfl) | (apply vs_loadAR'; exact inferInstance; exact rfl; exact hrow2; exact (by (repeat (first | exact Sel.here | apply Sel.there)); first | done | fail); exact rfl) | (apply vs_loadR'; exact inferInstance; exact rfl; exact hr2 _ (by omega); exact (by (repeat (first | exact Sel.here | apply Sel.there)); first | done | fail)) | (apply vs_loadR'; exact inferInstance; exact rfl; apply hcell2; exact rfl; exact (by (repeat (first | exact Sel.here | apply Sel.there)); first | done | fail)) | fail) : GP P ops Q Γ N fr L (.one i p) := gp_v q hi hg hN k
theorem p_s {M : List Chunk} (k : GP P ops Q Γ N fr M p) (hi : ops[i]? = some ⟨none, op, ty, pos, aft, gd⟩ := by exact rfl) (hg : Runs ops fr gd := by exact rfl)
    (q : SStep P Γ fr L ⟨none, op, ty, pos, aft, gd⟩ M := by first | (apply ss_store'; exact inferInstance; exact rfl; exact rfl; exact rfl; exact (by (repeat (first | exact Sel.here | apply Sel.there)); first | done | fail); exact (by (repeat (first | exact Put.nil | apply Put.here | apply Put.skip)); first | done | fail)) | (apply ss_storeA'; exact inferInstance; exact rfl; exact rfl; exact rfl; exact rfl; exact (by (repeat (first | exact Sel.here | apply Sel.there)); first | done | fail); exact (by (repeat (first | exact Put.nil | apply Put.here | apply Put.skip)); first | done | fail)) | fail) : GP P ops Q Γ N fr L (.one i p) := gp_s q hi hg k
theorem p_n {V : Nat → Value} {M : Nat → List Chunk} (k : ∀ x, GP P ops Q Γ N ((d, V x) :: fr) (M x) p) (hi : ops[i]? = some ⟨some d, op, ty, pos, aft, gd⟩ := by exact rfl) (hg : Runs ops fr gd := by exact rfl) (hN : Nat.blt d N = true := by exact rfl)
    (q : CStep P Γ fr L ⟨some d, op, ty, pos, aft, gd⟩ V M (fun _ => True) := by first | (apply cs_boxA; exact rfl) | (apply cs_box1; exact rfl; exact rfl) | exact cs_allocA | exact cs_alloc1 rfl | (apply cs_buildSlice; exact rfl; exact rfl; exact rfl; exact (by (repeat (first | exact Parts.nil | apply Parts.cons rfl (by first | exact CellsOf.agg | exact CellsOf.one rfl) rfl | exact App.nil | apply App.cons)); first | done | fail)) | fail) : GP P ops Q Γ N fr L (.one i p) := gp_n q hi hg hN k
theorem p_y (k : GP P ops Q Γ N ((d, undef) :: fr) L p) (hi : ops[i]? = some ⟨some d, op, ty, pos, aft, gd⟩ := by exact rfl) (hg : Skips ops fr gd := by exact rfl) (hN : Nat.blt d N = true := by exact rfl) : GP P ops Q Γ N fr L (.one i p) := gp_oneSkip hi hg hN k
theorem p_k [C : Callable P f] (fn : Does1 P f vs A v) (k : GP P ops Q Γ N ((d, v) :: fr) (A ++ R) p) (hi : ops[i]? = some ⟨some d, .call ⟨.value (.func f), xs.toArray, tys⟩, ty, pos, aft, gd⟩ := by exact rfl) (hg : Runs ops fr gd := by exact rfl) (hN : Nat.blt d N = true := by exact rfl) (he : Evs fr xs vs := by (repeat (first | exact Evs.nil | refine Evs.cons rfl ?_)); first | done | fail) (tk : Take L A R := by (repeat (first | exact Take.nil | apply Take.cons | exact Sel.here | apply Sel.there)); first | done | fail) :
    GP P ops Q Γ N fr L (.one i p) := gp_c (cs_call1 fn he tk) hi hg hN fun _ _ => k
theorem p_c [C : Callable P f] {X : Type} {ret : X → Value} {B : X → List Chunk} {φ : X → Prop} (fn : Does P f vs A ret B φ) (k : ∀ x, φ x → GP P ops Q Γ N ((d, ret x) :: fr) (B x ++ R) p) (hi : ops[i]? = some ⟨some d, .call ⟨.value (.func f), xs.toArray, tys⟩, ty, pos, aft, gd⟩ := by exact rfl) (hg : Runs ops fr gd := by exact rfl) (hN : Nat.blt d N = true := by exact rfl) (he : Evs fr xs vs := by (repeat (first | exact Evs.nil | refine Evs.cons rfl ?_)); first | done | fail) (tk : Take L A R := by (repeat (first | exact Take.nil | apply Take.cons | exact Sel.here | apply Sel.there)); first | done | fail) :
    GP P ops Q Γ N fr L (.one i p) := gp_c (cs_call fn he tk) hi hg hN k
end
section
variable {X : Type} {fn : Func} {ret : X → Value} {B : X → List Chunk} {φ : X → Prop} {rs : List ResultVar} {vs : List Value}
theorem s_r (x : X) (hr : fn.results = rs.toArray := by exact rfl) (h : RVs P fr L rs vs := by (repeat (first | exact RVs.nil | apply RVs.tmp rfl | apply RVs.cellA rfl (by (repeat (first | exact Sel.here | apply Sel.there)); first | done | fail) (by (repeat (first | exact Cut.zero | apply Cut.take | apply Cut.skip)); first | done | fail) | apply RVs.cell1 rfl (by (repeat (first | exact Sel.here | apply Sel.there)); first | done | fail) rfl)); first | done | fail) (tk : Take L (B x) R := by (repeat (first | exact Take.nil | apply Take.cons | exact Sel.here | apply Sel.there)); first | done | fail) (hp : pack vs = ret x := by exact rfl) (hx : φ x := by exact trivial) (hdf : Γ.df = [] := by exact rfl) : G Γ N fr L (bodyPost P fn (Post Γ ret B φ) .ret) := g_ret x hr h tk hp hx hdf
theorem s_e (x : X) (hr : fn.results = rs.toArray := by exact rfl) (h : RVs P fr L rs vs := by (repeat (first | exact RVs.nil | apply RVs.tmp rfl | apply RVs.cellA rfl (by (repeat (first | exact Sel.here | apply Sel.there)); first | done | fail) (by (repeat (first | exact Cut.zero | apply Cut.take | apply Cut.skip)); first | done | fail) | apply RVs.cell1 rfl (by (repeat (first | exact Sel.here | apply Sel.there)); first | done | fail) rfl)); first | done | fail) (tk : Take L (B x) R := by (repeat (first | exact Take.nil | apply Take.cons | exact Sel.here | apply Sel.there)); first | done | fail) (hp : pack vs = ret x := by exact rfl) (hx : φ x := by exact trivial) (hdf : Γ.df = [] := by exact rfl) : G Γ N fr L (bodyPost P fn (Post Γ ret B φ) .normal) := g_end x hr h tk hp hx hdf
end
theorem take_head {c : Chunk} : ∀ (L : List Chunk), Take (c :: L) L [c]
  | [] => .nil
  | _ :: L => .cons (.there .here) (take_head L)
theorem Sel.but {c : Chunk} {L R : List Chunk} (s : Sel L c R) : Take L R [c] := by
  induction s with
  | here => exact take_head _
  | there _ ih => exact .cons .here ih
theorem g_drawS {id : Nat} {l : List Oper} {b o : Nat} {ob : Obj} [M : Mixed P] (p : Nat) (plan : Plan) (h : ∀ k, HP.disj Γ.hf k → All R k → GP P l.toArray Q (Γ.add k) N fr [.pt b ob] plan) (hp : planOk l plan = true := by kernel_rfl)
    (hl : look fr p = some (.pointer (some ⟨b, o, none⟩)) := by exact rfl) (s : Sel L (.pt b ob) R := by (repeat (first | exact Sel.here | apply Sel.there)); first | done | fail) : G Γ N fr L ((Code.region id l.toArray true).wp P Q) := g_draw plan hp s.but h
end Go.Sl

namespace Go.Sl
variable {P : Program} {Γ : Ctx} {L R : List Chunk} {N : Nat} {fr : Fr} {Q : Exit → Act → World → Prop} {ops : Array Oper} {rest : List Oper}
theorem take_head2 {c c' : Chunk} : ∀ (L : List Chunk), Take (c :: c' :: L) L [c, c']
  | [] => .nil
  | _ :: L => .cons (.there (.there .here)) (take_head2 L)
theorem g_drawS2 {id : Nat} {l : List Oper} {b1 o1 b2 o2 : Nat} {ob1 ob2 : Obj} {R1 : List Chunk} [M : Mixed P] (p1 p2 : Nat) (plan : Plan) (h : ∀ k, HP.disj Γ.hf k → All R k → GP P l.toArray Q (Γ.add k) N fr [.pt b1 ob1, .pt b2 ob2] plan) (hp : planOk l plan = true := by kernel_rfl)
    (hl1 : look fr p1 = some (.pointer (some ⟨b1, o1, none⟩)) := by exact rfl) (hl2 : look fr p2 = some (.pointer (some ⟨b2, o2, none⟩)) := by exact rfl) (s1 : Sel L (.pt b1 ob1) R1 := by (repeat (first | exact Sel.here | apply Sel.there)); first | done | fail) (s2 : Sel R1 (.pt b2 ob2) R := by (repeat (first | exact Sel.here | apply Sel.there)); first | done | fail) :
    G Γ N fr L ((Code.region id l.toArray true).wp P Q) := g_take (.cons s1 (.cons s2 .nil)) (g_draw plan hp (take_head2 R) h)
end Go.Sl

namespace Go.Sl
variable {P : Program} {Γ : Ctx} {L R : List Chunk} {N : Nat} {fr : Fr} {Q : Exit → Act → World → Prop} {ops : Array Oper} {rest : List Oper}
variable {d : Nat} {ty : TypeId} {pos : String} {aft : Array Edge} {gd : Option (Nat × Bool)} {x y : Operand} {v u : Value} {t t2 tx : TypeId}
class TBytes (P : Program) (t : TypeId) (k : outParam Nat) : Prop where
  bytes : (P.info? t).map (·.bytes) = some k
def ownS (p : Option Addr) (len cap n : Nat) (xs : List Value) (e : TypeId) : HP → Prop := fun h =>
  (xs.length = len * n ∧ xs.all (·.oneCell') = true) ∧ ((len = 0 ∧ cap = 0) ∨ ∃ b junk, p = some ⟨b, 0, none⟩ ∧ junk.length = (cap - len) * n ∧ len ≤ cap ∧ h b = some (.cells (xs ++ junk).toArray e (0, 0)))
abbrev Chunk.own (p : Option Addr) (len cap n : Nat) (xs : List Value) (e : TypeId) : Chunk := .asn (ownS p len cap n xs e)
theorem reads_own {b len cap n j : Nat} {xs : List Value} {e : TypeId} (h : xs[j]? = some v) : Reads (.own (some ⟨b, 0, none⟩) len cap n xs e) ⟨b, j, none⟩ v := fun hp hc => by
  obtain ⟨⟨hl, _⟩, ⟨h1, h2⟩ | ⟨b', junk, e1, _, _, e2⟩⟩ := hc
  · subst h1
    have : xs = [] := List.eq_nil_of_length_eq_zero (by rw [hl, Nat.zero_mul])
    subst this
    simp at h
  · simp only [Option.some.injEq, Addr.mk.injEq, and_true] at e1
    subst e1
    refine ⟨_, _, _, e2, rfl, ?_⟩
    have hj := (List.getElem?_eq_some_iff.1 h).1
    simp only [List.getElem?_toArray]
    rw [List.getElem?_append_left hj]
    exact h
theorem own_one {w : World} {p : Option Addr} {len cap n : Nat} {xs : List Value} {e : TypeId} (hh : Holds Γ L w) (s : Sel L (.own p len cap n xs e) R) : xs.all (·.oneCell') = true := by
  obtain ⟨h, _, s', al⟩ := (hh.sel s).own
  obtain ⟨h1, _, _, s1, _, hc, _⟩ := al
  exact hc.1.2
theorem own_place {w : World} {p : Option Addr} {len cap n : Nat} {xs : List Value} {e : TypeId} (hh : Holds Γ L w) (s : Sel L (.own p len cap n xs e) R) : xs.length = len * n ∧ len ≤ cap ∧ (0 < len → ∃ b, p = some ⟨b, 0, none⟩) := by
  obtain ⟨h, _, s', al⟩ := (hh.sel s).own
  obtain ⟨h1, _, _, s1, _, hc, _⟩ := al
  obtain ⟨⟨hl, _⟩, ⟨h1, h2⟩ | ⟨b', junk, e1, _, e3, e2⟩⟩ := hc
  · exact ⟨hl, by omega, fun hp => by omega⟩
  · exact ⟨hl, e3, fun _ => ⟨b', e1⟩⟩
theorem g_own {φ : Act → World → Prop} {p : Option Addr} {len cap n : Nat} {xs : List Value} {e : TypeId} (s : Sel L (.own p len cap n xs e) R) (g : xs.length = len * n → len ≤ cap → (0 < len → ∃ b, p = some ⟨b, 0, none⟩) → G Γ N fr L φ) : G Γ N fr L φ :=
  fun a w hN hd hf hh => let ⟨h1, h2, h3⟩ := own_place hh s; g h1 h2 h3 a w hN hd hf hh
theorem g_own_nil {φ : Act → World → Prop} (p : Option Addr) (n : Nat) (e : TypeId) (g : G Γ N fr (.own p 0 0 n [] e :: L) φ) : G Γ N fr L φ :=
  fun a w hN hd hf hh => g a w hN hd hf (hh.mono fun h al => ⟨fun _ => none, h, fun _ => .inl rfl, (fun _ _ q => by cases q), HP.sub.refl _, ⟨⟨by simp, rfl⟩, .inl ⟨rfl, rfl⟩⟩, al⟩)
theorem own_of_row {b len n : Nat} {xs : List Value} {e : TypeId} {h : HP} (hl : xs.length = len * n) (ho : xs.all (·.oneCell') = true) (hb : h b = some (.cells xs.toArray e (0, 0))) : ownS (some ⟨b, 0, none⟩) len len n xs e h :=
  ⟨⟨hl, ho⟩, .inr ⟨b, [], rfl, by simp, Nat.le_refl _, by simpa using hb⟩⟩
theorem Holds.toOwn {w : World} {b len n : Nat} {xs : List Value} {e : TypeId} (hh : Holds Γ (.row b xs e :: R) w) (hl : xs.length = len * n) (ho : xs.all (·.oneCell') = true) : Holds Γ (.own (some ⟨b, 0, none⟩) len len n xs e :: R) w :=
  hh.mono fun _ ⟨h1, h2, dj, s1, s2, hc, hr⟩ => ⟨h1, h2, dj, s1, s2, own_of_row hl ho hc, hr⟩
theorem setCells_row {w : World} {b o : Nat} {xs vs : List Value} {e : TypeId} (hb : w.heap[b]? = some (.cells xs.toArray e (0, 0))) (hl : o + vs.length ≤ xs.length) (h1 : ∀ v ∈ vs, v.oneCell' = true) :
    w.setCells b o vs = w.setRow b (xs.take o ++ vs ++ xs.drop (o + vs.length)).toArray := by
  have P : Program := default
  have a1 := run_storeCells_atF P b o e (0, 0) vs 0 xs.toArray w hb (by simp) (by simpa using hl) h1
  have hc : ∀ j, j < vs.length → (w.cell? ⟨b, o + 0 + j, none⟩).isSome = true := fun j hj => by
    have : o + j < xs.length := by omega
    simp [World.cell?, hb, this]
  have hf : ∀ j, j < vs.length → w.frozen? ⟨b, o + 0 + j, none⟩ = false := fun j hj => by
    simp [World.frozen?, hb]
  have a2 := run_storeCells_cells (P := P) b o vs 0 w hc hf h1
  rw [a1] at a2
  simp only [Nat.add_zero] at a2
  injection a2 with _ a3
  exact a3.symm
theorem firstCells_own {w : World} {p : Option Addr} {len cap n : Nat} {xs : List Value} (hl : xs.length = len * n) (h : ∀ (j : Nat) (v : Value), xs[j]? = some v → ∃ a, p = some a ∧ w.cell? (a.add j) = some v) (h0 : p = none → xs = []) :
    (Builtin.firstCells n len (.slice p len cap)).run P w = .ok xs.toArray w := by
  cases p with
  | none => rw [h0 rfl]; exact run_firstCells_none w n len len cap
  | some a => exact run_firstCells_some w n len a len cap xs hl (fun j v hv => by obtain ⟨a', e, h'⟩ := h j v hv; cases e; exact h')
theorem builtin_append' {ats : Array TypeId} {cs : Array Bool} {args : Array Value} : builtin .append ats ty cs args = (do pure (.value (← Builtin.append_ ats ty args))) := rfl
theorem zeroCells_len (zs : Array Value) (n : Nat) : (Builtin.zeroCells zs n).toList.length = n * zs.size := by simp [Builtin.zeroCells]
def SrcIs (P : Program) (Γ : Ctx) (L : List Chunk) (n : Nat) (tx : TypeId) (u : Value) (m : Nat) (news : List Value) : Prop := ∀ w, Holds Γ L w → Src P n tx u m news w
theorem cs_append {e n len cap m k : Nat} {p : Option Addr} {z : Value} {xs news : List Value} (D : TDesc P t (.slice e)) (S : TSize P e n) (Z : TZero P e z) (B : TBytes P e k) (hx : ev fr x = some (.slice p len cap)) (hy : ev fr y = some u)
    (s : Sel L (.own p len cap n xs e) R) (src : SrcIs P Γ L n tx u m news) (hzn : z.cells.size = n) (hb : (len + m) * k ≤ 140737488355328) (hb2 : len + m ≤ 140737488355328) :
    CStep P Γ fr L ⟨some d, .call ⟨.builtin .append, [x, y].toArray, [t, tx].toArray⟩, ty, pos, aft, gd⟩ (X := Option Addr × Nat) (fun q => .slice q.1 (len + m) q.2) (fun q => .own q.1 (len + m) q.2 n (xs ++ news) e :: R) (fun _ => True) :=
  cs_of (fun a w hf hh => by
    have hs := src w hh
    have hs2 := hh.sel s
    obtain ⟨hp, hd, hsub, h1, h2, dj, s1, s2, hc, hr⟩ := hs2.own
    cases hi : P.info? e with
    | none => have := S.size; simp [hi] at this
    | some i =>
      have hsz : i.size = n := by have := S.size; simpa [hi] using this
      have hz : i.zero = some z := by have := Z.zero; simpa [hi] using this
      have hk : i.bytes = k := by have := B.bytes; simpa [hi] using this
      subst hsz hk
      have hop : ∀ {w' : World} {q : Value}, (Builtin.append_ #[t, tx] ty #[.slice p len cap, u]).run P w = .ok q w' → (execOp a.eval ⟨some d, .call ⟨.builtin .append, [x, y].toArray, [t, tx].toArray⟩, ty, pos, aft, gd⟩).run P w = .ok (.value q) w' := by
        intro w' q hq
        simp [execOp, resolve, hf.ev hx, hf.ev hy, invoke, builtin_append', hq]
      obtain ⟨⟨hl, ho⟩, hcase⟩ := hc
      have hone : (xs ++ news).all (·.oneCell') = true := by
        rw [List.all_append, ho, Bool.true_and, List.all_eq_true]
        exact hs.one
      rcases hcase with ⟨e1, e2⟩ | ⟨b, junk, e1, e3, e4, e2⟩
      · subst e1 e2
        have hx0 : xs = [] := List.eq_nil_of_length_eq_zero (by rw [hl, Nat.zero_mul])
        subst hx0
        by_cases hm : m = 0
        · subst hm
          have hn0 : news = [] := List.eq_nil_of_length_eq_zero (by rw [hs.newsLen, Nat.zero_mul])
          subst hn0
          refine ⟨(p, 0), w, trivial, hop ?_, hs2⟩
          cases p with
          | none => rcases hs.kind with ⟨e', hk⟩ | hk <;> simp [Builtin.append_, run_underlying D.desc, run_underlying hk, sizeOf, typeInfo, hi, hs.len, hs.cells]
          | some ad => rcases hs.kind with ⟨e', hk⟩ | hk <;> simp [Builtin.append_, run_underlying D.desc, run_underlying hk, sizeOf, typeInfo, hi, hs.len, hs.cells, storeCells]
        · have hg := run_append_grow_src (P := P) w t tx ty e i z D.desc hi hz p 0 0 [] (by
            cases p with
            | none => exact run_firstCells_none w.drew i.size 0 0 0
            | some ad => exact run_firstCells_some w.drew i.size 0 ad 0 0 [] (by simp) (fun j v hv => by simp at hv)) u m news hs (by omega) (by omega) (Nat.le_trans (Nat.le_of_eq rfl) (growslice_fits (by omega) hb))
          refine ⟨(some ⟨w.heap.size, 0, none⟩, grownCap w (0 + m) 0 e), _, trivial, hop hg, ?_⟩
          have hge := grownCap_ge w (0 + m) 0 e
          have hnew := (show Holds Γ (.own p 0 0 i.size [] e :: R) w.drew from Holds.drew hs2 _).newRow (e := e) (xs := ([] ++ news).toArray ++ Builtin.zeroCells z.cells (grownCap w (0 + m) 0 e - (0 + m)))
          refine hnew.mono fun h ⟨k1, k2, dj', t1, t2, hc', hr'⟩ => ?_
          obtain ⟨m1, m2, dm, u1, u2, _, hr2⟩ := hr'
          refine ⟨k1, m2, HP.disj_sub (HP.disj.symm dj') u2 |>.symm, t1, u2.trans t2, ⟨⟨?_, hone⟩, .inr ⟨_, (Builtin.zeroCells z.cells (grownCap w (0 + m) 0 e - (0 + m))).toList, rfl, ?_, hge, ?_⟩⟩, hr2⟩
          · simp only [List.nil_append, Nat.zero_add]; exact hs.newsLen
          · rw [zeroCells_len, hzn]
          · have hc'' : k1 w.drew.heap.size = some (.cells (([] ++ news).toArray ++ Builtin.zeroCells z.cells (grownCap w (0 + m) 0 e - (0 + m))) e (0, 0)) := hc'
            rw [show w.drew.heap.size = w.heap.size from rfl] at hc''
            rw [hc'']
            congr 2
            apply Array.ext'
            simp
      · subst e1
        have hbw : w.heap[b]? = some (.cells (xs ++ junk).toArray e (0, 0)) := hsub _ _ (s1 _ _ e2)
        by_cases hroom : len + m ≤ cap
        · have hcap : (cap - len) * i.size = news.length + (cap - (len + m)) * i.size := by rw [hs.newsLen, ← Nat.add_mul]; congr 1; omega
          have hsc := setCells_row (o := xs.length) (vs := news) hbw (by simp only [List.length_append]; rw [e3, hcap]; omega) hs.one
          have hg := run_append_room_src (P := P) w t tx ty e i D.desc hi b 0 len cap u m news hs hroom (fun j hj => by
              have : xs.length + j < (xs ++ junk).length := by simp only [List.length_append]; rw [e3, hcap]; omega
              rw [Nat.zero_add, ← hl]
              simp only [World.cell?, hbw]
              simp only [List.getElem?_toArray]
              simp [List.getElem?_eq_getElem this]) (fun j hj => by simp [World.frozen?, hbw])
          rw [Nat.zero_add, ← hl, hsc] at hg
          refine ⟨(some ⟨b, 0, none⟩, cap), _, trivial, hop hg, ?_⟩
          have hrow : Holds Γ (.row b (xs ++ junk) e :: R) w := ⟨hh.os, hh.tape, hh.output, hh.frz, hh.frame, hp, hd, hsub, h1, h2, dj, s1, s2, e2, hr⟩
          have hset := hrow.setRow (ys := (xs ++ junk).take xs.length ++ news ++ (xs ++ junk).drop (xs.length + news.length)) .here
          refine hset.mono fun h ⟨k1, k2, dj', t1, t2, hc', hr'⟩ => ⟨k1, k2, dj', t1, t2, ⟨⟨?_, hone⟩, .inr ⟨b, junk.drop news.length, rfl, ?_, hroom, ?_⟩⟩, hr'⟩
          · rw [List.length_append, hl, hs.newsLen, Nat.add_mul]
          · rw [List.length_drop, e3, hcap, Nat.add_sub_cancel_left]
          · have hc'' : k1 b = some (.cells ((xs ++ junk).take xs.length ++ news ++ (xs ++ junk).drop (xs.length + news.length)).toArray e (0, 0)) := hc'
            rw [hc'', List.take_left, ← List.drop_drop, List.drop_left]
        · have hg := run_append_grow_src (P := P) w t tx ty e i z D.desc hi hz (some ⟨b, 0, none⟩) len cap xs (by
            exact run_firstCells_some w.drew i.size len ⟨b, 0, none⟩ len cap xs hl (fun j v hv => by
              have hj := (List.getElem?_eq_some_iff.1 hv).1
              have : w.drew.heap[b]? = some (.cells (xs ++ junk).toArray e (0, 0)) := hbw
              rw [Addr.add_lit, Nat.zero_add]
              simp only [World.cell?, this, List.getElem?_toArray]
              rw [List.getElem?_append_left hj, hv]
              rfl)) u m news hs (by omega) (by omega) (growslice_fits (by omega) hb)
          refine ⟨(some ⟨w.heap.size, 0, none⟩, grownCap w (len + m) cap e), _, trivial, hop hg, ?_⟩
          have hge := grownCap_ge w (len + m) cap e
          have hnew := (show Holds Γ R w.drew from Holds.drew (hs2.mono fun _ ⟨_, _, _, _, q2, _, qr⟩ => qr.mono q2) _).newRow (e := e) (xs := (xs ++ news).toArray ++ Builtin.zeroCells z.cells (grownCap w (len + m) cap e - (len + m)))
          refine hnew.mono fun h ⟨k1, k2, dj', t1, t2, hc', hr'⟩ => ⟨k1, k2, dj', t1, t2, ⟨⟨?_, hone⟩, .inr ⟨_, (Builtin.zeroCells z.cells (grownCap w (len + m) cap e - (len + m))).toList, rfl, ?_, hge, ?_⟩⟩, hr'⟩
          · rw [List.length_append, hl, hs.newsLen, Nat.add_mul]
          · rw [zeroCells_len, hzn]
          · have hc'' : k1 w.drew.heap.size = some (.cells ((xs ++ news).toArray ++ Builtin.zeroCells z.cells (grownCap w (len + m) cap e - (len + m))) e (0, 0)) := hc'
            rw [show w.drew.heap.size = w.heap.size from rfl] at hc''
            rw [hc'']
            congr 2
            apply Array.ext'
            simp)
end Go.Sl
