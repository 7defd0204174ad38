/- Contracts and laws that the proof stands on. -/
import Derived.Test.YtdldgbbhagpofaaGreatDoorSeglogCrash6
import Derived.Recover
import Derived.Stop.IfaceNil
import Derived.Laws.MakeOwn
import Derived.Deep.Upon
import Derived.Lib.SliceRun
import Derived.Laws.IdiomCopy
set_option linter.unusedSimpArgs false
set_option linter.unusedVariables false
namespace Go.Sl
variable {P : Program} {Γ : Ctx} {L R : List Chunk} {N : Nat} {fr : Fr} {Q : Exit → Act → World → Prop} {ops : Array Oper} {rest : List Oper}
def PostD (Γ : Ctx) (B : List Chunk) : Ending → World → Prop := fun e w => (∃ t v, e = .panicked [{ v := .iface t v, recovered := false }]) ∧ Holds Γ B w
def Dies (P : Program) (f : FuncId) (args : List Value) (A B : List Chunk) : Prop := ∀ Γ w, Holds Γ A w → Calls P f args.toArray w (PostD Γ B)
theorem postD_unz {Γ : Ctx} {B : List Chunk} {e : Ending} {w : World} (h : PostD Γ.z B e w) : PostD Γ B e w := ⟨h.1, h.2.unz⟩
theorem bodyPostD_unz {fn : Func} {Γ : Ctx} {B : List Chunk} {e : Exit} {a : Act} {w : World} (h : bodyPost P fn (PostD Γ.z B) e a w) : bodyPost P fn (PostD Γ B) e a w := by
  cases e with
  | normal => obtain ⟨h1, v, h2, h3⟩ := h; exact ⟨h1, v, h2, postD_unz h3⟩
  | ret => obtain ⟨h1, v, h2, h3⟩ := h; exact ⟨h1, v, h2, postD_unz h3⟩
  | panic c => exact ⟨h.1, postD_unz h.2⟩
  | outgrown => exact postD_unz h
  | exit i => exact h
  | goto l => exact h
theorem fn_introD {f : FuncId} {fn : Func} {c : Code} {args : List Value} {A B : List Chunk}
    (hf : P.funcs[f]? = some fn) (hb : fn.body = some c) (hN : fn.ntmps = N) (hle : Nat.ble args.length N = true) (hfr : argFr 0 args = fr)
    (g : ∀ Γ : Ctx, G Γ.z N fr A (c.wp P (bodyPost P fn (PostD Γ.z B)))) : Dies P f args A B := by
  intro Γ w hh
  refine calls_of_wp hf hb ?_
  have hle' := Nat.le_of_ble_eq_true hle
  refine wp_mono (g Γ { tmps := args.toArray ++ Array.replicate (fn.ntmps - args.toArray.size) undef, defers := [] } w (by simp [hN]; omega) rfl ?_ hh.z) (fun e a w h => bodyPostD_unz h)
  intro t v h
  rw [← hfr] at h
  obtain ⟨_, h2⟩ := argFr_ok args 0 t v h
  simp only [Nat.sub_zero] at h2
  have hlt : t < args.length := (List.getElem?_eq_some_iff.1 h2).1
  have h3 : args[t] = v := by rw [List.getElem?_eq_getElem hlt] at h2; simpa using h2
  simp [Array.getD_eq_getD_getElem?, Array.getElem?_append, hlt, h3]
theorem g_dead {t : TypeId} {v : Value} {fn : Func} {B : List Chunk} (tk : Take L B R) (hdf : Γ.df = [] := by rfl) : G Γ N fr L (bodyPost P fn (PostD Γ B) (.panic [{ v := .iface t v, recovered := false }])) :=
  fun _ _ _ hd _ hh => ⟨hd.trans hdf, ⟨t, v, rfl⟩, hh.takeDrop tk⟩
theorem g_then_panic {K : Act → World → Prop} {ch : List PanicEntry} (g : G Γ N fr L (Q (.panic ch))) : G Γ N fr L (Exit.then K Q (.panic ch)) := g
theorem g_in_panic {i : Nat} {ch : List PanicEntry} (g : G Γ N fr L (Q (.panic ch))) : G Γ N fr L (Exit.inBlock i Q (.panic ch)) := g
theorem g_halt {o : Oper} {M : List Chunk} {V : Value → Prop} (hg : Runs ops fr o.guard) (h : ∀ a w, fr.ok a → Holds Γ L w → ∃ v w', V v ∧ (execOp a.eval o).run P w = .halt (.panic v) w' ∧ Holds Γ M w')
    (K : ∀ v, V v → G Γ N fr M (Q (.panic [{ v, recovered := false }]))) : G Γ N fr L (wpList P ops Q (o :: rest)) := by
  intro a w hs hdf hf hh
  unfold wpList
  rw [if_pos (runs_wanted hf hg)]
  obtain ⟨v, w', hV, hr, hh'⟩ := h a w hf hh
  refine .inl ?_
  unfold Oper.wp
  rw [hr]
  exact K v hV a w' hs hdf hf hh'
section
variable {d : Nat} {dst : Option Tmp} {ty : TypeId} {pos : String} {aft : Array Edge} {gd : Option (Nat × Bool)} {x y z : Operand} {v u z' : Value} {t xt at_ : TypeId}
theorem g_callD {f : FuncId} {xs : List Operand} {vs : List Value} {tys : Array TypeId} {A B : List Chunk} [C : Callable P f]
    (fn : Dies P f vs A B) (hg : Runs ops fr gd) (he : Evs fr xs vs) (tk : Take L A R) (K : ∀ t v, G Γ N fr (B ++ R) (Q (.panic [{ v := .iface t v, recovered := false }]))) :
    G Γ N fr L (wpList P ops Q (⟨dst, .call ⟨.value (.func f), xs.toArray, tys⟩, ty, pos, aft, gd⟩ :: rest)) := by
  intro a w hs hdf hf hh
  unfold wpList
  rw [if_pos (runs_wanted (o := ⟨dst, .call ⟨.value (.func f), xs.toArray, tys⟩, ty, pos, aft, gd⟩) hf hg)]
  refine .inl ?_
  unfold Oper.wp
  rw [run_call he hf _ rfl]
  obtain ⟨m, dm, hr, hA⟩ := (hh.take tk).split
  refine (fn _ w hA).mono ?_
  rintro e w' ⟨⟨t, v, rfl⟩, hB⟩
  exact K t v a w' hs hdf hf (hB.join dm hr)
def ifaceD : TypeDesc → Bool
  | .interface _ => true
  | _ => false
theorem qs_makeI {td : TypeDesc} (D : TDesc P t td) (hi : ifaceD td = false) (hx : ev fr x = some v) : QStep P Γ fr ⟨some d, .makeInterface t x, ty, pos, aft, gd⟩ (.iface t v) :=
  qs_of (fun a w hf => by cases td <;> simp [ifaceD] at hi <;> simp [execOp, hf.ev hx, Instr.makeInterface, run_underlying D.desc])
theorem qs_eqlHeld {tr : TypeId} (h : P.isIface t = true) (hx : ev fr x = some (.iface xt v)) : QStep P Γ fr ⟨some d, .binOp .eql t x (.const .nilIface) tr, ty, pos, aft, gd⟩ (.bool false) :=
  qs_of (fun a w hf => by simp [execOp, hf.ev hx, show a.eval (.const .nilIface) = .nilIface from rfl, eqGuard, run_eql_iface_nil _ t h])
theorem qs_neqHeld {tr : TypeId} (h : P.isIface t = true) (hx : ev fr x = some (.iface xt v)) : QStep P Γ fr ⟨some d, .binOp .neq t x (.const .nilIface) tr, ty, pos, aft, gd⟩ (.bool true) :=
  qs_of (fun a w hf => by simp [execOp, hf.ev hx, show a.eval (.const .nilIface) = .nilIface from rfl, eqGuard, run_neq_iface_nil _ t h])
theorem qs_eqlNil {tr : TypeId} (h : P.isIface t = true) (hx : ev fr x = some .nilIface) : QStep P Γ fr ⟨some d, .binOp .eql t x (.const .nilIface) tr, ty, pos, aft, gd⟩ (.bool true) :=
  qs_of (fun a w hf => by simp [execOp, hf.ev hx, show a.eval (.const .nilIface) = .nilIface from rfl, eqGuard, run_eql_nil_nil_at _ t h])
theorem qs_neqNil {tr : TypeId} (h : P.isIface t = true) (hx : ev fr x = some .nilIface) : QStep P Γ fr ⟨some d, .binOp .neq t x (.const .nilIface) tr, ty, pos, aft, gd⟩ (.bool false) :=
  qs_of (fun a w hf => by simp [execOp, hf.ev hx, show a.eval (.const .nilIface) = .nilIface from rfl, eqGuard, run_neq_nil_nil_at _ t h])
theorem qs_assertYes {td : TypeDesc} (D : TDesc P at_ td) (hi : ifaceD td = false) (hx : ev fr x = some (.iface at_ v)) : QStep P Γ fr ⟨some d, .typeAssert x xt at_ true, ty, pos, aft, gd⟩ (.tuple #[v, .bool true]) :=
  qs_of (fun a w hf => by
    cases td <;> simp [ifaceD] at hi <;> simp [execOp, hf.ev hx, Instr.typeAssert, run_underlying D.desc])
theorem qs_assertNo {td : TypeDesc} (D : TDesc P at_ td) (hi : ifaceD td = false) (Zr : TZero P at_ z') (hx : ev fr x = some (.iface t v)) (ne : Nat.beq t at_ = false) : QStep P Γ fr ⟨some d, .typeAssert x xt at_ true, ty, pos, aft, gd⟩ (.tuple #[z', .bool false]) :=
  qs_of (fun a w hf => by
    have hne : ¬ t = at_ := fun e => by subst e; simp at ne
    cases td <;> simp [ifaceD] at hi <;> simp [execOp, hf.ev hx, Instr.typeAssert, run_underlying D.desc, hne, run_zeroValue' Zr.zero])
theorem qs_assertNil {td : TypeDesc} (D : TDesc P at_ td) (hi : ifaceD td = false) (Zr : TZero P at_ z') (hx : ev fr x = some .nilIface) : QStep P Γ fr ⟨some d, .typeAssert x xt at_ true, ty, pos, aft, gd⟩ (.tuple #[z', .bool false]) :=
  qs_of (fun a w hf => by
    cases td <;> simp [ifaceD] at hi <;> simp [execOp, hf.ev hx, Instr.typeAssert, run_underlying D.desc, run_zeroValue' Zr.zero])
theorem qs_assert1 {td : TypeDesc} (D : TDesc P at_ td) (hi : ifaceD td = false) (hx : ev fr x = some (.iface at_ v)) : QStep P Γ fr ⟨some d, .typeAssert x xt at_ false, ty, pos, aft, gd⟩ v :=
  qs_of (fun a w hf => by
    cases td <;> simp [ifaceD] at hi <;> simp [execOp, hf.ev hx, Instr.typeAssert, run_underlying D.desc])
def bltB (a b : ByteArray) : Bool := Op.bytesLess a.toList b.toList
theorem bytesLess_irr : ∀ (x : List UInt8), Op.bytesLess x x = false
  | [] => rfl
  | a :: x => by simp [Op.bytesLess, bytesLess_irr x]
theorem bytesLess_asym : ∀ (x y : List UInt8), Op.bytesLess x y = true → Op.bytesLess y x = false
  | [], [], _ => rfl
  | [], _ :: _, _ => by simp [Op.bytesLess]
  | _ :: _, [], h => by simp [Op.bytesLess] at h
  | a :: x, b :: y, h => by
    simp only [Op.bytesLess, Bool.or_eq_true, decide_eq_true_eq, Bool.and_eq_true, beq_iff_eq] at h
    simp only [Op.bytesLess, Bool.or_eq_false_iff, decide_eq_false_iff_not, Bool.and_eq_false_iff, beq_eq_false_iff_ne]
    rcases h with h | ⟨rfl, h⟩
    · have h' : a.toNat < b.toNat := h
      refine ⟨fun hc => ?_, .inl fun e => ?_⟩
      · have : b.toNat < a.toNat := hc
        omega
      · subst e; omega
    · exact ⟨fun hc => by have : a.toNat < a.toNat := hc; omega, .inr (bytesLess_asym x y h)⟩
theorem bytesLess_or : ∀ (x y : List UInt8), Op.bytesLess x y = true ∨ Op.bytesLess y x = true ∨ x = y
  | [], [] => .inr (.inr rfl)
  | [], _ :: _ => .inl rfl
  | _ :: _, [] => .inr (.inl rfl)
  | a :: x, b :: y => by
    simp only [Op.bytesLess, Bool.or_eq_true, decide_eq_true_eq, Bool.and_eq_true, beq_iff_eq, List.cons.injEq]
    rcases Nat.lt_trichotomy a.toNat b.toNat with h | h | h
    · exact .inl (.inl h)
    · have e : a = b := UInt8.toNat_inj.1 h
      subst e
      rcases bytesLess_or x y with h1 | h1 | h1
      · exact .inl (.inr ⟨rfl, h1⟩)
      · exact .inr (.inl (.inr ⟨rfl, h1⟩))
      · exact .inr (.inr ⟨rfl, h1⟩)
    · exact .inr (.inl (.inl h))
theorem qs_lssT {tr : TypeId} {a b : ByteArray} (hx : ev fr x = some (.string a)) (hy : ev fr y = some (.string b)) : QStep P Γ fr ⟨some d, .binOp .lss t x y tr, ty, pos, aft, gd⟩ (.bool (bltB a b)) :=
  qs_of (fun c w hf => by simp [execOp, hf.ev hx, hf.ev hy, eqGuard_at_string, binOp_string_lss, bltB])
theorem qs_geqT {tr : TypeId} {a b : ByteArray} (hx : ev fr x = some (.string a)) (hy : ev fr y = some (.string b)) : QStep P Γ fr ⟨some d, .binOp .geq t x y tr, ty, pos, aft, gd⟩ (.bool (!bltB a b)) :=
  qs_of (fun c w hf => by simp [execOp, hf.ev hx, hf.ev hy, eqGuard_at_string, binOp, Op.stringOp, bltB])
theorem qs_leqT {tr : TypeId} {a b : ByteArray} (hx : ev fr x = some (.string a)) (hy : ev fr y = some (.string b)) : QStep P Γ fr ⟨some d, .binOp .leq t x y tr, ty, pos, aft, gd⟩ (.bool (!bltB b a)) :=
  qs_of (fun c w hf => by
    have e : (Op.bytesLess a.toList b.toList || a.toList == b.toList) = !bltB b a := by
      unfold bltB
      rcases bytesLess_or a.toList b.toList with h | h | h
      · rw [h, bytesLess_asym _ _ h]; rfl
      · rw [h, bytesLess_asym _ _ h]
        have : a.toList ≠ b.toList := fun e => by rw [e, bytesLess_irr] at h; cases h
        simp [this]
      · rw [h, bytesLess_irr]; simp
    simp only [execOp, hf.ev hx, hf.ev hy, eqGuard_at_string, binOp, Op.stringOp]
    simp [e])
theorem s_iq {op : Op} (K : G Γ N ((d, v) :: fr) L (wpList P ops Q rest)) (hg : Runs ops fr gd := by exact rfl) (hN : Nat.blt d N = true := by exact rfl) (q : QStep P Γ fr ⟨some d, op, ty, pos, aft, gd⟩ v := by first | (apply qs_makeI; exact inferInstance; exact rfl; exact rfl) | (apply qs_assertYes; exact inferInstance; exact rfl; exact rfl) | (apply qs_assert1; exact inferInstance; exact rfl; exact rfl) | (apply qs_assertNo; exact inferInstance; exact rfl; exact inferInstance; exact rfl; (first | exact rfl | assumption)) | (apply qs_assertNil; exact inferInstance; exact rfl; exact inferInstance; exact rfl) | (apply qs_eqlHeld; kernel_rfl; exact rfl) | (apply qs_neqHeld; kernel_rfl; exact rfl) | (apply qs_eqlNil; kernel_rfl; exact rfl) | (apply qs_neqNil; kernel_rfl; exact rfl) | (apply qs_lssT; exact rfl; exact rfl) | (apply qs_geqT; exact rfl; exact rfl) | (apply qs_leqT; exact rfl; exact rfl) | fail) : G Γ N fr L (wpList P ops Q (⟨some d, op, ty, pos, aft, gd⟩ :: rest)) := g_q q hg hN K
theorem p_iq {op : Op} {i : Nat} {pl : Plan} (K : GP P ops Q Γ N ((d, v) :: fr) L pl) (hi : ops[i]? = some ⟨some d, op, ty, pos, aft, gd⟩ := by exact rfl) (hg : Runs ops fr gd := by exact rfl) (hN : Nat.blt d N = true := by exact rfl) (q : ∀ Δ, QStep P Δ fr ⟨some d, op, ty, pos, aft, gd⟩ v := by intro Δ; exact (by first | (apply qs_makeI; exact inferInstance; exact rfl; exact rfl) | (apply qs_assertYes; exact inferInstance; exact rfl; exact rfl) | (apply qs_assert1; exact inferInstance; exact rfl; exact rfl) | (apply qs_assertNo; exact inferInstance; exact rfl; exact inferInstance; exact rfl; (first | exact rfl | assumption)) | (apply qs_assertNil; exact inferInstance; exact rfl; exact inferInstance; exact rfl) | (apply qs_eqlHeld; kernel_rfl; exact rfl) | (apply qs_neqHeld; kernel_rfl; exact rfl) | (apply qs_eqlNil; kernel_rfl; exact rfl) | (apply qs_neqNil; kernel_rfl; exact rfl) | (apply qs_lssT; exact rfl; exact rfl) | (apply qs_geqT; exact rfl; exact rfl) | (apply qs_leqT; exact rfl; exact rfl) | fail)) : GP P ops Q Γ N fr L (.take i pl) := gp_q q hi hg hN K
theorem Holds.tail {c : Chunk} {w : World} (hh : Holds Γ (c :: L) w) : Holds Γ L w := hh.mono fun _ ⟨_, _, _, _, s2, _, r⟩ => r.mono s2
theorem g_assertD {td : TypeDesc} {T : TypeId} (D : TDesc P at_ td) (hi : ifaceD td = false) (Rt : P.underlying P.rt.typeAssertionError = some (.pointer T)) (hx : ev fr x = some (.iface t v)) (ne : Nat.beq t at_ = false) (hg : Runs ops fr gd)
    (K : ∀ t v, G Γ N fr L (Q (.panic [{ v := .iface t v, recovered := false }]))) : G Γ N fr L (wpList P ops Q (⟨dst, .typeAssert x xt at_ false, ty, pos, aft, gd⟩ :: rest)) := by
  have hne : ¬ t = at_ := fun e => by subst e; simp at ne
  refine g_halt (V := fun v => ∃ t u, v = .iface t u) hg (fun a w hf hh => ?_) (fun v ⟨t, u, e⟩ => by subst e; exact K t u)
  refine ⟨_, w.alloc (.cells #[typeHandle P xt, typeHandle P t, typeHandle P at_, strVal ""] T), ⟨P.rt.typeAssertionError, .pointer (some ⟨w.heap.size, 0, none⟩), rfl⟩, ?_, hh.newRow.tail⟩
  cases td <;> simp [ifaceD] at hi <;> simp [execOp, hf.ev hx, Instr.typeAssert, run_underlying D.desc, hne, runtimePanic, elemOf, run_underlying Rt, newVar, newRow, Value.cells]
def GD (ds : List Deferred) (Γ : Ctx) (N : Nat) (fr : Fr) (L : List Chunk) (φ : Act → World → Prop) : Prop :=
  ∀ a w, a.tmps.size = N → a.defers = ds → fr.ok a → Holds Γ L w → φ a w
variable {ds : List Deferred}
theorem gd_region {id : Nat} {l : List Oper} (g : GD ds Γ N fr L (wpList P l.toArray Q l)) : GD ds Γ N fr L ((Code.region id l.toArray false).wp P Q) := fun a w h1 h2 h3 h4 => wp_region_lit (g a w h1 h2 h3 h4)
theorem gd_seq {x y : Code} (g : GD ds Γ N fr L (x.wp P (Exit.then (y.wp P Q) Q))) : GD ds Γ N fr L ((Code.seq x y).wp P Q) := fun a w h1 h2 h3 h4 => wp_seq (g a w h1 h2 h3 h4)
theorem gd_nil (g : GD ds Γ N fr L (Q .normal)) : GD ds Γ N fr L (wpList P ops Q []) := g
theorem gd_then_normal {K : Act → World → Prop} (g : GD ds Γ N fr L K) : GD ds Γ N fr L (Exit.then K Q .normal) := g
theorem gd_then_panic {K : Act → World → Prop} {ch : List PanicEntry} (g : GD ds Γ N fr L (Q (.panic ch))) : GD ds Γ N fr L (Exit.then K Q (.panic ch)) := g
theorem gd_c {op : Op} {X : Type} {V : X → Value} {M : X → List Chunk} {φ : X → Prop} (q : CStep P Γ fr L ⟨some d, op, ty, pos, aft, gd⟩ V M φ) (hg : Runs ops fr gd) (hN : Nat.blt d N = true)
    (k : ∀ x, φ x → GD ds Γ N ((d, V x) :: fr) (M x) (wpList P ops Q rest)) : GD ds Γ N fr L (wpList P ops Q (⟨some d, op, ty, pos, aft, gd⟩ :: rest)) := by
  intro a w hs hdf hf hh
  unfold wpList
  rw [if_pos (runs_wanted (o := ⟨some d, op, ty, pos, aft, gd⟩) hf hg)]
  refine .inl (opRes.wp ((q a hf w hh).mono fun u w' ⟨x, hx, hu, hh'⟩ => ?_))
  subst hu
  exact k x hx _ _ (by simp [Act.put, hs]) hdf (hf.put (by rw [hs]; exact blt_lt hN) _) hh'
theorem gd_defer {f : FuncId} {xs : List Operand} {vs caps : List Value} {tys : Array TypeId} (hg : Runs ops fr gd) (hy : ev fr y = some (.func (.func f) #[] caps.toArray)) (he : Evs fr xs vs)
    (k : GD (⟨.fn (.func f) caps.toArray, vs.toArray⟩ :: ds) Γ N fr L (wpList P ops Q rest)) : GD ds Γ N fr L (wpList P ops Q (⟨none, .defer ⟨.value y, xs.toArray, tys⟩, ty, pos, aft, gd⟩ :: rest)) := by
  intro a w hs hdf hf hh
  unfold wpList
  rw [if_pos (runs_wanted (o := ⟨none, .defer ⟨.value y, xs.toArray, tys⟩, ty, pos, aft, gd⟩) hf hg)]
  refine .inl ?_
  unfold Oper.wp
  have e : (execOp a.eval ⟨none, .defer ⟨.value y, xs.toArray, tys⟩, ty, pos, aft, gd⟩).run P w = .ok (.defer ⟨.fn (.func f) caps.toArray, vs.toArray⟩) w := by
    simp [execOp, resolve, Deferred.ofValue, hf.ev hy, he.map hf]
  rw [e]
  exact k _ _ hs (by simp [Act.put, hdf]) (fun t v h => hf t v h) hh
theorem gd_callVD {f : FuncId} {xs : List Operand} {vs caps args : List Value} {tys : Array TypeId} {A B : List Chunk} [C : Callable P f]
    (fn : Dies P f args A B) (hg : Runs ops fr gd) (hy : ev fr y = some (.func (.func f) #[] caps.toArray)) (he : Evs fr xs vs) (ha : vs ++ caps = args) (tk : Take L A R) (K : ∀ t v, GD ds Γ N fr (B ++ R) (Q (.panic [{ v := .iface t v, recovered := false }]))) :
    GD ds Γ N fr L (wpList P ops Q (⟨dst, .call ⟨.value y, xs.toArray, tys⟩, ty, pos, aft, gd⟩ :: rest)) := by
  subst ha
  intro a w hs hdf hf hh
  unfold wpList
  rw [if_pos (runs_wanted (o := ⟨dst, .call ⟨.value y, xs.toArray, tys⟩, ty, pos, aft, gd⟩) hf hg)]
  refine .inl ?_
  unfold Oper.wp
  rw [run_callV hy he hf _ rfl]
  obtain ⟨m, dm, hr, hA⟩ := (hh.take tk).split
  refine (fn _ w hA).mono ?_
  rintro e w' ⟨⟨t, v, rfl⟩, hB⟩
  exact K t v a w' hs hdf hf (hB.join dm hr)
theorem gd_leave {f : FuncId} {fn : Func} {caps args : List Value} {t : TypeId} {v : Value} {M : List Chunk} {S : Ending → World → Prop} [C : Callable P f] (hres : fn.results = #[])
    (cl : ∀ w, Holds Γ L w → CallsD P f (args ++ caps).toArray (.panicking [{ v := .iface t v, recovered := false }]) w fun e u' w' => e = .returned (.tuple #[]) ∧ u' = .panicking [{ v := .iface t v, recovered := true }] ∧ Holds Γ M w')
    (hS : ∀ w, Holds Γ M w → S (.returned (.tuple #[])) w) : GD [⟨.fn (.func f) caps.toArray, args.toArray⟩] Γ N fr L (bodyPostD P fn S (.panic [{ v := .iface t v, recovered := false }])) := by
  intro a w hs hdf hf hh
  show Leaves P fn a.tmps S a.defers _ w
  rw [hdf]
  have e : (invoke (.fn (.func f) caps.toArray) args.toArray).run P w = .ok (.enter f (args ++ caps).toArray) w := by
    have := C.call (args ++ caps).toArray w
    have e2 : (args.toArray ++ caps.toArray) = (args ++ caps).toArray := by simp
    simp [invoke, e2, this]
  refine leaves_cons (by simp) e ((cl w hh).mono ?_)
  rintro e u' w' ⟨rfl, rfl, hM⟩
  exact ⟨.tuple #[], by simp [results, hres], hS w' hM⟩
theorem fn_introDf {X : Type} {f : FuncId} {fn : Func} {c : Code} {args : List Value} {A : List Chunk} {ret : X → Value} {B : X → List Chunk} {φ : X → Prop}
    (hf : P.funcs[f]? = some fn) (hb : fn.body = some c) (hN : fn.ntmps = N) (hle : Nat.ble args.length N = true) (hfr : argFr 0 args = fr)
    (g : ∀ Γ, GD [] Γ N fr A (c.wp P (bodyPostD P fn (Post Γ ret B φ)))) : Does P f args A ret B φ := by
  intro Γ w hh
  refine calls_of_wp_defers hf hb ?_
  have hle' := Nat.le_of_ble_eq_true hle
  refine g Γ _ w (by simp [hN]; omega) rfl ?_ hh
  intro t v h
  rw [← hfr] at h
  obtain ⟨_, h2⟩ := argFr_ok args 0 t v h
  simp only [Nat.sub_zero] at h2
  have hlt : t < args.length := (List.getElem?_eq_some_iff.1 h2).1
  have h3 : args[t] = v := by rw [List.getElem?_eq_getElem hlt] at h2; simpa using h2
  simp [Array.getD_eq_getD_getElem?, Array.getElem?_append, hlt, h3]
theorem wpOpsS_step {QS : Exit → Act → List Frame → World → Prop} {i : Nat} {l : List Nat} {a : Act} {cs : List Frame} {w : World} {o : Oper} (ho : ops[i]? = some o) (hw : Region.wanted o (yielded ops a.tmps) = true)
    (h : opRes P o a w fun u w' => wpOpsS P ops QS l (a.put o.dst u) cs w') : wpOpsS P ops QS (i :: l) a cs w := by
  have h2 := opRes.wp (Q := fun e a' w' => QS e a' cs w') (K := fun a' w' => wpOpsS P ops QS l a' cs w') h
  unfold wpOpsS
  simp only [ho, hw, if_true]
  unfold opRes at h
  unfold Oper.wp at h2
  generalize (execOp a.eval o).run P w = r at h h2
  split
  · simp [resIn] at h
  · exact h2
theorem wpOpsS_recover {QS : Exit → Act → List Frame → World → Prop} {i : Nat} {l : List Nat} {a : Act} {c₀ : Frame} {cs : List Frame} {w : World} {tys : Array TypeId} {older : List PanicEntry} (ho : ops[i]? = some ⟨dst, .call ⟨.builtin .recover, #[], tys⟩, ty, pos, aft, none⟩)
    (hm : c₀.mode = .panicking ({ v := v, recovered := false } :: older)) (h : wpOpsS P ops QS l (a.put dst v) ({ c₀ with mode := .panicking ({ v := v, recovered := true } :: older) } :: cs) w) : wpOpsS P ops QS (i :: l) a (c₀ :: cs) w := by
  unfold wpOpsS
  have hr : (execOp a.eval ⟨dst, .call ⟨.builtin .recover, #[], tys⟩, ty, pos, aft, none⟩).run P w = .ok .recover w := by simp [execOp, resolve, invoke, builtin]
  simp only [ho, hr, recoverD, hm]
  simp only [Region.wanted, if_true]
  exact h
end
theorem gS {φ ψ : Prop} (k : ψ) (h : ψ → φ := by first | exact g_seq | exact g_region | exact g_nil | exact g_then_normal | exact g_block | exact g_in_normal | exact g_retc | exact g_then_ret | exact g_in_ret | exact g_exit | exact g_then_exit | exact g_in_exit | exact g_in_other rfl | exact g_skip | exact g_label | exact g_cond_true rfl | exact g_cond_false rfl) : φ := h k
theorem sO {φ ψ : Prop} (k : ψ) (h : ψ → φ := by first | exact fun k => s_q k | exact fun k => s_v k | exact fun k => s_s k | exact fun k => s_x k | exact fun k => s_y k | exact fun k => s_iq k | exact fun k => s_mq k | exact fun k => s_mv k | exact fun k => s_ms k) : φ := h k
theorem pT {φ ψ : Prop} (k : ψ) (h : ψ → φ := by first | exact fun k => p_q k | exact fun k => p_x k | exact fun k => p_iq k | exact fun k => p_mq k) : φ := h k
theorem pS {φ ψ : Prop} (k : ψ) (h : ψ → φ := by first | exact fun k => p_sx k | exact fun k => p_sq k) : φ := h k
theorem pO {φ ψ : Prop} (k : ψ) (h : ψ → φ := by first | exact fun k => p_v k | exact fun k => p_s k | exact fun k => p_y k | exact fun k => p_mv k | exact fun k => p_ms k) : φ := h k
section
variable {P : Program} {Γ : Ctx} {L R : List Chunk} {N : Nat} {fr : Fr} {rs : List ResultVar} {vs : List Value} {fn : Func}
theorem gA {X : Type} {F : X → Fr} {M : X → List Chunk} {φ : X → Prop} {μ : X → Nat} {x : X} (x' : X) (lt : μ x' < μ x) (hx : φ x') (s : FrSub fr (F x') := by (repeat (first | exact FrSub.nil | refine FrSub.cons rfl ?_)); first | done | fail) (t : Take L (M x') R := by (repeat (first | exact Take.nil | apply Take.cons | exact Sel.here | apply Sel.there)); first | done | fail) : G Γ N fr L (Back Γ N F M φ μ x) := g_again x' lt hx s t
theorem gM {X : Type} {F : X → Fr} {M : X → List Chunk} {φ : X → Prop} (x : X) (hx : φ x) (s : FrSub fr (F x) := by (repeat (first | exact FrSub.nil | refine FrSub.cons rfl ?_)); first | done | fail) (t : Take L (M x) R := by (repeat (first | exact Take.nil | apply Take.cons | exact Sel.here | apply Sel.there)); first | done | fail) : G Γ N fr L (MidX Γ N F M φ .normal) := g_midX x hx s t
theorem gR {X : Type} {ret : X → Value} {B : X → List Chunk} {φ : X → Prop} (x : X) (hx : φ x) (hr : fn.results = rs.toArray := by exact rfl) (h : RVs P fr L rs vs := by (repeat (first | exact RVs.nil | apply RVs.tmp rfl | apply RVs.cellA rfl (by (repeat (first | exact Sel.here | apply Sel.there)); first | done | fail) (by (repeat (first | exact Cut.zero | apply Cut.take | apply Cut.skip)); first | done | fail) | apply RVs.cell1 rfl (by (repeat (first | exact Sel.here | apply Sel.there)); first | done | fail) rfl)); first | done | fail) (tk : Take L (B x) R := by (repeat (first | exact Take.nil | apply Take.cons | exact Sel.here | apply Sel.there)); first | done | fail) (hp : pack vs = ret x := by exact rfl) (hdf : Γ.df = [] := by exact rfl) : G Γ N fr L (bodyPost P fn (Post Γ ret B φ) .ret) := g_ret x hr h tk hp hx hdf
end
end Go.Sl

namespace Go.Sl
variable {P : Program} {Γ : Ctx} {L R : List Chunk} {N : Nat} {fr : Fr} {Q : Exit → Act → World → Prop} {ops : Array Oper} {rest : List Oper}
variable {d : Nat} {ty : TypeId} {pos : String} {aft : Array Edge} {gd : Option (Nat × Bool)} {x y z : Operand} {v u : Value} {t t2 tx : TypeId}
theorem qs_max {a b : Int} {ats : Array TypeId} (hx : ev fr x = some (.int .i64 a)) (hy : ev fr y = some (.int .i64 b)) : QStep P Γ fr ⟨some d, .call ⟨.builtin .max, [x, y].toArray, ats⟩, ty, pos, aft, gd⟩ (.int .i64 (if a < b then b else a)) :=
  qs_of (fun c w hf => by simp [execOp, resolve, hf.ev hx, hf.ev hy, invoke, builtin, Builtin.max_, Builtin.max2])
theorem made8 (m : Nat) : (madeCells #[Value.int .u8 0] m).toList = cells8 (List.replicate m 0) := by
  simp only [madeCells, cells8, List.map_replicate]
  apply List.ext_getElem
  · simp
  · intro i h1 h2
    simp [Nat.mod_one]
theorem cs_make8 {e m k : Nat} (D : TDesc P t (.slice e)) (S : TSize P e 1) (Z : TZero P e (.int .u8 0)) (B : TBytes P e k) (hx : ev fr x = some (.int .i64 (m : Int))) (hy : ev fr y = some (.int .i64 (m : Int))) (h63 : m ≤ 1000000000) (hb : k ≤ 1000) :
    CStep P Γ fr L ⟨some d, .makeSlice t x y, ty, pos, aft, gd⟩ (X := Nat) (fun b => .slice (some ⟨b, 0, none⟩) m m) (fun b => .own (some ⟨b, 0, none⟩) m m 1 (cells8 (List.replicate m 0)) e :: L) (fun _ => True) :=
  cs_of (fun a w hf hh => by
    cases hi : P.info? e with
    | none => have := S.size; simp [hi] at this
    | some i =>
      have hsz : i.size = 1 := by have := S.size; simpa [hi] using this
      have hz : i.zero = some (.int .u8 0) := by have := Z.zero; simpa [hi] using this
      have hk : i.bytes = k := by have := B.bytes; simpa [hi] using this
      have hmul : k * m ≤ 1000 * 1000000000 := Nat.mul_le_mul hb h63
      have hr := run_make w t e i _ D.desc hi hz .i64 .i64 (m : Int) (m : Int) (by omega) (Int.le_refl _) (by rw [hk]; rw [← Int.natCast_mul]; omega) (by omega)
      rw [hsz, Int.toNat_natCast, Nat.mul_one] at hr
      refine ⟨w.heap.size, w.alloc (.cells (madeCells (Value.int .u8 0).cells m) e), trivial, by simp only [execOp, hf.ev hx, hf.ev hy]; rw [Sem.run_bind, hr]; rfl, ?_⟩
      refine Holds.toOwn ?_ (by simp [cells8]) (by simp [cells8, Value.oneCell'])
      have hnew := hh.newRow (e := e) (xs := madeCells (Value.int .u8 0).cells m)
      have e1 : madeCells (Value.int .u8 0).cells m = (cells8 (List.replicate m 0)).toArray := by
        apply Array.ext'
        exact made8 m
      rw [e1] at hnew ⊢
      exact hnew)
end Go.Sl

namespace Go.Sl
variable {P : Program} {Γ : Ctx} {L R : List Chunk} {N : Nat} {fr : Fr} {Q : Exit → Act → World → Prop} {ops : Array Oper} {rest : List Oper}
variable {d : Nat} {ty : TypeId} {pos : String} {aft : Array Edge} {gd : Option (Nat × Bool)} {x y z : Operand} {v u : Value} {t t2 tx : TypeId}
theorem vs_appendNone {e n len cap c' : Nat} {p p' : Option Addr} (D : TDesc P t (.slice e)) (D2 : TDesc P tx (.slice e)) (S : TSize P e n) (hx : ev fr x = some (.slice p len cap)) (hy : ev fr y = some (.slice p' 0 c')) (hle : len ≤ cap) :
    VStep P Γ fr L ⟨some d, .call ⟨.builtin .append, [x, y].toArray, [t, tx].toArray⟩, ty, pos, aft, gd⟩ (.slice p len cap) := vs_of (fun a w hf hh => by
  cases hi : P.info? e with
  | none => have := S.size; simp [hi] at this
  | some i =>
    have hs := run_append_nothing w t tx ty e i D.desc hi p len cap hle (.slice p' 0 c') (srcNil D2 w hh)
    simp [execOp, resolve, hf.ev hx, hf.ev hy, invoke, builtin_append', hs])
theorem qs_slice3 {e : TypeId} {p : Option Addr} {len cap n l h m : Nat} {x1 x2 x3 : Operand} {i1 i2 i3 : Int} (D : TDesc P t (.slice e)) (S : TSize P e n) (hx : ev fr x = some (.slice p len cap)) (g1 : ev fr x1 = some (.int .i64 i1)) (g2 : ev fr x2 = some (.int .i64 i2)) (g3 : ev fr x3 = some (.int .i64 i3))
    (e1 : i1 = l) (e2 : i2 = h) (e3 : i3 = m) (h1 : l ≤ h) (h2 : h ≤ m) (h3 : m ≤ cap) :
    QStep P Γ fr ⟨some d, .slice t x (some x1) (some x2) (some x3), ty, pos, aft, gd⟩ (.slice (if m = l then p else p.map (·.add (l * n))) (h - l) (m - l)) := qs_of (fun a w hf => by
  subst e1 e2 e3
  have hsz := run_sizeOf' (P := P) (t := e) S.size w
  have e3 : (Instr.sliceBounds true len cap (some (.int .i64 l)) (some (.int .i64 h)) (some (.int .i64 m))).run P w = .ok (l, h, m) w := by simp [Instr.sliceBounds, run_sliceBound, h1, h2, h3]
  simp only [execOp, hf.ev hx, Option.map_some, hf.ev g1, hf.ev g2, hf.ev g3, Instr.sliceAt, Instr.slice, Sem.run_bind, run_underlying D.desc, Result.andThen_ok, e3, hsz, Sem.run_pure])
theorem ss_clear {e : TypeId} {b len cap c' : Nat} {xs : List Value} {zv : Value} (D : TDesc P t (.slice e)) (Z : TZero P e zv) (hz : zv.cells = #[zv]) (h1 : zv.oneCell' = true) (hx : ev fr x = some (.slice (some ⟨b, 0, none⟩) len c')) (hl : 0 < len) (s : Sel L (.own (some ⟨b, 0, none⟩) len cap 1 xs e) R) :
    SStep P Γ fr L ⟨none, .call ⟨.builtin .clear, [x].toArray, [t].toArray⟩, ty, pos, aft, gd⟩ (.own (some ⟨b, 0, none⟩) len cap 1 (List.replicate len zv) e :: R) := fun a hf w hh => by
  have hpl := (own_place hh s).1
  rw [Nat.mul_one] at hpl
  obtain ⟨junk, ⟨_, ho⟩, e3, e4, hrow⟩ := hh.ownRow s (by omega)
  have hb := hrow.block .here
  have hone : ∀ v ∈ List.replicate len zv, v.oneCell' = true := fun v hv => by rw [List.eq_of_mem_replicate hv]; exact h1
  have hcl := Lib.run_clear_slice w t e ty zv D.desc (fun w => run_zeroValue' Z.zero w) hz h1 b 0 len c' hl (fun j hj => by
    have : j < (xs ++ junk).length := by simp only [List.length_append]; omega
    simp only [Nat.zero_add, World.cell?, hb, List.getElem?_toArray]
    simp [List.getElem?_eq_getElem this]) (fun j hj => by simp [World.frozen?, hb])
  rw [setCells_row (o := 0) (vs := List.replicate len zv) hb (by simp; omega) hone] at hcl
  have hr : (execOp a.eval ⟨none, .call ⟨.builtin .clear, [x].toArray, [t].toArray⟩, ty, pos, aft, gd⟩).run P w = .ok (.value (.tuple #[])) (w.setRow b ((xs ++ junk).take 0 ++ List.replicate len zv ++ (xs ++ junk).drop (0 + (List.replicate len zv).length)).toArray) := by
    have hb' : ∀ {ats : Array TypeId} {cs : Array Bool} {args : Array Value}, builtin .clear ats ty cs args = (do pure (.value (← Builtin.clear_ ats ty args))) := rfl
    simp only [execOp, resolve, hf.ev hx, List.map_toArray, List.map_cons, List.map_nil, Sem.run_bind, Sem.run_pure, Result.andThen_ok, invoke, hb', hcl]
  unfold opRes
  rw [hr]
  have hset := hrow.setRow (ys := (xs ++ junk).take 0 ++ List.replicate len zv ++ (xs ++ junk).drop (0 + (List.replicate len zv).length)) .here
  refine hset.mono fun h ⟨k1, k2, dj', t1, t2, hc', hr'⟩ => ⟨k1, k2, dj', t1, t2, ⟨⟨by simp, List.all_eq_true.2 hone⟩, .inr ⟨b, junk, rfl, e3, e4, ?_⟩⟩, hr'⟩
  have hc'' : k1 b = some (.cells ((xs ++ junk).take 0 ++ List.replicate len zv ++ (xs ++ junk).drop (0 + (List.replicate len zv).length)).toArray e (0, 0)) := hc'
  rw [hc'']
  congr 2
  simp [← hpl]
end Go.Sl

namespace Go.Sl
variable {P : Program} {Γ : Ctx} {L R : List Chunk} {N : Nat} {fr : Fr} {Q : Exit → Act → World → Prop} {ops : Array Oper} {rest : List Oper}
variable {d : Nat} {ty : TypeId} {pos : String} {aft : Array Edge} {gd : Option (Nat × Bool)} {x y z : Operand} {v u : Value} {t t2 tx : TypeId}
theorem part_get (Y cs : List Value) (o : Nat) (h : o + cs.length ≤ Y.length) (j : Nat) : (Y.take o ++ cs ++ Y.drop (o + cs.length))[j]? = if o ≤ j ∧ j < o + cs.length then cs[j - o]? else Y[j]? := by
  have ht : (Y.take o).length = o := by simp; omega
  by_cases h1 : j < o
  · rw [if_neg (by omega), List.append_assoc, List.getElem?_append_left (by omega), List.getElem?_take, if_pos h1]
  · by_cases h2 : j < o + cs.length
    · rw [if_pos ⟨by omega, h2⟩, List.append_assoc, List.getElem?_append_right (by omega), ht, List.getElem?_append_left (by omega)]
    · rw [if_neg (by omega), List.getElem?_append_right (by simp [ht]; omega), List.getElem?_drop]
      congr 1
      simp [ht]
      omega
theorem Holds.setOwn {w : World} {b len len' cap o : Nat} {xs cs zs : List Value} {e : TypeId} (hh : Holds Γ L w) (s : Sel L (.own (some ⟨b, 0, none⟩) len cap 1 xs e) R) (hp : 0 < len) (hl2 : len' ≤ cap) (hzl : zs.length = len') (ho : o + cs.length ≤ len')
    (hone : ∀ v ∈ cs, v.oneCell' = true) (hz1 : zs.all (·.oneCell') = true) (hzs : ∀ (j : Nat) (v : Value), zs[j]? = some v → if o ≤ j ∧ j < o + cs.length then cs[j - o]? = some v else xs[j]? = some v) :
    Holds Γ (.own (some ⟨b, 0, none⟩) len' cap 1 zs e :: R) (w.setCells b o cs) ∧ (∀ j, j < cs.length → (w.cell? ⟨b, o + j, none⟩).isSome = true) ∧ (∀ j, j < cs.length → w.frozen? ⟨b, o + j, none⟩ = false) := by
  have hpl := (own_place hh s).1
  rw [Nat.mul_one] at hpl
  obtain ⟨junk, ⟨_, hx1⟩, e3, e4, hrow⟩ := hh.ownRow s (by omega)
  rw [Nat.mul_one] at e3
  have hb := hrow.block .here
  have hYl : (xs ++ junk).length = cap := by rw [List.length_append]; omega
  rw [setCells_row (o := o) (vs := cs) hb (by omega) hone]
  have hset := hrow.setRow (ys := (xs ++ junk).take o ++ cs ++ (xs ++ junk).drop (o + cs.length)) .here
  have hYl2 : ((xs ++ junk).take o ++ cs ++ (xs ++ junk).drop (o + cs.length)).length = cap := by simp; omega
  have htk : ((xs ++ junk).take o ++ cs ++ (xs ++ junk).drop (o + cs.length)).take len' = zs := by
    apply List.ext_getElem?
    intro j
    rw [List.getElem?_take]
    by_cases hj : j < len'
    · rw [if_pos hj, part_get _ _ _ (by omega)]
      have hz : zs[j]? = some (zs[j]'(by omega)) := by simp [hzl, hj]
      have := hzs j _ hz
      rw [hz]
      split
      · rename_i hc
        rw [if_pos hc] at this
        exact this
      · rename_i hc
        rw [if_neg hc] at this
        have hjx := (List.getElem?_eq_some_iff.1 this).1
        rw [List.getElem?_append_left hjx]
        exact this
    · rw [if_neg hj]
      simp [hzl]
      omega
  refine ⟨hset.mono fun h ⟨k1, k2, dj', t1, t2, hc', hr'⟩ => ⟨k1, k2, dj', t1, t2, ⟨⟨by omega, hz1⟩, .inr ⟨b, ((xs ++ junk).take o ++ cs ++ (xs ++ junk).drop (o + cs.length)).drop len', rfl, by rw [List.length_drop, hYl2]; omega, hl2, ?_⟩⟩, hr'⟩, fun j hj => ?_, fun j hj => by simp [World.frozen?, hb]⟩
  · have hc'' : k1 b = some (.cells ((xs ++ junk).take o ++ cs ++ (xs ++ junk).drop (o + cs.length)).toArray e (0, 0)) := hc'
    have e0 := (List.take_append_drop len' ((xs ++ junk).take o ++ cs ++ (xs ++ junk).drop (o + cs.length))).symm
    rw [htk] at e0
    rw [hc'', ← e0]
  · have : o + j < (xs ++ junk).length := by omega
    simp only [World.cell?, hb, List.getElem?_toArray]
    simp [List.getElem?_eq_getElem this]
theorem cs_copyG {e b o dn dc len len' cap sn sc : Nat} {a : Addr} {xs cs zs : List Value} (D : TDesc P t (.slice e)) (S : TSize P e 1) (hx : ev fr x = some (.slice (some ⟨b, o, none⟩) dn dc)) (hy : ev fr y = some (.slice (some a) sn sc))
    (s : Sel L (.own (some ⟨b, 0, none⟩) len cap 1 xs e) R) (hp : 0 < len) (hlen : cs.length = Nat.min sn dn) (src : ∀ w, Holds Γ L w → ∀ (j : Nat) (v : Value), cs[j]? = some v → w.cell? (a.add j) = some v) (hl2 : len' ≤ cap) (hzl : zs.length = len') (ho : o + cs.length ≤ len')
    (hone : ∀ v ∈ cs, v.oneCell' = true) (hz1 : zs.all (·.oneCell') = true) (hzs : ∀ (j : Nat) (v : Value), zs[j]? = some v → if o ≤ j ∧ j < o + cs.length then cs[j - o]? = some v else xs[j]? = some v) :
    CStep P Γ fr L ⟨some d, .call ⟨.builtin .copy, [x, y].toArray, [t, t2].toArray⟩, ty, pos, aft, gd⟩ (X := Unit) (fun _ => .int .i64 cs.length) (fun _ => .own (some ⟨b, 0, none⟩) len' cap 1 zs e :: R) (fun _ => True) :=
  cs_of (fun a' w hf hh => by
    obtain ⟨h1, h2, h3⟩ := hh.setOwn s hp hl2 hzl ho hone hz1 hzs
    have hr := run_copy_cells (P := P) w t t2 ty e b o dn dc a sn sc cs D.desc S.size hlen (src w hh) h2 h3 hone
    have hb' : ∀ {ats : Array TypeId} {cs : Array Bool} {args : Array Value}, builtin .copy ats ty cs args = (do pure (.value (← Builtin.copy_ ats ty args))) := rfl
    exact ⟨(), _, trivial, by simp only [execOp, resolve, hf.ev hx, hf.ev hy, List.map_toArray, List.map_cons, List.map_nil, Sem.run_bind, Sem.run_pure, Result.andThen_ok, invoke, hb', hr]; rfl, h1⟩)
theorem cs_appendNG {e k b i n m cap : Nat} {zv : Value} {kn : IntKind} {xs : List Value} (D : TDesc P t (.slice e)) (E : TDesc P tx (.int kn)) (S : TSize P e 1) (Z : TZero P e zv) (B : TBytes P e k) (hx : ev fr x = some (.slice (some ⟨b, 0, none⟩) i cap)) (hy : ev fr y = some (.int .i64 (m : Int)))
    (s : Sel L (.own (some ⟨b, 0, none⟩) n cap 1 xs e) R) (hi : i ≤ n) (hgr : cap < i + m) (hzc : zv.cells = #[zv]) (hz1 : zv.oneCell' = true) (h0 : 0 < m) (h63 : i + m ≤ 1000000000) (h48 : (i + m) * k ≤ 140737488355328) :
    CStep P Γ fr L ⟨some d, .call ⟨.builtin .append, [x, y].toArray, [t, tx].toArray⟩, ty, pos, aft, gd⟩ (X := Nat × Nat) (fun q => .slice (some ⟨q.1, 0, none⟩) (i + m) q.2) (fun q => .own (some ⟨q.1, 0, none⟩) (i + m) q.2 1 (xs.take i ++ List.replicate m zv) e :: L) (fun _ => True) :=
  cs_of (fun a w hf hh => by
    have hpl := (own_place hh s).1
    rw [Nat.mul_one] at hpl
    have hall := own_one hh s
    cases hie : P.info? e with
    | none => have := S.size; simp [hie] at this
    | some ie =>
      have hsz : ie.size = 1 := by have := S.size; simpa [hie] using this
      have hz : ie.zero = some zv := by have := Z.zero; simpa [hie] using this
      have hk : ie.bytes = k := by have := B.bytes; simpa [hie] using this
      subst hk
      have hold : (Builtin.firstCells 1 i (.slice (some ⟨b, 0, none⟩) i cap)).run P w.drew = .ok (xs.take i).toArray w.drew :=
        run_firstCells_some w.drew 1 i ⟨b, 0, none⟩ i cap (xs.take i) (by simp; omega) (fun j v hv => by
          rw [Addr.add_lit, Nat.zero_add]
          have hv2 : xs[j]? = some v := by
            rw [List.getElem?_take] at hv
            split at hv
            · exact hv
            · cases hv
          exact (Holds.drew hh (w.drawn + 1)).cell s (reads_own hv2))
      have hw : IntKind.i64.wrap (m : Int) = m := by rw [IntKind.wrap_i64]; omega
      have hn1 : ¬ (i + m ≤ cap) := by omega
      have hn : m ≠ 0 := by omega
      have h63' : ¬ (9223372036854775807 < ((i : Int) + (m : Int))) := by omega
      have h48' : ¬ (281474976710656 < Builtin.nextslicecap (i + m) cap * ie.bytes) := by
        have : Builtin.nextslicecap (i + m) cap * ie.bytes ≤ 281474976710656 := growslice_fits (by omega) h48
        omega
      have hmk : m * ie.bytes ≤ (i + m) * ie.bytes := Nat.mul_le_mul_right _ (by omega)
      have h48i : ¬ (281474976710656 < (m : Int) * (ie.bytes : Int)) := by
        rw [← Int.natCast_mul]
        omega
      have hneg : ¬ ((m : Int) < 0) := by omega
      have hg : (Builtin.append_ #[t, tx] ty #[.slice (some ⟨b, 0, none⟩) i cap, .int .i64 m]).run P w = .ok (.slice (some ⟨w.heap.size, 0, none⟩) (i + m) (grownCap w (i + m) cap e)) (w.drew.alloc (.cells ((xs.take i).toArray ++ Builtin.zeroCells zv.cells m ++ Builtin.zeroCells zv.cells (grownCap w (i + m) cap e - (i + m))) e)) := by
        simp [Builtin.append_, run_underlying D.desc, run_underlying E.desc, sizeOf, typeInfo, zeroValue, hie, hz, hsz, asInt, asIntOf, hw, hn, hn1, hneg, h63', h48', h48i, Question.forced, hold, newRow, grownCap]
      have hop : ∀ {w' : World} {q : Value}, (Builtin.append_ #[t, tx] ty #[.slice (some ⟨b, 0, none⟩) i cap, .int .i64 m]).run P w = .ok q w' → (execOp a.eval ⟨some d, .call ⟨.builtin .append, [x, y].toArray, [t, tx].toArray⟩, ty, pos, aft, gd⟩).run P w = .ok (.value q) w' := by
        intro w' q hq
        simp [execOp, resolve, hf.ev hx, hf.ev hy, invoke, builtin_append', hq]
      have hge := grownCap_ge w (i + m) cap e
      have hzm : ∀ j, (Builtin.zeroCells zv.cells j).toList = List.replicate j zv := fun j => by
        rw [hzc]
        apply List.ext_getElem
        · simp [Builtin.zeroCells]
        · intro q h1 h2
          simp [Builtin.zeroCells, Nat.mod_one]
      refine ⟨(w.heap.size, grownCap w (i + m) cap e), _, trivial, hop hg, ?_⟩
      have hnew := (show Holds Γ L w.drew from Holds.drew hh _).newRow (e := e) (xs := (xs.take i).toArray ++ Builtin.zeroCells zv.cells m ++ Builtin.zeroCells zv.cells (grownCap w (i + m) cap e - (i + m)))
      refine hnew.mono fun h ⟨k1, k2, dj', t1, t2, hc', hr'⟩ => ⟨k1, k2, dj', t1, t2, ⟨⟨by simp; omega, ?_⟩, .inr ⟨_, (Builtin.zeroCells zv.cells (grownCap w (i + m) cap e - (i + m))).toList, rfl, by rw [hzm]; simp, hge, ?_⟩⟩, hr'⟩
      · rw [List.all_eq_true] at hall ⊢
        intro q hq
        rcases List.mem_append.1 hq with hq | hq
        · exact hall q (List.mem_of_mem_take hq)
        · rw [List.eq_of_mem_replicate hq]; exact hz1
      · have hc'' : k1 w.drew.heap.size = some (.cells ((xs.take i).toArray ++ Builtin.zeroCells zv.cells m ++ Builtin.zeroCells zv.cells (grownCap w (i + m) cap e - (i + m))) e (0, 0)) := hc'
        rw [show w.drew.heap.size = w.heap.size from rfl] at hc''
        rw [hc'']
        congr 2
        apply Array.ext'
        simp [hzm])
end Go.Sl

namespace Go.Sl
variable {P : Program} {Γ : Ctx} {L R : List Chunk} {N : Nat} {fr : Fr} {Q : Exit → Act → World → Prop} {ops : Array Oper} {rest : List Oper}
variable {d : Nat} {ty : TypeId} {pos : String} {aft : Array Edge} {gd : Option (Nat × Bool)} {x y z : Operand} {v u : Value} {t t2 tx : TypeId}
theorem cs_appendSelf {e b i n cap c' : Nat} {xs : List Value} (D : TDesc P t (.slice e)) (D2 : TDesc P tx (.slice e)) (S : TSize P e 1) (hx : ev fr x = some (.slice (some ⟨b, 0, none⟩) i cap)) (hy : ev fr y = some (.slice (some ⟨b, i + 1, none⟩) (n - (i + 1)) c'))
    (s : Sel L (.own (some ⟨b, 0, none⟩) n cap 1 xs e) R) (hi : i < n) :
    CStep P Γ fr L ⟨some d, .call ⟨.builtin .append, [x, y].toArray, [t, tx].toArray⟩, ty, pos, aft, gd⟩ (X := Unit) (fun _ => .slice (some ⟨b, 0, none⟩) (n - 1) cap) (fun _ => .own (some ⟨b, 0, none⟩) n cap 1 (xs.take i ++ xs.drop (i + 1) ++ xs.drop (n - 1)) e :: R) (fun _ => True) :=
  cs_of (fun a w hf hh => by
    have hpl := own_place hh s
    have hxl : xs.length = n := by have := hpl.1; rwa [Nat.mul_one] at this
    have hcap := hpl.2.1
    have hall := own_one hh s
    have hone : ∀ v ∈ xs.drop (i + 1), v.oneCell' = true := fun v hv => (List.all_eq_true.1 hall) v (List.mem_of_mem_drop hv)
    have hdl : (xs.drop (i + 1)).length = n - (i + 1) := by simp [hxl]
    cases hie : P.info? e with
    | none => have := S.size; simp [hie] at this
    | some ie =>
      have hsz : ie.size = 1 := by have := S.size; simpa [hie] using this
      obtain ⟨h1, h2, h3⟩ := hh.setOwn (o := i) (cs := xs.drop (i + 1)) (zs := xs.take i ++ xs.drop (i + 1) ++ xs.drop (n - 1)) (len' := n) s (by omega) hcap (by simp [hxl]; omega) (by omega) hone (by
        rw [List.all_eq_true] at hall ⊢
        intro z hz
        rcases List.mem_append.1 hz with hz | hz
        · rcases List.mem_append.1 hz with hz | hz
          · exact hall z (List.mem_of_mem_take hz)
          · exact hall z (List.mem_of_mem_drop hz)
        · exact hall z (List.mem_of_mem_drop hz)) (fun j v hv => by
          have htl : (xs.take i).length = i := by simp; omega
          split
          · rename_i hc
            rw [List.getElem?_append_left (by simp [hxl]; omega), List.getElem?_append_right (by omega), htl] at hv
            exact hv
          · rename_i hc
            by_cases hji : j < i
            · rw [List.append_assoc, List.getElem?_append_left (by omega), List.getElem?_take, if_pos hji] at hv
              exact hv
            · rw [List.getElem?_append_right (by simp [hxl]; omega), List.getElem?_drop] at hv
              rw [← hv]
              congr 1
              have : j < n := by
                have := (List.getElem?_eq_some_iff.1 hv).1
                simp [hxl] at this
                omega
              simp [hxl]
              omega)
      have hsrc := srcReads (P := P) (tx := tx) (Γ := Γ) (L := L) (m := n - (i + 1)) (c := c') (n := 1) (news := xs.drop (i + 1)) D2 s (by omega) (List.all_eq_true.2 hone) (b := b) (o := i + 1) (fun j v hv => by
        rw [List.getElem?_drop] at hv
        exact reads_own hv) w hh
      have hsrc2 : Src P ie.size tx (.slice (some ⟨b, i + 1, none⟩) (n - (i + 1)) c') (n - (i + 1)) (xs.drop (i + 1)) w := by rw [hsz]; exact hsrc
      have hg := run_append_room_src (P := P) w t tx ty e ie D.desc hie b 0 i cap _ (n - (i + 1)) (xs.drop (i + 1)) hsrc2 (by omega) (fun j hj => by rw [Nat.zero_add, hsz, Nat.mul_one]; exact h2 j hj) (fun j hj => by rw [Nat.zero_add, hsz, Nat.mul_one]; exact h3 j hj)
      rw [Nat.zero_add, hsz, Nat.mul_one, show i + (n - (i + 1)) = n - 1 by omega] at hg
      refine ⟨(), _, trivial, ?_, h1⟩
      simp [execOp, resolve, hf.ev hx, hf.ev hy, invoke, builtin_append', hg])
theorem ss_clearAt {e : TypeId} {b n cap o c' : Nat} {xs : List Value} {zv : Value} (D : TDesc P t (.slice e)) (Z : TZero P e zv) (hz : zv.cells = #[zv]) (h1 : zv.oneCell' = true) (hx : ev fr x = some (.slice (some ⟨b, o, none⟩) 1 c')) (ho : o < n) (s : Sel L (.own (some ⟨b, 0, none⟩) n cap 1 xs e) R) :
    SStep P Γ fr L ⟨none, .call ⟨.builtin .clear, [x].toArray, [t].toArray⟩, ty, pos, aft, gd⟩ (.own (some ⟨b, 0, none⟩) n cap 1 (xs.set o zv) e :: R) := fun a hf w hh => by
  have hpl := own_place hh s
  have hxl : xs.length = n := by have := hpl.1; rwa [Nat.mul_one] at this
  have hall := own_one hh s
  obtain ⟨g1, g2, g3⟩ := hh.setOwn (o := o) (cs := [zv]) (zs := xs.set o zv) (len' := n) s (by omega) hpl.2.1 (by simp [hxl]) (by simp; omega) (fun v hv => by rw [List.mem_singleton.1 hv]; exact h1) (by
    rw [List.all_eq_true] at hall ⊢
    intro z hz'
    rcases List.mem_or_eq_of_mem_set hz' with h | h
    · exact hall z h
    · rw [h]; exact h1) (fun j v hv => by
      rw [List.getElem?_set] at hv
      split
      · rename_i hc
        have hj : j = o := by simp at hc; omega
        subst hj
        rw [if_pos rfl, if_pos (by omega)] at hv
        simpa using hv
      · rename_i hc
        rw [if_neg (by intro e; subst e; exact hc ⟨Nat.le_refl _, by simp⟩)] at hv
        exact hv)
  have hcl := Lib.run_clear_slice w t e ty zv D.desc (fun w => run_zeroValue' Z.zero w) hz h1 b o 1 c' (by decide) (fun j hj => g2 j (by simpa using hj)) (fun j hj => g3 j (by simpa using hj))
  have hr : (execOp a.eval ⟨none, .call ⟨.builtin .clear, [x].toArray, [t].toArray⟩, ty, pos, aft, gd⟩).run P w = .ok (.value (.tuple #[])) (w.setCells b o [zv]) := by
    have hb' : ∀ {ats : Array TypeId} {cs : Array Bool} {args : Array Value}, builtin .clear ats ty cs args = (do pure (.value (← Builtin.clear_ ats ty args))) := rfl
    simp only [execOp, resolve, hf.ev hx, List.map_toArray, List.map_cons, List.map_nil, Sem.run_bind, Sem.run_pure, Result.andThen_ok, invoke, hb', hcl]
    rfl
  unfold opRes
  rw [hr]
  exact g1
end Go.Sl

namespace Go.Sl
theorem sel_mid {α : Type} (x : α) (B : List α) : ∀ A : List α, Sel (A ++ x :: B) x (A ++ B)
  | [] => .here
  | _ :: A => .there (sel_mid x B A)
theorem take_mid {α : Type} (B : List α) : ∀ (X A : List α), Take (A ++ (X ++ B)) X (A ++ B)
  | [], A => .nil
  | x :: X, A => .cons (sel_mid x (X ++ B) A) (take_mid B X A)
theorem all_out {A X B : List Chunk} {h : HP} (a : All (A ++ (X ++ B)) h) : All (X ++ (A ++ B)) h := a.take (take_mid B X A)
theorem all_in {A X B : List Chunk} {h : HP} (a : All (X ++ (A ++ B)) h) : All (A ++ (X ++ B)) h := a.take (take_mid B A X)
theorem all_pack {X R : List Chunk} {h : HP} (a : All (X ++ R) h) : All (.asn (All X) :: R) h := by
  obtain ⟨h1, h2, d, s1, s2, ha, hr⟩ := all_append.1 a
  exact ⟨h1, h2, d, s1, s2, ha, hr⟩
theorem all_unpack {X R : List Chunk} {h : HP} (a : All (.asn (All X) :: R) h) : All (X ++ R) h := by
  obtain ⟨h1, h2, d, s1, s2, ha, hr⟩ := a
  exact all_append.2 ⟨h1, h2, d, s1, s2, ha, hr⟩
theorem does_same {P : Program} {f : FuncId} {args : List Value} {v : Value} {A A' : List Chunk} (d : Does1 P f args A v) (h1 : ∀ h, All A' h → All A h) (h2 : ∀ h, All A h → All A' h) : Does1 P f args A' v := fun Γ w hh =>
  (d Γ w (hh.mono h1)).mono fun e w' ⟨x, hx, he, hB⟩ => ⟨x, hx, he, hB.mono h2⟩
theorem g_conv {Γ : Ctx} {N : Nat} {fr : Fr} {L L' A R : List Chunk} {φ : Act → World → Prop} (t : Take L A R) (c : ∀ h, All (A ++ R) h → All L' h) (g : G Γ N fr L' φ) : G Γ N fr L φ := fun a w hN hd hf hh =>
  g a w hN hd hf ((hh.take t).mono c)
abbrev Bg {α : Type} (F : α → List Chunk) (l : List α) : Chunk := .asn (All (l.flatMap F))
section
variable {α : Type} {F : α → List Chunk} {A B : List α} {x : α} {R : List Chunk} {h : HP}
theorem bg_out (a : All (Bg F (A ++ x :: B) :: R) h) : All (F x ++ (Bg F (A ++ B) :: R)) h := by
  have a1 := all_unpack a
  simp only [List.flatMap_append, List.flatMap_cons, List.append_assoc] at a1
  have a2 := all_out (A := A.flatMap F) (X := F x) (B := B.flatMap F ++ R) a1
  have a3 : All (F x ++ ((A ++ B).flatMap F ++ R)) h := by simpa only [List.flatMap_append, List.append_assoc] using a2
  obtain ⟨h1, h2, d, s1, s2, ha, hr⟩ := all_append.1 a3
  exact all_append.2 ⟨h1, h2, d, s1, s2, ha, all_pack hr⟩
theorem bg_in (a : All (F x ++ (Bg F (A ++ B) :: R)) h) : All (Bg F (A ++ x :: B) :: R) h := by
  obtain ⟨h1, h2, d, s1, s2, ha, hr⟩ := all_append.1 a
  have a3 := all_append.2 ⟨h1, h2, d, s1, s2, ha, all_unpack hr⟩
  have a2 : All (F x ++ (A.flatMap F ++ (B.flatMap F ++ R))) h := by simpa only [List.flatMap_append, List.append_assoc] using a3
  have a1 := all_in (A := A.flatMap F) (X := F x) (B := B.flatMap F ++ R) a2
  refine all_pack ?_
  simpa only [List.flatMap_append, List.flatMap_cons, List.append_assoc] using a1
end
section
variable {Γ : Ctx} {N : Nat} {fr : Fr} {L R : List Chunk} {φ : Act → World → Prop} {α : Type} {F : α → List Chunk}
theorem g_bgOut (A B : List α) (x : α) (s : Sel L (Bg F (A ++ x :: B)) R) (g : G Γ N fr (F x ++ (Bg F (A ++ B) :: R)) φ) : G Γ N fr L φ :=
  g_conv (.cons s .nil) (fun _ => bg_out) g
theorem g_bgIn (A B : List α) (x : α) (t : Take L (F x ++ [Bg F (A ++ B)]) R) (g : G Γ N fr (Bg F (A ++ x :: B) :: R) φ) : G Γ N fr L φ :=
  g_conv t (fun _ h => by
    rw [List.append_assoc] at h
    exact bg_in h) g
theorem g_bgNil (g : G Γ N fr (Bg F [] :: L) φ) : G Γ N fr L φ :=
  fun a w hN hd hf hh => g a w hN hd hf (hh.mono fun h al => ⟨fun _ => none, h, fun _ => .inl rfl, (fun _ _ q => by cases q), HP.sub.refl _, trivial, al⟩)
end
theorem split_at {α : Type} (l : List α) (i : Nat) (h : i < l.length) : l = l.take i ++ l[i] :: l.drop (i + 1) := by
  rw [List.getElem_cons_drop, List.take_append_drop]
theorem does_of_below {P : Program} {f : FuncId} {args : List Value} {v : Value} {H : HP} (h : ∀ w, (∀ b o, H b = some o → w.heap[b]? = some o) → Calls P f args.toArray w fun e w' => e = .returned v ∧ Go.RowKit.Below w.heap.size w w') : Does1 P f args [Pile H] v := fun Γ w hh => by
  have hH : ∀ b o, H b = some o → w.heap[b]? = some o := by
    obtain ⟨h, _, s, h1, _, _, s1, _, hc, _⟩ := hh.own
    have hc' : h1 = H := hc
    subst hc'
    exact fun b o hb => s _ _ (s1 _ _ hb)
  refine (h w hH).mono ?_
  rintro e w' ⟨rfl, hB⟩
  exact ⟨(), trivial, rfl, hh.later hB.os hB.tape hB.output hB.size (fun c hc => hB.block c hc)⟩
end Go.Sl

namespace Go.Sl
variable {P : Program} {Γ : Ctx} {L R : List Chunk} {N : Nat} {fr : Fr} {Q : Exit → Act → World → Prop} {ops : Array Oper} {rest : List Oper}
variable {d : Nat} {ty : TypeId} {pos : String} {aft : Array Edge} {gd : Option (Nat × Bool)} {x y z : Operand} {v u : Value} {t t2 tx : TypeId}
theorem qs_callV {f : FuncId} {xs : List Operand} {vs caps args : List Value} {tys : Array TypeId} {dst : Option Tmp} [C : Callable P f]
    (fn : Does1 P f args [] v) (hy : ev fr y = some (.func (.func f) #[] caps.toArray)) (he : Evs fr xs vs) (ha : vs ++ caps = args) : QStep P Γ fr ⟨dst, .call ⟨.value y, xs.toArray, tys⟩, ty, pos, aft, gd⟩ v := fun a hf L w hh =>
  (cs_callV fn hy he ha (Take.nil (L := L)) a hf w hh).mono fun u w' ⟨_, _, e, h⟩ => ⟨e, h⟩
theorem g_ownNone {Γ : Ctx} {N : Nat} {fr : Fr} {L R : List Chunk} {φ : Act → World → Prop} {len cap n : Nat} {xs : List Value} {e : TypeId} (s : Sel L (.own none len cap n xs e) R) (g : len = 0 → cap = 0 → xs = [] → G Γ N fr L φ) : G Γ N fr L φ := fun a w hN hd hf hh => by
  obtain ⟨h, _, s', al⟩ := (hh.sel s).own
  obtain ⟨h1, _, _, s1, _, hc, _⟩ := al
  obtain ⟨⟨hl, _⟩, ⟨h1, h2⟩ | ⟨b', junk, e1, _, e3, e2⟩⟩ := hc
  · exact g h1 h2 (List.eq_nil_of_length_eq_zero (by rw [hl, h1, Nat.zero_mul])) a w hN hd hf hh
  · cases e1
section
variable {e : TypeId} {cap k : Nat} {p : Option Addr} {zv : Value} {bs news : List UInt8} {i : Nat} {pl : Plan}
theorem s_appB (K : ∀ q c, G Γ N ((d, .slice q (bs ++ news).length c) :: fr) (.own q (bs ++ news).length c 1 (cells8 (bs ++ news)) e :: R) (wpList P ops Q rest)) (hg : Runs ops fr gd := by exact rfl) (hN : Nat.blt d N = true := by exact rfl)
    (D : TDesc P t (.slice e) := by exact inferInstance) (S : TSize P e 1 := by exact inferInstance) (Z : TZero P e zv := by exact inferInstance) (B : TBytes P e k := by exact inferInstance) (hx : ev fr x = some (.slice p bs.length cap) := by exact rfl) (hy : ev fr y = some u := by exact rfl)
    (s : Sel L (.own p bs.length cap 1 (cells8 bs) e) R := by (repeat (first | exact Sel.here | apply Sel.there)); first | done | fail) (src : SrcIs P Γ L 1 tx u news.length (cells8 news) := by first | (apply srcRow; exact inferInstance; exact (by (repeat (first | exact Sel.here | apply Sel.there)); first | done | fail); exact (by (repeat (first | exact Cut.zero | apply Cut.take | apply Cut.skip)); first | done | fail); exact rfl) | (apply srcOwn; exact inferInstance; exact (by (repeat (first | exact Sel.here | apply Sel.there)); first | done | fail)) | (apply srcNil; exact inferInstance) | (apply srcString; exact inferInstance) | exact hsrc | fail) (hzn : zv.cells.size = 1 := by exact rfl) (hb : (bs.length + news.length) * k ≤ 140737488355328 := by omega) (hb2 : bs.length + news.length ≤ 140737488355328 := by omega) :
    G Γ N fr L (wpList P ops Q (⟨some d, .call ⟨.builtin .append, [x, y].toArray, [t, tx].toArray⟩, ty, pos, aft, gd⟩ :: rest)) :=
  s_app (fun q c => by rw [cells8_append, ← List.length_append]; exact K q c) hg hN D S Z B hx hy s src hzn hb hb2
theorem p_appB (K : ∀ q c, GP P ops Q Γ N ((d, .slice q (bs ++ news).length c) :: fr) (.own q (bs ++ news).length c 1 (cells8 (bs ++ news)) e :: R) pl) (hi : ops[i]? = some ⟨some d, .call ⟨.builtin .append, [x, y].toArray, [t, tx].toArray⟩, ty, pos, aft, gd⟩ := by exact rfl) (hg : Runs ops fr gd := by exact rfl) (hN : Nat.blt d N = true := by exact rfl)
    (D : TDesc P t (.slice e) := by exact inferInstance) (S : TSize P e 1 := by exact inferInstance) (Z : TZero P e zv := by exact inferInstance) (B : TBytes P e k := by exact inferInstance) (hx : ev fr x = some (.slice p bs.length cap) := by exact rfl) (hy : ev fr y = some u := by exact rfl)
    (s : Sel L (.own p bs.length cap 1 (cells8 bs) e) R := by (repeat (first | exact Sel.here | apply Sel.there)); first | done | fail) (src : SrcIs P Γ L 1 tx u news.length (cells8 news) := by first | (apply srcRow; exact inferInstance; exact (by (repeat (first | exact Sel.here | apply Sel.there)); first | done | fail); exact (by (repeat (first | exact Cut.zero | apply Cut.take | apply Cut.skip)); first | done | fail); exact rfl) | (apply srcOwn; exact inferInstance; exact (by (repeat (first | exact Sel.here | apply Sel.there)); first | done | fail)) | (apply srcNil; exact inferInstance) | (apply srcString; exact inferInstance) | exact hsrc | fail) (hzn : zv.cells.size = 1 := by exact rfl) (hb : (bs.length + news.length) * k ≤ 140737488355328 := by omega) (hb2 : bs.length + news.length ≤ 140737488355328 := by omega) :
    GP P ops Q Γ N fr L (.one i pl) :=
  p_app (fun q c => by rw [cells8_append, ← List.length_append]; exact K q c) hi hg hN D S Z B hx hy s src hzn hb hb2
end
end Go.Sl
