/- Contracts and laws that the proof stands on. -/
import Derived.Test.YtcgmliaahdpmcaaGreatDoorTablePlays12
import Derived.Test.YtcgmliaahdpmcaaGreatDoorTablePlays11
import Derived.Test.YtcgmliaahdpmcaaGreatDoorTablePlays7
import Derived.Test.YtcgmliaahdpmcaaGreatDoorTablePlays6
import Derived.Recover
import Derived.Stop.IfaceNil
set_option linter.unusedSimpArgs false
set_option linter.unusedVariables false
namespace Go.Proofs.YtcgmliaahdpmcaaGreatDoor
open Go.Sl facts
theorem sum_up (n : Int) (l : List Int) (hl : ∀ x ∈ l, 0 ≤ x) (h0 : 0 ≤ n) (h : n ≤ most) : sumF n l ≤ most ∧ n ≤ sumF n l ∧ (sumF n l < most → ∀ x ∈ l, x ≤ sumF n l) :=
  ⟨(sumF_ge l n hl h).2, (sumF_ge l n hl h).1, fun hs x hx => sumF_each l n hl h0 h x hx hs⟩
structure StrV where
  nm : ByteArray
  ep : Option Addr
  ec : Nat
  evs : List Ev
  kp : Option Addr
  kc : Nat
  ks : List Kn
abbrev StrV.cells (x : StrV) : List Value := [.string x.nm, .slice x.ep x.evs.length x.ec, .slice x.kp x.ks.length x.kc]
structure StrAt (C : Chunk) (x : StrV) : Prop where
  e : SlAt C 7 x.ep x.evs.length (x.evs.flatMap Ev.cells)
  k : SlAt C 5 x.kp x.ks.length (x.ks.flatMap Kn.cells)
  el : x.evs.length ≤ 9223372036854775807
  kl : x.ks.length ≤ 9223372036854775807
  nl : x.nm.size ≤ 9223372036854775807
  eo : EvsOk x.evs
  ko : ∀ y ∈ x.ks, y.key.size ≤ 9223372036854775807
structure StV where
  kind : Int
  key : ByteArray
  lp : Option Addr
  lc : Nat
  L : List Ev
  sp : Option Addr
  sc : Nat
  S : List StrV
  r0 : Int
  r1 : Int
  r2 : Int
  r3 : Int
abbrev StV.cells (x : StV) : List Value := [.int .i64 x.kind, .string x.key, .slice x.lp x.L.length x.lc, .slice x.sp x.S.length x.sc, .int .i64 x.r0, .int .i64 x.r1, .int .i64 x.r2, .int .i64 x.r3]
structure StepAt (C : Chunk) (x : StV) : Prop where
  l : SlAt C 7 x.lp x.L.length (x.L.flatMap Ev.cells)
  s : SlAt C 3 x.sp x.S.length (x.S.flatMap StrV.cells)
  str : ∀ y ∈ x.S, StrAt C y
  ll : x.L.length ≤ 9223372036854775807
  sl : x.S.length ≤ 9223372036854775807
  kl : x.key.size ≤ 9223372036854775807
  lo : EvsOk x.L
structure StepsAt (C : Chunk) (p : Option Addr) (l : List StV) : Prop where
  sl : SlAt C 8 p l.length (l.flatMap StV.cells)
  at_ : ∀ x ∈ l, StepAt C x
theorem StrAt.grow {H H' : HP} {x : StrV} (h : StrAt (Pile H) x) (s : HP.sub H H') : StrAt (Pile H') x := ⟨h.e.grow s, h.k.grow s, h.el, h.kl, h.nl, h.eo, h.ko⟩
theorem StepAt.grow {H H' : HP} {x : StV} (h : StepAt (Pile H) x) (s : HP.sub H H') : StepAt (Pile H') x := ⟨h.l.grow s, h.s.grow s, fun y hy => (h.str y hy).grow s, h.ll, h.sl, h.kl, h.lo⟩
theorem StepsAt.grow {H H' : HP} {p : Option Addr} {l : List StV} (h : StepsAt (Pile H) p l) (s : HP.sub H H') : StepsAt (Pile H') p l := ⟨h.sl.grow s, fun x hx => (h.at_ x hx).grow s⟩
theorem kn_len (x : Kn) : x.cells.length = 5 := rfl
theorem str_len (x : StrV) : x.cells.length = 3 := rfl
theorem stv_len (x : StV) : x.cells.length = 8 := rfl
attribute [local irreducible] Code.wp wpList Exit.then Exit.inBlock bodyPost Back MidQ G GP QStep VStep CStep SStep Does Post Reads
attribute [local irreducible] sumF
structure IM where
  i : Nat
  m : Int
end Go.Proofs.YtcgmliaahdpmcaaGreatDoor

namespace Go.Sl
open Go
theorem slAt_of {W : World} {α : Type} {A : World → α → List Value → Prop} {n : Nat} {p : Option Addr} {xs : List α} {g : α → List Value} (hn : 0 < n) (hnil : p = none → xs = [])
    (h : ∀ (i : Nat) (x : α), xs[i]? = some x → ∃ b o c, p = some ⟨b, o, none⟩ ∧ A W x c ∧ c.length = n ∧ CellsAt W b (o + i * n) c) (hg : ∀ x c, A W x c → c.length = n → c = g x) (h1 : ∀ x, (g x).all (·.oneCell') = true) (hl : ∀ x, (g x).length = n) :
    SlAt (Init W) n p xs.length (xs.flatMap g) := by
  refine ⟨flat_len hl xs, ?_, fun e => by rw [hnil e]; rfl, fun j v hv => ?_⟩
  · rw [List.all_eq_true]
    intro v hv
    obtain ⟨x, _, hv⟩ := List.mem_flatMap.1 hv
    exact List.all_eq_true.1 (h1 x) v hv
  · have hj := (List.getElem?_eq_some_iff.1 hv).1
    rw [flat_len hl] at hj
    have hi : j / n < xs.length := Nat.div_lt_of_lt_mul (by rw [Nat.mul_comm]; exact hj)
    obtain ⟨b, o, c, rfl, ha, hc, hr⟩ := h (j / n) xs[j / n] (by simp [hi])
    refine ⟨b, o, rfl, reads_init' ?_⟩
    have e := hg _ _ ha hc
    have hd := Nat.div_add_mod j n
    have hv2 : c[j % n]? = some v := by
      rw [e]
      have h2 := Nat.mod_lt j hn
      have h3 : (g xs[j / n])[j % n]? = some ((g xs[j / n])[j % n]'(by rw [hl]; exact h2)) := List.getElem?_eq_getElem _
      have h4 := flat_get hl xs (j / n) xs[j / n] (by simp [hi]) (j % n) _ h3
      rw [show j / n * n + j % n = j by rw [Nat.mul_comm]; exact hd] at h4
      rw [h3, ← h4]; exact hv
    have := hr (j % n) v hv2
    rwa [Nat.add_assoc, show j / n * n + j % n = j by rw [Nat.mul_comm]; exact hd] at this
theorem sl_in {W : World} {α β : Type} {A : World → α → List Value → Prop} {n : Nat} {s : SliceOf α} {f : α → β} {g : β → List Value} {R : β → Prop} (hn : 0 < n)
    (h : s.xs.length ≤ s.cap ∧ s.cap ≤ maxLen ∧ (s.place = none → s.xs = [] ∧ s.cap = 0) ∧ (∀ (i : Nat) (x : α), s.xs[i]? = some x → ∃ b o c, s.place = some ⟨b, o, none⟩ ∧ A W x c ∧ c.length = n ∧ CellsAt W b (o + i * n) c))
    (hg : ∀ x c, A W x c → c = g (f x) ∧ R (f x)) (h1 : ∀ x, (g x).all (·.oneCell') = true) (hl : ∀ x, (g x).length = n) :
    SlAt (Init W) n s.place (s.xs.map f).length ((s.xs.map f).flatMap g) ∧ s.xs.length ≤ 9223372036854775807 ∧ ∀ y ∈ s.xs.map f, R y := by
  obtain ⟨g1, g2, g3, g4⟩ := h
  refine ⟨?_, ?_, fun y hy => ?_⟩
  · rw [List.length_map, List.flatMap_map]
    exact slAt_of (g := fun x => g (f x)) hn (fun e => (g3 e).1) g4 (fun x c hx _ => (hg x c hx).1) (fun x => h1 _) (fun x => hl _)
  · unfold maxLen at g2; omega
  · obtain ⟨x, hx, rfl⟩ := List.mem_map.1 hy
    obtain ⟨i, hi, rfl⟩ := List.mem_iff_getElem.1 hx
    obtain ⟨_, _, c, _, ha, _⟩ := g4 i _ (List.getElem?_eq_getElem hi)
    exact (hg _ _ ha).2
end Go.Sl
namespace Go.Proofs.YtcgmliaahdpmcaaGreatDoor
open Go Go.Sl facts
abbrev S3T := Int × Int × Int × Unit
abbrev EvT := ByteArray × Int × ByteArray × S3T × Int × Unit
abbrev KnT := ByteArray × Int × S3T × Unit
abbrev StrT := ByteArray × SliceOf EvT × SliceOf KnT × Unit
abbrev StpT := Int × ByteArray × SliceOf EvT × SliceOf StrT × (Int × Int × Int × Int × Unit) × Unit
def s3T (x : S3T) : S3 := ⟨x.1, x.2.1, x.2.2.1⟩
def evT (x : EvT) : Ev := ⟨x.1, x.2.1, x.2.2.1, s3T x.2.2.2.1, x.2.2.2.2.1⟩
def knT (x : KnT) : Kn := ⟨x.1, x.2.1, s3T x.2.2.1⟩
def strT (x : StrT) : StrV := ⟨x.1, x.2.1.place, x.2.1.cap, x.2.1.xs.map evT, x.2.2.1.place, x.2.2.1.cap, x.2.2.1.xs.map knT⟩
def stpT (x : StpT) : StV := ⟨x.1, x.2.1, x.2.2.1.place, x.2.2.1.cap, x.2.2.1.xs.map evT, x.2.2.2.1.place, x.2.2.2.1.cap, x.2.2.2.1.xs.map strT, x.2.2.2.2.1.1, x.2.2.2.2.1.2.1, x.2.2.2.2.1.2.2.1, x.2.2.2.2.1.2.2.2.1⟩
theorem evT_of {W : World} {x : EvT} {c : List Value} (h : Opens.is (P := Tryz.prog) (t := 68) W x c) : c = (evT x).cells ∧ x.1.size ≤ 9223372036854775807 ∧ x.2.2.1.size ≤ 9223372036854775807 := by
  obtain ⟨h0, ⟨h1, g1⟩, ⟨h2, g2⟩, ⟨h3, g3⟩, ⟨h4, ⟨h5, _⟩, ⟨h6, _⟩, ⟨h7, _⟩, _⟩, ⟨h8, _⟩, _⟩ := h
  match c, h0 with
  | [c0, c1, c2, c3, c4, c5, c6], _ =>
    simp at h1 h2 h3 h5 h6 h7 h8
    subst h1 h2 h3 h5 h6 h7 h8
    refine ⟨rfl, ?_, ?_⟩
    · unfold maxLen at g1; omega
    · unfold maxLen at g3; omega
theorem ml {n : Nat} (h : n ≤ maxLen) : n ≤ 9223372036854775807 := by unfold maxLen at h; omega
theorem knT_of {W : World} {x : KnT} {c : List Value} (h : Opens.is (P := Tryz.prog) (t := 53) W x c) : c = (knT x).cells ∧ (knT x).key.size ≤ 9223372036854775807 := by
  obtain ⟨h0, ⟨h1, g1⟩, ⟨h2, g2⟩, ⟨h4, ⟨h5, _⟩, ⟨h6, _⟩, ⟨h7, _⟩, _⟩, _⟩ := h
  match c, h0 with
  | [c0, c1, c2, c3, c4], _ =>
    simp at h1 h2 h5 h6 h7
    subst h1 h2 h5 h6 h7
    exact ⟨rfl, ml g1⟩
theorem evT_of' {W : World} {x : EvT} {c : List Value} (h : Opens.is (P := Tryz.prog) (t := 68) W x c) : c = (evT x).cells ∧ ((evT x).st.size ≤ 9223372036854775807 ∧ (evT x).data.size ≤ 9223372036854775807) := evT_of h
theorem strT_of {W : World} {x : StrT} {c : List Value} (h : Opens.is (P := Tryz.prog) (t := 60) W x c) : c = (strT x).cells ∧ StrAt (Init W) (strT x) := by
  obtain ⟨h0, ⟨h1, g1⟩, ⟨h2, ge⟩, ⟨h3, gk⟩, _⟩ := h
  match c, h0 with
  | [c0, c1, c2], _ =>
    simp [SliceOf.val] at h1 h2 h3
    subst h1 h2 h3
    obtain ⟨e1, e2, e3⟩ := sl_in (f := evT) (R := fun y => y.st.size ≤ 9223372036854775807 ∧ y.data.size ≤ 9223372036854775807) (by decide) ge (fun x c => evT_of') (fun _ => rfl) ev_len
    obtain ⟨k1, k2, k3⟩ := sl_in (f := knT) (R := fun y => y.key.size ≤ 9223372036854775807) (by decide) gk (fun x c => knT_of) (fun _ => rfl) kn_len
    exact ⟨by simp [StrV.cells, strT], ⟨e1, k1, by simpa [strT] using e2, by simpa [strT] using k2, ml g1, ⟨fun x hx => (e3 x hx).1, fun x hx => (e3 x hx).2⟩, k3⟩⟩
set_option synthInstance.maxHeartbeats 400000 in
set_option synthInstance.maxSize 1000 in
theorem stpT_of {W : World} {x : StpT} {c : List Value} (h : Opens.is (P := Tryz.prog) (t := 36) W x c) : c = (stpT x).cells ∧ StepAt (Init W) (stpT x) := by
  obtain ⟨h0, ⟨h1, _⟩, ⟨h2, g2⟩, ⟨h3, ge⟩, ⟨h4, gs⟩, ⟨h5, ⟨h6, _⟩, ⟨h7, _⟩, ⟨h8, _⟩, ⟨h9, _⟩, _⟩, _⟩ := h
  match c, h0 with
  | [c0, c1, c2, c3, c4, c5, c6, c7], _ =>
    simp [SliceOf.val] at h1 h2 h3 h4 h6 h7 h8 h9
    subst h1 h2 h3 h4 h6 h7 h8 h9
    obtain ⟨e1, e2, e3⟩ := sl_in (f := evT) (R := fun y => y.st.size ≤ 9223372036854775807 ∧ y.data.size ≤ 9223372036854775807) (by decide) ge (fun x c => evT_of') (fun _ => rfl) ev_len
    obtain ⟨k1, k2, k3⟩ := sl_in (f := strT) (R := StrAt (Init W)) (by decide) gs (fun x c => strT_of) (fun _ => rfl) str_len
    exact ⟨by simp [StV.cells, stpT], ⟨e1, k1, k3, by simpa [stpT] using e2, by simpa [stpT] using k2, ml g2, ⟨fun x hx => (e3 x hx).1, fun x hx => (e3 x hx).2⟩⟩⟩
set_option synthInstance.maxHeartbeats 400000 in
set_option synthInstance.maxSize 1000 in
theorem stepsAt_of {W : World} {x : SliceOf StpT} {c : List Value} (h : Opens.is (P := Tryz.prog) (t := 22) W x c) : StepsAt (Init W) x.place (x.xs.map stpT) ∧ x.xs.length ≤ 9223372036854775807 := by
  obtain ⟨_, g⟩ := h
  obtain ⟨k1, k2, k3⟩ := sl_in (f := stpT) (R := StepAt (Init W)) (by decide) g (fun x c => stpT_of) (fun _ => rfl) stv_len
  exact ⟨⟨k1, k3⟩, k2⟩
end Go.Proofs.YtcgmliaahdpmcaaGreatDoor

namespace Go.Sl
variable {P : Program} {Γ : Ctx} {L R : List Chunk} {N : Nat} {fr : Fr} {Q : Exit → Act → World → Prop} {ops : Array Oper} {rest : List Oper}
def PostD (Γ : Ctx) (B : List Chunk) : Ending → World → Prop := fun e w => (∃ t v, e = .panicked [{ v := .iface t v, recovered := false }]) ∧ Holds Γ B w
def Dies (P : Program) (f : FuncId) (args : List Value) (A B : List Chunk) : Prop := ∀ Γ w, Holds Γ A w → Calls P f args.toArray w (PostD Γ B)
theorem fn_introD {f : FuncId} {fn : Func} {c : Code} {args : List Value} {A B : List Chunk}
    (hf : P.funcs[f]? = some fn) (hb : fn.body = some c) (hN : fn.ntmps = N) (hle : Nat.ble args.length N = true) (hfr : argFr 0 args = fr)
    (g : ∀ Γ, G Γ N fr A (c.wp P (bodyPost P fn (PostD Γ B)))) : Dies P f args A B := by
  intro Γ w hh
  refine calls_of_wp hf hb ?_
  have hle' := Nat.le_of_ble_eq_true hle
  refine g Γ _ w (by simp [hN]; omega) rfl ?_ hh
  intro t v h
  rw [← hfr] at h
  obtain ⟨_, h2⟩ := argFr_ok args 0 t v h
  simp only [Nat.sub_zero] at h2
  have hlt : t < args.length := (List.getElem?_eq_some_iff.1 h2).1
  have h3 : args[t] = v := by rw [List.getElem?_eq_getElem hlt] at h2; simpa using h2
  simp [Array.getD_eq_getD_getElem?, Array.getElem?_append, hlt, h3]
theorem g_dead {t : TypeId} {v : Value} {fn : Func} {B : List Chunk} (tk : Take L B R) : G Γ N fr L (bodyPost P fn (PostD Γ B) (.panic [{ v := .iface t v, recovered := false }])) :=
  fun _ _ _ hd _ hh => ⟨hd, ⟨t, v, rfl⟩, hh.takeDrop tk⟩
theorem g_then_panic {K : Act → World → Prop} {ch : List PanicEntry} (g : G Γ N fr L (Q (.panic ch))) : G Γ N fr L (Exit.then K Q (.panic ch)) := g
theorem g_in_panic {i : Nat} {ch : List PanicEntry} (g : G Γ N fr L (Q (.panic ch))) : G Γ N fr L (Exit.inBlock i Q (.panic ch)) := g
theorem g_halt {o : Oper} {M : List Chunk} {V : Value → Prop} (hg : Runs ops fr o.guard) (h : ∀ a w, fr.ok a → Holds Γ L w → ∃ v w', V v ∧ (execOp a.eval o).run P w = .halt (.panic v) w' ∧ Holds Γ M w')
    (K : ∀ v, V v → G Γ N fr M (Q (.panic [{ v, recovered := false }]))) : G Γ N fr L (wpList P ops Q (o :: rest)) := by
  intro a w hs hdf hf hh
  unfold wpList
  rw [if_pos (runs_wanted hf hg)]
  obtain ⟨v, w', hV, hr, hh'⟩ := h a w hf hh
  refine .inl ?_
  unfold Oper.wp
  rw [hr]
  exact K v hV a w' hs hdf hf hh'
section
variable {d : Nat} {dst : Option Tmp} {ty : TypeId} {pos : String} {aft : Array Edge} {gd : Option (Nat × Bool)} {x y z : Operand} {v u z' : Value} {t xt at_ : TypeId}
theorem g_callD {f : FuncId} {xs : List Operand} {vs : List Value} {tys : Array TypeId} {A B : List Chunk} [C : Callable P f]
    (fn : Dies P f vs A B) (hg : Runs ops fr gd) (he : Evs fr xs vs) (tk : Take L A R) (K : ∀ t v, G Γ N fr (B ++ R) (Q (.panic [{ v := .iface t v, recovered := false }]))) :
    G Γ N fr L (wpList P ops Q (⟨dst, .call ⟨.value (.func f), xs.toArray, tys⟩, ty, pos, aft, gd⟩ :: rest)) := by
  intro a w hs hdf hf hh
  unfold wpList
  rw [if_pos (runs_wanted (o := ⟨dst, .call ⟨.value (.func f), xs.toArray, tys⟩, ty, pos, aft, gd⟩) hf hg)]
  refine .inl ?_
  unfold Oper.wp
  rw [run_call he hf _ rfl]
  obtain ⟨m, dm, hr, hA⟩ := (hh.take tk).split
  refine (fn _ w hA).mono ?_
  rintro e w' ⟨⟨t, v, rfl⟩, hB⟩
  exact K t v a w' hs hdf hf (hB.join dm hr)
def ifaceD : TypeDesc → Bool
  | .interface _ => true
  | _ => false
theorem qs_makeI {td : TypeDesc} (D : TDesc P t td) (hi : ifaceD td = false) (hx : ev fr x = some v) : QStep P Γ fr ⟨some d, .makeInterface t x, ty, pos, aft, gd⟩ (.iface t v) :=
  qs_of (fun a w hf => by cases td <;> simp [ifaceD] at hi <;> simp [execOp, hf.ev hx, Instr.makeInterface, run_underlying D.desc])
theorem qs_eqlHeld {tr : TypeId} (h : P.isIface t = true) (hx : ev fr x = some (.iface xt v)) : QStep P Γ fr ⟨some d, .binOp .eql t x (.const .nilIface) tr, ty, pos, aft, gd⟩ (.bool false) :=
  qs_of (fun a w hf => by simp [execOp, hf.ev hx, show a.eval (.const .nilIface) = .nilIface from rfl, eqGuard, run_eql_iface_nil _ t h])
theorem qs_neqHeld {tr : TypeId} (h : P.isIface t = true) (hx : ev fr x = some (.iface xt v)) : QStep P Γ fr ⟨some d, .binOp .neq t x (.const .nilIface) tr, ty, pos, aft, gd⟩ (.bool true) :=
  qs_of (fun a w hf => by simp [execOp, hf.ev hx, show a.eval (.const .nilIface) = .nilIface from rfl, eqGuard, run_neq_iface_nil _ t h])
theorem qs_eqlNil {tr : TypeId} (h : P.isIface t = true) (hx : ev fr x = some .nilIface) : QStep P Γ fr ⟨some d, .binOp .eql t x (.const .nilIface) tr, ty, pos, aft, gd⟩ (.bool true) :=
  qs_of (fun a w hf => by simp [execOp, hf.ev hx, show a.eval (.const .nilIface) = .nilIface from rfl, eqGuard, run_eql_nil_nil_at _ t h])
theorem qs_neqNil {tr : TypeId} (h : P.isIface t = true) (hx : ev fr x = some .nilIface) : QStep P Γ fr ⟨some d, .binOp .neq t x (.const .nilIface) tr, ty, pos, aft, gd⟩ (.bool false) :=
  qs_of (fun a w hf => by simp [execOp, hf.ev hx, show a.eval (.const .nilIface) = .nilIface from rfl, eqGuard, run_neq_nil_nil_at _ t h])
theorem qs_assertYes {td : TypeDesc} (D : TDesc P at_ td) (hi : ifaceD td = false) (hx : ev fr x = some (.iface at_ v)) : QStep P Γ fr ⟨some d, .typeAssert x xt at_ true, ty, pos, aft, gd⟩ (.tuple #[v, .bool true]) :=
  qs_of (fun a w hf => by
    cases td <;> simp [ifaceD] at hi <;> simp [execOp, hf.ev hx, Instr.typeAssert, run_underlying D.desc])
theorem qs_assertNo {td : TypeDesc} (D : TDesc P at_ td) (hi : ifaceD td = false) (Zr : TZero P at_ z') (hx : ev fr x = some (.iface t v)) (ne : Nat.beq t at_ = false) : QStep P Γ fr ⟨some d, .typeAssert x xt at_ true, ty, pos, aft, gd⟩ (.tuple #[z', .bool false]) :=
  qs_of (fun a w hf => by
    have hne : ¬ t = at_ := fun e => by subst e; simp at ne
    cases td <;> simp [ifaceD] at hi <;> simp [execOp, hf.ev hx, Instr.typeAssert, run_underlying D.desc, hne, run_zeroValue' Zr.zero])
theorem qs_assertNil {td : TypeDesc} (D : TDesc P at_ td) (hi : ifaceD td = false) (Zr : TZero P at_ z') (hx : ev fr x = some .nilIface) : QStep P Γ fr ⟨some d, .typeAssert x xt at_ true, ty, pos, aft, gd⟩ (.tuple #[z', .bool false]) :=
  qs_of (fun a w hf => by
    cases td <;> simp [ifaceD] at hi <;> simp [execOp, hf.ev hx, Instr.typeAssert, run_underlying D.desc, run_zeroValue' Zr.zero])
theorem qs_assert1 {td : TypeDesc} (D : TDesc P at_ td) (hi : ifaceD td = false) (hx : ev fr x = some (.iface at_ v)) : QStep P Γ fr ⟨some d, .typeAssert x xt at_ false, ty, pos, aft, gd⟩ v :=
  qs_of (fun a w hf => by
    cases td <;> simp [ifaceD] at hi <;> simp [execOp, hf.ev hx, Instr.typeAssert, run_underlying D.desc])
def bltB (a b : ByteArray) : Bool := Op.bytesLess a.toList b.toList
theorem bytesLess_irr : ∀ (x : List UInt8), Op.bytesLess x x = false
  | [] => rfl
  | a :: x => by simp [Op.bytesLess, bytesLess_irr x]
theorem bytesLess_asym : ∀ (x y : List UInt8), Op.bytesLess x y = true → Op.bytesLess y x = false
  | [], [], _ => rfl
  | [], _ :: _, _ => by simp [Op.bytesLess]
  | _ :: _, [], h => by simp [Op.bytesLess] at h
  | a :: x, b :: y, h => by
    simp only [Op.bytesLess, Bool.or_eq_true, decide_eq_true_eq, Bool.and_eq_true, beq_iff_eq] at h
    simp only [Op.bytesLess, Bool.or_eq_false_iff, decide_eq_false_iff_not, Bool.and_eq_false_iff, beq_eq_false_iff_ne]
    rcases h with h | ⟨rfl, h⟩
    · have h' : a.toNat < b.toNat := h
      refine ⟨fun hc => ?_, .inl fun e => ?_⟩
      · have : b.toNat < a.toNat := hc
        omega
      · subst e; omega
    · exact ⟨fun hc => by have : a.toNat < a.toNat := hc; omega, .inr (bytesLess_asym x y h)⟩
theorem bytesLess_or : ∀ (x y : List UInt8), Op.bytesLess x y = true ∨ Op.bytesLess y x = true ∨ x = y
  | [], [] => .inr (.inr rfl)
  | [], _ :: _ => .inl rfl
  | _ :: _, [] => .inr (.inl rfl)
  | a :: x, b :: y => by
    simp only [Op.bytesLess, Bool.or_eq_true, decide_eq_true_eq, Bool.and_eq_true, beq_iff_eq, List.cons.injEq]
    rcases Nat.lt_trichotomy a.toNat b.toNat with h | h | h
    · exact .inl (.inl h)
    · have e : a = b := UInt8.toNat_inj.1 h
      subst e
      rcases bytesLess_or x y with h1 | h1 | h1
      · exact .inl (.inr ⟨rfl, h1⟩)
      · exact .inr (.inl (.inr ⟨rfl, h1⟩))
      · exact .inr (.inr ⟨rfl, h1⟩)
    · exact .inr (.inl (.inl h))
theorem qs_lssT {tr : TypeId} {a b : ByteArray} (hx : ev fr x = some (.string a)) (hy : ev fr y = some (.string b)) : QStep P Γ fr ⟨some d, .binOp .lss t x y tr, ty, pos, aft, gd⟩ (.bool (bltB a b)) :=
  qs_of (fun c w hf => by simp [execOp, hf.ev hx, hf.ev hy, eqGuard_at_string, binOp_string_lss, bltB])
theorem qs_geqT {tr : TypeId} {a b : ByteArray} (hx : ev fr x = some (.string a)) (hy : ev fr y = some (.string b)) : QStep P Γ fr ⟨some d, .binOp .geq t x y tr, ty, pos, aft, gd⟩ (.bool (!bltB a b)) :=
  qs_of (fun c w hf => by simp [execOp, hf.ev hx, hf.ev hy, eqGuard_at_string, binOp, Op.stringOp, bltB])
theorem qs_leqT {tr : TypeId} {a b : ByteArray} (hx : ev fr x = some (.string a)) (hy : ev fr y = some (.string b)) : QStep P Γ fr ⟨some d, .binOp .leq t x y tr, ty, pos, aft, gd⟩ (.bool (!bltB b a)) :=
  qs_of (fun c w hf => by
    have e : (Op.bytesLess a.toList b.toList || a.toList == b.toList) = !bltB b a := by
      unfold bltB
      rcases bytesLess_or a.toList b.toList with h | h | h
      · rw [h, bytesLess_asym _ _ h]; rfl
      · rw [h, bytesLess_asym _ _ h]
        have : a.toList ≠ b.toList := fun e => by rw [e, bytesLess_irr] at h; cases h
        simp [this]
      · rw [h, bytesLess_irr]; simp
    simp only [execOp, hf.ev hx, hf.ev hy, eqGuard_at_string, binOp, Op.stringOp]
    simp [e])
theorem s_iq {op : Op} (K : G Γ N ((d, v) :: fr) L (wpList P ops Q rest)) (hg : Runs ops fr gd := by exact rfl) (hN : Nat.blt d N = true := by exact rfl) (q : QStep P Γ fr ⟨some d, op, ty, pos, aft, gd⟩ v := by first | (apply qs_makeI; exact inferInstance; exact rfl; exact rfl) | (apply qs_assertYes; exact inferInstance; exact rfl; exact rfl) | (apply qs_assert1; exact inferInstance; exact rfl; exact rfl) | (apply qs_assertNo; exact inferInstance; exact rfl; exact inferInstance; exact rfl; (first | exact rfl | assumption)) | (apply qs_assertNil; exact inferInstance; exact rfl; exact inferInstance; exact rfl) | (apply qs_eqlHeld; kernel_rfl; exact rfl) | (apply qs_neqHeld; kernel_rfl; exact rfl) | (apply qs_eqlNil; kernel_rfl; exact rfl) | (apply qs_neqNil; kernel_rfl; exact rfl) | (apply qs_lssT; exact rfl; exact rfl) | (apply qs_geqT; exact rfl; exact rfl) | (apply qs_leqT; exact rfl; exact rfl) | fail) : G Γ N fr L (wpList P ops Q (⟨some d, op, ty, pos, aft, gd⟩ :: rest)) := g_q q hg hN K
theorem p_iq {op : Op} {i : Nat} {pl : Plan} (K : GP P ops Q Γ N ((d, v) :: fr) L pl) (hi : ops[i]? = some ⟨some d, op, ty, pos, aft, gd⟩ := by exact rfl) (hg : Runs ops fr gd := by exact rfl) (hN : Nat.blt d N = true := by exact rfl) (q : ∀ Δ, QStep P Δ fr ⟨some d, op, ty, pos, aft, gd⟩ v := by intro Δ; exact (by first | (apply qs_makeI; exact inferInstance; exact rfl; exact rfl) | (apply qs_assertYes; exact inferInstance; exact rfl; exact rfl) | (apply qs_assert1; exact inferInstance; exact rfl; exact rfl) | (apply qs_assertNo; exact inferInstance; exact rfl; exact inferInstance; exact rfl; (first | exact rfl | assumption)) | (apply qs_assertNil; exact inferInstance; exact rfl; exact inferInstance; exact rfl) | (apply qs_eqlHeld; kernel_rfl; exact rfl) | (apply qs_neqHeld; kernel_rfl; exact rfl) | (apply qs_eqlNil; kernel_rfl; exact rfl) | (apply qs_neqNil; kernel_rfl; exact rfl) | (apply qs_lssT; exact rfl; exact rfl) | (apply qs_geqT; exact rfl; exact rfl) | (apply qs_leqT; exact rfl; exact rfl) | fail)) : GP P ops Q Γ N fr L (.take i pl) := gp_q q hi hg hN K
theorem Holds.tail {c : Chunk} {w : World} (hh : Holds Γ (c :: L) w) : Holds Γ L w := hh.mono fun _ ⟨_, _, _, _, s2, _, r⟩ => r.mono s2
theorem g_assertD {td : TypeDesc} {T : TypeId} (D : TDesc P at_ td) (hi : ifaceD td = false) (Rt : P.underlying P.rt.typeAssertionError = some (.pointer T)) (hx : ev fr x = some (.iface t v)) (ne : Nat.beq t at_ = false) (hg : Runs ops fr gd)
    (K : ∀ t v, G Γ N fr L (Q (.panic [{ v := .iface t v, recovered := false }]))) : G Γ N fr L (wpList P ops Q (⟨dst, .typeAssert x xt at_ false, ty, pos, aft, gd⟩ :: rest)) := by
  have hne : ¬ t = at_ := fun e => by subst e; simp at ne
  refine g_halt (V := fun v => ∃ t u, v = .iface t u) hg (fun a w hf hh => ?_) (fun v ⟨t, u, e⟩ => by subst e; exact K t u)
  refine ⟨_, w.alloc (.cells #[typeHandle P xt, typeHandle P t, typeHandle P at_, strVal ""] T), ⟨P.rt.typeAssertionError, .pointer (some ⟨w.heap.size, 0, none⟩), rfl⟩, ?_, hh.newRow.tail⟩
  cases td <;> simp [ifaceD] at hi <;> simp [execOp, hf.ev hx, Instr.typeAssert, run_underlying D.desc, hne, runtimePanic, elemOf, run_underlying Rt, newVar, newRow, Value.cells]
def GD (ds : List Deferred) (Γ : Ctx) (N : Nat) (fr : Fr) (L : List Chunk) (φ : Act → World → Prop) : Prop :=
  ∀ a w, a.tmps.size = N → a.defers = ds → fr.ok a → Holds Γ L w → φ a w
variable {ds : List Deferred}
theorem gd_region {id : Nat} {l : List Oper} (g : GD ds Γ N fr L (wpList P l.toArray Q l)) : GD ds Γ N fr L ((Code.region id l.toArray false).wp P Q) := fun a w h1 h2 h3 h4 => wp_region_lit (g a w h1 h2 h3 h4)
theorem gd_seq {x y : Code} (g : GD ds Γ N fr L (x.wp P (Exit.then (y.wp P Q) Q))) : GD ds Γ N fr L ((Code.seq x y).wp P Q) := fun a w h1 h2 h3 h4 => wp_seq (g a w h1 h2 h3 h4)
theorem gd_nil (g : GD ds Γ N fr L (Q .normal)) : GD ds Γ N fr L (wpList P ops Q []) := g
theorem gd_then_normal {K : Act → World → Prop} (g : GD ds Γ N fr L K) : GD ds Γ N fr L (Exit.then K Q .normal) := g
theorem gd_then_panic {K : Act → World → Prop} {ch : List PanicEntry} (g : GD ds Γ N fr L (Q (.panic ch))) : GD ds Γ N fr L (Exit.then K Q (.panic ch)) := g
theorem gd_c {op : Op} {X : Type} {V : X → Value} {M : X → List Chunk} {φ : X → Prop} (q : CStep P Γ fr L ⟨some d, op, ty, pos, aft, gd⟩ V M φ) (hg : Runs ops fr gd) (hN : Nat.blt d N = true)
    (k : ∀ x, φ x → GD ds Γ N ((d, V x) :: fr) (M x) (wpList P ops Q rest)) : GD ds Γ N fr L (wpList P ops Q (⟨some d, op, ty, pos, aft, gd⟩ :: rest)) := by
  intro a w hs hdf hf hh
  unfold wpList
  rw [if_pos (runs_wanted (o := ⟨some d, op, ty, pos, aft, gd⟩) hf hg)]
  refine .inl (opRes.wp ((q a hf w hh).mono fun u w' ⟨x, hx, hu, hh'⟩ => ?_))
  subst hu
  exact k x hx _ _ (by simp [Act.put, hs]) hdf (hf.put (by rw [hs]; exact blt_lt hN) _) hh'
theorem gd_defer {f : FuncId} {xs : List Operand} {vs caps : List Value} {tys : Array TypeId} (hg : Runs ops fr gd) (hy : ev fr y = some (.func (.func f) #[] caps.toArray)) (he : Evs fr xs vs)
    (k : GD (⟨.fn (.func f) caps.toArray, vs.toArray⟩ :: ds) Γ N fr L (wpList P ops Q rest)) : GD ds Γ N fr L (wpList P ops Q (⟨none, .defer ⟨.value y, xs.toArray, tys⟩, ty, pos, aft, gd⟩ :: rest)) := by
  intro a w hs hdf hf hh
  unfold wpList
  rw [if_pos (runs_wanted (o := ⟨none, .defer ⟨.value y, xs.toArray, tys⟩, ty, pos, aft, gd⟩) hf hg)]
  refine .inl ?_
  unfold Oper.wp
  have e : (execOp a.eval ⟨none, .defer ⟨.value y, xs.toArray, tys⟩, ty, pos, aft, gd⟩).run P w = .ok (.defer ⟨.fn (.func f) caps.toArray, vs.toArray⟩) w := by
    simp [execOp, resolve, Deferred.ofValue, hf.ev hy, he.map hf]
  rw [e]
  exact k _ _ hs (by simp [Act.put, hdf]) (fun t v h => hf t v h) hh
theorem gd_callVD {f : FuncId} {xs : List Operand} {vs caps args : List Value} {tys : Array TypeId} {A B : List Chunk} [C : Callable P f]
    (fn : Dies P f args A B) (hg : Runs ops fr gd) (hy : ev fr y = some (.func (.func f) #[] caps.toArray)) (he : Evs fr xs vs) (ha : vs ++ caps = args) (tk : Take L A R) (K : ∀ t v, GD ds Γ N fr (B ++ R) (Q (.panic [{ v := .iface t v, recovered := false }]))) :
    GD ds Γ N fr L (wpList P ops Q (⟨dst, .call ⟨.value y, xs.toArray, tys⟩, ty, pos, aft, gd⟩ :: rest)) := by
  subst ha
  intro a w hs hdf hf hh
  unfold wpList
  rw [if_pos (runs_wanted (o := ⟨dst, .call ⟨.value y, xs.toArray, tys⟩, ty, pos, aft, gd⟩) hf hg)]
  refine .inl ?_
  unfold Oper.wp
  rw [run_callV hy he hf _ rfl]
  obtain ⟨m, dm, hr, hA⟩ := (hh.take tk).split
  refine (fn _ w hA).mono ?_
  rintro e w' ⟨⟨t, v, rfl⟩, hB⟩
  exact K t v a w' hs hdf hf (hB.join dm hr)
theorem gd_leave {f : FuncId} {fn : Func} {caps args : List Value} {t : TypeId} {v : Value} {M : List Chunk} {S : Ending → World → Prop} [C : Callable P f] (hres : fn.results = #[])
    (cl : ∀ w, Holds Γ L w → CallsD P f (args ++ caps).toArray (.panicking [{ v := .iface t v, recovered := false }]) w fun e u' w' => e = .returned (.tuple #[]) ∧ u' = .panicking [{ v := .iface t v, recovered := true }] ∧ Holds Γ M w')
    (hS : ∀ w, Holds Γ M w → S (.returned (.tuple #[])) w) : GD [⟨.fn (.func f) caps.toArray, args.toArray⟩] Γ N fr L (bodyPostD P fn S (.panic [{ v := .iface t v, recovered := false }])) := by
  intro a w hs hdf hf hh
  show Leaves P fn a.tmps S a.defers _ w
  rw [hdf]
  have e : (invoke (.fn (.func f) caps.toArray) args.toArray).run P w = .ok (.enter f (args ++ caps).toArray) w := by
    have := C.call (args ++ caps).toArray w
    have e2 : (args.toArray ++ caps.toArray) = (args ++ caps).toArray := by simp
    simp [invoke, e2, this]
  refine leaves_cons (by simp) e ((cl w hh).mono ?_)
  rintro e u' w' ⟨rfl, rfl, hM⟩
  exact ⟨.tuple #[], by simp [results, hres], hS w' hM⟩
theorem fn_introDf {X : Type} {f : FuncId} {fn : Func} {c : Code} {args : List Value} {A : List Chunk} {ret : X → Value} {B : X → List Chunk} {φ : X → Prop}
    (hf : P.funcs[f]? = some fn) (hb : fn.body = some c) (hN : fn.ntmps = N) (hle : Nat.ble args.length N = true) (hfr : argFr 0 args = fr)
    (g : ∀ Γ, GD [] Γ N fr A (c.wp P (bodyPostD P fn (Post Γ ret B φ)))) : Does P f args A ret B φ := by
  intro Γ w hh
  refine calls_of_wp_defers hf hb ?_
  have hle' := Nat.le_of_ble_eq_true hle
  refine g Γ _ w (by simp [hN]; omega) rfl ?_ hh
  intro t v h
  rw [← hfr] at h
  obtain ⟨_, h2⟩ := argFr_ok args 0 t v h
  simp only [Nat.sub_zero] at h2
  have hlt : t < args.length := (List.getElem?_eq_some_iff.1 h2).1
  have h3 : args[t] = v := by rw [List.getElem?_eq_getElem hlt] at h2; simpa using h2
  simp [Array.getD_eq_getD_getElem?, Array.getElem?_append, hlt, h3]
theorem wpOpsS_step {QS : Exit → Act → List Frame → World → Prop} {i : Nat} {l : List Nat} {a : Act} {cs : List Frame} {w : World} {o : Oper} (ho : ops[i]? = some o) (hw : Region.wanted o (yielded ops a.tmps) = true)
    (h : opRes P o a w fun u w' => wpOpsS P ops QS l (a.put o.dst u) cs w') : wpOpsS P ops QS (i :: l) a cs w := by
  have h2 := opRes.wp (Q := fun e a' w' => QS e a' cs w') (K := fun a' w' => wpOpsS P ops QS l a' cs w') h
  unfold wpOpsS
  simp only [ho, hw, if_true]
  unfold opRes at h
  unfold Oper.wp at h2
  generalize (execOp a.eval o).run P w = r at h h2
  split
  · simp [resIn] at h
  · exact h2
theorem wpOpsS_recover {QS : Exit → Act → List Frame → World → Prop} {i : Nat} {l : List Nat} {a : Act} {c₀ : Frame} {cs : List Frame} {w : World} {tys : Array TypeId} {older : List PanicEntry} (ho : ops[i]? = some ⟨dst, .call ⟨.builtin .recover, #[], tys⟩, ty, pos, aft, none⟩)
    (hm : c₀.mode = .panicking ({ v := v, recovered := false } :: older)) (h : wpOpsS P ops QS l (a.put dst v) ({ c₀ with mode := .panicking ({ v := v, recovered := true } :: older) } :: cs) w) : wpOpsS P ops QS (i :: l) a (c₀ :: cs) w := by
  unfold wpOpsS
  have hr : (execOp a.eval ⟨dst, .call ⟨.builtin .recover, #[], tys⟩, ty, pos, aft, none⟩).run P w = .ok .recover w := by simp [execOp, resolve, invoke, builtin]
  simp only [ho, hr, recoverD, hm]
  simp only [Region.wanted, if_true]
  exact h
end
theorem gS {φ ψ : Prop} (k : ψ) (h : ψ → φ := by first | exact g_seq | exact g_region | exact g_nil | exact g_then_normal | exact g_block | exact g_in_normal | exact g_retc | exact g_then_ret | exact g_in_ret | exact g_exit | exact g_then_exit | exact g_in_exit | exact g_in_other rfl | exact g_skip | exact g_label | exact g_cond_true rfl | exact g_cond_false rfl) : φ := h k
theorem sO {φ ψ : Prop} (k : ψ) (h : ψ → φ := by first | exact fun k => s_q k | exact fun k => s_v k | exact fun k => s_s k | exact fun k => s_x k | exact fun k => s_y k | exact fun k => s_iq k | exact fun k => s_mq k | exact fun k => s_mv k | exact fun k => s_ms k) : φ := h k
theorem pT {φ ψ : Prop} (k : ψ) (h : ψ → φ := by first | exact fun k => p_q k | exact fun k => p_x k | exact fun k => p_iq k | exact fun k => p_mq k) : φ := h k
theorem pS {φ ψ : Prop} (k : ψ) (h : ψ → φ := by first | exact fun k => p_sx k | exact fun k => p_sq k) : φ := h k
theorem pO {φ ψ : Prop} (k : ψ) (h : ψ → φ := by first | exact fun k => p_v k | exact fun k => p_s k | exact fun k => p_y k | exact fun k => p_mv k | exact fun k => p_ms k) : φ := h k
section
variable {P : Program} {Γ : Ctx} {L R : List Chunk} {N : Nat} {fr : Fr} {rs : List ResultVar} {vs : List Value} {fn : Func}
theorem gA {X : Type} {F : X → Fr} {M : X → List Chunk} {φ : X → Prop} {μ : X → Nat} {x : X} (x' : X) (lt : μ x' < μ x) (hx : φ x') (s : FrSub fr (F x') := by (repeat (first | exact FrSub.nil | refine FrSub.cons rfl ?_)); first | done | fail) (t : Take L (M x') R := by (repeat (first | exact Take.nil | apply Take.cons | exact Sel.here | apply Sel.there)); first | done | fail) : G Γ N fr L (Back Γ N F M φ μ x) := g_again x' lt hx s t
theorem gM {X : Type} {F : X → Fr} {M : X → List Chunk} {φ : X → Prop} (x : X) (hx : φ x) (s : FrSub fr (F x) := by (repeat (first | exact FrSub.nil | refine FrSub.cons rfl ?_)); first | done | fail) (t : Take L (M x) R := by (repeat (first | exact Take.nil | apply Take.cons | exact Sel.here | apply Sel.there)); first | done | fail) : G Γ N fr L (MidX Γ N F M φ .normal) := g_midX x hx s t
theorem gR {X : Type} {ret : X → Value} {B : X → List Chunk} {φ : X → Prop} (x : X) (hx : φ x) (hr : fn.results = rs.toArray := by exact rfl) (h : RVs P fr L rs vs := by (repeat (first | exact RVs.nil | apply RVs.tmp rfl | apply RVs.cellA rfl (by (repeat (first | exact Sel.here | apply Sel.there)); first | done | fail) (by (repeat (first | exact Cut.zero | apply Cut.take | apply Cut.skip)); first | done | fail) | apply RVs.cell1 rfl (by (repeat (first | exact Sel.here | apply Sel.there)); first | done | fail) rfl)); first | done | fail) (tk : Take L (B x) R := by (repeat (first | exact Take.nil | apply Take.cons | exact Sel.here | apply Sel.there)); first | done | fail) (hp : pack vs = ret x := by exact rfl) : G Γ N fr L (bodyPost P fn (Post Γ ret B φ) .ret) := g_ret x hr h tk hp hx
end
end Go.Sl
