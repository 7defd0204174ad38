/- Part 4: literals, calls, the ends of a function, what a function does. -/
import Derived.Test.YtpilcncdgjnbeaaDoorSlc
set_option linter.unusedSimpArgs false
set_option linter.unusedVariables false
namespace Go.Sl
variable {P : Program} {Γ : Ctx} {L R : List Chunk} {N : Nat} {fr : Fr} {Q : Exit → Act → World → Prop} {ops : Array Oper} {rest : List Oper}
variable {d : Nat} {ty : TypeId} {pos : String} {aft : Array Edge} {gd : Option (Nat × Bool)} {x y : Operand} {v u : Value} {t t2 : TypeId}

/-- A struct's fields' places are known. -/
class TPlaces (P : Program) (t : TypeId) : Prop where
  places : (match P.underlying t with | some (.struct fs) => (fs.toList.mapM (fun f => (P.info? f.type).map fun i => (f.offset, i.size))).isSome | _ => false) = true
theorem qs_build {ps : List (Nat × Operand)} {zs out : List Value} [Z : TZero P t (.agg zs.toArray)] [T : TPlaces P t] (b : Bld P fr t ps zs out) : QStep P Γ fr ⟨some d, .build t ps.toArray, ty, pos, aft, gd⟩ (.agg out.toArray) :=
  qs_of (fun a w hf => by
    have hp := T.places
    split at hp
    · rename_i fs hu
      obtain ⟨places, hpl⟩ := Option.isSome_iff_exists.1 hp
      have hfill := b.fill hf hu hpl
      have hrun : (Instr.build t (ps.map fun p => (p.1, a.eval p.2)).toArray).run P w = .ok (.agg out.toArray) w := by
        simp [Instr.build, run_zeroValue' Z.zero, run_underlying hu, Value.cells, Array.mapM_eq_mapM_toList, run_places w _ _ hpl, hfill]
      simp only [execOp]
      rw [show (ps.toArray.map fun (x : Nat × Operand) => (x.1, a.eval x.2)) = (ps.map fun p => (p.1, a.eval p.2)).toArray by simp]
      rw [Sem.run_bind, hrun]
      rfl
    · cases hp)
/-! ### Slice literals, all places filled -/
inductive App {α : Type} : List α → List α → List α → Prop where
  | nil {ys : List α} : App [] ys ys
  | cons {x : α} {xs ys zs : List α} : App xs ys zs → App (x :: xs) ys (x :: zs)
theorem App.eq {α : Type} {xs ys zs : List α} (h : App xs ys zs) : zs = xs ++ ys := by
  induction h with
  | nil => rfl
  | cons _ ih => simp [ih]
inductive Parts (fr : Fr) (n : Nat) : Nat → List (Nat × Operand) → List Value → Prop where
  | nil {i : Nat} : Parts fr n i [] []
  | cons {i : Nat} {x : Operand} {v : Value} {vs out all : List Value} {ps : List (Nat × Operand)} : ev fr x = some v → CellsOf v vs → Nat.beq vs.length n = true → Parts fr n (i + 1) ps out → App vs out all → Parts fr n i ((i, x) :: ps) all
theorem Parts.fill {n i : Nat} {ps : List (Nat × Operand)} {out : List Value} {a : Act} (h : Parts fr n i ps out) (hf : fr.ok a) : ∀ zs : List Value, i * n + out.length ≤ zs.length →
    out.length = ps.length * n ∧ Instr.fill (fun i => some (i * n, n)) zs.toArray (ps.map fun p => (p.1, a.eval p.2)) = some (zs.take (i * n) ++ out ++ zs.drop (i * n + out.length)).toArray := by
  induction h with
  | nil => intro zs _; simp [Instr.fill]
  | @cons i x v vs out all ps hx hc hn _ happ ih =>
    intro zs hle
    obtain rfl := happ.eq
    have hvn : vs.length = n := Nat.eq_of_beq_eq_true hn
    have hsz : v.cells.size = n := by rw [hc.eq]; simpa using hvn
    simp only [List.length_append] at hle
    have hexp : (i + 1) * n = i * n + n := Nat.succ_mul i n
    have hfold := foldl_put (i * n) vs 0 zs (by omega)
    simp only [Nat.add_zero] at hfold
    have hlen2 : (zs.take (i * n) ++ vs ++ zs.drop (i * n + vs.length)).length = zs.length := by simp; omega
    obtain ⟨h1, h2⟩ := ih (zs.take (i * n) ++ vs ++ zs.drop (i * n + vs.length)) (by rw [hlen2, hexp]; omega)
    refine ⟨by simp only [List.length_append, List.length_cons]; rw [h1, hvn, Nat.succ_mul]; omega, ?_⟩
    simp only [List.map_cons, Instr.fill, hf.ev hx]
    rw [if_neg (by rw [hsz]; simp; omega)]
    rw [hc.eq]
    have e : (vs.toArray.zipIdx.foldl (fun cs (x : Value × Nat) => cs.setIfInBounds (i * n + x.2) x.1) zs.toArray) = (zs.take (i * n) ++ vs ++ zs.drop (i * n + vs.length)).toArray := by
      rw [← hfold, ← Array.foldl_toList, Array.toList_zipIdx]
    have e' : (vs.toArray.zipIdx.foldl (fun cs x => match x with | (c, j) => cs.setIfInBounds (i * n + j) c) zs.toArray) = (zs.take (i * n) ++ vs ++ zs.drop (i * n + vs.length)).toArray := e
    rw [e', h2]
    have hl1 : (zs.take (i * n) ++ vs).length = (i + 1) * n := by simp; omega
    have e2 : (zs.take (i * n) ++ vs ++ zs.drop (i * n + vs.length)).take ((i + 1) * n) = zs.take (i * n) ++ vs := List.take_left' hl1
    have e3 : (zs.take (i * n) ++ vs ++ zs.drop (i * n + vs.length)).drop ((i + 1) * n + out.length) = zs.drop (i * n + (vs.length + out.length)) := by
      rw [← hl1, ← List.drop_drop, List.drop_left, List.drop_drop, Nat.add_assoc]
    rw [e2, e3]
    simp only [List.append_assoc, List.length_append]
theorem cs_buildSlice {e : TypeId} {n len : Nat} {z : Value} {ps : List (Nat × Operand)} {out : List Value} [S : TDesc P t (.slice e)] [Z : TSize P e n] [Y : TZero P e z] (hl : Nat.beq ps.length len = true) (hp : Nat.blt 0 (len * n) = true) (hsm : Nat.ble (len * n) 16777216 = true) (b : Parts fr n 0 ps out) :
    CStep P Γ fr L ⟨some d, .buildSlice t len ps.toArray, ty, pos, aft, gd⟩ (X := Nat) (fun b => .slice (some ⟨b, 0, none⟩) len len) (fun b => .row b out e :: L) (fun _ => True) :=
  cs_of (fun a w hf hh => by
      have hlen : ps.length = len := Nat.eq_of_beq_eq_true hl
      cases hie : P.info? e with
      | none => have := Z.size; simp [hie] at this
      | some ie =>
        have hs : ie.size = n := by have := Z.size; simpa [hie] using this
        have hz : ie.zero = some z := by have := Y.zero; simpa [hie] using this
        have hsm' : ¬ len * ie.size > 2 ^ 24 := by rw [hs]; have := Nat.le_of_ble_eq_true hsm; omega
        have hp' : ¬ len * ie.size = 0 := by rw [hs]; have := Nat.le_of_ble_eq_true hp; omega
        have hfl := b.fill hf ((List.range (len * n)).map (z.cells[· % z.cells.size]!)) (by
          obtain ⟨h1, _⟩ := b.fill hf (List.replicate out.length undef) (by simp)
          rw [h1, hlen]; simp)
        have hol : out.length = len * n := by rw [hfl.1, hlen]
        have hfill : Instr.fill (fun i => some (i * ie.size, ie.size)) ((Array.range (len * ie.size)).map (z.cells[· % z.cells.size]!)) (ps.map fun p => (p.1, a.eval p.2)) = some out.toArray := by
          rw [hs, show (Array.range (len * n)).map (z.cells[· % z.cells.size]!) = ((List.range (len * n)).map (z.cells[· % z.cells.size]!)).toArray by simp [← List.toArray_range]]
          rw [hfl.2, hol]
          simp
        have hrun := run_buildSlice (P := P) w t e len (ps.map fun p => (p.1, a.eval p.2)).toArray out.toArray ie z S.desc hie hz hsm' hp' (by simpa using hfill)
        refine ⟨w.heap.size, _, trivial, ?_, hh.newRow (e := e) (xs := out.toArray)⟩
        simp only [execOp]
        rw [show (ps.toArray.map fun (x : Nat × Operand) => (x.1, a.eval x.2)) = (ps.map fun p => (p.1, a.eval p.2)).toArray by simp]
        rw [Sem.run_bind, hrun]
        rfl)

/-! ### len -/
theorem qs_lenSlice {e : TypeId} {p : Option Addr} {n c : Nat} [S : TDesc P t (.slice e)] (hx : ev fr x = some (.slice p n c)) : QStep P Γ fr ⟨some d, .call ⟨.builtin .len, [x].toArray, [t].toArray⟩, ty, pos, aft, gd⟩ (.int .i64 n) :=
  qs_of (fun a w hf => by simp [execOp, resolve, hf.ev hx, invoke, builtin, Builtin.len_, run_underlying S.desc, goInt])
theorem qs_lenString {s : ByteArray} [S : TDesc P t .string] (hx : ev fr x = some (.string s)) : QStep P Γ fr ⟨some d, .call ⟨.builtin .len, [x].toArray, [t].toArray⟩, ty, pos, aft, gd⟩ (.int .i64 s.size) :=
  qs_of (fun a w hf => by simp [execOp, resolve, hf.ev hx, invoke, builtin, Builtin.len_, run_underlying S.desc, goInt])
/-! ### What a function does -/
def Post {X : Type} (Γ : Ctx) (ret : X → Value) (B : X → List Chunk) (φ : X → Prop) : Ending → World → Prop :=
  fun e w => ∃ x, φ x ∧ e = .returned (ret x) ∧ Holds Γ (B x) w
/-- Over the chunks A it hands back ret x and leaves the chunks B x, for an x of which φ holds. -/
def Does (P : Program) (f : FuncId) (args : List Value) (A : List Chunk) {X : Type} (ret : X → Value) (B : X → List Chunk) (φ : X → Prop) : Prop :=
  ∀ Γ w, Holds Γ A w → Calls P f args.toArray w (Post Γ ret B φ)
/-- .. one value, the chunks as they were. -/
abbrev Does1 (P : Program) (f : FuncId) (args : List Value) (A : List Chunk) (v : Value) : Prop := Does P f args A (X := Unit) (fun _ => v) (fun _ => A) (fun _ => True)

inductive Evs (fr : Fr) : List Operand → List Value → Prop where
  | nil : Evs fr [] []
  | cons {x : Operand} {v : Value} {xs : List Operand} {vs : List Value} : ev fr x = some v → Evs fr xs vs → Evs fr (x :: xs) (v :: vs)
theorem Evs.map {xs : List Operand} {vs : List Value} {a : Act} (h : Evs fr xs vs) (hf : fr.ok a) : xs.map a.eval = vs := by
  induction h with
  | nil => rfl
  | cons e _ ih => simp [hf.ev e, ih]

theorem run_call {f : FuncId} {xs : List Operand} {vs : List Value} {tys : Array TypeId} {a : Act} {w : World} [C : Callable P f] (he : Evs fr xs vs) (hf : fr.ok a) (o : Oper) (ho : o.op = .call ⟨.value (.func f), xs.toArray, tys⟩) :
    (execOp a.eval o).run P w = .ok (.enter f vs.toArray) w := by
  have := C.call vs.toArray w
  simp [execOp, ho, resolve, Deferred.ofValue, invoke, Act.eval, he.map hf, this]

theorem cs_call {X : Type} {f : FuncId} {xs : List Operand} {vs : List Value} {tys : Array TypeId} {A : List Chunk} {ret : X → Value} {B : X → List Chunk} {φ : X → Prop} {dst : Option Tmp} [C : Callable P f]
    (fn : Does P f vs A ret B φ) (he : Evs fr xs vs) (tk : Take L A R) : CStep P Γ fr L ⟨dst, .call ⟨.value (.func f), xs.toArray, tys⟩, ty, pos, aft, gd⟩ ret (fun x => B x ++ R) φ := by
  intro a hf w hh
  unfold opRes
  rw [run_call he hf _ rfl]
  obtain ⟨m, dm, hr, hA⟩ := (hh.take tk).split
  refine (fn _ w hA).mono ?_
  rintro e w' ⟨x, hx, rfl, hB⟩
  exact ⟨_, rfl, x, hx, rfl, hB.join dm hr⟩
/-- One value, the chunks as they were: nothing is named. -/
theorem cs_call1 {f : FuncId} {xs : List Operand} {vs : List Value} {tys : Array TypeId} {A : List Chunk} {dst : Option Tmp} [C : Callable P f]
    (fn : Does1 P f vs A v) (he : Evs fr xs vs) (tk : Take L A R) : CStep P Γ fr L ⟨dst, .call ⟨.value (.func f), xs.toArray, tys⟩, ty, pos, aft, gd⟩ (X := Unit) (fun _ => v) (fun _ => A ++ R) (fun _ => True) := cs_call fn he tk
/-- .. of no chunks. -/
theorem qs_call {f : FuncId} {xs : List Operand} {vs : List Value} {tys : Array TypeId} {dst : Option Tmp} [C : Callable P f]
    (fn : Does1 P f vs [] v) (he : Evs fr xs vs) : QStep P Γ fr ⟨dst, .call ⟨.value (.func f), xs.toArray, tys⟩, ty, pos, aft, gd⟩ v := fun a hf L w hh =>
  (cs_call fn he (Take.nil (L := L)) a hf w hh).mono fun u w' ⟨_, _, e, h⟩ => ⟨e, h⟩
theorem g_call {X : Type} {f : FuncId} {xs : List Operand} {vs : List Value} {tys : Array TypeId} {A : List Chunk} {ret : X → Value} {B : X → List Chunk} {φ : X → Prop} [C : Callable P f]
    (fn : Does P f vs A ret B φ) (hg : Runs ops fr gd) (hN : Nat.blt d N = true) (he : Evs fr xs vs) (tk : Take L A R)
    (k : ∀ x, φ x → G Γ N ((d, ret x) :: fr) (B x ++ R) (wpList P ops Q rest)) : G Γ N fr L (wpList P ops Q (⟨some d, .call ⟨.value (.func f), xs.toArray, tys⟩, ty, pos, aft, gd⟩ :: rest)) :=
  g_c (cs_call fn he tk) hg hN k
theorem g_call1 {f : FuncId} {xs : List Operand} {vs : List Value} {tys : Array TypeId} {A : List Chunk} [C : Callable P f]
    (fn : Does1 P f vs A v) (hg : Runs ops fr gd) (hN : Nat.blt d N = true) (he : Evs fr xs vs) (tk : Take L A R)
    (k : G Γ N ((d, v) :: fr) (A ++ R) (wpList P ops Q rest)) : G Γ N fr L (wpList P ops Q (⟨some d, .call ⟨.value (.func f), xs.toArray, tys⟩, ty, pos, aft, gd⟩ :: rest)) :=
  g_call fn hg hN he tk fun _ _ => k

/-! ### Its ends -/
inductive RVs (P : Program) (fr : Fr) (L : List Chunk) : List ResultVar → List Value → Prop where
  | nil : RVs P fr L [] []
  | tmp {t : Nat} {v : Value} {rs : List ResultVar} {vs : List Value} : look fr t = some v → RVs P fr L rs vs → RVs P fr L (.tmp t :: rs) (v :: vs)
  | cellA {t b o n : Nat} {ty e : TypeId} {fz : Nat × Nat} {xs cs : List Value} {R : List Chunk} {rs : List ResultVar} {vs : List Value} [T : TAgg P ty n] :
      look fr t = some (.pointer (some ⟨b, o, none⟩)) → Sel L (.row b xs e fz) R → Cut xs o n cs → RVs P fr L rs vs → RVs P fr L (.cell t ty :: rs) (.agg cs.toArray :: vs)
  | cell1 {t b o : Nat} {ty e : TypeId} {fz : Nat × Nat} {v : Value} {xs : List Value} {R : List Chunk} {rs : List ResultVar} {vs : List Value} [T : TOne P ty] :
      look fr t = some (.pointer (some ⟨b, o, none⟩)) → Sel L (.row b xs e fz) R → xs[o]? = some v → RVs P fr L rs vs → RVs P fr L (.cell t ty :: rs) (v :: vs)
def pack : List Value → Value
  | [v] => v
  | vs => .tuple vs.toArray
def rvSem (tmps : Array Value) : ResultVar → Sem Value
  | .tmp t => pure (tmps.getD t undef)
  | .cell a t => do loadVar t (← asAddr (tmps.getD a undef))
theorem RVs.run {rs : List ResultVar} {vs : List Value} {a : Act} {w : World} (h : RVs P fr L rs vs) (hf : fr.ok a) (hh : Holds Γ L w) : (rs.mapM (rvSem a.tmps)).run P w = .ok vs w := by
  induction h with
  | nil => simp
  | tmp hl _ ih =>
    have e := hf _ _ hl
    simp only [List.mapM_cons, rvSem]
    rw [Sem.run_bind, Sem.run_pure, Result.andThen_ok, Sem.run_bind, ih]
    simp only [Result.andThen_ok, Sem.run_pure, e]
  | @cellA t b o n ty e fz xs cs R rs vs T hl s c _ ih =>
    have e := hf _ _ hl
    have hv := run_loadA (P := P) (t := ty) (w := w) (b := b) (o := o) T.row T.size c.get.1 (fun j v hv => hh.cell s (reads_row (c.get.2 j v hv)))
    have hv' : (loadVar ty ⟨b, o, none⟩).run P w = .ok (.agg cs.toArray) w := by simpa [Instr.loadAt, Instr.sureAddr] using hv
    simp only [List.mapM_cons, rvSem, e, asAddr]
    rw [Sem.run_bind, Sem.run_bind, Sem.run_pure, Result.andThen_ok, hv', Result.andThen_ok, Sem.run_bind, ih]
    simp
  | @cell1 t b o ty e fz v xs R rs vs T hl s c _ ih =>
    have e := hf _ _ hl
    have hv := run_load1 (P := P) (t := ty) (w := w) (a := ⟨b, o, none⟩) T.row (hh.cell s (reads_row c))
    have hv' : (loadVar ty ⟨b, o, none⟩).run P w = .ok v w := by simpa [Instr.loadAt, Instr.sureAddr] using hv
    simp only [List.mapM_cons, rvSem, e, asAddr]
    rw [Sem.run_bind, Sem.run_bind, Sem.run_pure, Result.andThen_ok, hv', Result.andThen_ok, Sem.run_bind, ih]
    simp
theorem RVs.res {fn : Func} {rs : List ResultVar} {vs : List Value} {a : Act} {w : World} (hr : fn.results = rs.toArray) (h : RVs P fr L rs vs) (hf : fr.ok a) (hh : Holds Γ L w) : (Go.results fn a.tmps).run P w = .ok (pack vs) w := by
  have hm := h.run hf hh
  have : Go.results fn a.tmps = (do let vs ← fn.results.mapM (rvSem a.tmps); pure (if h : vs.size = 1 then vs[0] else .tuple vs)) := by
    unfold Go.results
    congr 1
  rw [this, hr, Array.mapM_eq_mapM_toList]
  simp only [Sem.run_bind, Sem.run_map, hm, Result.andThen_ok, Sem.run_pure]
  congr 1
  match vs with
  | [] => rfl
  | [v] => rfl
  | v :: u :: vs => simp [pack]
section
variable {X : Type} {fn : Func} {ret : X → Value} {B : X → List Chunk} {φ : X → Prop} {rs : List ResultVar} {vs : List Value}
theorem g_ret (x : X) (hr : fn.results = rs.toArray) (h : RVs P fr L rs vs) (tk : Take L (B x) R) (hp : pack vs = ret x) (hx : φ x) : G Γ N fr L (bodyPost P fn (Post Γ ret B φ) .ret) :=
  fun _ _ _ hd hf hh => ⟨hd, _, RVs.res hr h hf hh, x, hx, by rw [hp], hh.takeDrop tk⟩
theorem g_end (x : X) (hr : fn.results = rs.toArray) (h : RVs P fr L rs vs) (tk : Take L (B x) R) (hp : pack vs = ret x) (hx : φ x) : G Γ N fr L (bodyPost P fn (Post Γ ret B φ) .normal) :=
  fun _ _ _ hd hf hh => ⟨hd, _, RVs.res hr h hf hh, x, hx, by rw [hp], hh.takeDrop tk⟩
end
def argFr : Nat → List Value → Fr
  | _, [] => []
  | i, v :: vs => (i, v) :: argFr (i + 1) vs
theorem argFr_ok : ∀ (vs : List Value) (i t : Nat) (v : Value), look (argFr i vs) t = some v → i ≤ t ∧ vs[t - i]? = some v
  | [], _, _, _, h => by simp [argFr, look] at h
  | u :: us, i, t, v, h => by
    simp only [argFr, look] at h
    cases hb : Nat.beq i t with
    | true => rw [hb] at h; simp at h; subst h; have := Nat.eq_of_beq_eq_true hb; subst this; simp
    | false =>
      rw [hb] at h
      have := argFr_ok us (i + 1) t v (by simpa using h)
      refine ⟨by omega, ?_⟩
      rw [show t - i = (t - (i + 1)) + 1 by omega]
      simpa using this.2
theorem fn_intro {X : Type} {f : FuncId} {fn : Func} {c : Code} {args : List Value} {A : List Chunk} {ret : X → Value} {B : X → List Chunk} {φ : X → Prop}
    (hf : P.funcs[f]? = some fn) (hb : fn.body = some c) (hN : fn.ntmps = N) (hle : Nat.ble args.length N = true) (hfr : argFr 0 args = fr)
    (g : ∀ Γ, G Γ N fr A (c.wp P (bodyPost P fn (Post Γ ret B φ)))) : Does P f args A ret B φ := by
  intro Γ w hh
  refine calls_of_wp hf hb ?_
  have hle' := Nat.le_of_ble_eq_true hle
  refine g Γ _ w (by simp [hN]; omega) rfl ?_ hh
  intro t v h
  rw [← hfr] at h
  obtain ⟨_, h2⟩ := argFr_ok args 0 t v h
  simp only [Nat.sub_zero] at h2
  have hlt : t < args.length := (List.getElem?_eq_some_iff.1 h2).1
  have h3 : args[t] = v := by rw [List.getElem?_eq_getElem hlt] at h2; simpa using h2
  simp [Array.getD_eq_getD_getElem?, Array.getElem?_append, hlt, h3]
end Go.Sl
