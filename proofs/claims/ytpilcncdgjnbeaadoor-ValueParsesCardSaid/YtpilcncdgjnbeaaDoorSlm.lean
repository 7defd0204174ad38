/- Part 13: rules for slices and maps, each with the search for what it leaves open. -/
import Derived.Test.YtpilcncdgjnbeaaDoorSll
set_option linter.unusedSimpArgs false
set_option linter.unusedVariables false
namespace Go.Sl
variable {P : Program} {Γ : Ctx} {L R : List Chunk} {N : Nat} {fr : Fr} {Q : Exit → Act → World → Prop} {ops : Array Oper} {rest : List Oper}
variable {d : Nat} {ty : TypeId} {pos : String} {aft : Array Edge} {gd : Option (Nat × Bool)} {x y z : Operand} {v u : Value} {t t2 tx : TypeId}
/-! ### Numbers that are known to be alike, or not -/
theorem qs_eqlT {i : IntKind} {a b : Int} (hx : ev fr x = some (.int i a)) (hy : ev fr y = some (.int i b)) (h : a = b) : QStep P Γ fr ⟨some d, .binOp .eql t x y t2, ty, pos, aft, gd⟩ (.bool true) := by
  have := qs_eql (P := P) (Γ := Γ) (d := d) (t := t) (t2 := t2) (ty := ty) (pos := pos) (aft := aft) (gd := gd) hx hy
  rwa [decide_eq_true h] at this
theorem qs_eqlF {i : IntKind} {a b : Int} (hx : ev fr x = some (.int i a)) (hy : ev fr y = some (.int i b)) (h : a ≠ b) : QStep P Γ fr ⟨some d, .binOp .eql t x y t2, ty, pos, aft, gd⟩ (.bool false) := by
  have := qs_eql (P := P) (Γ := Γ) (d := d) (t := t) (t2 := t2) (ty := ty) (pos := pos) (aft := aft) (gd := gd) hx hy
  rwa [decide_eq_false h] at this
/-- Structs that are alike, or not, by a proof. -/
theorem qs_eqAT {fs : List (TypeId × Nat)} {xs ys : List Value} {r : Bool} (T : TFields P t fs) (hx : ev fr x = some (.agg xs.toArray)) (hy : ev fr y = some (.agg ys.toArray)) (h : EqFs P 3 xs ys fs r) (hr : r = true) : QStep P Γ fr ⟨some d, .binOp .eql t x y t2, ty, pos, aft, gd⟩ (.bool true) := by
  subst hr; exact qs_eqA hx hy h
theorem qs_neAT {fs : List (TypeId × Nat)} {xs ys : List Value} {r : Bool} (T : TFields P t fs) (hx : ev fr x = some (.agg xs.toArray)) (hy : ev fr y = some (.agg ys.toArray)) (h : EqFs P 3 xs ys fs r) (hr : r = true) : QStep P Γ fr ⟨some d, .binOp .neq t x y t2, ty, pos, aft, gd⟩ (.bool false) := by
  subst hr; exact qs_neA hx hy h
/-! ### Tests for nil -/
theorem run_eqNilSIn {e : TypeId} {p : Option Addr} {n c : Nat} (h : P.underlying t = some (.slice e)) (w : World) (m : Nat) : (Op.equalIn (m + 1) t (.slice p n c) (.slice none 0 0)).run P w = .ok p.isNone w := by
  cases p <;> simp [Op.equalIn, run_underlying h]
theorem run_eqNilMIn {k e : TypeId} {p : Option Nat} (h : P.underlying t = some (.map k e)) (w : World) (m : Nat) : (Op.equalIn (m + 1) t (.map p) (.map none)).run P w = .ok p.isNone w := by
  cases p <;> simp [Op.equalIn, run_underlying h]
theorem qs_eqNilS {e : TypeId} {p : Option Addr} {n c : Nat} (D : TDesc P t (.slice e)) (hx : ev fr x = some (.slice p n c)) (hy : ev fr y = some (.slice none 0 0)) : QStep P Γ fr ⟨some d, .binOp .eql t x y t2, ty, pos, aft, gd⟩ (.bool p.isNone) :=
  qs_of (fun a w hf => by
    have hb : binOp .eql t (.slice p n c) (.slice none 0 0) = (do pure (.bool (← Op.equal t (.slice p n c) (.slice none 0 0)))) := by cases p <;> rfl
    have h2 : (Op.equal t (.slice p n c) (.slice none 0 0)).run P w = .ok p.isNone w := run_eqNilSIn D.desc w 9999
    simp only [execOp, hf.ev hx, hf.ev hy, eqGuard_at_slice, hb]
    simp [h2])
theorem qs_eqNilM {k e : TypeId} {p : Option Nat} (D : TDesc P t (.map k e)) (hx : ev fr x = some (.map p)) (hy : ev fr y = some (.map none)) : QStep P Γ fr ⟨some d, .binOp .eql t x y t2, ty, pos, aft, gd⟩ (.bool p.isNone) :=
  qs_of (fun a w hf => by
    have hb : binOp .eql t (.map p) (.map none) = (do pure (.bool (← Op.equal t (.map p) (.map none)))) := by cases p <;> rfl
    have h2 : (Op.equal t (.map p) (.map none)).run P w = .ok p.isNone w := run_eqNilMIn D.desc w 9999
    simp only [execOp, hf.ev hx, hf.ev hy, eqGuard_at_map, hb]
    simp [h2])
/-! ### A literal of no places -/
theorem cs_buildSlice0 {e : TypeId} {n : Nat} (D : TDesc P t (.slice e)) (S : TSize P e n) : CStep P Γ fr L ⟨some d, .buildSlice t 0 (List.toArray []), ty, pos, aft, gd⟩ (X := Nat) (fun b => .slice (some ⟨b, 0, none⟩) 0 0) (fun b => .own (some ⟨b, 0, none⟩) 0 0 n [] e :: L) (fun _ => True) :=
  cs_of (fun a w hf hh => by
    refine ⟨w.heap.size, w.alloc (.cells #[] e), trivial, ?_, ?_⟩
    · simp [execOp, Instr.buildSlice, run_underlying D.desc, run_sizeOf' S.size, Instr.fill, newRow]
      have h0 : Array.range 0 = #[] := by
        apply Array.ext'
        simp
      rw [h0, Array.map_empty]
    · exact (hh.newRow (e := e) (xs := #[])).toOwn (R := L) (xs := []) (by simp) rfl)
theorem ss_delete {κ : Type} [DecidableEq κ] [K : MapKey κ] {b : Nat} {M : List (κ × Value)} {kt et : TypeId} {kd : TypeDesc} {k : κ} (D : TDesc P t (.map kt et)) (E : TDesc P kt kd) (hk : K.kind kd) (hx : ev fr x = some (.map (some b))) (hy : ev fr y = some (K.v k)) (s : Sel L (.map b M) R) :
    SStep P Γ fr L ⟨none, .call ⟨.builtin .delete, [x, y].toArray, [t, t2].toArray⟩, ty, pos, aft, gd⟩ (.map b (mdel M k) :: R) := fun a hf w hh =>
  ((cs_delete (d := 0) (dst := none) (ty := ty) (pos := pos) (aft := aft) (gd := gd) (t2 := t2) D E hk hx hy s) a hf w hh).mono fun _ _ ⟨_, _, _, h⟩ => h
/-! ### Lookups that are known -/
theorem vs_lookS {κ : Type} [DecidableEq κ] [K : MapKey κ] {b : Nat} {M : List (κ × Value)} {kt et : TypeId} {kd : TypeDesc} {k : κ} {zv : Value} (D : TDesc P t (.map kt et)) (E : TDesc P kt kd) (Z : TZero P et zv) (hk : K.kind kd) (hx : ev fr x = some (.map (some b))) (hy : ev fr y = some (K.v k)) (s : Sel L (.map b M) R) (h : mget M k = some v) :
    VStep P Γ fr L ⟨some d, .lookup t x y true, ty, pos, aft, gd⟩ (.tuple #[v, .bool true]) := by
  have := vs_lookup (Γ := Γ) (d := d) (ty := ty) (pos := pos) (aft := aft) (gd := gd) (ok := true) D E Z hk hx hy s
  rwa [h] at this
theorem vs_lookN {κ : Type} [DecidableEq κ] [K : MapKey κ] {b : Nat} {M : List (κ × Value)} {kt et : TypeId} {kd : TypeDesc} {k : κ} {zv : Value} (D : TDesc P t (.map kt et)) (E : TDesc P kt kd) (Z : TZero P et zv) (hk : K.kind kd) (hx : ev fr x = some (.map (some b))) (hy : ev fr y = some (K.v k)) (s : Sel L (.map b M) R) (h : mget M k = none) :
    VStep P Γ fr L ⟨some d, .lookup t x y true, ty, pos, aft, gd⟩ (.tuple #[zv, .bool false]) := by
  have := vs_lookup (Γ := Γ) (d := d) (ty := ty) (pos := pos) (aft := aft) (gd := gd) (ok := true) D E Z hk hx hy s
  rwa [h] at this
theorem vs_lookNil {κ : Type} [DecidableEq κ] [K : MapKey κ] {kt et : TypeId} {kd : TypeDesc} {k : κ} {zv : Value} (D : TDesc P t (.map kt et)) (E : TDesc P kt kd) (Z : TZero P et zv) (hk : K.kind kd) (hx : ev fr x = some (.map none)) (hy : ev fr y = some (K.v k)) :
    QStep P Γ fr ⟨some d, .lookup t x y true, ty, pos, aft, gd⟩ (.tuple #[zv, .bool false]) := vs_lookupNil (ok := true) D E Z hk hx hy
theorem kindI : MapKey.kind Int (.int .i64) := rfl
theorem kindS : MapKey.kind ByteArray .string := rfl
/-! ### The rules -/
theorem s_qe {op : Op} (K : G Γ N ((d, v) :: fr) L (wpList P ops Q rest)) (hg : Runs ops fr gd := by exact rfl) (hN : Nat.blt d N = true := by exact rfl) (q : QStep P Γ fr ⟨some d, op, ty, pos, aft, gd⟩ v := by first | (apply qs_eqlT; exact rfl; exact rfl; exact heq) | (apply qs_eqlF; exact rfl; exact rfl; exact hne) | fail) : G Γ N fr L (wpList P ops Q (⟨some d, op, ty, pos, aft, gd⟩ :: rest)) := g_q q hg hN K
theorem p_qe {op : Op} {i : Nat} {pl : Plan} (K : GP P ops Q Γ N ((d, v) :: fr) L pl) (hi : ops[i]? = some ⟨some d, op, ty, pos, aft, gd⟩ := by exact rfl) (hg : Runs ops fr gd := by exact rfl) (hN : Nat.blt d N = true := by exact rfl) (q : ∀ Δ, QStep P Δ fr ⟨some d, op, ty, pos, aft, gd⟩ v := by intro Δ; exact (by first | (apply qs_eqlT; exact rfl; exact rfl; exact heq) | (apply qs_eqlF; exact rfl; exact rfl; exact hne) | fail)) : GP P ops Q Γ N fr L (.take i pl) := gp_q q hi hg hN K
theorem s_qa {op : Op} (K : G Γ N ((d, v) :: fr) L (wpList P ops Q rest)) (hg : Runs ops fr gd := by exact rfl) (hN : Nat.blt d N = true := by exact rfl) (q : QStep P Γ fr ⟨some d, op, ty, pos, aft, gd⟩ v := by first | (apply qs_eqAT; exact inferInstance; exact rfl; exact rfl; exact (by (repeat (first | exact EqFs.nil | (apply eqFs_one; exact inferInstance; exact rfl; exact rfl) | (apply eqFs_agg; exact inferInstance; exact (by (repeat (first | exact Cut.zero | apply Cut.take | apply Cut.skip)); first | done | fail); exact (by (repeat (first | exact Cut.zero | apply Cut.take | apply Cut.skip)); first | done | fail)) | exact eqRun_int.mono (by omega) | exact eqRun_string.mono (by omega) | exact eqRun_bool.mono (by omega) | (apply eqRun_structM; exact inferInstance))); first | done | fail); simp; done) | (apply qs_neAT; exact inferInstance; exact rfl; exact rfl; exact (by (repeat (first | exact EqFs.nil | (apply eqFs_one; exact inferInstance; exact rfl; exact rfl) | (apply eqFs_agg; exact inferInstance; exact (by (repeat (first | exact Cut.zero | apply Cut.take | apply Cut.skip)); first | done | fail); exact (by (repeat (first | exact Cut.zero | apply Cut.take | apply Cut.skip)); first | done | fail)) | exact eqRun_int.mono (by omega) | exact eqRun_string.mono (by omega) | exact eqRun_bool.mono (by omega) | (apply eqRun_structM; exact inferInstance))); first | done | fail); simp; done) | fail) : G Γ N fr L (wpList P ops Q (⟨some d, op, ty, pos, aft, gd⟩ :: rest)) := g_q q hg hN K
theorem p_qa {op : Op} {i : Nat} {pl : Plan} (K : GP P ops Q Γ N ((d, v) :: fr) L pl) (hi : ops[i]? = some ⟨some d, op, ty, pos, aft, gd⟩ := by exact rfl) (hg : Runs ops fr gd := by exact rfl) (hN : Nat.blt d N = true := by exact rfl) (q : ∀ Δ, QStep P Δ fr ⟨some d, op, ty, pos, aft, gd⟩ v := by intro Δ; exact (by first | (apply qs_eqAT; exact inferInstance; exact rfl; exact rfl; exact (by (repeat (first | exact EqFs.nil | (apply eqFs_one; exact inferInstance; exact rfl; exact rfl) | (apply eqFs_agg; exact inferInstance; exact (by (repeat (first | exact Cut.zero | apply Cut.take | apply Cut.skip)); first | done | fail); exact (by (repeat (first | exact Cut.zero | apply Cut.take | apply Cut.skip)); first | done | fail)) | exact eqRun_int.mono (by omega) | exact eqRun_string.mono (by omega) | exact eqRun_bool.mono (by omega) | (apply eqRun_structM; exact inferInstance))); first | done | fail); simp; done) | (apply qs_neAT; exact inferInstance; exact rfl; exact rfl; exact (by (repeat (first | exact EqFs.nil | (apply eqFs_one; exact inferInstance; exact rfl; exact rfl) | (apply eqFs_agg; exact inferInstance; exact (by (repeat (first | exact Cut.zero | apply Cut.take | apply Cut.skip)); first | done | fail); exact (by (repeat (first | exact Cut.zero | apply Cut.take | apply Cut.skip)); first | done | fail)) | exact eqRun_int.mono (by omega) | exact eqRun_string.mono (by omega) | exact eqRun_bool.mono (by omega) | (apply eqRun_structM; exact inferInstance))); first | done | fail); simp; done) | fail)) : GP P ops Q Γ N fr L (.take i pl) := gp_q q hi hg hN K
theorem s_mq {op : Op} (K : G Γ N ((d, v) :: fr) L (wpList P ops Q rest)) (hg : Runs ops fr gd := by exact rfl) (hN : Nat.blt d N = true := by exact rfl) (q : QStep P Γ fr ⟨some d, op, ty, pos, aft, gd⟩ v := by first | (apply qs_eqNilS; exact inferInstance; exact rfl; exact rfl) | (apply qs_eqNilM; exact inferInstance; exact rfl; exact rfl) | (apply qs_slice00; exact inferInstance; exact inferInstance; exact rfl) | (apply vs_lookNil (κ := Int); exact inferInstance; exact inferInstance; exact inferInstance; exact kindI; exact rfl; exact rfl) | (apply vs_lookNil (κ := ByteArray); exact inferInstance; exact inferInstance; exact inferInstance; exact kindS; exact rfl; exact rfl) | fail) : G Γ N fr L (wpList P ops Q (⟨some d, op, ty, pos, aft, gd⟩ :: rest)) := g_q q hg hN K
theorem p_mq {op : Op} {i : Nat} {pl : Plan} (K : GP P ops Q Γ N ((d, v) :: fr) L pl) (hi : ops[i]? = some ⟨some d, op, ty, pos, aft, gd⟩ := by exact rfl) (hg : Runs ops fr gd := by exact rfl) (hN : Nat.blt d N = true := by exact rfl) (q : ∀ Δ, QStep P Δ fr ⟨some d, op, ty, pos, aft, gd⟩ v := by intro Δ; exact (by first | (apply qs_eqNilS; exact inferInstance; exact rfl; exact rfl) | (apply qs_eqNilM; exact inferInstance; exact rfl; exact rfl) | (apply qs_slice00; exact inferInstance; exact inferInstance; exact rfl) | (apply vs_lookNil (κ := Int); exact inferInstance; exact inferInstance; exact inferInstance; exact kindI; exact rfl; exact rfl) | (apply vs_lookNil (κ := ByteArray); exact inferInstance; exact inferInstance; exact inferInstance; exact kindS; exact rfl; exact rfl) | fail)) : GP P ops Q Γ N fr L (.take i pl) := gp_q q hi hg hN K
section
variable {e : TypeId} {n len cap m k : Nat} {p : Option Addr} {zv : Value} {xs news : List Value} {i : Nat} {pl : Plan}
theorem s_app (K : ∀ q c, G Γ N ((d, .slice q (len + m) c) :: fr) (.own q (len + m) c n (xs ++ news) e :: R) (wpList P ops Q rest)) (hg : Runs ops fr gd := by exact rfl) (hN : Nat.blt d N = true := by exact rfl)
    (D : TDesc P t (.slice e) := by exact inferInstance) (S : TSize P e n := by exact inferInstance) (Z : TZero P e zv := by exact inferInstance) (B : TBytes P e k := by exact inferInstance) (hx : ev fr x = some (.slice p len cap) := by exact rfl) (hy : ev fr y = some u := by exact rfl)
    (s : Sel L (.own p len cap n xs e) R := by (repeat (first | exact Sel.here | apply Sel.there)); first | done | fail) (src : SrcIs P Γ L n tx u m news := by first | (apply srcRow; exact inferInstance; exact (by (repeat (first | exact Sel.here | apply Sel.there)); first | done | fail); exact (by (repeat (first | exact Cut.zero | apply Cut.take | apply Cut.skip)); first | done | fail); exact rfl) | (apply srcOwn; exact inferInstance; exact (by (repeat (first | exact Sel.here | apply Sel.there)); first | done | fail)) | (apply srcNil; exact inferInstance) | (apply srcString; exact inferInstance) | exact hsrc | fail) (hzn : zv.cells.size = n := by exact rfl) (hb : (len + m) * k ≤ 140737488355328 := by omega) (hb2 : len + m ≤ 140737488355328 := by omega) :
    G Γ N fr L (wpList P ops Q (⟨some d, .call ⟨.builtin .append, [x, y].toArray, [t, tx].toArray⟩, ty, pos, aft, gd⟩ :: rest)) := g_c (cs_append D S Z B hx hy s src hzn hb hb2) hg hN fun q _ => K q.1 q.2
theorem p_app (K : ∀ q c, GP P ops Q Γ N ((d, .slice q (len + m) c) :: fr) (.own q (len + m) c n (xs ++ news) e :: R) pl) (hi : ops[i]? = some ⟨some d, .call ⟨.builtin .append, [x, y].toArray, [t, tx].toArray⟩, ty, pos, aft, gd⟩ := by exact rfl) (hg : Runs ops fr gd := by exact rfl) (hN : Nat.blt d N = true := by exact rfl)
    (D : TDesc P t (.slice e) := by exact inferInstance) (S : TSize P e n := by exact inferInstance) (Z : TZero P e zv := by exact inferInstance) (B : TBytes P e k := by exact inferInstance) (hx : ev fr x = some (.slice p len cap) := by exact rfl) (hy : ev fr y = some u := by exact rfl)
    (s : Sel L (.own p len cap n xs e) R := by (repeat (first | exact Sel.here | apply Sel.there)); first | done | fail) (src : SrcIs P Γ L n tx u m news := by first | (apply srcRow; exact inferInstance; exact (by (repeat (first | exact Sel.here | apply Sel.there)); first | done | fail); exact (by (repeat (first | exact Cut.zero | apply Cut.take | apply Cut.skip)); first | done | fail); exact rfl) | (apply srcOwn; exact inferInstance; exact (by (repeat (first | exact Sel.here | apply Sel.there)); first | done | fail)) | (apply srcNil; exact inferInstance) | (apply srcString; exact inferInstance) | exact hsrc | fail) (hzn : zv.cells.size = n := by exact rfl) (hb : (len + m) * k ≤ 140737488355328 := by omega) (hb2 : len + m ≤ 140737488355328 := by omega) :
    GP P ops Q Γ N fr L (.one i pl) := gp_c (cs_append D S Z B hx hy s src hzn hb hb2) hi hg hN fun q _ => K q.1 q.2
theorem s_b0 (K : ∀ b, G Γ N ((d, .slice (some ⟨b, 0, none⟩) 0 0) :: fr) (.own (some ⟨b, 0, none⟩) 0 0 n [] e :: L) (wpList P ops Q rest)) (hg : Runs ops fr gd := by exact rfl) (hN : Nat.blt d N = true := by exact rfl)
    (D : TDesc P t (.slice e) := by exact inferInstance) (S : TSize P e n := by exact inferInstance) : G Γ N fr L (wpList P ops Q (⟨some d, .buildSlice t 0 (List.toArray []), ty, pos, aft, gd⟩ :: rest)) := g_n (cs_buildSlice0 D S) hg hN K
theorem p_b0 (K : ∀ b, GP P ops Q Γ N ((d, .slice (some ⟨b, 0, none⟩) 0 0) :: fr) (.own (some ⟨b, 0, none⟩) 0 0 n [] e :: L) pl) (hi : ops[i]? = some ⟨some d, .buildSlice t 0 (List.toArray []), ty, pos, aft, gd⟩ := by exact rfl) (hg : Runs ops fr gd := by exact rfl) (hN : Nat.blt d N = true := by exact rfl)
    (D : TDesc P t (.slice e) := by exact inferInstance) (S : TSize P e n := by exact inferInstance) : GP P ops Q Γ N fr L (.one i pl) := gp_n (cs_buildSlice0 D S) hi hg hN K
variable {op : Op} {M : List Chunk}
theorem s_mv (K : G Γ N ((d, v) :: fr) L (wpList P ops Q rest)) (hg : Runs ops fr gd := by exact rfl) (hN : Nat.blt d N = true := by exact rfl) (q : VStep P Γ fr L ⟨some d, op, ty, pos, aft, gd⟩ v := by first | (apply vs_lookS (κ := Int); exact inferInstance; exact inferInstance; exact inferInstance; exact kindI; exact rfl; exact rfl; exact (by (repeat (first | exact Sel.here | apply Sel.there)); first | done | fail); assumption) | (apply vs_lookN (κ := Int); exact inferInstance; exact inferInstance; exact inferInstance; exact kindI; exact rfl; exact rfl; exact (by (repeat (first | exact Sel.here | apply Sel.there)); first | done | fail); assumption) | (apply vs_lookS (κ := ByteArray); exact inferInstance; exact inferInstance; exact inferInstance; exact kindS; exact rfl; exact rfl; exact (by (repeat (first | exact Sel.here | apply Sel.there)); first | done | fail); assumption) | (apply vs_lookN (κ := ByteArray); exact inferInstance; exact inferInstance; exact inferInstance; exact kindS; exact rfl; exact rfl; exact (by (repeat (first | exact Sel.here | apply Sel.there)); first | done | fail); assumption) | fail) : G Γ N fr L (wpList P ops Q (⟨some d, op, ty, pos, aft, gd⟩ :: rest)) := g_v q hg hN K
theorem p_mv (K : GP P ops Q Γ N ((d, v) :: fr) L pl) (hi : ops[i]? = some ⟨some d, op, ty, pos, aft, gd⟩ := by exact rfl) (hg : Runs ops fr gd := by exact rfl) (hN : Nat.blt d N = true := by exact rfl) (q : VStep P Γ fr L ⟨some d, op, ty, pos, aft, gd⟩ v := by first | (apply vs_lookS (κ := Int); exact inferInstance; exact inferInstance; exact inferInstance; exact kindI; exact rfl; exact rfl; exact (by (repeat (first | exact Sel.here | apply Sel.there)); first | done | fail); assumption) | (apply vs_lookN (κ := Int); exact inferInstance; exact inferInstance; exact inferInstance; exact kindI; exact rfl; exact rfl; exact (by (repeat (first | exact Sel.here | apply Sel.there)); first | done | fail); assumption) | (apply vs_lookS (κ := ByteArray); exact inferInstance; exact inferInstance; exact inferInstance; exact kindS; exact rfl; exact rfl; exact (by (repeat (first | exact Sel.here | apply Sel.there)); first | done | fail); assumption) | (apply vs_lookN (κ := ByteArray); exact inferInstance; exact inferInstance; exact inferInstance; exact kindS; exact rfl; exact rfl; exact (by (repeat (first | exact Sel.here | apply Sel.there)); first | done | fail); assumption) | fail) : GP P ops Q Γ N fr L (.one i pl) := gp_v q hi hg hN K
theorem s_ms (K : G Γ N fr M (wpList P ops Q rest)) (hg : Runs ops fr gd := by exact rfl) (q : SStep P Γ fr L ⟨none, op, ty, pos, aft, gd⟩ M := by first | (apply ss_mapUpdate (κ := Int); exact inferInstance; exact inferInstance; exact kindI; exact rfl; exact rfl; exact rfl; exact (by (repeat (first | exact Sel.here | apply Sel.there)); first | done | fail)) | (apply ss_mapUpdate (κ := ByteArray); exact inferInstance; exact inferInstance; exact kindS; exact rfl; exact rfl; exact rfl; exact (by (repeat (first | exact Sel.here | apply Sel.there)); first | done | fail)) | (apply ss_delete (κ := Int); exact inferInstance; exact inferInstance; exact kindI; exact rfl; exact rfl; exact (by (repeat (first | exact Sel.here | apply Sel.there)); first | done | fail)) | (apply ss_delete (κ := ByteArray); exact inferInstance; exact inferInstance; exact kindS; exact rfl; exact rfl; exact (by (repeat (first | exact Sel.here | apply Sel.there)); first | done | fail)) | fail) : G Γ N fr L (wpList P ops Q (⟨none, op, ty, pos, aft, gd⟩ :: rest)) := g_s q hg K
theorem p_ms (K : GP P ops Q Γ N fr M pl) (hi : ops[i]? = some ⟨none, op, ty, pos, aft, gd⟩ := by exact rfl) (hg : Runs ops fr gd := by exact rfl) (q : SStep P Γ fr L ⟨none, op, ty, pos, aft, gd⟩ M := by first | (apply ss_mapUpdate (κ := Int); exact inferInstance; exact inferInstance; exact kindI; exact rfl; exact rfl; exact rfl; exact (by (repeat (first | exact Sel.here | apply Sel.there)); first | done | fail)) | (apply ss_mapUpdate (κ := ByteArray); exact inferInstance; exact inferInstance; exact kindS; exact rfl; exact rfl; exact rfl; exact (by (repeat (first | exact Sel.here | apply Sel.there)); first | done | fail)) | (apply ss_delete (κ := Int); exact inferInstance; exact inferInstance; exact kindI; exact rfl; exact rfl; exact (by (repeat (first | exact Sel.here | apply Sel.there)); first | done | fail)) | (apply ss_delete (κ := ByteArray); exact inferInstance; exact inferInstance; exact kindS; exact rfl; exact rfl; exact (by (repeat (first | exact Sel.here | apply Sel.there)); first | done | fail)) | fail) : GP P ops Q Γ N fr L (.one i pl) := gp_s q hi hg K
theorem s_mkI (K : ∀ b, G Γ N ((d, .map (some b)) :: fr) (.map b ([] : List (Int × Value)) :: L) (wpList P ops Q rest)) (hg : Runs ops fr gd := by exact rfl) (hN : Nat.blt d N = true := by exact rfl) : G Γ N fr L (wpList P ops Q (⟨some d, .makeMap t none, ty, pos, aft, gd⟩ :: rest)) := g_n (cs_makeMap (kt := 0) (et := 0) Int) hg hN K
theorem s_mkS (K : ∀ b, G Γ N ((d, .map (some b)) :: fr) (.map b ([] : List (ByteArray × Value)) :: L) (wpList P ops Q rest)) (hg : Runs ops fr gd := by exact rfl) (hN : Nat.blt d N = true := by exact rfl) : G Γ N fr L (wpList P ops Q (⟨some d, .makeMap t none, ty, pos, aft, gd⟩ :: rest)) := g_n (cs_makeMap (kt := 0) (et := 0) ByteArray) hg hN K
/-- A call, or an append, behind which what stood still is free. -/
theorem p_tc {f : FuncId} {xs : List Operand} {vs : List Value} {tys : Array TypeId} {A C : List Chunk} {mm : HP} [Cb : Callable P f] {X : Type} {ret : X → Value} {B : X → List Chunk} {φ : X → Prop} (fn : Does P f vs A ret B φ) (hd : HP.disj Γ.hf mm) (hk : All C mm)
    (K : ∀ x m', φ x → HP.disj Γ.hf m' → All [] m' → GP P ops Q (Γ.add m') N ((d, ret x) :: fr) (B x ++ R ++ C) pl) (hi : ops[i]? = some ⟨some d, .call ⟨.value (.func f), xs.toArray, tys⟩, ty, pos, aft, gd⟩ := by exact rfl) (hg : Runs ops fr gd := by exact rfl) (hN : Nat.blt d N = true := by exact rfl) (he : Evs fr xs vs := by (repeat (first | exact Evs.nil | refine Evs.cons rfl ?_)); first | done | fail) (tk : Take L A R := by (repeat (first | exact Take.nil | apply Take.cons | exact Sel.here | apply Sel.there)); first | done | fail) :
    GP P ops Q (Γ.add mm) N fr L (.thaw i pl) := gp_thaw (C' := fun _ => []) (R' := fun x => B x ++ R ++ C) hd hk (cs_call fn he tk) (fun _ => .nil) K hi hg hN
theorem p_ta {C : List Chunk} {mm : HP} (hd : HP.disj Γ.hf mm) (hk : All C mm) (K : ∀ q c m', HP.disj Γ.hf m' → All [] m' → GP P ops Q (Γ.add m') N ((d, .slice q (len + m) c) :: fr) (.own q (len + m) c n (xs ++ news) e :: R ++ C) pl) (hi : ops[i]? = some ⟨some d, .call ⟨.builtin .append, [x, y].toArray, [t, tx].toArray⟩, ty, pos, aft, gd⟩ := by exact rfl) (hg : Runs ops fr gd := by exact rfl) (hN : Nat.blt d N = true := by exact rfl)
    (D : TDesc P t (.slice e) := by exact inferInstance) (S : TSize P e n := by exact inferInstance) (Z : TZero P e zv := by exact inferInstance) (B : TBytes P e k := by exact inferInstance) (hx : ev fr x = some (.slice p len cap) := by exact rfl) (hy : ev fr y = some u := by exact rfl)
    (s : Sel L (.own p len cap n xs e) R := by (repeat (first | exact Sel.here | apply Sel.there)); first | done | fail) (src : SrcIs P (Γ.add mm) L n tx u m news := by first | (apply srcRow; exact inferInstance; exact (by (repeat (first | exact Sel.here | apply Sel.there)); first | done | fail); exact (by (repeat (first | exact Cut.zero | apply Cut.take | apply Cut.skip)); first | done | fail); exact rfl) | (apply srcOwn; exact inferInstance; exact (by (repeat (first | exact Sel.here | apply Sel.there)); first | done | fail)) | (apply srcNil; exact inferInstance) | (apply srcString; exact inferInstance) | exact hsrc | fail) (hzn : zv.cells.size = n := by exact rfl) (hb : (len + m) * k ≤ 140737488355328 := by omega) (hb2 : len + m ≤ 140737488355328 := by omega) :
    GP P ops Q (Γ.add mm) N fr L (.thaw i pl) := gp_thaw (C' := fun _ => []) (R' := fun q => .own q.1 (len + m) q.2 n (xs ++ news) e :: R ++ C) hd hk (cs_append D S Z B hx hy s src hzn hb hb2) (fun _ => .nil) (fun q m' _ h1 h2 => K q.1 q.2 m' h1 h2) hi hg hN
end
/-! ### A slice that is only read -/
structure SlAt (C : Chunk) (n : Nat) (p : Option Addr) (m : Nat) (news : List Value) : Prop where
  len : news.length = m * n
  one : news.all (·.oneCell') = true
  nil : p = none → m = 0
  reads : ∀ (j : Nat) (v : Value), news[j]? = some v → ∃ b o, p = some ⟨b, o, none⟩ ∧ Reads C ⟨b, o + j, none⟩ v
theorem srcAt {C : Chunk} {n m c : Nat} {p : Option Addr} {e : TypeId} {news : List Value} (h : SlAt C n p m news) (D : TDesc P tx (.slice e)) (s : Sel L C R) (hn : 0 < n) : SrcIs P Γ L n tx (.slice p m c) m news := fun w hh => by
  by_cases hm : m = 0
  · subst hm
    obtain rfl : news = [] := List.eq_nil_of_length_eq_zero (by rw [h.len, Nat.zero_mul])
    exact srcNil D w hh
  · have hpos : 0 < news.length := by rw [h.len]; exact Nat.mul_pos (by omega) hn
    obtain ⟨b, o, rfl, _⟩ := h.reads 0 news[0] (by simp [hpos])
    refine srcReads (R := R) D s h.len h.one (fun j v hv => ?_) w hh
    obtain ⟨b', o', e1, r⟩ := h.reads j v hv
    simp only [Option.some.injEq, Addr.mk.injEq, and_true] at e1
    obtain ⟨rfl, rfl⟩ := e1
    exact r
theorem SlAt.none {C : Chunk} {n : Nat} : SlAt C n none 0 [] := ⟨by simp, rfl, fun _ => rfl, fun j v h => by simp at h⟩
/-- A region that draws its order and writes one map, or one slice of one's own. -/
theorem g_drawMI {id : Nat} {l : List Oper} [M : Mixed P] (m : Nat) {Mp : List (Int × Value)} (plan : Plan) (h : ∀ k, HP.disj Γ.hf k → All R k → GP P l.toArray Q (Γ.add k) N fr [.map m Mp] plan) (hp : planOk l plan = true := by kernel_rfl) (s : Sel L (.map m Mp) R := by (repeat (first | exact Sel.here | apply Sel.there)); first | done | fail) :
    G Γ N fr L ((Code.region id l.toArray true).wp P Q) := g_draw plan hp s.but h
theorem g_drawO {id : Nat} {l : List Oper} [M : Mixed P] {p : Option Addr} {len cap n : Nat} {xs : List Value} {e : TypeId} (plan : Plan) (s : Sel L (.own p len cap n xs e) R) (h : ∀ k, HP.disj Γ.hf k → All R k → GP P l.toArray Q (Γ.add k) N fr [.own p len cap n xs e] plan) (hp : planOk l plan = true := by kernel_rfl) :
    G Γ N fr L ((Code.region id l.toArray true).wp P Q) := g_draw plan hp s.but h
theorem g_drawO2 {id : Nat} {l : List Oper} [M : Mixed P] {p p' : Option Addr} {len cap n len' cap' n' : Nat} {xs xs' : List Value} {e e' : TypeId} {R1 : List Chunk} (plan : Plan) (s : Sel L (.own p len cap n xs e) R1) (s' : Sel R1 (.own p' len' cap' n' xs' e') R) (h : ∀ k, HP.disj Γ.hf k → All R k → GP P l.toArray Q (Γ.add k) N fr [.own p len cap n xs e, .own p' len' cap' n' xs' e'] plan) (hp : planOk l plan = true := by kernel_rfl) :
    G Γ N fr L ((Code.region id l.toArray true).wp P Q) := g_take (.cons s (.cons s' .nil)) (g_draw plan hp (take_head2 R) h)
theorem does_noC {P : Program} {f : FuncId} {args : List Value} {X : Type} {A : List Chunk} {ret : X → Value} {B : X → List Chunk} {φ : X → Prop} (d : Does P f args (A ++ [.pure True]) ret (fun x => B x ++ [.pure True]) φ) : Does P f args A ret B φ := fun Γ w hh => by
  refine (d Γ w (hh.mono fun h al => all_append.2 ⟨h, fun _ => none, fun _ => .inr rfl, HP.sub.refl _, (fun _ _ e => by cases e), al, ⟨fun _ => none, fun _ => none, fun _ => .inl rfl, (fun _ _ e => by cases e), (fun _ _ e => by cases e), trivial, trivial⟩⟩)).mono ?_
  rintro e w' ⟨x, hx, rfl, hB⟩
  exact ⟨x, hx, rfl, hB.mono fun _ al => al.drop_right⟩
theorem mget_self {κ : Type} [DecidableEq κ] [MapKey κ] (M : List (κ × Value)) (k : κ) (v : Value) : mget (mput M k v) k = some v := by
  induction M with
  | nil => simp [mput, mget]
  | cons a M ih =>
    obtain ⟨a, u⟩ := a
    simp only [mput]
    by_cases h : k = a
    · simp [h, mget]
    · simp [h, mget, ih]
theorem mdel_one {κ : Type} [DecidableEq κ] [MapKey κ] (k : κ) (v : Value) : mdel (mput ([] : List (κ × Value)) k v) k = [] := by simp [mput, mdel]
theorem SlAt.empty {C : Chunk} {n : Nat} {p : Option Addr} : SlAt C n p 0 [] := ⟨by simp, rfl, fun _ => rfl, fun j v h => by simp at h⟩
theorem flat_len {α : Type} {f : α → List Value} {n : Nat} (hf : ∀ a, (f a).length = n) (l : List α) : (l.flatMap f).length = l.length * n := by
  induction l with
  | nil => simp
  | cons a l ih => simp [List.flatMap_cons, hf, ih, Nat.succ_mul, Nat.add_comm]
theorem flat_get {α : Type} {f : α → List Value} {n : Nat} (hf : ∀ a, (f a).length = n) : ∀ (l : List α) (i : Nat) (a : α), l[i]? = some a → ∀ (j : Nat) (v : Value), (f a)[j]? = some v → (l.flatMap f)[i * n + j]? = some v
  | [], i, a, h, j, v, hj => by simp at h
  | b :: l, 0, a, h, j, v, hj => by
    obtain rfl : b = a := by simpa using h
    have := (List.getElem?_eq_some_iff.1 hj).1
    rw [List.flatMap_cons, Nat.zero_mul, Nat.zero_add, List.getElem?_append_left this]
    exact hj
  | b :: l, i + 1, a, h, j, v, hj => by
    rw [List.flatMap_cons, List.getElem?_append_right (by rw [hf, Nat.succ_mul]; omega), hf, show (i + 1) * n + j - n = i * n + j by rw [Nat.succ_mul]; omega]
    exact flat_get hf l i a (by simpa using h) j v hj
theorem flat_snoc {α : Type} (f : α → List Value) (l : List α) (a : α) : (l ++ [a]).flatMap f = l.flatMap f ++ f a := by simp
/-- An element of a list of one's own. -/
theorem own_at {α : Type} {f : α → List Value} {n b len cap : Nat} {e : TypeId} (hf : ∀ a, (f a).length = n) {l : List α} {i : Nat} {a : α} (h : l[i]? = some a) : ∀ (j : Nat) (v : Value), (f a)[j]? = some v → Reads (.own (some ⟨b, 0, none⟩) len cap n (l.flatMap f) e) ⟨b, 0 + i * n + j, none⟩ v := fun j v hj => by
  rw [Nat.zero_add]
  exact reads_own (flat_get hf l i a h j v hj)
theorem does_pre {f : FuncId} {args : List Value} {X : Type} {A A' : List Chunk} {ret : X → Value} {B : X → List Chunk} {φ : X → Prop} (h : ∀ hp, All A' hp → All A hp) (d : Does P f args A ret B φ) : Does P f args A' ret B φ := fun Γ w hh => d Γ w (hh.mono h)
theorem does_post {f : FuncId} {args : List Value} {X : Type} {A : List Chunk} {ret : X → Value} {B : X → List Chunk} {φ ψ : X → Prop} (h : ∀ x, φ x → ψ x) (d : Does P f args A ret B φ) : Does P f args A ret B ψ := fun Γ w hh => (d Γ w hh).mono fun e w' ⟨x, hx, r⟩ => ⟨x, h x hx, r⟩
/-! ### A map, or none yet -/
def mapO {κ : Type} [DecidableEq κ] [MapKey κ] : Option Nat → List (κ × Value) → HP → Prop
  | none, M => fun _ => M = []
  | some b, M => mapS b M
end Go.Sl
