/- Part 3: memory, calls, the ends of a function. -/
import Derived.Test.YtpilcncdgjnbeaaDoorSlb
set_option linter.unusedSimpArgs false
set_option linter.unusedVariables false
namespace Go.Sl
variable {P : Program} {Γ : Ctx} {L R : List Chunk} {N : Nat} {fr : Fr} {Q : Exit → Act → World → Prop} {ops : Array Oper} {rest : List Oper}
variable {d : Nat} {ty : TypeId} {pos : String} {aft : Array Edge} {gd : Option (Nat × Bool)} {x y : Operand} {v u : Value} {t t2 : TypeId}

/-! ### Parts of rows -/
/-- n cells from o on. -/
inductive Cut : List Value → Nat → Nat → List Value → Prop where
  | zero {xs : List Value} : Cut xs 0 0 []
  | take {x : Value} {xs cs : List Value} {n : Nat} : Cut xs 0 n cs → Cut (x :: xs) 0 (n + 1) (x :: cs)
  | skip {x : Value} {xs cs : List Value} {o n : Nat} : Cut xs o n cs → Cut (x :: xs) (o + 1) n cs
theorem Cut.get {xs cs : List Value} {o n : Nat} (h : Cut xs o n cs) : cs.length = n ∧ ∀ (j : Nat) (v : Value), cs[j]? = some v → xs[o + j]? = some v := by
  induction h with
  | zero => exact ⟨rfl, fun j v e => by simp at e⟩
  | @take x xs cs n _ ih =>
    refine ⟨by simp [ih.1], fun j v e => ?_⟩
    cases j with
    | zero => simpa using e
    | succ j => simpa using ih.2 j v (by simpa using e)
  | @skip x xs cs o n _ ih =>
    refine ⟨ih.1, fun j v e => ?_⟩
    have := ih.2 j v e
    rw [show o + 1 + j = (o + j) + 1 by omega]
    simpa using this
/-- The cells from o on are others. -/
inductive Put : List Value → Nat → List Value → List Value → Prop where
  | nil {xs : List Value} : Put xs 0 [] xs
  | here {x v : Value} {xs vs ys : List Value} : Put xs 0 vs ys → Put (x :: xs) 0 (v :: vs) (v :: ys)
  | skip {x : Value} {xs vs ys : List Value} {o : Nat} : Put xs o vs ys → Put (x :: xs) (o + 1) vs (x :: ys)
theorem Put.eq {xs vs ys : List Value} {o : Nat} (h : Put xs o vs ys) : o + vs.length ≤ xs.length ∧ ys = xs.take o ++ vs ++ xs.drop (o + vs.length) := by
  induction h with
  | nil => simp
  | here _ ih => obtain ⟨h1, h2⟩ := ih; subst h2; simp_all
  | @skip x xs vs ys o _ ih =>
    obtain ⟨h1, h2⟩ := ih
    subst h2
    refine ⟨by simp only [List.length_cons]; omega, ?_⟩
    rw [show o + 1 + vs.length = (o + vs.length) + 1 by omega]
    simp
/-- One cell, wherever. -/
theorem put_set {xs : List Value} {o : Nat} {v : Value} (h : o < xs.length) : o + [v].length ≤ xs.length ∧ xs.set o v = xs.take o ++ [v] ++ xs.drop (o + [v].length) := by
  refine ⟨by simp; omega, ?_⟩
  rw [List.set_eq_take_append_cons_drop, if_pos h]
  simp

/-! ### Addresses -/
theorem qs_fieldAddr {s : TypeId} {f off n b o : Nat} [F : FOff P s f off n] (hx : ev fr x = some (.pointer (some ⟨b, o, none⟩))) : QStep P Γ fr ⟨some d, .fieldAddr s x f, ty, pos, aft, gd⟩ (.pointer (some ⟨b, o + off, none⟩)) :=
  qs_of (fun a w hf => by
    have h := F.off
    have hp := F.pos
    unfold fieldOff at h
    split at h
    · rename_i fs hu
      split at h
      · rename_i fd hfd
        split at h
        · rename_i m hm
          simp only [Option.some.injEq, Prod.mk.injEq] at h
          obtain ⟨rfl, rfl⟩ := h
          have hm0 : ¬ m = 0 := by rintro rfl; simp at hp
          simp [execOp, hf.ev hx, Instr.fieldAt, run_underlying hu, hfd, Instr.sureAddr, fieldPlace, run_sizeOf' hm, hm0, Addr.add_lit]
        · cases h
      · cases h
    · cases h)
theorem qs_indexSlice {e : TypeId} {b o len cap n : Nat} {i : Int} {kd : IntKind} [S : TDesc P t (.slice e)] [Z : TSize P e n] (hx : ev fr x = some (.slice (some ⟨b, o, none⟩) len cap)) (hy : ev fr y = some (.int kd i)) (h0 : 0 ≤ i) (h1 : i < len) : QStep P Γ fr ⟨some d, .indexAddr t x y, ty, pos, aft, gd⟩ (.pointer (some ⟨b, o + i.toNat * n, none⟩)) :=
  qs_of (fun a w hf => by
    have h01 : 0 ≤ i ∧ i < len := ⟨h0, h1⟩
    simp [execOp, hf.ev hx, hf.ev hy, Instr.indexAt, asIntOf, run_underlying S.desc, run_sizeOf' Z.size, h01, Addr.add_lit])
theorem qs_indexSliceN {e : TypeId} {b o len cap n : Nat} {i : Nat} {kd : IntKind} [S : TDesc P t (.slice e)] [Z : TSize P e n] (hx : ev fr x = some (.slice (some ⟨b, o, none⟩) len cap)) (hy : ev fr y = some (.int kd (i : Int)))
    (h1 : i < len) : QStep P Γ fr ⟨some d, .indexAddr t x y, ty, pos, aft, gd⟩ (.pointer (some ⟨b, o + i * n, none⟩)) :=
  qs_indexSlice hx hy (Int.natCast_nonneg i) (by omega)
theorem qs_indexSlice1 {e : TypeId} {b o len cap : Nat} {i : Nat} {kd : IntKind} [S : TDesc P t (.slice e)] [Z : TSize P e 1] (hx : ev fr x = some (.slice (some ⟨b, o, none⟩) len cap)) (hy : ev fr y = some (.int kd (i : Int)))
    (h1 : i < len) : QStep P Γ fr ⟨some d, .indexAddr t x y, ty, pos, aft, gd⟩ (.pointer (some ⟨b, o + i, none⟩)) := by
  have := qs_indexSliceN (P := P) (Γ := Γ) (n := 1) (d := d) (ty := ty) (pos := pos) (aft := aft) (gd := gd) (t := t) hx hy h1
  rwa [Nat.mul_one] at this
theorem qs_indexArr {e : TypeId} {b o len n : Nat} {i : Int} {kd : IntKind} [S : TDesc P t (.array len e)] [Z : TSize P e n] (hx : ev fr x = some (.pointer (some ⟨b, o, none⟩))) (hy : ev fr y = some (.int kd i)) (h0 : 0 ≤ i) (h1 : i < len) : QStep P Γ fr ⟨some d, .indexAddr t x y, ty, pos, aft, gd⟩ (.pointer (some ⟨b, o + i.toNat * n, none⟩)) :=
  qs_of (fun a w hf => by
    have h01 : 0 ≤ i ∧ i < len := ⟨h0, h1⟩
    simp [execOp, hf.ev hx, hf.ev hy, Instr.indexAt, asIntOf, run_underlying S.desc, Instr.sureAddr, run_sizeOf' Z.size, h01, Addr.add_lit])
/-! ### Loads -/
theorem run_load1 {w : World} {a : Addr} (ho : (P.underlying t).map TypeDesc.isRow = some false) (hc : w.cell? a = some v) : (Instr.loadAt t (.pointer (some a))).run P w = .ok v w := by
  simp [Instr.loadAt, Instr.sureAddr, loadVar, run_isAgg' ho, hc]
theorem run_loadA {w : World} {b o n : Nat} {cs : List Value} (ho : (P.underlying t).map TypeDesc.isRow = some true) (hs : (P.info? t).map (·.size) = some n) (hl : cs.length = n) (hc : ∀ (j : Nat) (v : Value), cs[j]? = some v → w.cell? ⟨b, o + j, none⟩ = some v) :
    (Instr.loadAt t (.pointer (some ⟨b, o, none⟩))).run P w = .ok (.agg cs.toArray) w := by
  have := run_loadCells_list (P := P) w ⟨b, o, none⟩ cs (fun j v hv => by rw [Addr.add_lit]; exact hc j v hv)
  rw [hl] at this
  simp [Instr.loadAt, Instr.sureAddr, loadVar, run_isAgg' ho, run_sizeOf' hs, this]

/-- One cell of a chunk that holds it. -/
theorem vs_loadR {c : Chunk} {p : Addr} [T : TOne P t] (hx : ev fr x = some (.pointer (some p))) (s : Sel L c R) (r : Reads c p v) : VStep P Γ fr L ⟨some d, .load t x, ty, pos, aft, gd⟩ (v) :=
  vs_of (fun a w hf hh => by simp [execOp, hf.ev hx, run_load1 T.row (hh.cell s r)])
theorem vs_load {b o : Nat} {xs : List Value} {e : TypeId} {fz : Nat × Nat} [T : TOne P t] (hx : ev fr x = some (.pointer (some ⟨b, o, none⟩))) (s : Sel L (.row b xs e fz) R) (r : xs[o]? = some v) : VStep P Γ fr L ⟨some d, .load t x, ty, pos, aft, gd⟩ (v) :=
  vs_loadR hx s (reads_row r)
/-- Some cells. -/
theorem vs_loadAR {c : Chunk} {b o n : Nat} {cs : List Value} [T : TAgg P t n] (hx : ev fr x = some (.pointer (some ⟨b, o, none⟩))) (s : Sel L c R) (hl : cs.length = n) (r : ∀ (j : Nat) (v : Value), cs[j]? = some v → Reads c ⟨b, o + j, none⟩ v) : VStep P Γ fr L ⟨some d, .load t x, ty, pos, aft, gd⟩ (.agg cs.toArray) :=
  vs_of (fun a w hf hh => by simp [execOp, hf.ev hx, run_loadA T.row T.size hl (fun j v hv => hh.cell s (r j v hv))])
theorem vs_loadA {b o n : Nat} {xs cs : List Value} {e : TypeId} {fz : Nat × Nat} [T : TAgg P t n] (hx : ev fr x = some (.pointer (some ⟨b, o, none⟩))) (s : Sel L (.row b xs e fz) R) (c : Cut xs o n cs) : VStep P Γ fr L ⟨some d, .load t x, ty, pos, aft, gd⟩ (.agg cs.toArray) :=
  vs_loadAR hx s c.get.1 (fun j v hv => reads_row (c.get.2 j v hv))
/-! ### Stores -/
theorem Holds.setRow {w : World} {b : Nat} {xs ys : List Value} {e : TypeId} {fz : Nat × Nat} (hh : Holds Γ L w) (s : Sel L (.row b xs e fz) R) : Holds Γ (.row b ys e fz :: R) (w.setRow b ys.toArray) :=
  hh.update s rfl rfl rfl (setRow_heap w b _ _ e fz (hh.block s)) rfl (fun c hc => setRow_other w b c _ hc)
theorem run_storeAt' {w : World} {b o n : Nat} {xs vs : List Value} {e : TypeId} {fz : Nat × Nat} (hs : (P.info? t).map (·.size) = some n) (hv : v.cells.toList = vs) (hn : vs.length = n) (h1 : vs.all (·.oneCell') = true)
    (hb : w.heap[b]? = some (.cells xs.toArray e fz)) (hfz : fz.2 ≤ o) (hl : o + vs.length ≤ xs.length) :
    (Instr.storeAt t (.pointer (some ⟨b, o, none⟩)) v).run P w = .ok () (w.setRow b (xs.take o ++ vs ++ xs.drop (o + vs.length)).toArray) := by
  have hst := run_storeCells_atF P b o e fz vs 0 xs.toArray w hb (by simpa using hfz) (by simpa using hl) (fun v hv => by simpa using (List.all_eq_true.1 h1) v hv)
  simp only [Nat.add_zero] at hst
  have hsz : v.cells.size = n := by rw [← hn, ← hv]; simp
  simp [Instr.storeAt, Instr.sureAddr, storeVar, run_sizeOf' hs, hsz, hv, hst]
theorem ss_storeE {b o n : Nat} {xs vs ys : List Value} {e : TypeId} {fz : Nat × Nat} [T : TSize P t n] (hx : ev fr x = some (.pointer (some ⟨b, o, none⟩))) (hy : ev fr y = some v) (s : Sel L (.row b xs e fz) R)
    (hv : v.cells.toList = vs) (hn : vs.length = n) (h1 : vs.all (·.oneCell') = true) (hfz : fz.2 ≤ o) (hl : o + vs.length ≤ xs.length ∧ ys = xs.take o ++ vs ++ xs.drop (o + vs.length)) :
    SStep P Γ fr L ⟨none, .store t x y, ty, pos, aft, gd⟩ (.row b ys e fz :: R) := by
  obtain ⟨hl, rfl⟩ := hl
  refine ss_of (fun a w hf hh => ⟨_, ?_, hh.setRow (ys := xs.take o ++ vs ++ xs.drop (o + vs.length)) s⟩)
  simp only [execOp, hf.ev hx, hf.ev hy]
  rw [Sem.run_bind, run_storeAt' T.size hv hn h1 (hh.block s) hfz hl]
  rfl
/-- A struct, or an array. -/
theorem ss_storeA {b o n : Nat} {xs vs ys : List Value} {e : TypeId} [T : TAgg P t n] (hx : ev fr x = some (.pointer (some ⟨b, o, none⟩))) (hy : ev fr y = some (.agg vs.toArray))
    (hn : Nat.beq vs.length n = true) (h1 : vs.all (·.oneCell') = true) (s : Sel L (.row b xs e) R) (p : Put xs o vs ys) :
    SStep P Γ fr L ⟨none, .store t x y, ty, pos, aft, gd⟩ (.row b ys e :: R) :=
  haveI : TSize P t n := ⟨T.size⟩
  ss_storeE (n := n) hx hy s (by simp [Value.cells]) (Nat.eq_of_beq_eq_true hn) h1 (Nat.zero_le _) p.eq
/-- One cell. -/
theorem ss_store {b o : Nat} {xs ys : List Value} {e : TypeId} [T : TOne P t] (hx : ev fr x = some (.pointer (some ⟨b, o, none⟩))) (hy : ev fr y = some v)
    (h1 : v.oneCell' = true) (s : Sel L (.row b xs e) R) (p : Put xs o [v] ys) :
    SStep P Γ fr L ⟨none, .store t x y, ty, pos, aft, gd⟩ (.row b ys e :: R) :=
  haveI : TSize P t 1 := ⟨T.size⟩
  ss_storeE (n := 1) hx hy s (by cases v <;> simp_all [Value.cells, Value.oneCell']) rfl (by simp [h1]) (Nat.zero_le _) p.eq

/-! ### New blocks -/
theorem Holds.newRow {w : World} {e : TypeId} {xs : Array Value} (hh : Holds Γ L w) : Holds Γ (.pt w.heap.size (.cells xs e (0, 0)) :: L) (w.alloc (.cells xs e)) :=
  hh.new rfl rfl rfl rfl rfl
theorem cs_allocA {zs : List Value} [Z : TZero P t (.agg zs.toArray)] : CStep P Γ fr L ⟨some d, .alloc t, ty, pos, aft, gd⟩ (X := Nat) (fun b => .pointer (some ⟨b, 0, none⟩)) (fun b => .row b zs t :: L) (fun _ => True) :=
  cs_of (fun a w hf hh => ⟨w.heap.size, w.alloc (.cells zs.toArray t), trivial, by simp [execOp, Instr.alloc, run_zeroValue' Z.zero, newVar, newRow, Value.cells], hh.newRow⟩)
theorem cs_alloc1 {z : Value} [Z : TZero P t z] (h1 : z.oneCell' = true) : CStep P Γ fr L ⟨some d, .alloc t, ty, pos, aft, gd⟩ (X := Nat) (fun b => .pointer (some ⟨b, 0, none⟩)) (fun b => .row b [z] t :: L) (fun _ => True) :=
  cs_of (fun a w hf hh => ⟨w.heap.size, w.alloc (.cells #[z] t), trivial, by
      have : z.cells = #[z] := by cases z <;> simp_all [Value.cells, Value.oneCell']
      simp [execOp, Instr.alloc, run_zeroValue' Z.zero, newVar, newRow, this], hh.newRow⟩)
theorem cs_boxA {zs : List Value} (hx : ev fr x = some (.agg zs.toArray)) : CStep P Γ fr L ⟨some d, .box t x, ty, pos, aft, gd⟩ (X := Nat) (fun b => .pointer (some ⟨b, 0, none⟩)) (fun b => .row b zs t :: L) (fun _ => True) :=
  cs_of (fun a w hf hh => ⟨w.heap.size, w.alloc (.cells zs.toArray t), trivial, by simp [execOp, hf.ev hx, Instr.box, newVar, newRow, Value.cells], hh.newRow⟩)
theorem cs_box1 (hx : ev fr x = some v) (h1 : v.oneCell' = true) : CStep P Γ fr L ⟨some d, .box t x, ty, pos, aft, gd⟩ (X := Nat) (fun b => .pointer (some ⟨b, 0, none⟩)) (fun b => .row b [v] t :: L) (fun _ => True) :=
  cs_of (fun a w hf hh => ⟨w.heap.size, w.alloc (.cells #[v] t), trivial, by
      have : v.cells = #[v] := by cases v <;> simp_all [Value.cells, Value.oneCell']
      simp [execOp, hf.ev hx, Instr.box, newVar, newRow, this], hh.newRow⟩)
/-! ### Struct literals -/
inductive CellsOf : Value → List Value → Prop where
  | agg {vs : List Value} : CellsOf (.agg vs.toArray) vs
  | one {v : Value} : v.oneCell' = true → CellsOf v [v]
theorem CellsOf.eq {vs : List Value} (h : CellsOf v vs) : v.cells = vs.toArray := by
  cases h with
  | agg => rfl
  | one h => cases v <;> simp_all [Value.cells, Value.oneCell']
/-- The parts of a literal, in their order, over cells. -/
inductive Bld (P : Program) (fr : Fr) (t : TypeId) : List (Nat × Operand) → List Value → List Value → Prop where
  | nil {zs : List Value} : Bld P fr t [] zs zs
  | cons {i off n : Nat} {x : Operand} {v : Value} {vs zs ys out : List Value} {ps : List (Nat × Operand)} : ev fr x = some v → fieldOff P t i = some (off, n) → CellsOf v vs → Nat.beq vs.length n = true → Put zs off vs ys → Bld P fr t ps ys out → Bld P fr t ((i, x) :: ps) zs out
theorem foldl_put (off : Nat) : ∀ (vs : List Value) (j : Nat) (xs : List Value), off + j + vs.length ≤ xs.length →
    ((vs.zipIdx j).foldl (fun (cs : Array Value) (p : Value × Nat) => cs.setIfInBounds (off + p.2) p.1) xs.toArray) = (xs.take (off + j) ++ vs ++ xs.drop (off + j + vs.length)).toArray
  | [], j, xs, _ => by simp
  | v :: vs, j, xs, h => by
    simp only [List.length_cons] at h
    have ih := foldl_put off vs (j + 1) (xs.set (off + j) v) (by simp; omega)
    simp only [List.zipIdx_cons, List.foldl_cons, List.setIfInBounds_toArray]
    rw [ih]
    congr 1
    have hlt : off + j < xs.length := by omega
    have e1 : (xs.set (off + j) v).take (off + (j + 1)) = xs.take (off + j) ++ [v] := by
      rw [show off + (j + 1) = (off + j) + 1 by omega, List.take_set, List.take_succ_eq_append_getElem hlt, List.set_append]
      simp [Nat.min_eq_left (Nat.le_of_lt hlt)]
    rw [e1, List.drop_set_of_lt (by omega), show off + (j + 1) + vs.length = off + j + (vs.length + 1) by omega]
    simp only [List.append_assoc, List.singleton_append, List.length_cons, List.cons_append, List.nil_append]
theorem mapM_get {α β : Type} {g : α → Option β} : ∀ {l : List α} {r : List β}, l.mapM g = some r → ∀ {i : Nat} {x : α}, l[i]? = some x → ∃ y, r[i]? = some y ∧ g x = some y
  | [], r, h, i, x, hx => by simp at hx
  | z :: l, r, h, i, x, hx => by
    simp only [List.mapM_cons, Option.bind_eq_bind, Option.pure_def, Option.bind_eq_some_iff] at h
    obtain ⟨y, hy, r', hr', e⟩ := h
    simp only [Option.some.injEq] at e
    subst e
    cases i with
    | zero => simp at hx; subst hx; exact ⟨y, by simp, hy⟩
    | succ i => simpa using mapM_get hr' (i := i) (x := x) (by simpa using hx)
theorem Bld.fill {ps : List (Nat × Operand)} {zs out : List Value} {a : Act} (h : Bld P fr t ps zs out) (hf : fr.ok a) {fs : Array Field} (hu : P.underlying t = some (.struct fs)) {places : List (Nat × Nat)}
    (hp : fs.toList.mapM (fun f => (P.info? f.type).map fun i => (f.offset, i.size)) = some places) :
    Instr.fill (places[·]?) zs.toArray (ps.map fun p => (p.1, a.eval p.2)) = some out.toArray := by
  induction h with
  | nil => rfl
  | @cons i off n x v vs zs ys out ps hx hfo hc hn hput _ ih =>
    obtain ⟨hle, rfl⟩ := hput.eq
    have hvn : vs.length = n := Nat.eq_of_beq_eq_true hn
    have hpl : places[i]? = some (off, n) := by
      unfold fieldOff at hfo
      rw [hu] at hfo
      simp only at hfo
      cases hfi : fs[i]? with
      | none => simp [hfi] at hfo
      | some fd =>
        simp only [hfi] at hfo
        obtain ⟨q, hq, hg⟩ := mapM_get hp (i := i) (x := fd) (by simpa using hfi)
        cases hin : P.info? fd.type with
        | none => simp [hin] at hg
        | some inf =>
          simp only [hin, Option.map_some, Option.some.injEq] at hg hfo
          rw [hq, ← hg, hfo]
    have hsz : v.cells.size = n := by rw [hc.eq]; simpa using hvn
    have hnot : ¬ (v.cells.size ≠ n ∨ off + v.cells.size > zs.toArray.size) := by
      rw [hsz, ← hvn]; simp; omega
    have hfold := foldl_put off vs 0 zs (by simpa using hle)
    simp only [Nat.add_zero] at hfold
    simp only [List.map_cons, Instr.fill, hf.ev hx, hpl]
    rw [if_neg (by simpa using hnot)]
    rw [hc.eq, ← ih]
    congr 1
    rw [← hfold, ← Array.foldl_toList, Array.toList_zipIdx]
end Go.Sl
