/- Contracts and laws that the proof stands on. -/
import Derived.Test.YtdldgbbhagpofaaGreatDoorSeglogCrash1
set_option linter.unusedSimpArgs false
set_option linter.unusedVariables false
namespace Go.Sl
variable {P : Program} {Γ : Ctx} {L R : List Chunk} {N : Nat} {fr : Fr} {Q : Exit → Act → World → Prop} {ops : Array Oper} {rest : List Oper}
variable {d : Nat} {ty : TypeId} {pos : String} {aft : Array Edge} {gd : Option (Nat × Bool)} {x y : Operand} {v u : Value} {t t2 : TypeId}
inductive Cut : List Value → Nat → Nat → List Value → Prop where
  | zero {xs : List Value} : Cut xs 0 0 []
  | take {x : Value} {xs cs : List Value} {n : Nat} : Cut xs 0 n cs → Cut (x :: xs) 0 (n + 1) (x :: cs)
  | skip {x : Value} {xs cs : List Value} {o n : Nat} : Cut xs o n cs → Cut (x :: xs) (o + 1) n cs
theorem Cut.get {xs cs : List Value} {o n : Nat} (h : Cut xs o n cs) : cs.length = n ∧ ∀ (j : Nat) (v : Value), cs[j]? = some v → xs[o + j]? = some v := by
  induction h with
  | zero => exact ⟨rfl, fun j v e => by simp at e⟩
  | @take x xs cs n _ ih =>
    refine ⟨by simp [ih.1], fun j v e => ?_⟩
    cases j with
    | zero => simpa using e
    | succ j => simpa using ih.2 j v (by simpa using e)
  | @skip x xs cs o n _ ih =>
    refine ⟨ih.1, fun j v e => ?_⟩
    have := ih.2 j v e
    rw [show o + 1 + j = (o + j) + 1 by omega]
    simpa using this
inductive Put : List Value → Nat → List Value → List Value → Prop where
  | nil {xs : List Value} : Put xs 0 [] xs
  | here {x v : Value} {xs vs ys : List Value} : Put xs 0 vs ys → Put (x :: xs) 0 (v :: vs) (v :: ys)
  | skip {x : Value} {xs vs ys : List Value} {o : Nat} : Put xs o vs ys → Put (x :: xs) (o + 1) vs (x :: ys)
theorem Put.eq {xs vs ys : List Value} {o : Nat} (h : Put xs o vs ys) : o + vs.length ≤ xs.length ∧ ys = xs.take o ++ vs ++ xs.drop (o + vs.length) := by
  induction h with
  | nil => simp
  | here _ ih => obtain ⟨h1, h2⟩ := ih; subst h2; simp_all
  | @skip x xs vs ys o _ ih =>
    obtain ⟨h1, h2⟩ := ih
    subst h2
    refine ⟨by simp only [List.length_cons]; omega, ?_⟩
    rw [show o + 1 + vs.length = (o + vs.length) + 1 by omega]
    simp
theorem put_set {xs : List Value} {o : Nat} {v : Value} (h : o < xs.length) : o + [v].length ≤ xs.length ∧ xs.set o v = xs.take o ++ [v] ++ xs.drop (o + [v].length) := by
  refine ⟨by simp; omega, ?_⟩
  rw [List.set_eq_take_append_cons_drop, if_pos h]
  simp
theorem qs_fieldAddr {s : TypeId} {f off n b o : Nat} [F : FOff P s f off n] (hx : ev fr x = some (.pointer (some ⟨b, o, none⟩))) : QStep P Γ fr ⟨some d, .fieldAddr s x f, ty, pos, aft, gd⟩ (.pointer (some ⟨b, o + off, none⟩)) :=
  qs_of (fun a w hf => by
    have h := F.off
    have hp := F.pos
    unfold fieldOff at h
    split at h
    · rename_i fs hu
      split at h
      · rename_i fd hfd
        split at h
        · rename_i m hm
          simp only [Option.some.injEq, Prod.mk.injEq] at h
          obtain ⟨rfl, rfl⟩ := h
          have hm0 : ¬ m = 0 := by rintro rfl; simp at hp
          simp [execOp, hf.ev hx, Instr.fieldAt, run_underlying hu, hfd, Instr.sureAddr, fieldPlace, run_sizeOf' hm, hm0, Addr.add_lit]
        · cases h
      · cases h
    · cases h)
theorem qs_indexSlice {e : TypeId} {b o len cap n : Nat} {i : Int} {kd : IntKind} [S : TDesc P t (.slice e)] [Z : TSize P e n] (hx : ev fr x = some (.slice (some ⟨b, o, none⟩) len cap)) (hy : ev fr y = some (.int kd i)) (h0 : 0 ≤ i) (h1 : i < len) : QStep P Γ fr ⟨some d, .indexAddr t x y, ty, pos, aft, gd⟩ (.pointer (some ⟨b, o + i.toNat * n, none⟩)) :=
  qs_of (fun a w hf => by
    have h01 : 0 ≤ i ∧ i < len := ⟨h0, h1⟩
    simp [execOp, hf.ev hx, hf.ev hy, Instr.indexAt, asIntOf, run_underlying S.desc, run_sizeOf' Z.size, h01, Addr.add_lit])
theorem qs_indexSliceN {e : TypeId} {b o len cap n : Nat} {i : Nat} {kd : IntKind} [S : TDesc P t (.slice e)] [Z : TSize P e n] (hx : ev fr x = some (.slice (some ⟨b, o, none⟩) len cap)) (hy : ev fr y = some (.int kd (i : Int)))
    (h1 : i < len) : QStep P Γ fr ⟨some d, .indexAddr t x y, ty, pos, aft, gd⟩ (.pointer (some ⟨b, o + i * n, none⟩)) :=
  qs_indexSlice hx hy (Int.natCast_nonneg i) (by omega)
theorem qs_indexSlice1 {e : TypeId} {b o len cap : Nat} {i : Nat} {kd : IntKind} [S : TDesc P t (.slice e)] [Z : TSize P e 1] (hx : ev fr x = some (.slice (some ⟨b, o, none⟩) len cap)) (hy : ev fr y = some (.int kd (i : Int)))
    (h1 : i < len) : QStep P Γ fr ⟨some d, .indexAddr t x y, ty, pos, aft, gd⟩ (.pointer (some ⟨b, o + i, none⟩)) := by
  have := qs_indexSliceN (P := P) (Γ := Γ) (n := 1) (d := d) (ty := ty) (pos := pos) (aft := aft) (gd := gd) (t := t) hx hy h1
  rwa [Nat.mul_one] at this
theorem qs_indexArr {e : TypeId} {b o len n : Nat} {i : Int} {kd : IntKind} [S : TDesc P t (.array len e)] [Z : TSize P e n] (hx : ev fr x = some (.pointer (some ⟨b, o, none⟩))) (hy : ev fr y = some (.int kd i)) (h0 : 0 ≤ i) (h1 : i < len) : QStep P Γ fr ⟨some d, .indexAddr t x y, ty, pos, aft, gd⟩ (.pointer (some ⟨b, o + i.toNat * n, none⟩)) :=
  qs_of (fun a w hf => by
    have h01 : 0 ≤ i ∧ i < len := ⟨h0, h1⟩
    simp [execOp, hf.ev hx, hf.ev hy, Instr.indexAt, asIntOf, run_underlying S.desc, Instr.sureAddr, run_sizeOf' Z.size, h01, Addr.add_lit])
theorem run_load1 {w : World} {a : Addr} (ho : (P.underlying t).map TypeDesc.isRow = some false) (hc : w.cell? a = some v) : (Instr.loadAt t (.pointer (some a))).run P w = .ok v w := by
  simp [Instr.loadAt, Instr.sureAddr, loadVar, run_isAgg' ho, hc]
theorem run_loadA {w : World} {b o n : Nat} {cs : List Value} (ho : (P.underlying t).map TypeDesc.isRow = some true) (hs : (P.info? t).map (·.size) = some n) (hl : cs.length = n) (hc : ∀ (j : Nat) (v : Value), cs[j]? = some v → w.cell? ⟨b, o + j, none⟩ = some v) :
    (Instr.loadAt t (.pointer (some ⟨b, o, none⟩))).run P w = .ok (.agg cs.toArray) w := by
  have := run_loadCells_list (P := P) w ⟨b, o, none⟩ cs (fun j v hv => by rw [Addr.add_lit]; exact hc j v hv)
  rw [hl] at this
  simp [Instr.loadAt, Instr.sureAddr, loadVar, run_isAgg' ho, run_sizeOf' hs, this]
theorem vs_loadR {c : Chunk} {p : Addr} [T : TOne P t] (hx : ev fr x = some (.pointer (some p))) (s : Sel L c R) (r : Reads c p v) : VStep P Γ fr L ⟨some d, .load t x, ty, pos, aft, gd⟩ (v) :=
  vs_of (fun a w hf hh => by simp [execOp, hf.ev hx, run_load1 T.row (hh.cell s r)])
theorem vs_load {b o : Nat} {xs : List Value} {e : TypeId} {fz : Nat × Nat} [T : TOne P t] (hx : ev fr x = some (.pointer (some ⟨b, o, none⟩))) (s : Sel L (.row b xs e fz) R) (r : xs[o]? = some v) : VStep P Γ fr L ⟨some d, .load t x, ty, pos, aft, gd⟩ (v) :=
  vs_loadR hx s (reads_row r)
theorem vs_loadAR {c : Chunk} {b o n : Nat} {cs : List Value} [T : TAgg P t n] (hx : ev fr x = some (.pointer (some ⟨b, o, none⟩))) (s : Sel L c R) (hl : cs.length = n) (r : ∀ (j : Nat) (v : Value), cs[j]? = some v → Reads c ⟨b, o + j, none⟩ v) : VStep P Γ fr L ⟨some d, .load t x, ty, pos, aft, gd⟩ (.agg cs.toArray) :=
  vs_of (fun a w hf hh => by simp [execOp, hf.ev hx, run_loadA T.row T.size hl (fun j v hv => hh.cell s (r j v hv))])
theorem vs_loadA {b o n : Nat} {xs cs : List Value} {e : TypeId} {fz : Nat × Nat} [T : TAgg P t n] (hx : ev fr x = some (.pointer (some ⟨b, o, none⟩))) (s : Sel L (.row b xs e fz) R) (c : Cut xs o n cs) : VStep P Γ fr L ⟨some d, .load t x, ty, pos, aft, gd⟩ (.agg cs.toArray) :=
  vs_loadAR hx s c.get.1 (fun j v hv => reads_row (c.get.2 j v hv))
theorem Holds.setRow {w : World} {b : Nat} {xs ys : List Value} {e : TypeId} {fz : Nat × Nat} (hh : Holds Γ L w) (s : Sel L (.row b xs e fz) R) : Holds Γ (.row b ys e fz :: R) (w.setRow b ys.toArray) :=
  hh.update s rfl rfl rfl (setRow_heap w b _ _ e fz (hh.block s)) rfl (fun c hc => setRow_other w b c _ hc)
theorem run_storeAt' {w : World} {b o n : Nat} {xs vs : List Value} {e : TypeId} {fz : Nat × Nat} (hs : (P.info? t).map (·.size) = some n) (hv : v.cells.toList = vs) (hn : vs.length = n) (h1 : vs.all (·.oneCell') = true)
    (hb : w.heap[b]? = some (.cells xs.toArray e fz)) (hfz : fz.2 ≤ o) (hl : o + vs.length ≤ xs.length) :
    (Instr.storeAt t (.pointer (some ⟨b, o, none⟩)) v).run P w = .ok () (w.setRow b (xs.take o ++ vs ++ xs.drop (o + vs.length)).toArray) := by
  have hst := run_storeCells_atF P b o e fz vs 0 xs.toArray w hb (by simpa using hfz) (by simpa using hl) (fun v hv => by simpa using (List.all_eq_true.1 h1) v hv)
  simp only [Nat.add_zero] at hst
  have hsz : v.cells.size = n := by rw [← hn, ← hv]; simp
  simp [Instr.storeAt, Instr.sureAddr, storeVar, run_sizeOf' hs, hsz, hv, hst]
theorem ss_storeE {b o n : Nat} {xs vs ys : List Value} {e : TypeId} {fz : Nat × Nat} [T : TSize P t n] (hx : ev fr x = some (.pointer (some ⟨b, o, none⟩))) (hy : ev fr y = some v) (s : Sel L (.row b xs e fz) R)
    (hv : v.cells.toList = vs) (hn : vs.length = n) (h1 : vs.all (·.oneCell') = true) (hfz : fz.2 ≤ o) (hl : o + vs.length ≤ xs.length ∧ ys = xs.take o ++ vs ++ xs.drop (o + vs.length)) :
    SStep P Γ fr L ⟨none, .store t x y, ty, pos, aft, gd⟩ (.row b ys e fz :: R) := by
  obtain ⟨hl, rfl⟩ := hl
  refine ss_of (fun a w hf hh => ⟨_, ?_, hh.setRow (ys := xs.take o ++ vs ++ xs.drop (o + vs.length)) s⟩)
  simp only [execOp, hf.ev hx, hf.ev hy]
  rw [Sem.run_bind, run_storeAt' T.size hv hn h1 (hh.block s) hfz hl]
  rfl
theorem ss_storeA {b o n : Nat} {xs vs ys : List Value} {e : TypeId} [T : TAgg P t n] (hx : ev fr x = some (.pointer (some ⟨b, o, none⟩))) (hy : ev fr y = some (.agg vs.toArray))
    (hn : Nat.beq vs.length n = true) (h1 : vs.all (·.oneCell') = true) (s : Sel L (.row b xs e) R) (p : Put xs o vs ys) :
    SStep P Γ fr L ⟨none, .store t x y, ty, pos, aft, gd⟩ (.row b ys e :: R) :=
  haveI : TSize P t n := ⟨T.size⟩
  ss_storeE (n := n) hx hy s (by simp [Value.cells]) (Nat.eq_of_beq_eq_true hn) h1 (Nat.zero_le _) p.eq
theorem ss_store {b o : Nat} {xs ys : List Value} {e : TypeId} [T : TOne P t] (hx : ev fr x = some (.pointer (some ⟨b, o, none⟩))) (hy : ev fr y = some v)
    (h1 : v.oneCell' = true) (s : Sel L (.row b xs e) R) (p : Put xs o [v] ys) :
    SStep P Γ fr L ⟨none, .store t x y, ty, pos, aft, gd⟩ (.row b ys e :: R) :=
  haveI : TSize P t 1 := ⟨T.size⟩
  ss_storeE (n := 1) hx hy s (by cases v <;> simp_all [Value.cells, Value.oneCell']) rfl (by simp [h1]) (Nat.zero_le _) p.eq
theorem Holds.newRow {w : World} {e : TypeId} {xs : Array Value} (hh : Holds Γ L w) : Holds Γ (.pt w.heap.size (.cells xs e (0, 0)) :: L) (w.alloc (.cells xs e)) :=
  hh.new rfl rfl rfl rfl rfl
theorem cs_allocA {zs : List Value} [Z : TZero P t (.agg zs.toArray)] : CStep P Γ fr L ⟨some d, .alloc t, ty, pos, aft, gd⟩ (X := Nat) (fun b => .pointer (some ⟨b, 0, none⟩)) (fun b => .row b zs t :: L) (fun _ => True) :=
  cs_of (fun a w hf hh => ⟨w.heap.size, w.alloc (.cells zs.toArray t), trivial, by simp [execOp, Instr.alloc, run_zeroValue' Z.zero, newVar, newRow, Value.cells], hh.newRow⟩)
theorem cs_alloc1 {z : Value} [Z : TZero P t z] (h1 : z.oneCell' = true) : CStep P Γ fr L ⟨some d, .alloc t, ty, pos, aft, gd⟩ (X := Nat) (fun b => .pointer (some ⟨b, 0, none⟩)) (fun b => .row b [z] t :: L) (fun _ => True) :=
  cs_of (fun a w hf hh => ⟨w.heap.size, w.alloc (.cells #[z] t), trivial, by
      have : z.cells = #[z] := by cases z <;> simp_all [Value.cells, Value.oneCell']
      simp [execOp, Instr.alloc, run_zeroValue' Z.zero, newVar, newRow, this], hh.newRow⟩)
theorem cs_boxA {zs : List Value} (hx : ev fr x = some (.agg zs.toArray)) : CStep P Γ fr L ⟨some d, .box t x, ty, pos, aft, gd⟩ (X := Nat) (fun b => .pointer (some ⟨b, 0, none⟩)) (fun b => .row b zs t :: L) (fun _ => True) :=
  cs_of (fun a w hf hh => ⟨w.heap.size, w.alloc (.cells zs.toArray t), trivial, by simp [execOp, hf.ev hx, Instr.box, newVar, newRow, Value.cells], hh.newRow⟩)
theorem cs_box1 (hx : ev fr x = some v) (h1 : v.oneCell' = true) : CStep P Γ fr L ⟨some d, .box t x, ty, pos, aft, gd⟩ (X := Nat) (fun b => .pointer (some ⟨b, 0, none⟩)) (fun b => .row b [v] t :: L) (fun _ => True) :=
  cs_of (fun a w hf hh => ⟨w.heap.size, w.alloc (.cells #[v] t), trivial, by
      have : v.cells = #[v] := by cases v <;> simp_all [Value.cells, Value.oneCell']
      simp [execOp, hf.ev hx, Instr.box, newVar, newRow, this], hh.newRow⟩)
inductive CellsOf : Value → List Value → Prop where
  | agg {vs : List Value} : CellsOf (.agg vs.toArray) vs
  | one {v : Value} : v.oneCell' = true → CellsOf v [v]
theorem CellsOf.eq {vs : List Value} (h : CellsOf v vs) : v.cells = vs.toArray := by
  cases h with
  | agg => rfl
  | one h => cases v <;> simp_all [Value.cells, Value.oneCell']
inductive Bld (P : Program) (fr : Fr) (t : TypeId) : List (Nat × Operand) → List Value → List Value → Prop where
  | nil {zs : List Value} : Bld P fr t [] zs zs
  | cons {i off n : Nat} {x : Operand} {v : Value} {vs zs ys out : List Value} {ps : List (Nat × Operand)} : ev fr x = some v → fieldOff P t i = some (off, n) → CellsOf v vs → Nat.beq vs.length n = true → Put zs off vs ys → Bld P fr t ps ys out → Bld P fr t ((i, x) :: ps) zs out
theorem foldl_put (off : Nat) : ∀ (vs : List Value) (j : Nat) (xs : List Value), off + j + vs.length ≤ xs.length →
    ((vs.zipIdx j).foldl (fun (cs : Array Value) (p : Value × Nat) => cs.setIfInBounds (off + p.2) p.1) xs.toArray) = (xs.take (off + j) ++ vs ++ xs.drop (off + j + vs.length)).toArray
  | [], j, xs, _ => by simp
  | v :: vs, j, xs, h => by
    simp only [List.length_cons] at h
    have ih := foldl_put off vs (j + 1) (xs.set (off + j) v) (by simp; omega)
    simp only [List.zipIdx_cons, List.foldl_cons, List.setIfInBounds_toArray]
    rw [ih]
    congr 1
    have hlt : off + j < xs.length := by omega
    have e1 : (xs.set (off + j) v).take (off + (j + 1)) = xs.take (off + j) ++ [v] := by
      rw [show off + (j + 1) = (off + j) + 1 by omega, List.take_set, List.take_succ_eq_append_getElem hlt, List.set_append]
      simp [Nat.min_eq_left (Nat.le_of_lt hlt)]
    rw [e1, List.drop_set_of_lt (by omega), show off + (j + 1) + vs.length = off + j + (vs.length + 1) by omega]
    simp only [List.append_assoc, List.singleton_append, List.length_cons, List.cons_append, List.nil_append]
theorem mapM_get {α β : Type} {g : α → Option β} : ∀ {l : List α} {r : List β}, l.mapM g = some r → ∀ {i : Nat} {x : α}, l[i]? = some x → ∃ y, r[i]? = some y ∧ g x = some y
  | [], r, h, i, x, hx => by simp at hx
  | z :: l, r, h, i, x, hx => by
    simp only [List.mapM_cons, Option.bind_eq_bind, Option.pure_def, Option.bind_eq_some_iff] at h
    obtain ⟨y, hy, r', hr', e⟩ := h
    simp only [Option.some.injEq] at e
    subst e
    cases i with
    | zero => simp at hx; subst hx; exact ⟨y, by simp, hy⟩
    | succ i => simpa using mapM_get hr' (i := i) (x := x) (by simpa using hx)
theorem Bld.fill {ps : List (Nat × Operand)} {zs out : List Value} {a : Act} (h : Bld P fr t ps zs out) (hf : fr.ok a) {fs : Array Field} (hu : P.underlying t = some (.struct fs)) {places : List (Nat × Nat)}
    (hp : fs.toList.mapM (fun f => (P.info? f.type).map fun i => (f.offset, i.size)) = some places) :
    Instr.fill (places[·]?) zs.toArray (ps.map fun p => (p.1, a.eval p.2)) = some out.toArray := by
  induction h with
  | nil => rfl
  | @cons i off n x v vs zs ys out ps hx hfo hc hn hput _ ih =>
    obtain ⟨hle, rfl⟩ := hput.eq
    have hvn : vs.length = n := Nat.eq_of_beq_eq_true hn
    have hpl : places[i]? = some (off, n) := by
      unfold fieldOff at hfo
      rw [hu] at hfo
      simp only at hfo
      cases hfi : fs[i]? with
      | none => simp [hfi] at hfo
      | some fd =>
        simp only [hfi] at hfo
        obtain ⟨q, hq, hg⟩ := mapM_get hp (i := i) (x := fd) (by simpa using hfi)
        cases hin : P.info? fd.type with
        | none => simp [hin] at hg
        | some inf =>
          simp only [hin, Option.map_some, Option.some.injEq] at hg hfo
          rw [hq, ← hg, hfo]
    have hsz : v.cells.size = n := by rw [hc.eq]; simpa using hvn
    have hnot : ¬ (v.cells.size ≠ n ∨ off + v.cells.size > zs.toArray.size) := by
      rw [hsz, ← hvn]; simp; omega
    have hfold := foldl_put off vs 0 zs (by simpa using hle)
    simp only [Nat.add_zero] at hfold
    simp only [List.map_cons, Instr.fill, hf.ev hx, hpl]
    rw [if_neg (by simpa using hnot)]
    rw [hc.eq, ← ih]
    congr 1
    rw [← hfold, ← Array.foldl_toList, Array.toList_zipIdx]
end Go.Sl

namespace Go.Sl
variable {P : Program} {Γ : Ctx} {L R : List Chunk} {N : Nat} {fr : Fr} {Q : Exit → Act → World → Prop} {ops : Array Oper} {rest : List Oper}
variable {d : Nat} {ty : TypeId} {pos : String} {aft : Array Edge} {gd : Option (Nat × Bool)} {x y : Operand} {v u : Value} {t t2 : TypeId}
class TPlaces (P : Program) (t : TypeId) : Prop where
  places : (match P.underlying t with | some (.struct fs) => (fs.toList.mapM (fun f => (P.info? f.type).map fun i => (f.offset, i.size))).isSome | _ => false) = true
theorem qs_build {ps : List (Nat × Operand)} {zs out : List Value} [Z : TZero P t (.agg zs.toArray)] [T : TPlaces P t] (b : Bld P fr t ps zs out) : QStep P Γ fr ⟨some d, .build t ps.toArray, ty, pos, aft, gd⟩ (.agg out.toArray) :=
  qs_of (fun a w hf => by
    have hp := T.places
    split at hp
    · rename_i fs hu
      obtain ⟨places, hpl⟩ := Option.isSome_iff_exists.1 hp
      have hfill := b.fill hf hu hpl
      have hrun : (Instr.build t (ps.map fun p => (p.1, a.eval p.2)).toArray).run P w = .ok (.agg out.toArray) w := by
        simp [Instr.build, run_zeroValue' Z.zero, run_underlying hu, Value.cells, Array.mapM_eq_mapM_toList, run_places w _ _ hpl, hfill]
      simp only [execOp]
      rw [show (ps.toArray.map fun (x : Nat × Operand) => (x.1, a.eval x.2)) = (ps.map fun p => (p.1, a.eval p.2)).toArray by simp]
      rw [Sem.run_bind, hrun]
      rfl
    · cases hp)
inductive App {α : Type} : List α → List α → List α → Prop where
  | nil {ys : List α} : App [] ys ys
  | cons {x : α} {xs ys zs : List α} : App xs ys zs → App (x :: xs) ys (x :: zs)
theorem App.eq {α : Type} {xs ys zs : List α} (h : App xs ys zs) : zs = xs ++ ys := by
  induction h with
  | nil => rfl
  | cons _ ih => simp [ih]
inductive Parts (fr : Fr) (n : Nat) : Nat → List (Nat × Operand) → List Value → Prop where
  | nil {i : Nat} : Parts fr n i [] []
  | cons {i : Nat} {x : Operand} {v : Value} {vs out all : List Value} {ps : List (Nat × Operand)} : ev fr x = some v → CellsOf v vs → Nat.beq vs.length n = true → Parts fr n (i + 1) ps out → App vs out all → Parts fr n i ((i, x) :: ps) all
theorem Parts.fill {n i : Nat} {ps : List (Nat × Operand)} {out : List Value} {a : Act} (h : Parts fr n i ps out) (hf : fr.ok a) : ∀ zs : List Value, i * n + out.length ≤ zs.length →
    out.length = ps.length * n ∧ Instr.fill (fun i => some (i * n, n)) zs.toArray (ps.map fun p => (p.1, a.eval p.2)) = some (zs.take (i * n) ++ out ++ zs.drop (i * n + out.length)).toArray := by
  induction h with
  | nil => intro zs _; simp [Instr.fill]
  | @cons i x v vs out all ps hx hc hn _ happ ih =>
    intro zs hle
    obtain rfl := happ.eq
    have hvn : vs.length = n := Nat.eq_of_beq_eq_true hn
    have hsz : v.cells.size = n := by rw [hc.eq]; simpa using hvn
    simp only [List.length_append] at hle
    have hexp : (i + 1) * n = i * n + n := Nat.succ_mul i n
    have hfold := foldl_put (i * n) vs 0 zs (by omega)
    simp only [Nat.add_zero] at hfold
    have hlen2 : (zs.take (i * n) ++ vs ++ zs.drop (i * n + vs.length)).length = zs.length := by simp; omega
    obtain ⟨h1, h2⟩ := ih (zs.take (i * n) ++ vs ++ zs.drop (i * n + vs.length)) (by rw [hlen2, hexp]; omega)
    refine ⟨by simp only [List.length_append, List.length_cons]; rw [h1, hvn, Nat.succ_mul]; omega, ?_⟩
    simp only [List.map_cons, Instr.fill, hf.ev hx]
    rw [if_neg (by rw [hsz]; simp; omega)]
    rw [hc.eq]
    have e : (vs.toArray.zipIdx.foldl (fun cs (x : Value × Nat) => cs.setIfInBounds (i * n + x.2) x.1) zs.toArray) = (zs.take (i * n) ++ vs ++ zs.drop (i * n + vs.length)).toArray := by
      rw [← hfold, ← Array.foldl_toList, Array.toList_zipIdx]
    have e' : (vs.toArray.zipIdx.foldl (fun cs x => match x with | (c, j) => cs.setIfInBounds (i * n + j) c) zs.toArray) = (zs.take (i * n) ++ vs ++ zs.drop (i * n + vs.length)).toArray := e
    rw [e', h2]
    have hl1 : (zs.take (i * n) ++ vs).length = (i + 1) * n := by simp; omega
    have e2 : (zs.take (i * n) ++ vs ++ zs.drop (i * n + vs.length)).take ((i + 1) * n) = zs.take (i * n) ++ vs := List.take_left' hl1
    have e3 : (zs.take (i * n) ++ vs ++ zs.drop (i * n + vs.length)).drop ((i + 1) * n + out.length) = zs.drop (i * n + (vs.length + out.length)) := by
      rw [← hl1, ← List.drop_drop, List.drop_left, List.drop_drop, Nat.add_assoc]
    rw [e2, e3]
    simp only [List.append_assoc, List.length_append]
theorem cs_buildSlice {e : TypeId} {n len : Nat} {z : Value} {ps : List (Nat × Operand)} {out : List Value} [S : TDesc P t (.slice e)] [Z : TSize P e n] [Y : TZero P e z] (hl : Nat.beq ps.length len = true) (hp : Nat.blt 0 (len * n) = true) (hsm : Nat.ble (len * n) 16777216 = true) (b : Parts fr n 0 ps out) :
    CStep P Γ fr L ⟨some d, .buildSlice t len ps.toArray, ty, pos, aft, gd⟩ (X := Nat) (fun b => .slice (some ⟨b, 0, none⟩) len len) (fun b => .row b out e :: L) (fun _ => True) :=
  cs_of (fun a w hf hh => by
      have hlen : ps.length = len := Nat.eq_of_beq_eq_true hl
      cases hie : P.info? e with
      | none => have := Z.size; simp [hie] at this
      | some ie =>
        have hs : ie.size = n := by have := Z.size; simpa [hie] using this
        have hz : ie.zero = some z := by have := Y.zero; simpa [hie] using this
        have hsm' : ¬ len * ie.size > 2 ^ 24 := by rw [hs]; have := Nat.le_of_ble_eq_true hsm; omega
        have hp' : ¬ len * ie.size = 0 := by rw [hs]; have := Nat.le_of_ble_eq_true hp; omega
        have hfl := b.fill hf ((List.range (len * n)).map (z.cells[· % z.cells.size]!)) (by
          obtain ⟨h1, _⟩ := b.fill hf (List.replicate out.length undef) (by simp)
          rw [h1, hlen]; simp)
        have hol : out.length = len * n := by rw [hfl.1, hlen]
        have hfill : Instr.fill (fun i => some (i * ie.size, ie.size)) ((Array.range (len * ie.size)).map (z.cells[· % z.cells.size]!)) (ps.map fun p => (p.1, a.eval p.2)) = some out.toArray := by
          rw [hs, show (Array.range (len * n)).map (z.cells[· % z.cells.size]!) = ((List.range (len * n)).map (z.cells[· % z.cells.size]!)).toArray by simp [← List.toArray_range]]
          rw [hfl.2, hol]
          simp
        have hrun := run_buildSlice (P := P) w t e len (ps.map fun p => (p.1, a.eval p.2)).toArray out.toArray ie z S.desc hie hz hsm' hp' (by simpa using hfill)
        refine ⟨w.heap.size, _, trivial, ?_, hh.newRow (e := e) (xs := out.toArray)⟩
        simp only [execOp]
        rw [show (ps.toArray.map fun (x : Nat × Operand) => (x.1, a.eval x.2)) = (ps.map fun p => (p.1, a.eval p.2)).toArray by simp]
        rw [Sem.run_bind, hrun]
        rfl)
theorem qs_lenSlice {e : TypeId} {p : Option Addr} {n c : Nat} [S : TDesc P t (.slice e)] (hx : ev fr x = some (.slice p n c)) : QStep P Γ fr ⟨some d, .call ⟨.builtin .len, [x].toArray, [t].toArray⟩, ty, pos, aft, gd⟩ (.int .i64 n) :=
  qs_of (fun a w hf => by simp [execOp, resolve, hf.ev hx, invoke, builtin, Builtin.len_, run_underlying S.desc, goInt])
theorem qs_lenString {s : ByteArray} [S : TDesc P t .string] (hx : ev fr x = some (.string s)) : QStep P Γ fr ⟨some d, .call ⟨.builtin .len, [x].toArray, [t].toArray⟩, ty, pos, aft, gd⟩ (.int .i64 s.size) :=
  qs_of (fun a w hf => by simp [execOp, resolve, hf.ev hx, invoke, builtin, Builtin.len_, run_underlying S.desc, goInt])
def Post {X : Type} (Γ : Ctx) (ret : X → Value) (B : X → List Chunk) (φ : X → Prop) : Ending → World → Prop :=
  fun e w => ∃ x, φ x ∧ e = .returned (ret x) ∧ Holds Γ (B x) w
def Does (P : Program) (f : FuncId) (args : List Value) (A : List Chunk) {X : Type} (ret : X → Value) (B : X → List Chunk) (φ : X → Prop) : Prop :=
  ∀ Γ w, Holds Γ A w → Calls P f args.toArray w (Post Γ ret B φ)
abbrev Does1 (P : Program) (f : FuncId) (args : List Value) (A : List Chunk) (v : Value) : Prop := Does P f args A (X := Unit) (fun _ => v) (fun _ => A) (fun _ => True)
inductive Evs (fr : Fr) : List Operand → List Value → Prop where
  | nil : Evs fr [] []
  | cons {x : Operand} {v : Value} {xs : List Operand} {vs : List Value} : ev fr x = some v → Evs fr xs vs → Evs fr (x :: xs) (v :: vs)
theorem Evs.map {xs : List Operand} {vs : List Value} {a : Act} (h : Evs fr xs vs) (hf : fr.ok a) : xs.map a.eval = vs := by
  induction h with
  | nil => rfl
  | cons e _ ih => simp [hf.ev e, ih]
theorem run_call {f : FuncId} {xs : List Operand} {vs : List Value} {tys : Array TypeId} {a : Act} {w : World} [C : Callable P f] (he : Evs fr xs vs) (hf : fr.ok a) (o : Oper) (ho : o.op = .call ⟨.value (.func f), xs.toArray, tys⟩) :
    (execOp a.eval o).run P w = .ok (.enter f vs.toArray) w := by
  have := C.call vs.toArray w
  simp [execOp, ho, resolve, Deferred.ofValue, invoke, Act.eval, he.map hf, this]
theorem cs_call {X : Type} {f : FuncId} {xs : List Operand} {vs : List Value} {tys : Array TypeId} {A : List Chunk} {ret : X → Value} {B : X → List Chunk} {φ : X → Prop} {dst : Option Tmp} [C : Callable P f]
    (fn : Does P f vs A ret B φ) (he : Evs fr xs vs) (tk : Take L A R) : CStep P Γ fr L ⟨dst, .call ⟨.value (.func f), xs.toArray, tys⟩, ty, pos, aft, gd⟩ ret (fun x => B x ++ R) φ := by
  intro a hf w hh
  unfold opRes
  rw [run_call he hf _ rfl]
  obtain ⟨m, dm, hr, hA⟩ := (hh.take tk).split
  refine (fn _ w hA).mono ?_
  rintro e w' ⟨x, hx, rfl, hB⟩
  exact ⟨_, rfl, x, hx, rfl, hB.join dm hr⟩
theorem cs_call1 {f : FuncId} {xs : List Operand} {vs : List Value} {tys : Array TypeId} {A : List Chunk} {dst : Option Tmp} [C : Callable P f]
    (fn : Does1 P f vs A v) (he : Evs fr xs vs) (tk : Take L A R) : CStep P Γ fr L ⟨dst, .call ⟨.value (.func f), xs.toArray, tys⟩, ty, pos, aft, gd⟩ (X := Unit) (fun _ => v) (fun _ => A ++ R) (fun _ => True) := cs_call fn he tk
theorem qs_call {f : FuncId} {xs : List Operand} {vs : List Value} {tys : Array TypeId} {dst : Option Tmp} [C : Callable P f]
    (fn : Does1 P f vs [] v) (he : Evs fr xs vs) : QStep P Γ fr ⟨dst, .call ⟨.value (.func f), xs.toArray, tys⟩, ty, pos, aft, gd⟩ v := fun a hf L w hh =>
  (cs_call fn he (Take.nil (L := L)) a hf w hh).mono fun u w' ⟨_, _, e, h⟩ => ⟨e, h⟩
theorem g_call {X : Type} {f : FuncId} {xs : List Operand} {vs : List Value} {tys : Array TypeId} {A : List Chunk} {ret : X → Value} {B : X → List Chunk} {φ : X → Prop} [C : Callable P f]
    (fn : Does P f vs A ret B φ) (hg : Runs ops fr gd) (hN : Nat.blt d N = true) (he : Evs fr xs vs) (tk : Take L A R)
    (k : ∀ x, φ x → G Γ N ((d, ret x) :: fr) (B x ++ R) (wpList P ops Q rest)) : G Γ N fr L (wpList P ops Q (⟨some d, .call ⟨.value (.func f), xs.toArray, tys⟩, ty, pos, aft, gd⟩ :: rest)) :=
  g_c (cs_call fn he tk) hg hN k
theorem g_call1 {f : FuncId} {xs : List Operand} {vs : List Value} {tys : Array TypeId} {A : List Chunk} [C : Callable P f]
    (fn : Does1 P f vs A v) (hg : Runs ops fr gd) (hN : Nat.blt d N = true) (he : Evs fr xs vs) (tk : Take L A R)
    (k : G Γ N ((d, v) :: fr) (A ++ R) (wpList P ops Q rest)) : G Γ N fr L (wpList P ops Q (⟨some d, .call ⟨.value (.func f), xs.toArray, tys⟩, ty, pos, aft, gd⟩ :: rest)) :=
  g_call fn hg hN he tk fun _ _ => k
inductive RVs (P : Program) (fr : Fr) (L : List Chunk) : List ResultVar → List Value → Prop where
  | nil : RVs P fr L [] []
  | tmp {t : Nat} {v : Value} {rs : List ResultVar} {vs : List Value} : look fr t = some v → RVs P fr L rs vs → RVs P fr L (.tmp t :: rs) (v :: vs)
  | cellA {t b o n : Nat} {ty e : TypeId} {fz : Nat × Nat} {xs cs : List Value} {R : List Chunk} {rs : List ResultVar} {vs : List Value} [T : TAgg P ty n] :
      look fr t = some (.pointer (some ⟨b, o, none⟩)) → Sel L (.row b xs e fz) R → Cut xs o n cs → RVs P fr L rs vs → RVs P fr L (.cell t ty :: rs) (.agg cs.toArray :: vs)
  | cell1 {t b o : Nat} {ty e : TypeId} {fz : Nat × Nat} {v : Value} {xs : List Value} {R : List Chunk} {rs : List ResultVar} {vs : List Value} [T : TOne P ty] :
      look fr t = some (.pointer (some ⟨b, o, none⟩)) → Sel L (.row b xs e fz) R → xs[o]? = some v → RVs P fr L rs vs → RVs P fr L (.cell t ty :: rs) (v :: vs)
def pack : List Value → Value
  | [v] => v
  | vs => .tuple vs.toArray
def rvSem (tmps : Array Value) : ResultVar → Sem Value
  | .tmp t => pure (tmps.getD t undef)
  | .cell a t => do loadVar t (← asAddr (tmps.getD a undef))
theorem RVs.run {rs : List ResultVar} {vs : List Value} {a : Act} {w : World} (h : RVs P fr L rs vs) (hf : fr.ok a) (hh : Holds Γ L w) : (rs.mapM (rvSem a.tmps)).run P w = .ok vs w := by
  induction h with
  | nil => simp
  | tmp hl _ ih =>
    have e := hf _ _ hl
    simp only [List.mapM_cons, rvSem]
    rw [Sem.run_bind, Sem.run_pure, Result.andThen_ok, Sem.run_bind, ih]
    simp only [Result.andThen_ok, Sem.run_pure, e]
  | @cellA t b o n ty e fz xs cs R rs vs T hl s c _ ih =>
    have e := hf _ _ hl
    have hv := run_loadA (P := P) (t := ty) (w := w) (b := b) (o := o) T.row T.size c.get.1 (fun j v hv => hh.cell s (reads_row (c.get.2 j v hv)))
    have hv' : (loadVar ty ⟨b, o, none⟩).run P w = .ok (.agg cs.toArray) w := by simpa [Instr.loadAt, Instr.sureAddr] using hv
    simp only [List.mapM_cons, rvSem, e, asAddr]
    rw [Sem.run_bind, Sem.run_bind, Sem.run_pure, Result.andThen_ok, hv', Result.andThen_ok, Sem.run_bind, ih]
    simp
  | @cell1 t b o ty e fz v xs R rs vs T hl s c _ ih =>
    have e := hf _ _ hl
    have hv := run_load1 (P := P) (t := ty) (w := w) (a := ⟨b, o, none⟩) T.row (hh.cell s (reads_row c))
    have hv' : (loadVar ty ⟨b, o, none⟩).run P w = .ok v w := by simpa [Instr.loadAt, Instr.sureAddr] using hv
    simp only [List.mapM_cons, rvSem, e, asAddr]
    rw [Sem.run_bind, Sem.run_bind, Sem.run_pure, Result.andThen_ok, hv', Result.andThen_ok, Sem.run_bind, ih]
    simp
theorem RVs.res {fn : Func} {rs : List ResultVar} {vs : List Value} {a : Act} {w : World} (hr : fn.results = rs.toArray) (h : RVs P fr L rs vs) (hf : fr.ok a) (hh : Holds Γ L w) : (Go.results fn a.tmps).run P w = .ok (pack vs) w := by
  have hm := h.run hf hh
  have : Go.results fn a.tmps = (do let vs ← fn.results.mapM (rvSem a.tmps); pure (if h : vs.size = 1 then vs[0] else .tuple vs)) := by
    unfold Go.results
    congr 1
  rw [this, hr, Array.mapM_eq_mapM_toList]
  simp only [Sem.run_bind, Sem.run_map, hm, Result.andThen_ok, Sem.run_pure]
  congr 1
  match vs with
  | [] => rfl
  | [v] => rfl
  | v :: u :: vs => simp [pack]
section
variable {X : Type} {fn : Func} {ret : X → Value} {B : X → List Chunk} {φ : X → Prop} {rs : List ResultVar} {vs : List Value}
theorem g_ret (x : X) (hr : fn.results = rs.toArray) (h : RVs P fr L rs vs) (tk : Take L (B x) R) (hp : pack vs = ret x) (hx : φ x) (hdf : Γ.df = [] := by rfl) : G Γ N fr L (bodyPost P fn (Post Γ ret B φ) .ret) :=
  fun _ _ _ hd hf hh => ⟨hd.trans hdf, _, RVs.res hr h hf hh, x, hx, by rw [hp], hh.takeDrop tk⟩
theorem g_end (x : X) (hr : fn.results = rs.toArray) (h : RVs P fr L rs vs) (tk : Take L (B x) R) (hp : pack vs = ret x) (hx : φ x) (hdf : Γ.df = [] := by rfl) : G Γ N fr L (bodyPost P fn (Post Γ ret B φ) .normal) :=
  fun _ _ _ hd hf hh => ⟨hd.trans hdf, _, RVs.res hr h hf hh, x, hx, by rw [hp], hh.takeDrop tk⟩
end
@[reducible] def Ctx.z (Γ : Ctx) : Ctx := { Γ with df := [] }
theorem Holds.z {Γ : Ctx} {L : List Chunk} {w : World} (h : Holds Γ L w) : Holds Γ.z L w := ⟨h.os, h.tape, h.output, h.frz, h.frame, h.own⟩
theorem Holds.unz {Γ : Ctx} {L : List Chunk} {w : World} (h : Holds Γ.z L w) : Holds Γ L w := ⟨h.os, h.tape, h.output, h.frz, h.frame, h.own⟩
theorem post_unz {X : Type} {Γ : Ctx} {ret : X → Value} {B : X → List Chunk} {φ : X → Prop} {e : Ending} {w : World} (h : Post Γ.z ret B φ e w) : Post Γ ret B φ e w := by
  obtain ⟨x, hx, he, hB⟩ := h
  exact ⟨x, hx, he, hB.unz⟩
theorem bodyPost_unz {X : Type} {fn : Func} {Γ : Ctx} {ret : X → Value} {B : X → List Chunk} {φ : X → Prop} {e : Exit} {a : Act} {w : World} (h : bodyPost P fn (Post Γ.z ret B φ) e a w) : bodyPost P fn (Post Γ ret B φ) e a w := by
  cases e with
  | normal => obtain ⟨h1, v, h2, h3⟩ := h; exact ⟨h1, v, h2, post_unz h3⟩
  | ret => obtain ⟨h1, v, h2, h3⟩ := h; exact ⟨h1, v, h2, post_unz h3⟩
  | panic c => exact ⟨h.1, post_unz h.2⟩
  | outgrown => exact post_unz h
  | exit i => exact h
  | goto l => exact h
def argFr : Nat → List Value → Fr
  | _, [] => []
  | i, v :: vs => (i, v) :: argFr (i + 1) vs
theorem argFr_ok : ∀ (vs : List Value) (i t : Nat) (v : Value), look (argFr i vs) t = some v → i ≤ t ∧ vs[t - i]? = some v
  | [], _, _, _, h => by simp [argFr, look] at h
  | u :: us, i, t, v, h => by
    simp only [argFr, look] at h
    cases hb : Nat.beq i t with
    | true => rw [hb] at h; simp at h; subst h; have := Nat.eq_of_beq_eq_true hb; subst this; simp
    | false =>
      rw [hb] at h
      have := argFr_ok us (i + 1) t v (by simpa using h)
      refine ⟨by omega, ?_⟩
      rw [show t - i = (t - (i + 1)) + 1 by omega]
      simpa using this.2
theorem fn_intro {X : Type} {f : FuncId} {fn : Func} {c : Code} {args : List Value} {A : List Chunk} {ret : X → Value} {B : X → List Chunk} {φ : X → Prop}
    (hf : P.funcs[f]? = some fn) (hb : fn.body = some c) (hN : fn.ntmps = N) (hle : Nat.ble args.length N = true) (hfr : argFr 0 args = fr)
    (g : ∀ Γ : Ctx, G Γ.z N fr A (c.wp P (bodyPost P fn (Post Γ.z ret B φ)))) : Does P f args A ret B φ := by
  intro Γ w hh
  refine calls_of_wp hf hb ?_
  have hle' := Nat.le_of_ble_eq_true hle
  refine wp_mono (g Γ { tmps := args.toArray ++ Array.replicate (fn.ntmps - args.toArray.size) undef, defers := [] } w (by simp [hN]; omega) rfl ?_ hh.z) (fun e a w h => bodyPost_unz h)
  intro t v h
  rw [← hfr] at h
  obtain ⟨_, h2⟩ := argFr_ok args 0 t v h
  simp only [Nat.sub_zero] at h2
  have hlt : t < args.length := (List.getElem?_eq_some_iff.1 h2).1
  have h3 : args[t] = v := by rw [List.getElem?_eq_getElem hlt] at h2; simpa using h2
  simp [Array.getD_eq_getD_getElem?, Array.getElem?_append, hlt, h3]
end Go.Sl
