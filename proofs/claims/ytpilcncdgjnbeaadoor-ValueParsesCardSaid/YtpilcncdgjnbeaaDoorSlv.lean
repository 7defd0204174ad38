/- Part 21: nothing appended; a part with all three bounds; clear. -/
import Derived.Test.YtpilcncdgjnbeaaDoorSlu
import Derived.Deep.Upon
import Derived.Lib.SliceRun
set_option linter.unusedSimpArgs false
set_option linter.unusedVariables false
namespace Go.Sl
variable {P : Program} {Γ : Ctx} {L R : List Chunk} {N : Nat} {fr : Fr} {Q : Exit → Act → World → Prop} {ops : Array Oper} {rest : List Oper}
variable {d : Nat} {ty : TypeId} {pos : String} {aft : Array Edge} {gd : Option (Nat × Bool)} {x y z : Operand} {v u : Value} {t t2 tx : TypeId}
theorem vs_appendNone {e n len cap c' : Nat} {p p' : Option Addr} (D : TDesc P t (.slice e)) (D2 : TDesc P tx (.slice e)) (S : TSize P e n) (hx : ev fr x = some (.slice p len cap)) (hy : ev fr y = some (.slice p' 0 c')) (hle : len ≤ cap) :
    VStep P Γ fr L ⟨some d, .call ⟨.builtin .append, [x, y].toArray, [t, tx].toArray⟩, ty, pos, aft, gd⟩ (.slice p len cap) := vs_of (fun a w hf hh => by
  cases hi : P.info? e with
  | none => have := S.size; simp [hi] at this
  | some i =>
    have hs := run_append_nothing w t tx ty e i D.desc hi p len cap hle (.slice p' 0 c') (srcNil D2 w hh)
    simp [execOp, resolve, hf.ev hx, hf.ev hy, invoke, builtin_append', hs])
theorem qs_slice3 {e : TypeId} {p : Option Addr} {len cap n l h m : Nat} {x1 x2 x3 : Operand} {i1 i2 i3 : Int} (D : TDesc P t (.slice e)) (S : TSize P e n) (hx : ev fr x = some (.slice p len cap)) (g1 : ev fr x1 = some (.int .i64 i1)) (g2 : ev fr x2 = some (.int .i64 i2)) (g3 : ev fr x3 = some (.int .i64 i3))
    (e1 : i1 = l) (e2 : i2 = h) (e3 : i3 = m) (h1 : l ≤ h) (h2 : h ≤ m) (h3 : m ≤ cap) :
    QStep P Γ fr ⟨some d, .slice t x (some x1) (some x2) (some x3), ty, pos, aft, gd⟩ (.slice (if m = l then p else p.map (·.add (l * n))) (h - l) (m - l)) := qs_of (fun a w hf => by
  subst e1 e2 e3
  have hsz := run_sizeOf' (P := P) (t := e) S.size w
  have e3 : (Instr.sliceBounds true len cap (some (.int .i64 l)) (some (.int .i64 h)) (some (.int .i64 m))).run P w = .ok (l, h, m) w := by simp [Instr.sliceBounds, run_sliceBound, h1, h2, h3]
  simp only [execOp, hf.ev hx, Option.map_some, hf.ev g1, hf.ev g2, hf.ev g3, Instr.sliceAt, Instr.slice, Sem.run_bind, run_underlying D.desc, Result.andThen_ok, e3, hsz, Sem.run_pure])
theorem ss_clear {e : TypeId} {b len cap c' : Nat} {xs : List Value} {zv : Value} (D : TDesc P t (.slice e)) (Z : TZero P e zv) (hz : zv.cells = #[zv]) (h1 : zv.oneCell' = true) (hx : ev fr x = some (.slice (some ⟨b, 0, none⟩) len c')) (hl : 0 < len) (s : Sel L (.own (some ⟨b, 0, none⟩) len cap 1 xs e) R) :
    SStep P Γ fr L ⟨none, .call ⟨.builtin .clear, [x].toArray, [t].toArray⟩, ty, pos, aft, gd⟩ (.own (some ⟨b, 0, none⟩) len cap 1 (List.replicate len zv) e :: R) := fun a hf w hh => by
  have hpl := (own_place hh s).1
  rw [Nat.mul_one] at hpl
  obtain ⟨junk, ⟨_, ho⟩, e3, e4, hrow⟩ := hh.ownRow s (by omega)
  have hb := hrow.block .here
  have hone : ∀ v ∈ List.replicate len zv, v.oneCell' = true := fun v hv => by rw [List.eq_of_mem_replicate hv]; exact h1
  have hcl := Lib.run_clear_slice w t e ty zv D.desc (fun w => run_zeroValue' Z.zero w) hz h1 b 0 len c' hl (fun j hj => by
    have : j < (xs ++ junk).length := by simp only [List.length_append]; omega
    simp only [Nat.zero_add, World.cell?, hb, List.getElem?_toArray]
    simp [List.getElem?_eq_getElem this]) (fun j hj => by simp [World.frozen?, hb])
  rw [setCells_row (o := 0) (vs := List.replicate len zv) hb (by simp; omega) hone] at hcl
  have hr : (execOp a.eval ⟨none, .call ⟨.builtin .clear, [x].toArray, [t].toArray⟩, ty, pos, aft, gd⟩).run P w = .ok (.value (.tuple #[])) (w.setRow b ((xs ++ junk).take 0 ++ List.replicate len zv ++ (xs ++ junk).drop (0 + (List.replicate len zv).length)).toArray) := by
    have hb' : ∀ {ats : Array TypeId} {cs : Array Bool} {args : Array Value}, builtin .clear ats ty cs args = (do pure (.value (← Builtin.clear_ ats ty args))) := rfl
    simp only [execOp, resolve, hf.ev hx, List.map_toArray, List.map_cons, List.map_nil, Sem.run_bind, Sem.run_pure, Result.andThen_ok, invoke, hb', hcl]
  unfold opRes
  rw [hr]
  have hset := hrow.setRow (ys := (xs ++ junk).take 0 ++ List.replicate len zv ++ (xs ++ junk).drop (0 + (List.replicate len zv).length)) .here
  refine hset.mono fun h ⟨k1, k2, dj', t1, t2, hc', hr'⟩ => ⟨k1, k2, dj', t1, t2, ⟨⟨by simp, List.all_eq_true.2 hone⟩, .inr ⟨b, junk, rfl, e3, e4, ?_⟩⟩, hr'⟩
  have hc'' : k1 b = some (.cells ((xs ++ junk).take 0 ++ List.replicate len zv ++ (xs ++ junk).drop (0 + (List.replicate len zv).length)).toArray e (0, 0)) := hc'
  rw [hc'']
  congr 2
  simp [← hpl]
end Go.Sl
