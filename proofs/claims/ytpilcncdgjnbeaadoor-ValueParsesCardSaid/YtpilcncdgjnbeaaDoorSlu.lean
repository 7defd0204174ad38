/- Part 20: new slices of so many bytes; the greatest of two. -/
import Derived.Test.YtpilcncdgjnbeaaDoorSlt
import Derived.Laws.MakeOwn
set_option linter.unusedSimpArgs false
set_option linter.unusedVariables false
namespace Go.Sl
variable {P : Program} {Γ : Ctx} {L R : List Chunk} {N : Nat} {fr : Fr} {Q : Exit → Act → World → Prop} {ops : Array Oper} {rest : List Oper}
variable {d : Nat} {ty : TypeId} {pos : String} {aft : Array Edge} {gd : Option (Nat × Bool)} {x y z : Operand} {v u : Value} {t t2 tx : TypeId}
theorem qs_max {a b : Int} {ats : Array TypeId} (hx : ev fr x = some (.int .i64 a)) (hy : ev fr y = some (.int .i64 b)) : QStep P Γ fr ⟨some d, .call ⟨.builtin .max, [x, y].toArray, ats⟩, ty, pos, aft, gd⟩ (.int .i64 (if a < b then b else a)) :=
  qs_of (fun c w hf => by simp [execOp, resolve, hf.ev hx, hf.ev hy, invoke, builtin, Builtin.max_, Builtin.max2])
theorem made8 (m : Nat) : (madeCells #[Value.int .u8 0] m).toList = cells8 (List.replicate m 0) := by
  simp only [madeCells, cells8, List.map_replicate]
  apply List.ext_getElem
  · simp
  · intro i h1 h2
    simp [Nat.mod_one]
theorem cs_make8 {e m k : Nat} (D : TDesc P t (.slice e)) (S : TSize P e 1) (Z : TZero P e (.int .u8 0)) (B : TBytes P e k) (hx : ev fr x = some (.int .i64 (m : Int))) (hy : ev fr y = some (.int .i64 (m : Int))) (h63 : m ≤ 1000000000) (hb : k ≤ 1000) :
    CStep P Γ fr L ⟨some d, .makeSlice t x y, ty, pos, aft, gd⟩ (X := Nat) (fun b => .slice (some ⟨b, 0, none⟩) m m) (fun b => .own (some ⟨b, 0, none⟩) m m 1 (cells8 (List.replicate m 0)) e :: L) (fun _ => True) :=
  cs_of (fun a w hf hh => by
    cases hi : P.info? e with
    | none => have := S.size; simp [hi] at this
    | some i =>
      have hsz : i.size = 1 := by have := S.size; simpa [hi] using this
      have hz : i.zero = some (.int .u8 0) := by have := Z.zero; simpa [hi] using this
      have hk : i.bytes = k := by have := B.bytes; simpa [hi] using this
      have hmul : k * m ≤ 1000 * 1000000000 := Nat.mul_le_mul hb h63
      have hr := run_make w t e i _ D.desc hi hz .i64 .i64 (m : Int) (m : Int) (by omega) (Int.le_refl _) (by rw [hk]; rw [← Int.natCast_mul]; omega) (by omega)
      rw [hsz, Int.toNat_natCast, Nat.mul_one] at hr
      refine ⟨w.heap.size, w.alloc (.cells (madeCells (Value.int .u8 0).cells m) e), trivial, by simp only [execOp, hf.ev hx, hf.ev hy]; rw [Sem.run_bind, hr]; rfl, ?_⟩
      refine Holds.toOwn ?_ (by simp [cells8]) (by simp [cells8, Value.oneCell'])
      have hnew := hh.newRow (e := e) (xs := madeCells (Value.int .u8 0).cells m)
      have e1 : madeCells (Value.int .u8 0).cells m = (cells8 (List.replicate m 0)).toArray := by
        apply Array.ext'
        exact made8 m
      rw [e1] at hnew ⊢
      exact hnew)
end Go.Sl
