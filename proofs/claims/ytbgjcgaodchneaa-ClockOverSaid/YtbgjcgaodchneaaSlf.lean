/- Part 6: structs held against each other; further operations. -/
import Derived.Test.YtbgjcgaodchneaaSle
import Derived.Laws.StructEq
set_option linter.unusedSimpArgs false
set_option linter.unusedVariables false
namespace Go.Sl
variable {P : Program} {Γ : Ctx} {L R : List Chunk} {N : Nat} {fr : Fr} {Q : Exit → Act → World → Prop} {ops : Array Oper} {rest : List Oper}

/-! ### Two structs -/
class TFields (P : Program) (t : TypeId) (fs : outParam (List (TypeId × Nat))) : Prop where
  struct : P.underlying t = some (.struct (P.fieldsOf t))
  fields : (P.fieldsOf t).toList.map (fun f => ((f.type, f.offset), f.name == "_")) = fs.map fun x => (x, false)
  held : P.stoodInHeld t = false
  guard : P.eqGuardType P.depth t = false
/-- Held against each other by n levels they are alike, or not. -/
def EqRun (P : Program) (n : Nat) (t : TypeId) (x y : Value) (r : Bool) : Prop := ∀ d, n ≤ d → ∀ w, (Op.equalIn d t x y).run P w = .ok r w
inductive EqFs (P : Program) (n : Nat) (xs ys : List Value) : List (TypeId × Nat) → Bool → Prop where
  | nil : EqFs P n xs ys [] true
  | one {ft : TypeId} {off : Nat} {x y : Value} {r r' : Bool} {fs : List (TypeId × Nat)} [T : TOne P ft] : xs[off]? = some x → ys[off]? = some y → EqRun P n ft x y r → EqFs P n xs ys fs r' → EqFs P n xs ys ((ft, off) :: fs) (r && r')
  | agg {ft : TypeId} {off m : Nat} {cs cs' : List Value} {r r' : Bool} {fs : List (TypeId × Nat)} [T : TAgg P ft m] : Cut xs off m cs → Cut ys off m cs' → EqRun P n ft (.agg cs.toArray) (.agg cs'.toArray) r → EqFs P n xs ys fs r' → EqFs P n xs ys ((ft, off) :: fs) (r && r')
theorem eqRun_int {t : TypeId} {k k' : IntKind} {a b : Int} [D : TDesc P t (.int k')] : EqRun P 1 t (.int k a) (.int k b) (decide (a = b)) := fun d hd w => by
  cases d with
  | zero => omega
  | succ d =>
    have : (a == b) = decide (a = b) := by by_cases h : a = b <;> simp [h]
    rw [← this]
    exact run_equalIn_int w d t k k' a b D.desc
theorem eqRun_bool {t : TypeId} {a b : Bool} [D : TDesc P t .bool] : EqRun P 1 t (.bool a) (.bool b) (a == b) := fun d hd w => by
  cases d with
  | zero => omega
  | succ d => exact run_equalIn_bool' w d t a b D.desc
theorem eqRun_string {t : TypeId} {a b : ByteArray} [D : TDesc P t .string] : EqRun P 1 t (.string a) (.string b) (decide (a = b)) := fun d hd w => by
  cases d with
  | zero => omega
  | succ d =>
    have : (a.toList == b.toList) = decide (a = b) := by by_cases h : a = b <;> simp [h, toList_inj]
    rw [← this]
    exact run_equalIn_string w d t a b D.desc
theorem EqRun.mono {n m : Nat} {t : TypeId} {x y : Value} {r : Bool} (h : EqRun P n t x y r) (le : n ≤ m) : EqRun P m t x y r := fun d hd w => h d (by omega) w
theorem run_part1 {t : TypeId} {cs : List Value} {off : Nat} {v : Value} [T : TOne P t] (h : cs[off]? = some v) (w : World) : (part t cs.toArray off).run P w = .ok v w := by
  simp [part, run_isAgg' T.row, h]
theorem cut_extract {xs cs : List Value} {o n : Nat} (h : Cut xs o n cs) : (xs.drop o).take n = cs := by
  induction h with
  | zero => simp
  | take _ ih => simpa using ih
  | skip _ ih => simpa using ih
theorem run_partA {t : TypeId} {xs cs : List Value} {off n : Nat} [T : TAgg P t n] (h : Cut xs off n cs) (w : World) : (part t xs.toArray off).run P w = .ok (.agg cs.toArray) w := by
  have := cut_extract h
  simp only [part, Sem.run_bind, run_isAgg' T.row, Result.andThen_ok, if_true, run_sizeOf' T.size, Sem.run_pure]
  congr 2
  apply Array.ext'
  simp [← this]
theorem eqFs_run {n : Nat} {xs ys : List Value} {d : Nat} (hd : n ≤ d) : ∀ {fs : List (TypeId × Nat)} {r : Bool}, EqFs P n xs ys fs r → ∀ (Fs : List Field), Fs.map (fun f => ((f.type, f.offset), f.name == "_")) = fs.map (fun x => (x, false)) → ∀ w, (Op.eqFields d xs.toArray ys.toArray Fs).run P w = .ok r w := by
  intro fs r h
  induction h with
  | nil =>
    intro Fs hF w
    have : Fs = [] := by simpa using hF
    subst this
    simp [Op.eqFields]
  | @one ft off x y r r' fs T hx hy he _ ih =>
    intro Fs hF w
    match Fs, hF with
    | f :: Fs, hF =>
      simp only [List.map_cons, List.cons.injEq, Prod.mk.injEq] at hF
      obtain ⟨⟨⟨e1, e2⟩, e3⟩, hF⟩ := hF
      have h3 : f.name ≠ "_" := by simpa using e3
      simp only [Op.eqFields, if_pos h3, e1, e2]
      rw [Sem.run_bind, run_part1 hx, Result.andThen_ok, Sem.run_bind, run_part1 hy, Result.andThen_ok, Sem.run_bind, he d hd, Result.andThen_ok]
      cases r
      · simp
      · simp [ih Fs hF w]
  | @agg ft off m cs cs' r r' fs T hx hy he _ ih =>
    intro Fs hF w
    match Fs, hF with
    | f :: Fs, hF =>
      simp only [List.map_cons, List.cons.injEq, Prod.mk.injEq] at hF
      obtain ⟨⟨⟨e1, e2⟩, e3⟩, hF⟩ := hF
      have h3 : f.name ≠ "_" := by simpa using e3
      simp only [Op.eqFields, if_pos h3, e1, e2]
      rw [Sem.run_bind, run_partA hx, Result.andThen_ok, Sem.run_bind, run_partA hy, Result.andThen_ok, Sem.run_bind, he d hd, Result.andThen_ok]
      cases r
      · simp
      · simp [ih Fs hF w]
theorem eqRun_struct {n : Nat} {t : TypeId} {fs : List (TypeId × Nat)} {xs ys : List Value} {r : Bool} [T : TFields P t fs] (h : EqFs P n xs ys fs r) : EqRun P (n + 1) t (.agg xs.toArray) (.agg ys.toArray) r := fun d hd w => by
  cases d with
  | zero => omega
  | succ d => rw [run_equalIn_struct w d t _ _ T.struct T.held]; exact eqFs_run (by omega) h _ T.fields w

section
variable {d : Nat} {ty : TypeId} {pos : String} {aft : Array Edge} {gd : Option (Nat × Bool)} {x y : Operand} {v u : Value} {t t2 : TypeId}
theorem qs_eqA {fs : List (TypeId × Nat)} {xs ys : List Value} {r : Bool} [T : TFields P t fs] (hx : ev fr x = some (.agg xs.toArray)) (hy : ev fr y = some (.agg ys.toArray)) (h : EqFs P 3 xs ys fs r) :
    QStep P Γ fr ⟨some d, .binOp .eql t x y t2, ty, pos, aft, gd⟩ (.bool r) := qs_of (fun a w hf => by
  have h1 := eqRun_struct (P := P) (t := t) h 10000 (by omega) w
  have hb : binOp .eql t (.agg xs.toArray) (.agg ys.toArray) = (do pure (.bool (← Op.equal t (.agg xs.toArray) (.agg ys.toArray)))) := rfl
  have h2 : (Op.equal t (.agg xs.toArray) (.agg ys.toArray)).run P w = .ok r w := h1
  simp only [execOp, hf.ev hx, hf.ev hy, hb]
  simp [run_eqGuard_agg w .eql t x y _ _ T.guard, h2])
theorem qs_neA {fs : List (TypeId × Nat)} {xs ys : List Value} {r : Bool} [T : TFields P t fs] (hx : ev fr x = some (.agg xs.toArray)) (hy : ev fr y = some (.agg ys.toArray)) (h : EqFs P 3 xs ys fs r) :
    QStep P Γ fr ⟨some d, .binOp .neq t x y t2, ty, pos, aft, gd⟩ (.bool (!r)) := qs_of (fun a w hf => by
  have h1 := eqRun_struct (P := P) (t := t) h 10000 (by omega) w
  have hb : binOp .neq t (.agg xs.toArray) (.agg ys.toArray) = (do pure (.bool (!(← Op.equal t (.agg xs.toArray) (.agg ys.toArray))))) := rfl
  have h2 : (Op.equal t (.agg xs.toArray) (.agg ys.toArray)).run P w = .ok r w := h1
  simp only [execOp, hf.ev hx, hf.ev hy, hb]
  simp [run_eqGuard_agg w .neq t x y _ _ T.guard, h2])
end
end Go.Sl
