/- Part 6: structs held against each other; further operations. -/
import Derived.Test.YtpilcncdgjnbeaaDoorSle
import Derived.Laws.StructEq
import Derived.Laws.Small
set_option linter.unusedSimpArgs false
set_option linter.unusedVariables false
namespace Go.Sl
variable {P : Program} {Γ : Ctx} {L R : List Chunk} {N : Nat} {fr : Fr} {Q : Exit → Act → World → Prop} {ops : Array Oper} {rest : List Oper}

/-! ### Two structs -/
class TFields (P : Program) (t : TypeId) (fs : outParam (List (TypeId × Nat))) : Prop where
  struct : P.underlying t = some (.struct (P.fieldsOf t))
  fields : (P.fieldsOf t).toList.map (fun f => ((f.type, f.offset), f.name == "_")) = fs.map fun x => (x, false)
  held : P.stoodInHeld t = false
  guard : P.eqGuardType P.depth t = false
/-- Held against each other by n levels they are alike, or not. -/
def EqRun (P : Program) (n : Nat) (t : TypeId) (x y : Value) (r : Bool) : Prop := ∀ d, n ≤ d → ∀ w, (Op.equalIn d t x y).run P w = .ok r w
inductive EqFs (P : Program) (n : Nat) (xs ys : List Value) : List (TypeId × Nat) → Bool → Prop where
  | nil : EqFs P n xs ys [] true
  | one {ft : TypeId} {off : Nat} {x y : Value} {r r' : Bool} {fs : List (TypeId × Nat)} [T : TOne P ft] : xs[off]? = some x → ys[off]? = some y → EqRun P n ft x y r → EqFs P n xs ys fs r' → EqFs P n xs ys ((ft, off) :: fs) (r && r')
  | agg {ft : TypeId} {off m : Nat} {cs cs' : List Value} {r r' : Bool} {fs : List (TypeId × Nat)} [T : TAgg P ft m] : Cut xs off m cs → Cut ys off m cs' → EqRun P n ft (.agg cs.toArray) (.agg cs'.toArray) r → EqFs P n xs ys fs r' → EqFs P n xs ys ((ft, off) :: fs) (r && r')
theorem eqFs_one {n : Nat} {xs ys : List Value} {ft : TypeId} {off : Nat} {x y : Value} {r r' : Bool} {fs : List (TypeId × Nat)} (T : TOne P ft) (h1 : xs[off]? = some x) (h2 : ys[off]? = some y) (h3 : EqRun P n ft x y r) (h4 : EqFs P n xs ys fs r') : EqFs P n xs ys ((ft, off) :: fs) (r && r') := .one h1 h2 h3 h4
theorem eqFs_agg {n : Nat} {xs ys : List Value} {ft : TypeId} {off m : Nat} {cs cs' : List Value} {r r' : Bool} {fs : List (TypeId × Nat)} (T : TAgg P ft m) (h1 : Cut xs off m cs) (h2 : Cut ys off m cs') (h3 : EqRun P n ft (.agg cs.toArray) (.agg cs'.toArray) r) (h4 : EqFs P n xs ys fs r') : EqFs P n xs ys ((ft, off) :: fs) (r && r') := .agg h1 h2 h3 h4
theorem eqRun_int {t : TypeId} {k k' : IntKind} {a b : Int} [D : TDesc P t (.int k')] : EqRun P 1 t (.int k a) (.int k b) (decide (a = b)) := fun d hd w => by
  cases d with
  | zero => omega
  | succ d =>
    have : (a == b) = decide (a = b) := by by_cases h : a = b <;> simp [h]
    rw [← this]
    exact run_equalIn_int w d t k k' a b D.desc
theorem eqRun_bool {t : TypeId} {a b : Bool} [D : TDesc P t .bool] : EqRun P 1 t (.bool a) (.bool b) (a == b) := fun d hd w => by
  cases d with
  | zero => omega
  | succ d => exact run_equalIn_bool' w d t a b D.desc
theorem eqRun_string {t : TypeId} {a b : ByteArray} [D : TDesc P t .string] : EqRun P 1 t (.string a) (.string b) (decide (a = b)) := fun d hd w => by
  cases d with
  | zero => omega
  | succ d =>
    have : (a.toList == b.toList) = decide (a = b) := by by_cases h : a = b <;> simp [h, toList_inj]
    rw [← this]
    exact run_equalIn_string w d t a b D.desc
theorem EqRun.mono {n m : Nat} {t : TypeId} {x y : Value} {r : Bool} (h : EqRun P n t x y r) (le : n ≤ m) : EqRun P m t x y r := fun d hd w => h d (by omega) w
theorem run_part1 {t : TypeId} {cs : List Value} {off : Nat} {v : Value} [T : TOne P t] (h : cs[off]? = some v) (w : World) : (part t cs.toArray off).run P w = .ok v w := by
  simp [part, run_isAgg' T.row, h]
theorem cut_extract {xs cs : List Value} {o n : Nat} (h : Cut xs o n cs) : (xs.drop o).take n = cs := by
  induction h with
  | zero => simp
  | take _ ih => simpa using ih
  | skip _ ih => simpa using ih
theorem run_partA {t : TypeId} {xs cs : List Value} {off n : Nat} [T : TAgg P t n] (h : Cut xs off n cs) (w : World) : (part t xs.toArray off).run P w = .ok (.agg cs.toArray) w := by
  have := cut_extract h
  simp only [part, Sem.run_bind, run_isAgg' T.row, Result.andThen_ok, if_true, run_sizeOf' T.size, Sem.run_pure]
  congr 2
  apply Array.ext'
  simp [← this]
theorem eqFs_run {n : Nat} {xs ys : List Value} {d : Nat} (hd : n ≤ d) : ∀ {fs : List (TypeId × Nat)} {r : Bool}, EqFs P n xs ys fs r → ∀ (Fs : List Field), Fs.map (fun f => ((f.type, f.offset), f.name == "_")) = fs.map (fun x => (x, false)) → ∀ w, (Op.eqFields d xs.toArray ys.toArray Fs).run P w = .ok r w := by
  intro fs r h
  induction h with
  | nil =>
    intro Fs hF w
    have : Fs = [] := by simpa using hF
    subst this
    simp [Op.eqFields]
  | @one ft off x y r r' fs T hx hy he _ ih =>
    intro Fs hF w
    match Fs, hF with
    | f :: Fs, hF =>
      simp only [List.map_cons, List.cons.injEq, Prod.mk.injEq] at hF
      obtain ⟨⟨⟨e1, e2⟩, e3⟩, hF⟩ := hF
      have h3 : f.name ≠ "_" := by simpa using e3
      simp only [Op.eqFields, if_pos h3, e1, e2]
      rw [Sem.run_bind, run_part1 hx, Result.andThen_ok, Sem.run_bind, run_part1 hy, Result.andThen_ok, Sem.run_bind, he d hd, Result.andThen_ok]
      cases r
      · simp
      · simp [ih Fs hF w]
  | @agg ft off m cs cs' r r' fs T hx hy he _ ih =>
    intro Fs hF w
    match Fs, hF with
    | f :: Fs, hF =>
      simp only [List.map_cons, List.cons.injEq, Prod.mk.injEq] at hF
      obtain ⟨⟨⟨e1, e2⟩, e3⟩, hF⟩ := hF
      have h3 : f.name ≠ "_" := by simpa using e3
      simp only [Op.eqFields, if_pos h3, e1, e2]
      rw [Sem.run_bind, run_partA hx, Result.andThen_ok, Sem.run_bind, run_partA hy, Result.andThen_ok, Sem.run_bind, he d hd, Result.andThen_ok]
      cases r
      · simp
      · simp [ih Fs hF w]
theorem eqRun_struct {n : Nat} {t : TypeId} {fs : List (TypeId × Nat)} {xs ys : List Value} {r : Bool} [T : TFields P t fs] (h : EqFs P n xs ys fs r) : EqRun P (n + 1) t (.agg xs.toArray) (.agg ys.toArray) r := fun d hd w => by
  cases d with
  | zero => omega
  | succ d => rw [run_equalIn_struct w d t _ _ T.struct T.held]; exact eqFs_run (by omega) h _ T.fields w

theorem eqRun_structM {t : TypeId} {fs : List (TypeId × Nat)} {xs ys : List Value} {r : Bool} (T : TFields P t fs) (h : EqFs P 1 xs ys fs r) : EqRun P 3 t (.agg xs.toArray) (.agg ys.toArray) r := (eqRun_struct h).mono (by omega)
section
variable {d : Nat} {ty : TypeId} {pos : String} {aft : Array Edge} {gd : Option (Nat × Bool)} {x y : Operand} {v u : Value} {t t2 : TypeId}
theorem qs_eqA {fs : List (TypeId × Nat)} {xs ys : List Value} {r : Bool} [T : TFields P t fs] (hx : ev fr x = some (.agg xs.toArray)) (hy : ev fr y = some (.agg ys.toArray)) (h : EqFs P 3 xs ys fs r) :
    QStep P Γ fr ⟨some d, .binOp .eql t x y t2, ty, pos, aft, gd⟩ (.bool r) := qs_of (fun a w hf => by
  have h1 := eqRun_struct (P := P) (t := t) h 10000 (by omega) w
  have hb : binOp .eql t (.agg xs.toArray) (.agg ys.toArray) = (do pure (.bool (← Op.equal t (.agg xs.toArray) (.agg ys.toArray)))) := rfl
  have h2 : (Op.equal t (.agg xs.toArray) (.agg ys.toArray)).run P w = .ok r w := h1
  simp only [execOp, hf.ev hx, hf.ev hy, hb]
  simp [run_eqGuard_agg w .eql t x y _ _ T.guard, h2])
theorem qs_neA {fs : List (TypeId × Nat)} {xs ys : List Value} {r : Bool} [T : TFields P t fs] (hx : ev fr x = some (.agg xs.toArray)) (hy : ev fr y = some (.agg ys.toArray)) (h : EqFs P 3 xs ys fs r) :
    QStep P Γ fr ⟨some d, .binOp .neq t x y t2, ty, pos, aft, gd⟩ (.bool (!r)) := qs_of (fun a w hf => by
  have h1 := eqRun_struct (P := P) (t := t) h 10000 (by omega) w
  have hb : binOp .neq t (.agg xs.toArray) (.agg ys.toArray) = (do pure (.bool (!(← Op.equal t (.agg xs.toArray) (.agg ys.toArray))))) := rfl
  have h2 : (Op.equal t (.agg xs.toArray) (.agg ys.toArray)).run P w = .ok r w := h1
  simp only [execOp, hf.ev hx, hf.ev hy, hb]
  simp [run_eqGuard_agg w .neq t x y _ _ T.guard, h2])
end
/-- A struct's fields, whatever they are. -/
class TFds (P : Program) (t : TypeId) (fs : outParam (List (TypeId × Nat))) : Prop where
  struct : P.underlying t = some (.struct (P.fieldsOf t))
  fields : (P.fieldsOf t).toList.map (fun f => (f.type, f.offset)) = fs
section
variable {d : Nat} {ty : TypeId} {pos : String} {aft : Array Edge} {gd : Option (Nat × Bool)} {x y : Operand} {t t2 : TypeId} {v : Value}
theorem run_field {s ft : TypeId} {f off : Nat} {fs : List (TypeId × Nat)} {xs : List Value} (T : TFds P s fs) (hf : fs[f]? = some (ft, off)) (w : World) (h : (part ft xs.toArray off).run P w = .ok v w) :
    (Instr.field s (.agg xs.toArray) f).run P w = .ok v w := by
  have h2 : ((P.fieldsOf s).toList.map (fun f => (f.type, f.offset)))[f]? = some (ft, off) := by rw [T.fields]; exact hf
  simp only [List.getElem?_map, Option.map_eq_some_iff] at h2
  obtain ⟨g, hg, he⟩ := h2
  simp only [Prod.mk.injEq] at he
  obtain ⟨rfl, rfl⟩ := he
  have hg' : (P.fieldsOf s)[f]? = some g := by simpa using hg
  simp only [Instr.field, Sem.run_bind, run_underlying T.struct, Result.andThen_ok, hg']
  simp [asAgg, h]
theorem qs_field1 {s ft : TypeId} {f off : Nat} {fs : List (TypeId × Nat)} {xs : List Value} (T : TFds P s fs) (hx : ev fr x = some (.agg xs.toArray)) (hf : fs[f]? = some (ft, off)) (O : TOne P ft) (hv : xs[off]? = some v) :
    QStep P Γ fr ⟨some d, .field s x f, ty, pos, aft, gd⟩ v := qs_of (fun c w hf' => by
  simp [execOp, hf'.ev hx, run_field T hf w (run_part1 (T := O) hv w)])
theorem qs_fieldA {s ft : TypeId} {f off n : Nat} {fs : List (TypeId × Nat)} {xs cs : List Value} (T : TFds P s fs) (hx : ev fr x = some (.agg xs.toArray)) (hf : fs[f]? = some (ft, off)) (O : TAgg P ft n) (hc : Cut xs off n cs) :
    QStep P Γ fr ⟨some d, .field s x f, ty, pos, aft, gd⟩ (.agg cs.toArray) := qs_of (fun c w hf' => by
  simp [execOp, hf'.ev hx, run_field T hf w (run_partA (T := O) hc w)])
end
/-! ### Two truths; cells of a place that is known by its list -/
section
variable {d : Nat} {ty : TypeId} {pos : String} {aft : Array Edge} {gd : Option (Nat × Bool)} {x y : Operand} {t t2 : TypeId} {p q : Bool} {C : List Chunk} {m : HP}
theorem qs_eqlB [D : TDesc P t .bool] (hx : ev fr x = some (.bool p)) (hy : ev fr y = some (.bool q)) : QStep P Γ fr ⟨some d, .binOp .eql t x y t2, ty, pos, aft, gd⟩ (.bool (decide (p = q))) := qs_of (fun c w hf => by
  have e : (p == q) = decide (p = q) := by cases p <;> cases q <;> rfl
  simp [execOp, hf.ev hx, hf.ev hy, eqGuard_at_bool, run_eql_bool w t p q D.desc, e])
theorem qs_neqB [D : TDesc P t .bool] (hx : ev fr x = some (.bool p)) (hy : ev fr y = some (.bool q)) : QStep P Γ fr ⟨some d, .binOp .neq t x y t2, ty, pos, aft, gd⟩ (.bool (decide (p ≠ q))) := qs_of (fun c w hf => by
  have e : (!(p == q)) = decide (p ≠ q) := by cases p <;> cases q <;> rfl
  simp [execOp, hf.ev hx, hf.ev hy, eqGuard_at_bool, run_neq_bool w t p q D.desc, e])
theorem vs_loadX {c : Chunk} {b o k n : Nat} {xs cs : List Value} [T : TAgg P t n] (hx : ev fr x = some (.pointer (some ⟨b, o + k, none⟩))) (s : Sel L c R) (h : ∀ (j : Nat) (v : Value), xs[j]? = some v → Reads c ⟨b, o + j, none⟩ v) (ct : Cut xs k n cs) :
    VStep P Γ fr L ⟨some d, .load t x, ty, pos, aft, gd⟩ (.agg cs.toArray) := vs_loadAR hx s ct.get.1 (fun j v hv => by have := h (k + j) v (ct.get.2 j v hv); rwa [← Nat.add_assoc] at this)
theorem qs_loadFX {c : Chunk} {b o k n : Nat} {xs cs : List Value} [T : TAgg P t n] (hd : HP.disj Γ.hf m) (hk : All C m) (hx : ev fr x = some (.pointer (some ⟨b, o + k, none⟩))) (s : Sel C c R) (h : ∀ (j : Nat) (v : Value), xs[j]? = some v → Reads c ⟨b, o + j, none⟩ v) (ct : Cut xs k n cs) :
    QStep P (Γ.add m) fr ⟨some d, .load t x, ty, pos, aft, gd⟩ (.agg cs.toArray) := qs_loadFAR hd hk hx s ct.get.1 (fun j v hv => by have := h (k + j) v (ct.get.2 j v hv); rwa [← Nat.add_assoc] at this)
/-! ### The same, the kind of place asked for first -/
variable {v : Value}
theorem vs_loadR' {c : Chunk} {p : Addr} (T : TOne P t) (hx : ev fr x = some (.pointer (some p))) (r : Reads c p v) (s : Sel L c R) : VStep P Γ fr L ⟨some d, .load t x, ty, pos, aft, gd⟩ (v) := vs_loadR hx s r
theorem vs_load' {b o : Nat} {xs : List Value} {e : TypeId} {fz : Nat × Nat} (T : TOne P t) (hx : ev fr x = some (.pointer (some ⟨b, o, none⟩))) (s : Sel L (.row b xs e fz) R) (r : xs[o]? = some v) : VStep P Γ fr L ⟨some d, .load t x, ty, pos, aft, gd⟩ (v) := vs_load hx s r
theorem vs_loadAR' {c : Chunk} {b o n : Nat} {cs : List Value} (T : TAgg P t n) (hx : ev fr x = some (.pointer (some ⟨b, o, none⟩))) (r : ∀ (j : Nat) (v : Value), cs[j]? = some v → Reads c ⟨b, o + j, none⟩ v) (s : Sel L c R) (hl : cs.length = n) : VStep P Γ fr L ⟨some d, .load t x, ty, pos, aft, gd⟩ (.agg cs.toArray) := vs_loadAR hx s hl r
theorem vs_loadA' {b o n : Nat} {xs cs : List Value} {e : TypeId} {fz : Nat × Nat} (T : TAgg P t n) (hx : ev fr x = some (.pointer (some ⟨b, o, none⟩))) (s : Sel L (.row b xs e fz) R) (c : Cut xs o n cs) : VStep P Γ fr L ⟨some d, .load t x, ty, pos, aft, gd⟩ (.agg cs.toArray) := vs_loadA hx s c
theorem vs_loadX' {c : Chunk} {b o k n : Nat} {xs cs : List Value} (T : TAgg P t n) (hx : ev fr x = some (.pointer (some ⟨b, o + k, none⟩))) (h : ∀ (j : Nat) (v : Value), xs[j]? = some v → Reads c ⟨b, o + j, none⟩ v) (ct : Cut xs k n cs) (s : Sel L c R) : VStep P Γ fr L ⟨some d, .load t x, ty, pos, aft, gd⟩ (.agg cs.toArray) := vs_loadX hx s h ct
theorem qs_loadFR' {c : Chunk} {p : Addr} (T : TOne P t) (hd : HP.disj Γ.hf m) (hk : All C m) (hx : ev fr x = some (.pointer (some p))) (r : Reads c p v) (s : Sel C c R) : QStep P (Γ.add m) fr ⟨some d, .load t x, ty, pos, aft, gd⟩ v := qs_loadFR hd hk hx s r
theorem qs_loadF' {b o : Nat} {xs : List Value} {e : TypeId} {fz : Nat × Nat} (T : TOne P t) (hd : HP.disj Γ.hf m) (hk : All C m) (hx : ev fr x = some (.pointer (some ⟨b, o, none⟩))) (s : Sel C (.row b xs e fz) R) (r : xs[o]? = some v) : QStep P (Γ.add m) fr ⟨some d, .load t x, ty, pos, aft, gd⟩ v := qs_loadF hd hk hx s r
theorem qs_loadFAR' {c : Chunk} {b o n : Nat} {cs : List Value} (T : TAgg P t n) (hd : HP.disj Γ.hf m) (hk : All C m) (hx : ev fr x = some (.pointer (some ⟨b, o, none⟩))) (r : ∀ (j : Nat) (v : Value), cs[j]? = some v → Reads c ⟨b, o + j, none⟩ v) (s : Sel C c R) (hl : cs.length = n) : QStep P (Γ.add m) fr ⟨some d, .load t x, ty, pos, aft, gd⟩ (.agg cs.toArray) := qs_loadFAR hd hk hx s hl r
theorem qs_loadFA' {b o n : Nat} {xs cs : List Value} {e : TypeId} {fz : Nat × Nat} (T : TAgg P t n) (hd : HP.disj Γ.hf m) (hk : All C m) (hx : ev fr x = some (.pointer (some ⟨b, o, none⟩))) (s : Sel C (.row b xs e fz) R) (c : Cut xs o n cs) : QStep P (Γ.add m) fr ⟨some d, .load t x, ty, pos, aft, gd⟩ (.agg cs.toArray) := qs_loadFA hd hk hx s c
theorem qs_loadFX' {c : Chunk} {b o k n : Nat} {xs cs : List Value} (T : TAgg P t n) (hd : HP.disj Γ.hf m) (hk : All C m) (hx : ev fr x = some (.pointer (some ⟨b, o + k, none⟩))) (h : ∀ (j : Nat) (v : Value), xs[j]? = some v → Reads c ⟨b, o + j, none⟩ v) (ct : Cut xs k n cs) (s : Sel C c R) : QStep P (Γ.add m) fr ⟨some d, .load t x, ty, pos, aft, gd⟩ (.agg cs.toArray) := qs_loadFX hd hk hx s h ct
theorem ss_storeA' {b o n : Nat} {xs vs ys : List Value} {e : TypeId} (T : TAgg P t n) (hx : ev fr x = some (.pointer (some ⟨b, o, none⟩))) (hy : ev fr y = some (.agg vs.toArray)) (hn : Nat.beq vs.length n = true) (h1 : vs.all (·.oneCell') = true) (s : Sel L (.row b xs e) R) (p : Put xs o vs ys) : SStep P Γ fr L ⟨none, .store t x y, ty, pos, aft, gd⟩ (.row b ys e :: R) := ss_storeA hx hy hn h1 s p
theorem ss_store' {b o : Nat} {xs ys : List Value} {e : TypeId} (T : TOne P t) (hx : ev fr x = some (.pointer (some ⟨b, o, none⟩))) (hy : ev fr y = some v) (h1 : v.oneCell' = true) (s : Sel L (.row b xs e) R) (p : Put xs o [v] ys) : SStep P Γ fr L ⟨none, .store t x y, ty, pos, aft, gd⟩ (.row b ys e :: R) := ss_store hx hy h1 s p
end
/-! ### A call that only reads what stands still -/
def isPt : Chunk → Bool
  | .pt _ _ => true
  | _ => false
def onB (A : List Chunk) (b : Nat) : Bool := A.any fun c => match c with
  | .pt b' _ => Nat.beq b' b
  | _ => false
def HP.cut (h : HP) (p : Nat → Bool) : HP := fun b => bif p b then h b else none
theorem HP.cut_sub (h : HP) (p : Nat → Bool) : HP.sub (h.cut p) h := fun b o e => by
  unfold HP.cut at e; cases hp : p b <;> simp_all
theorem HP.cut_mono {h k : HP} (s : HP.sub h k) (p : Nat → Bool) : HP.sub (h.cut p) (k.cut p) := fun b o e => by
  unfold HP.cut at *; cases hp : p b <;> simp_all; exact s _ _ e
theorem all_cut : ∀ {A : List Chunk} {h : HP} (p : Nat → Bool), A.all isPt = true → (∀ b, onB A b = true → p b = true) → All A h → All A (h.cut p)
  | [], _, _, _, _, _ => trivial
  | c :: A, h, p, ht, hp, ⟨h1, h2, d, s1, s2, hc, ha⟩ => by
    simp only [List.all_cons, Bool.and_eq_true] at ht
    refine ⟨h1.cut p, h2.cut p, ?_, HP.cut_mono s1 p, HP.cut_mono s2 p, ?_, all_cut p ht.2 (fun b hb => hp b (by simp [onB] at hb ⊢; exact .inr hb)) ha⟩
    · intro b
      rcases d b with e | e
      · left; unfold HP.cut; cases p b <;> simp [e]
      · right; unfold HP.cut; cases p b <;> simp [e]
    · cases c with
      | pt b o =>
        have hc' : h1 b = some o := hc
        have : p b = true := hp b (by simp [onB])
        simp [Chunk.sat, HP.cut, this, hc']
      | asn => simp [isPt] at ht
theorem all_same : ∀ {A : List Chunk} {h k : HP}, A.all isPt = true → All A h → All A k → ∀ b, onB A b = true → h b = k b ∧ (h b).isSome = true
  | [], _, _, _, _, _, b, hb => by simp [onB] at hb
  | c :: A, h, k, ht, ⟨h1, h2, _, s1, s2, hc, ha⟩, ⟨k1, k2, _, t1, t2, kc, ka⟩, b, hb => by
    simp only [List.all_cons, Bool.and_eq_true] at ht
    by_cases hbA : onB A b = true
    · have := all_same ht.2 ha ka b hbA
      obtain ⟨e, hs⟩ := this
      obtain ⟨o, ho⟩ := Option.isSome_iff_exists.1 hs
      have := s2 _ _ ho
      have := t2 _ _ (e ▸ ho)
      simp_all
    · cases c with
      | asn => simp [isPt] at ht
      | pt b' o =>
        have : b' = b := by
          simp only [onB, List.any_cons, Bool.or_eq_true] at hb
          rcases hb with e | e
          · exact Nat.eq_of_beq_eq_true e
          · exact absurd e hbA
        subst this
        have e1 : h b' = some o := s1 _ _ hc
        have e2 : k b' = some o := t1 _ _ kc
        simp [e1, e2]
section
variable {d : Nat} {ty : TypeId} {pos : String} {aft : Array Edge} {gd : Option (Nat × Bool)} {v : Value} {f : FuncId} {xs : List Operand} {vs : List Value} {tys : Array TypeId} {A C : List Chunk} {k : HP} {i : Nat} {p : Plan}
theorem qs_callF [Cb : Callable P f] (fn : Does1 P f vs A v) (hd : HP.disj Γ.hf k) (hk : All C k) (hA : A.all isPt = true) (he : Evs fr xs vs) (tk : Take C A R) :
    QStep P (Γ.add k) fr ⟨some d, .call ⟨.value (.func f), xs.toArray, tys⟩, ty, pos, aft, gd⟩ v := by
  intro a hf L w hh
  unfold opRes
  rw [run_call he hf _ rfl]
  obtain ⟨h, dh, sh, al⟩ := hh.own
  have hkA : All A k := (All.take tk hk).drop_right
  have hfr : HP.sub (HP.union Γ.hf k) (wheap w) := hh.frame
  have fk : HP.sub k (wheap w) := (HP.sub_union_right hd).trans hfr
  have ff : HP.sub Γ.hf (wheap w) := (HP.sub_union_left _ _).trans hfr
  obtain ⟨df, dk⟩ := HP.disj_of_union dh
  let kA : HP := k.cut (onB A)
  let kR : HP := k.cut (fun b => !onB A b)
  let Γ' : Ctx := { Γ with hf := HP.union (HP.union Γ.hf kR) h }
  have sA : HP.sub kA k := HP.cut_sub _ _
  have sR : HP.sub kR k := HP.cut_sub _ _
  have dAR : HP.disj kA kR := fun b => by
    show k.cut (onB A) b = none ∨ k.cut (fun b => !onB A b) b = none
    unfold HP.cut
    by_cases e : onB A b = true <;> simp [e]
  have H0 : Holds Γ' A w := by
    refine ⟨hh.os, hh.tape, hh.output, hh.frz, HP.union_sub (HP.union_sub ff (sR.trans fk)) sh, kA, ?_, sA.trans fk, all_cut _ hA (fun _ hb => hb) hkA⟩
    exact HP.disj_union (HP.disj_union (HP.disj_sub hd.symm sA).symm dAR.symm) (HP.disj_sub dk sA).symm
  refine (fn Γ' w H0).mono ?_
  rintro e w' ⟨_, _, rfl, hB⟩
  refine ⟨_, rfl, rfl, ?_⟩
  obtain ⟨h', dh', sh', al'⟩ := hB.own
  have hf' : HP.sub (HP.union (HP.union Γ.hf kR) h) (wheap w') := hB.frame
  have fR : HP.sub (HP.union Γ.hf kR) (wheap w') := (HP.sub_union_left _ _).trans hf'
  have dfR : HP.disj Γ.hf kR := (HP.disj_sub hd.symm sR).symm
  refine ⟨hB.os, hB.tape, hB.output, hB.frz, HP.union_sub ((HP.sub_union_left _ _).trans fR) ?_, h, dh, (HP.sub_union_right ?_).trans hf', al⟩
  · intro b o hb
    by_cases hbA : onB A b = true
    · have := all_same hA hkA al' b hbA
      exact sh' _ _ (by rw [← this.1]; exact hb)
    · exact fR _ _ (HP.sub_union_right dfR _ _ (by
        show k.cut (fun b => !onB A b) b = some o
        unfold HP.cut
        simp [hbA, hb]))
  · exact HP.disj_union df (HP.disj_sub dk sR)
end

end Go.Sl
