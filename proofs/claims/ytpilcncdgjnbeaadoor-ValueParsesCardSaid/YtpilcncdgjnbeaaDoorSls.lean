/- Part 18: bits of numbers; the least of two; elements of arrays that are values; bytes wherever they lie. -/
import Derived.Test.YtpilcncdgjnbeaaDoorSlr
set_option linter.unusedSimpArgs false
set_option linter.unusedVariables false
namespace Go.Sl
variable {P : Program} {Γ : Ctx} {L R : List Chunk} {N : Nat} {fr : Fr} {Q : Exit → Act → World → Prop} {ops : Array Oper} {rest : List Oper}
variable {d : Nat} {ty : TypeId} {pos : String} {aft : Array Edge} {gd : Option (Nat × Bool)} {x y z : Operand} {v u : Value} {t t2 tx : TypeId}
theorem bv_nat (w n : Nat) (h : n < 2 ^ w) : (BitVec.ofInt w (n : Int)).toNat = n := by
  rw [BitVec.ofInt_natCast, BitVec.toNat_ofNat, Nat.mod_eq_of_lt h]
theorem wrap8 (n : Nat) (h : n < 256) : IntKind.u8.wrap (n : Int) = n := wrap_u8 ⟨by omega, by omega⟩
theorem wrap64 (n : Nat) (h : n < 18446744073709551616) : IntKind.u64.wrap (n : Int) = n := wrap_u64 ⟨by omega, by omega⟩
section
variable {a b : Nat}
theorem qs_or8 (hx : ev fr x = some (.int .u8 a)) (hy : ev fr y = some (.int .u8 b)) (ha : a < 256) (hb : b < 256) : QStep P Γ fr ⟨some d, .binOp .or t x y t2, ty, pos, aft, gd⟩ (.int .u8 ((a ||| b : Nat) : Int)) :=
  qs_of (fun c w hf => by
    have e1 := bv_nat 8 a ha
    have e2 := bv_nat 8 b hb
    have e3 : (BitVec.ofInt IntKind.u8.bits (a : Int) ||| BitVec.ofInt IntKind.u8.bits (b : Int)).toNat = a ||| b := by
      show (BitVec.ofInt 8 (a : Int) ||| BitVec.ofInt 8 (b : Int)).toNat = a ||| b
      rw [BitVec.toNat_or, e1, e2]
    have e4 : a ||| b < 256 := Nat.or_lt_two_pow (n := 8) ha hb
    simp only [execOp, hf.ev hx, hf.ev hy, eqGuard_at_int, binOp_or, Op.intBits, e3, wrap8 _ e4]
    simp)
theorem qs_and8 (hx : ev fr x = some (.int .u8 a)) (hy : ev fr y = some (.int .u8 b)) (ha : a < 256) (hb : b < 256) : QStep P Γ fr ⟨some d, .binOp .and t x y t2, ty, pos, aft, gd⟩ (.int .u8 ((a &&& b : Nat) : Int)) :=
  qs_of (fun c w hf => by
    have e1 := bv_nat 8 a ha
    have e2 := bv_nat 8 b hb
    have e3 : (BitVec.ofInt IntKind.u8.bits (a : Int) &&& BitVec.ofInt IntKind.u8.bits (b : Int)).toNat = a &&& b := by
      show (BitVec.ofInt 8 (a : Int) &&& BitVec.ofInt 8 (b : Int)).toNat = a &&& b
      rw [BitVec.toNat_and, e1, e2]
    have e4 : a &&& b < 256 := Nat.lt_of_le_of_lt Nat.and_le_left ha
    simp only [execOp, hf.ev hx, hf.ev hy, eqGuard_at_int, binOp_and, Op.intBits, e3, wrap8 _ e4]
    simp)
theorem qs_or64 (hx : ev fr x = some (.int .u64 a)) (hy : ev fr y = some (.int .u64 b)) (ha : a < 18446744073709551616) (hb : b < 18446744073709551616) : QStep P Γ fr ⟨some d, .binOp .or t x y t2, ty, pos, aft, gd⟩ (.int .u64 ((a ||| b : Nat) : Int)) :=
  qs_of (fun c w hf => by
    have e1 := bv_nat 64 a ha
    have e2 := bv_nat 64 b hb
    have e3 : (BitVec.ofInt IntKind.u64.bits (a : Int) ||| BitVec.ofInt IntKind.u64.bits (b : Int)).toNat = a ||| b := by
      show (BitVec.ofInt 64 (a : Int) ||| BitVec.ofInt 64 (b : Int)).toNat = a ||| b
      rw [BitVec.toNat_or, e1, e2]
    have e4 : a ||| b < 18446744073709551616 := Nat.or_lt_two_pow (n := 64) ha hb
    simp only [execOp, hf.ev hx, hf.ev hy, eqGuard_at_int, binOp_or, Op.intBits, e3, wrap64 _ e4]
    simp)
theorem qs_and64 (hx : ev fr x = some (.int .u64 a)) (hy : ev fr y = some (.int .u64 b)) (ha : a < 18446744073709551616) (hb : b < 18446744073709551616) : QStep P Γ fr ⟨some d, .binOp .and t x y t2, ty, pos, aft, gd⟩ (.int .u64 ((a &&& b : Nat) : Int)) :=
  qs_of (fun c w hf => by
    have e1 := bv_nat 64 a ha
    have e2 := bv_nat 64 b hb
    have e3 : (BitVec.ofInt IntKind.u64.bits (a : Int) &&& BitVec.ofInt IntKind.u64.bits (b : Int)).toNat = a &&& b := by
      show (BitVec.ofInt 64 (a : Int) &&& BitVec.ofInt 64 (b : Int)).toNat = a &&& b
      rw [BitVec.toNat_and, e1, e2]
    have e4 : a &&& b < 18446744073709551616 := Nat.lt_of_le_of_lt Nat.and_le_left ha
    simp only [execOp, hf.ev hx, hf.ev hy, eqGuard_at_int, binOp_and, Op.intBits, e3, wrap64 _ e4]
    simp)
theorem qs_shr64 {k : IntKind} {n : Nat} (hx : ev fr x = some (.int .u64 a)) (hy : ev fr y = some (.int k (n : Int))) (hn : n ≤ 64) : QStep P Γ fr ⟨some d, .binOp .shr t x y t2, ty, pos, aft, gd⟩ (.int .u64 ((a / 2 ^ n : Nat) : Int)) :=
  qs_of (fun c w hf => by
    have e0 : ¬ ((n : Int) < 0) := by omega
    have e1 : min (n : Int).toNat IntKind.u64.bits = n := by
      show min (n : Int).toNat 64 = n
      rw [Int.toNat_natCast]; omega
    have e2 : (a : Int).fdiv (2 ^ n) = ((a / 2 ^ n : Nat) : Int) := by
      rw [Int.fdiv_eq_ediv_of_nonneg _ (by exact_mod_cast Nat.zero_le _)]
      norm_cast
    simp only [execOp, hf.ev hx, hf.ev hy, eqGuard_at_int, binOp_shr, Op.shift, e0, if_false, e1, e2]
    simp)
theorem qs_shl64 {k : IntKind} {n : Nat} (hx : ev fr x = some (.int .u64 a)) (hy : ev fr y = some (.int k (n : Int))) (hn : n ≤ 64) : QStep P Γ fr ⟨some d, .binOp .shl t x y t2, ty, pos, aft, gd⟩ (.int .u64 ((a * 2 ^ n % 18446744073709551616 : Nat) : Int)) :=
  qs_of (fun c w hf => by
    have e0 : ¬ ((n : Int) < 0) := by omega
    have e1 : min (n : Int).toNat IntKind.u64.bits = n := by
      show min (n : Int).toNat 64 = n
      rw [Int.toNat_natCast]; omega
    have e2 : IntKind.u64.wrap ((a : Int) * 2 ^ n) = ((a * 2 ^ n % 18446744073709551616 : Nat) : Int) := by
      have e3 : (a : Int) * 2 ^ n = ((a * 2 ^ n : Nat) : Int) := by simp
      rw [e3]
      generalize a * 2 ^ n = m
      show (m : Int) % 18446744073709551616 = _
      omega
    simp only [execOp, hf.ev hx, hf.ev hy, eqGuard_at_int, binOp_shl, Op.shift, e0, if_false, e1, e2]
    simp)
end
/-- An element of an array that is a value. -/
theorem qs_indexAgg {e : TypeId} {n : Nat} {xs : List Value} {k : IntKind} {i : Nat} (S : TDesc P t (.array n e)) (O : TOne P e) (hx : ev fr x = some (.agg xs.toArray)) (hy : ev fr y = some (.int k (i : Int))) (hi : i < n) (hv : xs[i]? = some v) :
    QStep P Γ fr ⟨some d, .index t x y, ty, pos, aft, gd⟩ v := qs_of (fun c w hf => by
  have h01 : (0 : Int) ≤ i ∧ (i : Int) < n := ⟨by omega, by omega⟩
  have hp := run_part1 (T := O) hv w
  simp only [execOp, hf.ev hx, hf.ev hy, Instr.index, asIntOf, Sem.run_bind, Sem.run_pure, Result.andThen_ok, run_underlying S.desc, h01, and_self, if_true, run_sizeOf' O.size, Int.toNat_natCast, Nat.mul_one, hp])
/-- An array, as a value. -/
theorem qs_buildArr {e : TypeId} {n len : Nat} {zs out : List Value} {ps : List (Nat × Operand)} (S : TDesc P t (.array len e)) (Z : TSize P e n) (Y : TZero P t (.agg zs.toArray)) (b : Parts fr n 0 ps out) (hl : zs.length = out.length) :
    QStep P Γ fr ⟨some d, .build t ps.toArray, ty, pos, aft, gd⟩ (.agg out.toArray) := qs_of (fun a w hf => by
  obtain ⟨_, hfl⟩ := b.fill hf zs (by omega)
  have e1 : zs.take (0 * n) ++ out ++ zs.drop (0 * n + out.length) = out := by
    rw [Nat.zero_mul, List.take_zero, Nat.zero_add, ← hl, List.drop_length]; simp
  rw [e1] at hfl
  have hz := run_zeroValue' (P := P) Y.zero w
  have hs := run_sizeOf' (P := P) (t := e) Z.size w
  have e2 : (ps.toArray.map fun (x : Nat × Operand) => (x.1, a.eval x.2)) = (ps.map fun p => (p.1, a.eval p.2)).toArray := by simp
  simp only [execOp, e2, Instr.build, Sem.run_bind, hz, Result.andThen_ok, run_underlying S.desc, hs, Value.cells, hfl, Sem.run_pure])
/-- The least of two. -/
theorem qs_min {a b : Int} {ats : Array TypeId} (hx : ev fr x = some (.int .i64 a)) (hy : ev fr y = some (.int .i64 b)) : QStep P Γ fr ⟨some d, .call ⟨.builtin .min, [x, y].toArray, ats⟩, ty, pos, aft, gd⟩ (.int .i64 (if b < a then b else a)) :=
  qs_of (fun c w hf => by simp [execOp, resolve, hf.ev hx, hf.ev hy, invoke, builtin, Builtin.min_, Builtin.min2])
/-! ### Bytes, wherever they lie -/
def BtAt (C : Chunk) (p : Option Addr) (l : List UInt8) : Prop := ∀ j, j < l.length → ∃ b o, p = some ⟨b, o, none⟩ ∧ Reads C ⟨b, o + j, none⟩ (.int .u8 ((l.getD j 0).toNat : Int))
theorem BtAt.drop {C : Chunk} {p : Option Addr} {l : List UInt8} (h : BtAt C p l) {cap n : Nat} (hc : l.length ≤ cap) : BtAt C (if cap = n then p else p.map (·.add (n * 1))) (l.drop n) := fun j hj => by
  rw [List.length_drop] at hj
  obtain ⟨b, o, rfl, r⟩ := h (n + j) (by omega)
  refine ⟨b, o + n, ?_, ?_⟩
  · rw [if_neg (by omega)]
    simp [Addr.add_lit]
  · rw [Nat.add_assoc]
    have : (l.drop n).getD j 0 = l.getD (n + j) 0 := by simp [List.getD_eq_getElem?_getD, List.getElem?_drop]
    rw [this]; exact r
theorem btAt_own {q : Option Addr} {len c : Nat} {l : List UInt8} {e : TypeId} (h : 0 < len → ∃ b, q = some ⟨b, 0, none⟩) (hl : l.length = len) : BtAt (.own q len c 1 (cells8 l) e) q l := fun j hj => by
  obtain ⟨b, rfl⟩ := h (by omega)
  refine ⟨b, 0, rfl, ?_⟩
  rw [Nat.zero_add]
  exact reads_own (cells8_get l j hj)
end Go.Sl
