/- Plain: stamps, numbers as bytes, events as bytes. -/
import Derived.Test.YtcgmliaahdpmcaaDoorRunA
set_option linter.unusedSimpArgs false
set_option linter.unusedVariables false
namespace Go.Sl
theorem decode_w4 (s : ByteArray) (k : Nat) : (Utf8.decode s k).2 ≤ 4 := by
  unfold Utf8.decode
  dsimp only
  repeat' split
  all_goals (dsimp only; omega)
theorem rnsF_size (s : ByteArray) : ∀ (f k : Nat), s.size ≤ k + f → s.size ≤ k + 4 * (rnsF s f k).length
  | 0, k, h => by simp only [rnsF, List.length_nil]; omega
  | f + 1, k, h => by
    by_cases hk : k < s.size
    · rw [rnsF_go s f k hk, List.length_cons]
      have h1 := Lib.decode_width_pos s k hk
      have h2 := decode_w4 s k
      have := rnsF_size s f (k + (Utf8.decode s k).2) (by omega)
      omega
    · omega
theorem everyB_size {p : Nat → Bool} {m : Nat} {s : ByteArray} (h : everyB p m s = true) : s.size ≤ 4 * m := by
  simp only [everyB, Bool.and_eq_true, decide_eq_true_eq] at h
  have := rnsF_size s s.size 0 (by omega)
  unfold rns at h
  omega
end Go.Sl
namespace Go.Proofs.YtcgmliaahdpmcaaDoor
open Go.Sl
structure S3 where
  w : Int
  l : Int
  n : Int
abbrev S3.v (s : S3) : Value := .agg [.int .i64 s.w, .int .i64 s.l, .int .i64 s.n].toArray
def S3.zero : S3 := ⟨0, 0, 0⟩
def inB (n m : Int) : Bool := decide (0 ≤ n ∧ n ≤ m)
def soundB (w l n : Int) : Bool := inB w 1125899906842624 && inB l 65535 && inB n 5
def S3.sound (s : S3) : Bool := soundB s.w s.l s.n
theorem soundB_iff (w l n : Int) : soundB w l n = true ↔ (0 ≤ w ∧ w ≤ 1125899906842624) ∧ (0 ≤ l ∧ l ≤ 65535) ∧ (0 ≤ n ∧ n ≤ 5) := by
  simp [soundB, inB, and_assoc]
structure DecX where
  u : Nat
  bs : List UInt8
  q : Option Addr
  c : Nat
theorem u64_mod (n : Int) : IntKind.u64.wrap n = n % 18446744073709551616 := rfl
theorem u8_mod (n : Int) : IntKind.u8.wrap n = n % 256 := rfl
theorem take_snoc {α : Type} (l : List α) (k : Nat) (d : α) (h : k < l.length) : l.take (k + 1) = l.take k ++ [l.getD k d] := by
  rw [List.take_succ_eq_append_getElem h]; simp [h]
/-- A number as bytes. -/
def vb (v : Nat) : List UInt8 := if h : v < 128 then [UInt8.ofNat v] else UInt8.ofNat (v % 128 + 128) :: vb (v / 128)
termination_by v
decreasing_by omega
theorem vb_small {v : Nat} (h : v < 128) : vb v = [UInt8.ofNat v] := by rw [vb, dif_pos h]
theorem vb_big {v : Nat} (h : ¬ v < 128) : vb v = UInt8.ofNat (v % 128 + 128) :: vb (v / 128) := by conv => lhs; rw [vb, dif_neg h]
theorem vb_len : ∀ (k v : Nat), v < 128 ^ (k + 1) → (vb v).length ≤ k + 1
  | 0, v, h => by rw [vb_small (by simpa using h)]; simp
  | k + 1, v, h => by
    by_cases hv : v < 128
    · rw [vb_small hv]; simp
    · rw [vb_big hv, List.length_cons]
      have := vb_len k (v / 128) (by rw [Nat.pow_succ] at h; omega)
      omega
theorem vb_len10 (v : Nat) (h : v < 18446744073709551616) : (vb v).length ≤ 10 := vb_len 9 v (Nat.lt_of_lt_of_le h (by decide))
theorem vb_len8 (v : Nat) (h : v ≤ 1125899906842624) : (vb v).length ≤ 8 := vb_len 7 v (Nat.lt_of_le_of_lt h (by decide))
theorem vb_pos (v : Nat) : 0 < (vb v).length := by
  by_cases h : v < 128
  · rw [vb_small h]; simp
  · rw [vb_big h]; simp
theorem byte_of (n : Nat) (h : n < 256) : (UInt8.ofNat n).toNat = n := by rw [UInt8.toNat_ofNat']; omega
def encL (w l n : Nat) : List UInt8 := vb w ++ (vb l ++ vb n)
def S3.enc (a : S3) : List UInt8 := if a.sound = true then encL a.w.toNat a.l.toNat a.n.toNat else []
theorem S3.enc_len (a : S3) : a.enc.length ≤ 24 := by
  unfold S3.enc
  split
  · rename_i h
    have := (soundB_iff a.w a.l a.n).1 h
    have h0 := vb_len8 a.w.toNat (by omega)
    have h1 := vb_len8 a.l.toNat (by omega)
    have h2 := vb_len8 a.n.toNat (by omega)
    simp only [encL, List.length_append]
    omega
  · simp
/-! ### Texts, events -/
def txE (s : ByteArray) : List UInt8 := vb s.size ++ s.data.toList
theorem txE_pos (s : ByteArray) : 0 < (txE s).length := by have := vb_pos s.size; simp only [txE, List.length_append]; omega
def nameB (s : ByteArray) : Bool := decide (s ≠ ByteArray.empty) && (everyB namedB 40 s && Lib.validD s.data.toList)
def keyB (s : ByteArray) : Bool := everyB (fun r => !controlB r) 40 s && Lib.validD s.data.toList
structure Ev where
  st : ByteArray
  ver : Int
  data : ByteArray
  s : S3
  idx : Int
abbrev Ev.cells (x : Ev) : List Value := [.string x.st, .int .i64 x.ver, .string x.data, .int .i64 x.s.w, .int .i64 x.s.l, .int .i64 x.s.n, .int .i64 x.idx]
abbrev Ev.v (x : Ev) : Value := .agg x.cells.toArray
def Ev.ok (x : Ev) : Bool := nameB x.st && (decide (1 ≤ x.ver ∧ x.ver ≤ 1099511627776) && (decide (x.data.size ≤ 1000) && (Lib.validD x.data.data.toList && (x.s.sound && decide (0 ≤ x.idx ∧ x.idx ≤ 160)))))
def Ev.enc (x : Ev) : List UInt8 := if x.ok = true then txE x.st ++ vb x.ver.toNat ++ txE x.data ++ x.s.enc ++ vb x.idx.toNat else []
theorem Ev.enc_pos (x : Ev) : x.enc.length = 0 ↔ x.ok = false := by
  unfold Ev.enc
  cases h : x.ok
  · simp
  · have := txE_pos x.st
    simp only [if_true, List.length_append]
    constructor
    · intro h; omega
    · intro h; cases h
theorem Ev.ok_iff (x : Ev) : x.ok = true ↔ nameB x.st = true ∧ (1 ≤ x.ver ∧ x.ver ≤ 1099511627776) ∧ x.data.size ≤ 1000 ∧ Lib.validD x.data.data.toList = true ∧ x.s.sound = true ∧ (0 ≤ x.idx ∧ x.idx ≤ 160) := by
  simp only [Ev.ok, Bool.and_eq_true, decide_eq_true_eq]
theorem name_size {s : ByteArray} (h : nameB s = true) : 0 < s.size ∧ s.size ≤ 160 := by
  simp only [nameB, Bool.and_eq_true, decide_eq_true_eq] at h
  refine ⟨?_, everyB_size h.2.1⟩
  rcases Nat.eq_zero_or_pos s.size with h0 | h0
  · exact absurd (ByteArray.size_eq_zero_iff.1 h0) h.1
  · exact h0
theorem key_size {s : ByteArray} (h : keyB s = true) : s.size ≤ 160 := by
  simp only [keyB, Bool.and_eq_true] at h
  exact everyB_size h.1
end Go.Proofs.YtcgmliaahdpmcaaDoor
