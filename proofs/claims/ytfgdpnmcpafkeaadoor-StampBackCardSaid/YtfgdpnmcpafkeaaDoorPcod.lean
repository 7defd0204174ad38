/- Plain law: numbers in groups of seven digits; a stamp as bytes. -/
import Derived.Test.YtfgdpnmcpafkeaaDoorStmQ
set_option linter.unusedSimpArgs false
set_option linter.unusedVariables false
namespace Go.Proofs.YtfgdpnmcpafkeaaDoor
/-- A number as bytes. -/
def vb (v : Nat) : List UInt8 := if h : v < 128 then [UInt8.ofNat v] else UInt8.ofNat (v % 128 + 128) :: vb (v / 128)
termination_by v
decreasing_by omega
theorem vb_small {v : Nat} (h : v < 128) : vb v = [UInt8.ofNat v] := by rw [vb, dif_pos h]
theorem vb_big {v : Nat} (h : ¬ v < 128) : vb v = UInt8.ofNat (v % 128 + 128) :: vb (v / 128) := by conv => lhs; rw [vb, dif_neg h]
theorem vb_len : ∀ (k v : Nat), v < 128 ^ (k + 1) → (vb v).length ≤ k + 1
  | 0, v, h => by rw [vb_small (by simpa using h)]; simp
  | k + 1, v, h => by
    by_cases hv : v < 128
    · rw [vb_small hv]; simp
    · rw [vb_big hv, List.length_cons]
      have := vb_len k (v / 128) (by rw [Nat.pow_succ] at h; omega)
      omega
theorem vb_len10 (v : Nat) (h : v < 18446744073709551616) : (vb v).length ≤ 10 := vb_len 9 v (Nat.lt_of_lt_of_le h (by decide))
theorem vb_len8 (v : Nat) (h : v ≤ 1125899906842624) : (vb v).length ≤ 8 := vb_len 7 v (Nat.lt_of_le_of_lt h (by decide))
theorem vb_pos (v : Nat) : 0 < (vb v).length := by
  by_cases h : v < 128
  · rw [vb_small h]; simp
  · rw [vb_big h]; simp
theorem byte_of (n : Nat) (h : n < 256) : (UInt8.ofNat n).toNat = n := by rw [UInt8.toNat_ofNat']; omega
/-- The number that bytes begin with, and how many they are. -/
def uvF : List UInt8 → Nat → Nat → Nat × Nat
  | [], _, _ => (0, 0)
  | x :: l, i, v =>
    if 10 ≤ i then (0, 0)
    else if 128 ≤ x.toNat then uvF l (i + 1) (v + x.toNat % 128 * 2 ^ (7 * i))
    else if i = 9 ∧ 1 < x.toNat ∨ 0 < i ∧ x.toNat = 0 then (0, 0)
    else (v + x.toNat * 2 ^ (7 * i), i + 1)
def uv (l : List UInt8) : Nat × Nat := uvF l 0 0
theorem uvF_10 (l : List UInt8) (v : Nat) : uvF l 10 v = (0, 0) := by cases l <;> simp [uvF]
theorem uvF_le : ∀ (l : List UInt8) (i v : Nat), (uvF l i v).2 ≤ i + l.length
  | [], i, v => by simp [uvF]
  | x :: l, i, v => by
    simp only [uvF, List.length_cons]
    split
    · simp
    · split
      · have := uvF_le l (i + 1) (v + x.toNat % 128 * 2 ^ (7 * i)); omega
      · split <;> simp <;> omega
theorem uv_le (l : List UInt8) : (uv l).2 ≤ l.length := by have := uvF_le l 0 0; simpa [uv] using this
theorem uvF_vb (r : List UInt8) (v : Nat) : ∀ (i a : Nat), i + (vb v).length ≤ 9 → (0 < v ∨ i = 0) → uvF (vb v ++ r) i a = (a + v * 2 ^ (7 * i), i + (vb v).length) := by
  induction v using Nat.strongRecOn with
  | _ v ih =>
    intro i a h0 h1
    by_cases hv : v < 128
    · rw [vb_small hv] at h0 ⊢
      have e := byte_of v (by omega)
      simp only [List.cons_append, List.nil_append, uvF, e, List.length_singleton] at h0 ⊢
      rw [if_neg (by omega), if_neg (by omega), if_neg (by omega)]
    · rw [vb_big hv] at h0 ⊢
      have e := byte_of (v % 128 + 128) (by omega)
      simp only [List.cons_append, uvF, e, List.length_cons] at h0 ⊢
      rw [if_neg (by omega), if_pos (by omega), ih (v / 128) (by omega) (i + 1) _ (by omega) (.inl (by omega))]
      have e2 : 2 ^ (7 * (i + 1)) = 2 ^ (7 * i) * 128 := by rw [Nat.mul_add, Nat.pow_add]
      rw [e2]
      simp only [Prod.mk.injEq]
      refine ⟨?_, by omega⟩
      rw [show (v % 128 + 128) % 128 = v % 128 by omega, ← Nat.mul_assoc, Nat.mul_right_comm, Nat.add_assoc, ← Nat.add_mul]
      congr 2
      omega
theorem uv_vb (v : Nat) (r : List UInt8) (h : v ≤ 1125899906842624) : uv (vb v ++ r) = (v, (vb v).length) := by
  have := uvF_vb r v 0 0 (by have := vb_len8 v h; omega) (.inr rfl)
  simpa [uv] using this
/-! ### A stamp -/
def encL (w l n : Nat) : List UInt8 := vb w ++ (vb l ++ vb n)
def S3.enc (a : S3) : List UInt8 := if a.sound = true then encL a.w.toNat a.l.toNat a.n.toNat else []
/-- Three numbers, of at most so much each. -/
def dec3 (m0 m1 m2 : Nat) (l : List UInt8) : Option (S3 × Nat) :=
  if (uv l).2 = 0 ∨ m0 < (uv l).1 then none
  else if (uv (l.drop (uv l).2)).2 = 0 ∨ m1 < (uv (l.drop (uv l).2)).1 then none
  else if (uv (l.drop ((uv l).2 + (uv (l.drop (uv l).2)).2))).2 = 0 ∨ m2 < (uv (l.drop ((uv l).2 + (uv (l.drop (uv l).2)).2))).1 then none
  else some (⟨(uv l).1, (uv (l.drop (uv l).2)).1, (uv (l.drop ((uv l).2 + (uv (l.drop (uv l).2)).2))).1⟩, (uv l).2 + (uv (l.drop (uv l).2)).2 + (uv (l.drop ((uv l).2 + (uv (l.drop (uv l).2)).2))).2)
def decR (l : List UInt8) : Option (S3 × Nat) := dec3 1125899906842624 65535 5 l
def decP (l : List UInt8) : Option (S3 × Nat) :=
  match dec3 1125899906842624 1125899906842624 1125899906842624 l with
  | none => none
  | some x => if x.1.sound = true then some x else none
theorem dec_alike (l : List UInt8) : decP l = decR l := by
  unfold decP decR dec3
  generalize uv l = a
  obtain ⟨v0, n0⟩ := a
  simp only
  generalize uv (l.drop n0) = b
  obtain ⟨v1, n1⟩ := b
  simp only
  generalize uv (l.drop (n0 + n1)) = c
  obtain ⟨v2, n2⟩ := c
  simp only
  have hs : (S3.sound ⟨v0, v1, v2⟩ = true) ↔ v0 ≤ 1125899906842624 ∧ v1 ≤ 65535 ∧ v2 ≤ 5 := by
    unfold S3.sound
    rw [soundB_iff]
    simp only
    omega
  by_cases h0 : n0 = 0 ∨ 1125899906842624 < v0
  · simp [h0]
  · rw [if_neg h0, if_neg h0]
    by_cases h1 : n1 = 0 ∨ 1125899906842624 < v1
    · rw [if_pos h1, if_pos (by omega)]
    · rw [if_neg h1]
      by_cases h2 : n2 = 0 ∨ 1125899906842624 < v2
      · rw [if_pos h2]
        by_cases h3 : n1 = 0 ∨ 65535 < v1
        · rw [if_pos h3]
        · rw [if_neg h3, if_pos (by omega)]
      · rw [if_neg h2]
        simp only [hs]
        by_cases h3 : n1 = 0 ∨ 65535 < v1
        · rw [if_pos h3, if_neg (by omega)]
        · rw [if_neg h3]
          by_cases h4 : n2 = 0 ∨ 5 < v2
          · rw [if_pos h4, if_neg (by omega)]
          · rw [if_neg h4, if_pos (by omega)]
theorem dec_enc (a : S3) (h : a.sound = true) (r : List UInt8) : decP (a.enc ++ r) = some (a, a.enc.length) := by
  obtain ⟨w, l, n⟩ := a
  have hb := (soundB_iff w l n).1 h
  rw [dec_alike]
  unfold S3.enc
  rw [if_pos h]
  simp only
  have e0 := uv_vb w.toNat (vb l.toNat ++ (vb n.toNat ++ r)) (by omega)
  have e1 := uv_vb l.toNat (vb n.toNat ++ r) (by omega)
  have e2 := uv_vb n.toNat r (by omega)
  have p0 := vb_pos w.toNat
  have p1 := vb_pos l.toNat
  have p2 := vb_pos n.toNat
  unfold decR dec3 encL
  simp only [List.append_assoc]
  rw [e0]
  simp only
  rw [List.drop_left, e1]
  simp only
  rw [← List.drop_drop, List.drop_left, List.drop_left, e2]
  simp only
  rw [if_neg (by omega), if_neg (by omega), if_neg (by omega)]
  simp only [List.length_append, Option.some.injEq, Prod.mk.injEq, S3.mk.injEq]
  omega
end Go.Proofs.YtfgdpnmcpafkeaaDoor
