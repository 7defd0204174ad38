/- Contract: the document's reader: number. -/
import Derived.Test.YtpilcncdgjnbeaaDoorDocA
set_option linter.unusedSimpArgs false
set_option linter.unusedVariables false
namespace Go.Proofs.YtpilcncdgjnbeaaDoor
open Go.Sl facts
def dgF : List UInt8 → Nat → Nat → Nat × Nat
  | [], _, u => (0, u)
  | _ :: _, 0, u => (0, u)
  | c :: l, f + 1, u => if 48 ≤ c.toNat ∧ c.toNat ≤ 57 then ((dgF l f ((u * 10 + (c.toNat - 48)) % 18446744073709551616)).1 + 1, (dgF l f ((u * 10 + (c.toNat - 48)) % 18446744073709551616)).2) else (0, u)
theorem dgF_le : ∀ (l : List UInt8) (f u : Nat), (dgF l f u).1 ≤ l.length ∧ (dgF l f u).1 ≤ f ∧ (u < 18446744073709551616 → (dgF l f u).2 < 18446744073709551616)
  | [], f, u => by simp [dgF]
  | _ :: _, 0, u => by simp [dgF]
  | c :: l, f + 1, u => by
    have := dgF_le l f ((u * 10 + (c.toNat - 48)) % 18446744073709551616)
    rw [dgF, List.length_cons]
    split
    · exact ⟨by dsimp only; omega, by dsimp only; omega, fun _ => this.2.2 (Nat.mod_lt _ (by decide))⟩
    · exact ⟨Nat.zero_le _, Nat.zero_le _, fun h => h⟩
theorem dgF_step (l : List UInt8) (f u : Nat) (h : 0 < l.length) (hf : 0 < f) : dgF l f u = if 48 ≤ (l.getD 0 0).toNat ∧ (l.getD 0 0).toNat ≤ 57 then ((dgF (l.drop 1) (f - 1) ((u * 10 + ((l.getD 0 0).toNat - 48)) % 18446744073709551616)).1 + 1, (dgF (l.drop 1) (f - 1) ((u * 10 + ((l.getD 0 0).toNat - 48)) % 18446744073709551616)).2) else (0, u) := by
  cases l with
  | nil => simp at h
  | cons c l =>
    obtain ⟨f, rfl⟩ : ∃ f', f = f' + 1 := ⟨f - 1, by omega⟩
    rw [dgF]; rfl
theorem dgF_zero (l : List UInt8) (u : Nat) : dgF l 0 u = (0, u) := by cases l <;> rfl
def sgn (L : List UInt8) (i : Nat) : Nat := if L.getD i 0 = 45 then 1 else 0
/-- What the digits make: as an int of 64 bits. -/
def numN (neg : Bool) (u : Nat) : Int := if neg = true then IntKind.i64.wrap (0 - IntKind.i64.wrap u) else IntKind.i64.wrap u
def numberT (L : List UInt8) (σ : RS) : Int × RS :=
  (numN (decide (L.getD σ.at_ 0 = 45)) (dgF (L.drop (σ.at_ + sgn L σ.at_)) (21 - sgn L σ.at_) 0).2,
   ⟨σ.at_ + sgn L σ.at_ + (dgF (L.drop (σ.at_ + sgn L σ.at_)) (21 - sgn L σ.at_) 0).1, σ.n, !decide (decI (numN (decide (L.getD σ.at_ 0 = 45)) (dgF (L.drop (σ.at_ + sgn L σ.at_)) (21 - sgn L σ.at_) 0).2) = (L.drop σ.at_).take (sgn L σ.at_ + (dgF (L.drop (σ.at_ + sgn L σ.at_)) (21 - sgn L σ.at_) 0).1))⟩)
theorem i64w (z : Int) : IntKind.i64.wrap z = (z + 9223372036854775808) % 18446744073709551616 - 9223372036854775808 := by rw [IntKind.wrap_i64]
theorem numN_in (neg : Bool) (u : Nat) : inI (numN neg u) := by
  unfold numN inI
  split
  · rw [i64w]; omega
  · rw [i64w]; omega
attribute [local irreducible] Code.wp wpList Exit.then Exit.inBlock bodyPost Back MidQ G GP QStep VStep CStep SStep Does Post Reads
structure DnX where
  j : Nat
  u : Nat
set_option maxHeartbeats 4000000 in
theorem numberD_ (b : Nat) (L : List UInt8) (hL : L.length ≤ 100000000) (i n : Nat) (hi : i < L.length) : Does Tryd.prog 67 [ptr b] [rdD b L ⟨i, n, false⟩] (X := Unit) (fun _ => int (numberT L ⟨i, n, false⟩).1) (fun _ => [rdD b L (numberT L ⟨i, n, false⟩).2]) (fun _ => True) := by
  have hz : (txt L).size = L.length := txt_size L
  have hnx0 := next_ b L (by omega) ⟨i, n, false⟩ (by dsimp only; omega)
  have hnv0 : nx L ⟨i, n, false⟩ = L.getD i 0 := if_pos ⟨rfl, hi⟩
  rw [hnv0] at hnx0
  have hnt : numberT L ⟨i, n, false⟩ = (numN (decide (L.getD i 0 = 45)) (dgF (L.drop (i + sgn L i)) (21 - sgn L i) 0).2, ⟨i + sgn L i + (dgF (L.drop (i + sgn L i)) (21 - sgn L i) 0).1, n, !decide (decI (numN (decide (L.getD i 0 = 45)) (dgF (L.drop (i + sgn L i)) (21 - sgn L i) 0).2) = (L.drop i).take (sgn L i + (dgF (L.drop (i + sgn L i)) (21 - sgn L i) 0).1))⟩) := rfl
  rw [hnt]
  clear hnt
  dsimp only [rdD] at hnx0 ⊢
  have hsg : sgn L i = if L.getD i 0 = 45 then 1 else 0 := rfl
  have hdl := dgF_le (L.drop (i + sgn L i)) (21 - sgn L i) 0
  rw [List.length_drop] at hdl
  generalize hs : sgn L i = s at hsg hdl ⊢
  have hs1 : s ≤ 1 ∧ i + s ≤ L.length := by rw [hsg]; split <;> omega
  refine fn_intro Tryd.func67 rfl Tryd.ntmps67 rfl (by simp only [argFr, Nat.zero_add, Nat.reduceAdd]; rfl) (fun Γ => ?_)
  repeat (first
    | (refine g_ops ?_; first | refine sO ?_ | refine s_n (fun _ => ?_) | refine s_app (fun _ _ => ?_) | refine s_b0 (fun _ => ?_) | ((fail_if_success refine g_lit rfl rfl rfl ?_); first | apply g_partM rfl rfl rfl | apply g_partMB rfl rfl rfl | fail) | refine s_k (hnx0) ?_)
    | refine gS ?_ | exact s_m | intro _)
  refine g_cutX (X := Unit) (fun _ => [(0, ptr b), (3, int i)]) (fun _ => [.row b [.string (txt L), int ((i + s : Nat) : Int), .bool false, int n] 78]) (fun _ => True) ?_ (fun _ _ => ?_)
  · by_cases k1 : L.getD i 0 = 45
    · rw [if_pos k1] at hsg
      subst hsg
      refine g_as 12 (v' := .bool true) rfl (congrArg Value.bool (by rw [k1]; rfl)) ?_
      repeat (first
        | (refine g_ops ?_; first | refine sO ?_ | refine s_n (fun _ => ?_) | refine s_app (fun _ _ => ?_) | refine s_b0 (fun _ => ?_) | ((fail_if_success refine g_lit rfl rfl rfl ?_); first | apply g_partM rfl rfl rfl | apply g_partMB rfl rfl rfl | fail))
        | refine gS ?_ | exact s_m | intro _)
      rw [show (i : Int) + 1 = ((i + 1 : Nat) : Int) by push_cast; rfl]
      exact gM () trivial
    · rw [if_neg k1] at hsg
      subst hsg
      refine g_as 12 (v' := .bool false) rfl (congrArg Value.bool (decide_eq_false (fun e => k1 (UInt8.toNat_inj.1 (by have : (45 : UInt8).toNat = 45 := rfl; omega))))) ?_
      repeat (first
        | (refine g_ops ?_; first | refine sO ?_ | refine s_n (fun _ => ?_) | refine s_app (fun _ _ => ?_) | refine s_b0 (fun _ => ?_) | ((fail_if_success refine g_lit rfl rfl rfl ?_); first | apply g_partM rfl rfl rfl | apply g_partMB rfl rfl rfl | fail))
        | refine gS ?_ | exact s_m | intro _)
      exact gM () trivial
  clear hnx0
  repeat (first
    | (refine g_ops ?_; first | refine sO ?_ | refine s_n (fun _ => ?_) | refine s_app (fun _ _ => ?_) | refine s_b0 (fun _ => ?_) | ((fail_if_success refine g_lit rfl rfl rfl ?_); first | apply g_partM rfl rfl rfl | apply g_partMB rfl rfl rfl | fail))
    | refine gS ?_ | exact s_m | intro _)
  refine g_loop (X := DnX) (fun x => [(0, ptr b), (3, int i), (4, .int .u64 x.u)]) (fun x => [.row b [.string (txt L), int ((i + s + x.j : Nat) : Int), .bool false, int n] 78])
    (fun x => x.j ≤ 21 - s ∧ i + s + x.j ≤ L.length ∧ x.u < 18446744073709551616 ∧ dgF (L.drop (i + s)) (21 - s) 0 = (x.j + (dgF (L.drop (i + s + x.j)) (21 - s - x.j) x.u).1, (dgF (L.drop (i + s + x.j)) (21 - s - x.j) x.u).2)) (fun x => 21 - x.j) ⟨0, 0⟩ ⟨Nat.zero_le _, by dsimp only; omega, by decide, by simp⟩ (by (repeat (first | exact FrSub.nil | refine FrSub.cons rfl ?_)); first | done | fail) (by (repeat (first | exact Take.nil | apply Take.cons | exact Sel.here | apply Sel.there)); first | done | fail) (fun x hx => ?_)
  obtain ⟨j, u⟩ := x
  obtain ⟨hj, hij, hu, he⟩ := hx
  dsimp only at hj hij hu he ⊢
  have hnx := next_ b L (by omega) ⟨i + s + j, n, false⟩ (by dsimp only; omega)
  have hnv : nx L ⟨i + s + j, n, false⟩ = if i + s + j < L.length then L.getD (i + s + j) 0 else 0 := by
    unfold nx
    by_cases h : i + s + j < L.length
    · rw [if_pos ⟨rfl, h⟩, if_pos h]
    · rw [if_neg (fun hh => h hh.2), if_neg h]
  dsimp only [rdD] at hnx
  rw [hnv] at hnx
  generalize hc : (if i + s + j < L.length then L.getD (i + s + j) 0 else 0) = c at hnx
  have h8 := c.toNat_lt
  repeat (first | refine g_then_normal ?_ | refine g_seq ?_)
  refine g_cutX (X := Unit) (fun _ => [(0, ptr b), (3, int i), (4, .int .u64 u), (36, .bool (decide ((48 ≤ c.toNat ∧ c.toNat ≤ 57) ∧ s + j < 21)))]) (fun _ => [.row b [.string (txt L), int ((i + s + j : Nat) : Int), .bool false, int n] 78]) (fun _ => True) ?_ (fun _ _ => ?_)
  · have eN : ¬ ((48 ≤ c.toNat ∧ c.toNat ≤ 57) ∧ s + j < 21) → decide ((48 ≤ c.toNat ∧ c.toNat ≤ 57) ∧ s + j < 21) = false := decide_eq_false
    repeat ((fail_if_success refine s_at 23 ?_); first
      | (refine g_ops ?_; first | refine sO ?_ | refine s_n (fun _ => ?_) | refine s_app (fun _ _ => ?_) | refine s_b0 (fun _ => ?_) | ((fail_if_success refine g_lit rfl rfl rfl ?_); first | apply g_partM rfl rfl rfl | apply g_partMB rfl rfl rfl | fail) | refine s_k (hnx) ?_)
      | refine gS ?_ | exact s_m | intro _)
    first
      | (refine g_ops ?_; first | refine sO ?_ | refine s_n (fun _ => ?_) | refine s_app (fun _ _ => ?_) | refine s_b0 (fun _ => ?_) | ((fail_if_success refine g_lit rfl rfl rfl ?_); first | apply g_partM rfl rfl rfl | apply g_partMB rfl rfl rfl | fail))
      | refine gS ?_ | exact s_m | intro _
    by_cases k1 : 48 ≤ c.toNat
    case neg =>
      refine g_as 23 (v' := .bool false) rfl (congrArg Value.bool (decide_eq_false (by omega))) ?_
      rw [eN (fun h => k1 h.1.1)]
      repeat (first
        | (refine g_ops ?_; first | refine sO ?_ | refine s_n (fun _ => ?_) | refine s_app (fun _ _ => ?_) | refine s_b0 (fun _ => ?_) | ((fail_if_success refine g_lit rfl rfl rfl ?_); first | apply g_partM rfl rfl rfl | apply g_partMB rfl rfl rfl | fail))
        | refine gS ?_ | exact s_m | intro _)
      exact gM () trivial
    refine g_as 23 (v' := .bool true) rfl (congrArg Value.bool (decide_eq_true (by omega))) ?_
    repeat ((fail_if_success refine s_at 28 ?_); first
      | (refine g_ops ?_; first | refine sO ?_ | refine s_n (fun _ => ?_) | refine s_app (fun _ _ => ?_) | refine s_b0 (fun _ => ?_) | ((fail_if_success refine g_lit rfl rfl rfl ?_); first | apply g_partM rfl rfl rfl | apply g_partMB rfl rfl rfl | fail) | refine s_k (hnx) ?_)
      | refine gS ?_ | exact s_m | intro _)
    first
      | (refine g_ops ?_; first | refine sO ?_ | refine s_n (fun _ => ?_) | refine s_app (fun _ _ => ?_) | refine s_b0 (fun _ => ?_) | ((fail_if_success refine g_lit rfl rfl rfl ?_); first | apply g_partM rfl rfl rfl | apply g_partMB rfl rfl rfl | fail))
      | refine gS ?_ | exact s_m | intro _
    by_cases k2 : c.toNat ≤ 57
    case neg =>
      refine g_as 28 (v' := .bool false) rfl (congrArg Value.bool (decide_eq_false (by omega))) ?_
      rw [eN (fun h => k2 h.1.2)]
      repeat (first
        | (refine g_ops ?_; first | refine sO ?_ | refine s_n (fun _ => ?_) | refine s_app (fun _ _ => ?_) | refine s_b0 (fun _ => ?_) | ((fail_if_success refine g_lit rfl rfl rfl ?_); first | apply g_partM rfl rfl rfl | apply g_partMB rfl rfl rfl | fail))
        | refine gS ?_ | exact s_m | intro _)
      exact gM () trivial
    refine g_as 28 (v' := .bool true) rfl (congrArg Value.bool (decide_eq_true (by omega))) ?_
    repeat (first
      | (refine g_ops ?_; first | refine sO ?_ | refine s_n (fun _ => ?_) | refine s_app (fun _ _ => ?_) | refine s_b0 (fun _ => ?_) | ((fail_if_success refine g_lit rfl rfl rfl ?_); first | apply g_partM rfl rfl rfl | apply g_partMB rfl rfl rfl | fail))
      | refine gS ?_ | exact s_m | intro _)
    refine g_as 36 (v' := .bool (decide ((48 ≤ c.toNat ∧ c.toNat ≤ 57) ∧ s + j < 21))) rfl (congrArg Value.bool (decide_eq_decide.2 ⟨fun h => ⟨⟨k1, k2⟩, by push_cast at h; omega⟩, fun h => by push_cast; omega⟩)) ?_
    exact gM () trivial
  by_cases hB : (48 ≤ c.toNat ∧ c.toNat ≤ 57) ∧ s + j < 21
  · rw [decide_eq_true hB]
    have hin : i + s + j < L.length := by
      by_cases h : i + s + j < L.length
      · exact h
      · rw [if_neg h] at hc; subst hc; exact absurd hB.1.1 (by decide)
    rw [if_pos hin] at hc
    have hsub := u8_sub c 48 hB.1.1
    simp only [show (48 : UInt8).toNat = 48 from rfl] at hsub
    repeat (first
      | (refine g_ops ?_; first | refine sO ?_ | refine s_n (fun _ => ?_) | refine s_app (fun _ _ => ?_) | refine s_b0 (fun _ => ?_) | ((fail_if_success refine g_lit rfl rfl rfl ?_); first | apply g_partM rfl rfl rfl | apply g_partMB rfl rfl rfl | fail))
      | refine gS ?_ | exact s_m | intro _)
    refine s_q (q := by exact qs_mul rfl rfl) ?_
    repeat (first
      | (refine g_ops ?_; first | refine sO ?_ | refine s_n (fun _ => ?_) | refine s_app (fun _ _ => ?_) | refine s_b0 (fun _ => ?_) | ((fail_if_success refine g_lit rfl rfl rfl ?_); first | apply g_partM rfl rfl rfl | apply g_partMB rfl rfl rfl | fail) | refine s_k (hnx) ?_)
      | refine gS ?_ | exact s_m | intro _)
    refine s_q (q := by exact qs_sub rfl rfl) ?_
    refine g_as 41 (v' := .int .u8 ((c.toNat : Int) - 48)) rfl (congrArg (Value.int .u8) (by rw [wrap_u8 ⟨by omega, by omega⟩])) ?_
    refine s_q (q := by exact qs_convInt rfl) ?_
    refine g_as 42 (v' := .int .u64 ((c.toNat : Int) - 48)) rfl (congrArg (Value.int .u64) (by rw [wrap_u64 ⟨by omega, by omega⟩])) ?_
    refine s_q (q := by exact qs_add rfl rfl) ?_
    refine g_as 43 (v' := .int .u64 (((u * 10 + (c.toNat - 48)) % 18446744073709551616 : Nat) : Int)) rfl (congrArg (Value.int .u64) (by
      show ((u : Int) * 10 % 18446744073709551616 + ((c.toNat : Int) - 48)) % 18446744073709551616 = _
      omega)) ?_
    repeat (first
      | (refine g_ops ?_; first | refine sO ?_ | refine s_n (fun _ => ?_) | refine s_app (fun _ _ => ?_) | refine s_b0 (fun _ => ?_) | ((fail_if_success refine g_lit rfl rfl rfl ?_); first | apply g_partM rfl rfl rfl | apply g_partMB rfl rfl rfl | fail))
      | refine gS ?_ | exact s_m | intro _)
    rw [show ((i + s + j : Nat) : Int) + 1 = ((i + s + (j + 1) : Nat) : Int) by push_cast; omega]
    refine gA ⟨j + 1, (u * 10 + (c.toNat - 48)) % 18446744073709551616⟩ (by simp only; omega) ⟨by dsimp only; omega, by dsimp only; omega, Nat.mod_lt _ (by decide), ?_⟩
    dsimp only
    have hst := dgF_step (L.drop (i + s + j)) (21 - s - j) u (by rw [List.length_drop]; omega) (by omega)
    rw [drop_end L _ hin, hc, if_pos hB.1, List.drop_drop] at hst
    rw [he, hst, show 21 - s - (j + 1) = 21 - s - j - 1 by omega, show i + s + (j + 1) = i + s + j + 1 by omega]
    dsimp only
    rw [show j + 1 + (dgF (L.drop (i + s + j + 1)) (21 - s - j - 1) ((u * 10 + (c.toNat - 48)) % 18446744073709551616)).1 = j + ((dgF (L.drop (i + s + j + 1)) (21 - s - j - 1) ((u * 10 + (c.toNat - 48)) % 18446744073709551616)).1 + 1) by omega]
  · rw [decide_eq_false hB]
    have e0 : dgF (L.drop (i + s)) (21 - s) 0 = (j, u) := by
      rw [he]
      by_cases h1 : i + s + j < L.length
      · by_cases h2 : s + j < 21
        · rw [if_pos h1] at hc
          rw [dgF_step _ _ _ (by rw [List.length_drop]; omega) (by omega), drop_end L _ h1, hc, if_neg (fun h => hB ⟨h, h2⟩)]; rfl
        · rw [show 21 - s - j = 0 by omega, dgF_zero]; rfl
      · rw [List.drop_eq_nil_of_le (by omega), dgF]; rfl
    rw [e0]
    dsimp only
    clear he hB hnx hnv e0 hdl
    repeat (first
      | (refine g_ops ?_; first | refine sO ?_ | refine s_n (fun _ => ?_) | refine s_app (fun _ _ => ?_) | refine s_b0 (fun _ => ?_) | ((fail_if_success refine g_lit rfl rfl rfl ?_); first | apply g_partM rfl rfl rfl | apply g_partMB rfl rfl rfl | fail))
      | refine gS ?_ | exact s_m | intro _)
    refine s_q (q := by exact qs_convInt rfl) ?_
    refine g_as 52 (v' := int (IntKind.i64.wrap u)) rfl rfl ?_
    repeat (first
      | (refine g_ops ?_; first | refine sO ?_ | refine s_n (fun _ => ?_) | refine s_app (fun _ _ => ?_) | refine s_b0 (fun _ => ?_) | ((fail_if_success refine g_lit rfl rfl rfl ?_); first | apply g_partM rfl rfl rfl | apply g_partMB rfl rfl rfl | fail))
      | refine gS ?_ | exact s_m | intro _)
    refine s_q (q := by exact qs_indexStr (i := i) inferInstance rfl rfl (by rw [hz]; omega)) ?_
    refine g_as 58 (v' := u8v (L.getD i 0)) rfl (by rw [at8_txt]) ?_
    repeat (first
      | (refine g_ops ?_; first | refine sO ?_ | refine s_n (fun _ => ?_) | refine s_app (fun _ _ => ?_) | refine s_b0 (fun _ => ?_) | ((fail_if_success refine g_lit rfl rfl rfl ?_); first | apply g_partM rfl rfl rfl | apply g_partMB rfl rfl rfl | fail))
      | refine gS ?_ | exact s_m | intro _)
    refine g_cutX (X := Unit) (fun _ => [(0, ptr b), (3, int i), (5, int (numN (decide (L.getD i 0 = 45)) u))]) (fun _ => [.row b [.string (txt L), int ((i + s + j : Nat) : Int), .bool false, int n] 78]) (fun _ => True) ?_ (fun _ _ => ?_)
    · by_cases k1 : L.getD i 0 = 45
      · rw [decide_eq_true k1]
        refine g_as 59 (v' := .bool true) rfl (congrArg Value.bool (by rw [k1]; rfl)) ?_
        repeat (first
          | (refine g_ops ?_; first | refine sO ?_ | refine s_n (fun _ => ?_) | refine s_app (fun _ _ => ?_) | refine s_b0 (fun _ => ?_) | ((fail_if_success refine g_lit rfl rfl rfl ?_); first | apply g_partM rfl rfl rfl | apply g_partMB rfl rfl rfl | fail))
          | refine gS ?_ | exact s_m | intro _)
        refine s_q (q := by exact qs_neg rfl) ?_
        repeat (first
          | (refine g_ops ?_; first | refine sO ?_ | refine s_n (fun _ => ?_) | refine s_app (fun _ _ => ?_) | refine s_b0 (fun _ => ?_) | ((fail_if_success refine g_lit rfl rfl rfl ?_); first | apply g_partM rfl rfl rfl | apply g_partMB rfl rfl rfl | fail))
          | refine gS ?_ | exact s_m | intro _)
        exact gM () trivial
      · rw [decide_eq_false k1]
        refine g_as 59 (v' := .bool false) rfl (congrArg Value.bool (decide_eq_false (fun e => k1 (UInt8.toNat_inj.1 (by have : (45 : UInt8).toNat = 45 := rfl; omega))))) ?_
        repeat (first
          | (refine g_ops ?_; first | refine sO ?_ | refine s_n (fun _ => ?_) | refine s_app (fun _ _ => ?_) | refine s_b0 (fun _ => ?_) | ((fail_if_success refine g_lit rfl rfl rfl ?_); first | apply g_partM rfl rfl rfl | apply g_partMB rfl rfl rfl | fail))
          | refine gS ?_ | exact s_m | intro _)
        exact gM () trivial
    have hin := numN_in (decide (L.getD i 0 = 45)) u
    generalize numN (decide (L.getD i 0 = 45)) u = m at hin ⊢
    have hdd := decimal m hin
    repeat (first
      | (refine g_ops ?_; first | refine sO ?_ | refine s_n (fun _ => ?_) | refine s_app (fun _ _ => ?_) | refine s_b0 (fun _ => ?_) | ((fail_if_success refine g_lit rfl rfl rfl ?_); first | apply g_partM rfl rfl rfl | apply g_partMB rfl rfl rfl | fail))
      | refine gS ?_ | exact s_m | intro _)
    refine g_cutX (X := Unit) (fun _ => [(0, ptr b), (5, int m), (74, .bool (!decide (decI m = (L.drop i).take (s + j))))]) (fun _ => [.row b [.string (txt L), int ((i + s + j : Nat) : Int), .bool false, int n] 78]) (fun _ => True) ?_ (fun _ _ => ?_)
    · refine g_draw (.take 0 (.see 1 [] (.take 2 (.take 3 (.take 4 (.see 5 [] (.take 6 (.take 7 (.take 8 (.take 9 (.see 10 [] (.take 11 (.take 12 .done))))))))))))) (by kernel_rfl) (C := [.row b [.string (txt L), int ((i + s + j : Nat) : Int), .bool false, int n] 78]) (by (repeat (first | exact Take.nil | apply Take.cons | exact Sel.here | apply Sel.there)); first | done | fail) (fun m' hd hk => ?_)
      repeat (first
        | (refine gp_take ?_; first | refine pT ?_ | ((fail_if_success refine gp_lit rfl rfl rfl rfl ?_); first | apply gp_guard_dec rfl rfl rfl rfl | apply gp_guard rfl rfl rfl rfl | fail))
        | (refine gp_see ?_; first | refine p_f ?_ | refine pS ?_ | ((fail_if_success refine gp_lit rfl rfl rfl rfl ?_); first | apply gp_guard_dec rfl rfl rfl rfl | apply gp_guard rfl rfl rfl rfl | fail) | refine p_h (does1_more hdd) hd hk ?_)
        | (refine gp_one ?_; first | refine pO ?_ | refine p_n (fun _ => ?_) | refine p_app (fun _ _ => ?_) | refine p_b0 (fun _ => ?_) | ((fail_if_success refine gp_lit rfl rfl rfl rfl ?_); first | apply gp_guard_dec rfl rfl rfl rfl | apply gp_guard rfl rfl rfl rfl | fail) | refine p_k (does1_more hdd) ?_)
        | refine gp_two ?_ ?_ | refine gp_done hd hk ?_ | intro _ | refine p_ta hd hk (fun _ _ _ hd hk => ?_) | refine p_ts hd hk (fun _ hd hk => ?_))
      refine p_q (q := by intro Δ; exact qs_sliceStr (l := i) (h := i + s + j) inferInstance rfl (.some rfl rfl) (.some rfl rfl) (by omega) (by rw [hz]; omega)) ?_
      refine gp_as 73 (v' := .string (txt ((L.drop i).take (s + j)))) rfl (by rw [ext_txt, show i + s + j - i = s + j by omega]) ?_
      repeat (first
        | (refine gp_take ?_; first | refine pT ?_ | ((fail_if_success refine gp_lit rfl rfl rfl rfl ?_); first | apply gp_guard_dec rfl rfl rfl rfl | apply gp_guard rfl rfl rfl rfl | fail))
        | (refine gp_see ?_; first | refine p_f ?_ | refine pS ?_ | ((fail_if_success refine gp_lit rfl rfl rfl rfl ?_); first | apply gp_guard_dec rfl rfl rfl rfl | apply gp_guard rfl rfl rfl rfl | fail))
        | (refine gp_one ?_; first | refine pO ?_ | refine p_n (fun _ => ?_) | refine p_app (fun _ _ => ?_) | refine p_b0 (fun _ => ?_) | ((fail_if_success refine gp_lit rfl rfl rfl rfl ?_); first | apply gp_guard_dec rfl rfl rfl rfl | apply gp_guard rfl rfl rfl rfl | fail))
        | refine gp_two ?_ ?_ | refine gp_done hd hk ?_ | intro _ | refine p_ta hd hk (fun _ _ _ hd hk => ?_) | refine p_ts hd hk (fun _ hd hk => ?_))
      refine g_as 74 (v' := .bool (!decide (decI m = (L.drop i).take (s + j)))) rfl (congrArg Value.bool (by
        rw [Bool.eq_iff_iff]
        simp only [decide_eq_true_eq, Bool.not_eq_true', decide_eq_false_iff_not]
        exact ⟨fun h h2 => h (by rw [h2]), fun h h2 => h (txt_inj h2)⟩)) ?_
      exact gM () trivial
    cases decide (decI m = (L.drop i).take (s + j))
    · repeat (first
        | (refine g_ops ?_; first | refine sO ?_ | refine s_n (fun _ => ?_) | refine s_app (fun _ _ => ?_) | refine s_b0 (fun _ => ?_) | ((fail_if_success refine g_lit rfl rfl rfl ?_); first | apply g_partM rfl rfl rfl | apply g_partMB rfl rfl rfl | fail))
        | refine gS ?_ | exact s_m | intro _)
      exact gR () trivial
    · repeat (first
        | (refine g_ops ?_; first | refine sO ?_ | refine s_n (fun _ => ?_) | refine s_app (fun _ _ => ?_) | refine s_b0 (fun _ => ?_) | ((fail_if_success refine g_lit rfl rfl rfl ?_); first | apply g_partM rfl rfl rfl | apply g_partMB rfl rfl rfl | fail))
        | refine gS ?_ | exact s_m | intro _)
      exact gR () trivial
end Go.Proofs.YtpilcncdgjnbeaaDoor
