/- Contracts and laws that the proof stands on. -/
import Derived.Test.YtaahibcibgljbaaGreatDoorCallParses27
set_option linter.unusedSimpArgs false
set_option linter.unusedVariables false
namespace Go.Proofs.YtaahibcibgljbaaGreatDoor
open Go.Sl facts
def dgF : List UInt8 → Nat → Nat → Nat × Nat
  | [], _, u => (0, u)
  | _ :: _, 0, u => (0, u)
  | c :: l, f + 1, u => if 48 ≤ c.toNat ∧ c.toNat ≤ 57 then ((dgF l f ((u * 10 + (c.toNat - 48)) % 18446744073709551616)).1 + 1, (dgF l f ((u * 10 + (c.toNat - 48)) % 18446744073709551616)).2) else (0, u)
theorem dgF_le : ∀ (l : List UInt8) (f u : Nat), (dgF l f u).1 ≤ l.length ∧ (dgF l f u).1 ≤ f ∧ (u < 18446744073709551616 → (dgF l f u).2 < 18446744073709551616)
  | [], f, u => by simp [dgF]
  | _ :: _, 0, u => by simp [dgF]
  | c :: l, f + 1, u => by
    have := dgF_le l f ((u * 10 + (c.toNat - 48)) % 18446744073709551616)
    rw [dgF, List.length_cons]
    split
    · exact ⟨by dsimp only; omega, by dsimp only; omega, fun _ => this.2.2 (Nat.mod_lt _ (by decide))⟩
    · exact ⟨Nat.zero_le _, Nat.zero_le _, fun h => h⟩
theorem dgF_step (l : List UInt8) (f u : Nat) (h : 0 < l.length) (hf : 0 < f) : dgF l f u = if 48 ≤ (l.getD 0 0).toNat ∧ (l.getD 0 0).toNat ≤ 57 then ((dgF (l.drop 1) (f - 1) ((u * 10 + ((l.getD 0 0).toNat - 48)) % 18446744073709551616)).1 + 1, (dgF (l.drop 1) (f - 1) ((u * 10 + ((l.getD 0 0).toNat - 48)) % 18446744073709551616)).2) else (0, u) := by
  cases l with
  | nil => simp at h
  | cons c l =>
    obtain ⟨f, rfl⟩ : ∃ f', f = f' + 1 := ⟨f - 1, by omega⟩
    rw [dgF]; rfl
theorem dgF_zero (l : List UInt8) (u : Nat) : dgF l 0 u = (0, u) := by cases l <;> rfl
def sgn (L : List UInt8) (i : Nat) : Nat := if L.getD i 0 = 45 then 1 else 0
def numN (neg : Bool) (u : Nat) : Int := if neg = true then IntKind.i64.wrap (0 - IntKind.i64.wrap u) else IntKind.i64.wrap u
def numberT (L : List UInt8) (σ : RS) : Int × RS :=
  (numN (decide (L.getD σ.at_ 0 = 45)) (dgF (L.drop (σ.at_ + sgn L σ.at_)) (21 - sgn L σ.at_) 0).2,
   ⟨σ.at_ + sgn L σ.at_ + (dgF (L.drop (σ.at_ + sgn L σ.at_)) (21 - sgn L σ.at_) 0).1, σ.n, !decide (decI (numN (decide (L.getD σ.at_ 0 = 45)) (dgF (L.drop (σ.at_ + sgn L σ.at_)) (21 - sgn L σ.at_) 0).2) = (L.drop σ.at_).take (sgn L σ.at_ + (dgF (L.drop (σ.at_ + sgn L σ.at_)) (21 - sgn L σ.at_) 0).1))⟩)
theorem i64w (z : Int) : IntKind.i64.wrap z = (z + 9223372036854775808) % 18446744073709551616 - 9223372036854775808 := by rw [IntKind.wrap_i64]
theorem numN_in (neg : Bool) (u : Nat) : inI (numN neg u) := by
  unfold numN inI
  split
  · rw [i64w]; omega
  · rw [i64w]; omega
attribute [local irreducible] Code.wp wpList Exit.then Exit.inBlock bodyPost Back MidQ G GP QStep VStep CStep SStep Does Post Reads
structure DnX where
  j : Nat
  u : Nat
set_option maxHeartbeats 4000000 in
theorem numberD_ (b : Nat) (L : List UInt8) (hL : L.length ≤ 100000000) (i n : Nat) (hi : i < L.length) : Does Tryz.prog 37 [ptr b] [rdD b L ⟨i, n, false⟩] (X := Unit) (fun _ => int (numberT L ⟨i, n, false⟩).1) (fun _ => [rdD b L (numberT L ⟨i, n, false⟩).2]) (fun _ => True) := by
  have hz : (txt L).size = L.length := txt_size L
  have hnx0 := next_ b L (by omega) ⟨i, n, false⟩ (by dsimp only; omega)
  have hnv0 : nx L ⟨i, n, false⟩ = L.getD i 0 := if_pos ⟨rfl, hi⟩
  rw [hnv0] at hnx0
  have hnt : numberT L ⟨i, n, false⟩ = (numN (decide (L.getD i 0 = 45)) (dgF (L.drop (i + sgn L i)) (21 - sgn L i) 0).2, ⟨i + sgn L i + (dgF (L.drop (i + sgn L i)) (21 - sgn L i) 0).1, n, !decide (decI (numN (decide (L.getD i 0 = 45)) (dgF (L.drop (i + sgn L i)) (21 - sgn L i) 0).2) = (L.drop i).take (sgn L i + (dgF (L.drop (i + sgn L i)) (21 - sgn L i) 0).1))⟩) := rfl
  rw [hnt]
  clear hnt
  dsimp only [rdD] at hnx0 ⊢
  have hsg : sgn L i = if L.getD i 0 = 45 then 1 else 0 := rfl
  have hdl := dgF_le (L.drop (i + sgn L i)) (21 - sgn L i) 0
  rw [List.length_drop] at hdl
  generalize hs : sgn L i = s at hsg hdl ⊢
  have hs1 : s ≤ 1 ∧ i + s ≤ L.length := by rw [hsg]; split <;> omega
  refine fn_intro Tryz.func37 rfl Tryz.ntmps37 rfl (by simp only [argFr, Nat.zero_add, Nat.reduceAdd]; rfl) (fun Γ => ?_)
  repeat (first
    | (refine g_ops ?_; first | refine sO ?_ | refine s_n (fun _ => ?_) | refine s_app (fun _ _ => ?_) | refine s_b0 (fun _ => ?_) | ((fail_if_success refine g_lit rfl rfl rfl ?_); first | apply g_partM rfl rfl rfl | apply g_partMB rfl rfl rfl | fail) | refine s_k (hnx0) ?_)
    | refine gS ?_ | exact s_m | intro _)
  refine g_cutX (X := Unit) (fun _ => [(0, ptr b), (3, int i)]) (fun _ => [.row b [.string (txt L), int ((i + s : Nat) : Int), .bool false, int n] 65]) (fun _ => True) ?_ (fun _ _ => ?_)
  · by_cases k1 : L.getD i 0 = 45
    · rw [if_pos k1] at hsg
      subst hsg
      refine g_as 12 (v' := .bool true) rfl (congrArg Value.bool (by rw [k1]; rfl)) ?_
      repeat (first
        | (refine g_ops ?_; first | refine sO ?_ | refine s_n (fun _ => ?_) | refine s_app (fun _ _ => ?_) | refine s_b0 (fun _ => ?_) | ((fail_if_success refine g_lit rfl rfl rfl ?_); first | apply g_partM rfl rfl rfl | apply g_partMB rfl rfl rfl | fail))
        | refine gS ?_ | exact s_m | intro _)
      rw [show (i : Int) + 1 = ((i + 1 : Nat) : Int) by push_cast; rfl]
      exact gM () trivial
    · rw [if_neg k1] at hsg
      subst hsg
      refine g_as 12 (v' := .bool false) rfl (congrArg Value.bool (decide_eq_false (fun e => k1 (UInt8.toNat_inj.1 (by have : (45 : UInt8).toNat = 45 := rfl; omega))))) ?_
      repeat (first
        | (refine g_ops ?_; first | refine sO ?_ | refine s_n (fun _ => ?_) | refine s_app (fun _ _ => ?_) | refine s_b0 (fun _ => ?_) | ((fail_if_success refine g_lit rfl rfl rfl ?_); first | apply g_partM rfl rfl rfl | apply g_partMB rfl rfl rfl | fail))
        | refine gS ?_ | exact s_m | intro _)
      exact gM () trivial
  clear hnx0
  repeat (first
    | (refine g_ops ?_; first | refine sO ?_ | refine s_n (fun _ => ?_) | refine s_app (fun _ _ => ?_) | refine s_b0 (fun _ => ?_) | ((fail_if_success refine g_lit rfl rfl rfl ?_); first | apply g_partM rfl rfl rfl | apply g_partMB rfl rfl rfl | fail))
    | refine gS ?_ | exact s_m | intro _)
  refine g_loop (X := DnX) (fun x => [(0, ptr b), (3, int i), (4, .int .u64 x.u)]) (fun x => [.row b [.string (txt L), int ((i + s + x.j : Nat) : Int), .bool false, int n] 65])
    (fun x => x.j ≤ 21 - s ∧ i + s + x.j ≤ L.length ∧ x.u < 18446744073709551616 ∧ dgF (L.drop (i + s)) (21 - s) 0 = (x.j + (dgF (L.drop (i + s + x.j)) (21 - s - x.j) x.u).1, (dgF (L.drop (i + s + x.j)) (21 - s - x.j) x.u).2)) (fun x => 21 - x.j) ⟨0, 0⟩ ⟨Nat.zero_le _, by dsimp only; omega, by decide, by simp⟩ (by (repeat (first | exact FrSub.nil | refine FrSub.cons rfl ?_)); first | done | fail) (by (repeat (first | exact Take.nil | apply Take.cons | exact Sel.here | apply Sel.there)); first | done | fail) (fun x hx => ?_)
  obtain ⟨j, u⟩ := x
  obtain ⟨hj, hij, hu, he⟩ := hx
  dsimp only at hj hij hu he ⊢
  have hnx := next_ b L (by omega) ⟨i + s + j, n, false⟩ (by dsimp only; omega)
  have hnv : nx L ⟨i + s + j, n, false⟩ = if i + s + j < L.length then L.getD (i + s + j) 0 else 0 := by
    unfold nx
    by_cases h : i + s + j < L.length
    · rw [if_pos ⟨rfl, h⟩, if_pos h]
    · rw [if_neg (fun hh => h hh.2), if_neg h]
  dsimp only [rdD] at hnx
  rw [hnv] at hnx
  generalize hc : (if i + s + j < L.length then L.getD (i + s + j) 0 else 0) = c at hnx
  have h8 := c.toNat_lt
  repeat (first | refine g_then_normal ?_ | refine g_seq ?_)
  refine g_cutX (X := Unit) (fun _ => [(0, ptr b), (3, int i), (4, .int .u64 u), (36, .bool (decide ((48 ≤ c.toNat ∧ c.toNat ≤ 57) ∧ s + j < 21)))]) (fun _ => [.row b [.string (txt L), int ((i + s + j : Nat) : Int), .bool false, int n] 65]) (fun _ => True) ?_ (fun _ _ => ?_)
  · have eN : ¬ ((48 ≤ c.toNat ∧ c.toNat ≤ 57) ∧ s + j < 21) → decide ((48 ≤ c.toNat ∧ c.toNat ≤ 57) ∧ s + j < 21) = false := decide_eq_false
    repeat ((fail_if_success refine s_at 23 ?_); first
      | (refine g_ops ?_; first | refine sO ?_ | refine s_n (fun _ => ?_) | refine s_app (fun _ _ => ?_) | refine s_b0 (fun _ => ?_) | ((fail_if_success refine g_lit rfl rfl rfl ?_); first | apply g_partM rfl rfl rfl | apply g_partMB rfl rfl rfl | fail) | refine s_k (hnx) ?_)
      | refine gS ?_ | exact s_m | intro _)
    first
      | (refine g_ops ?_; first | refine sO ?_ | refine s_n (fun _ => ?_) | refine s_app (fun _ _ => ?_) | refine s_b0 (fun _ => ?_) | ((fail_if_success refine g_lit rfl rfl rfl ?_); first | apply g_partM rfl rfl rfl | apply g_partMB rfl rfl rfl | fail))
      | refine gS ?_ | exact s_m | intro _
    by_cases k1 : 48 ≤ c.toNat
    case neg =>
      refine g_as 23 (v' := .bool false) rfl (congrArg Value.bool (decide_eq_false (by omega))) ?_
      rw [eN (fun h => k1 h.1.1)]
      repeat (first
        | (refine g_ops ?_; first | refine sO ?_ | refine s_n (fun _ => ?_) | refine s_app (fun _ _ => ?_) | refine s_b0 (fun _ => ?_) | ((fail_if_success refine g_lit rfl rfl rfl ?_); first | apply g_partM rfl rfl rfl | apply g_partMB rfl rfl rfl | fail))
        | refine gS ?_ | exact s_m | intro _)
      exact gM () trivial
    refine g_as 23 (v' := .bool true) rfl (congrArg Value.bool (decide_eq_true (by omega))) ?_
    repeat ((fail_if_success refine s_at 28 ?_); first
      | (refine g_ops ?_; first | refine sO ?_ | refine s_n (fun _ => ?_) | refine s_app (fun _ _ => ?_) | refine s_b0 (fun _ => ?_) | ((fail_if_success refine g_lit rfl rfl rfl ?_); first | apply g_partM rfl rfl rfl | apply g_partMB rfl rfl rfl | fail) | refine s_k (hnx) ?_)
      | refine gS ?_ | exact s_m | intro _)
    first
      | (refine g_ops ?_; first | refine sO ?_ | refine s_n (fun _ => ?_) | refine s_app (fun _ _ => ?_) | refine s_b0 (fun _ => ?_) | ((fail_if_success refine g_lit rfl rfl rfl ?_); first | apply g_partM rfl rfl rfl | apply g_partMB rfl rfl rfl | fail))
      | refine gS ?_ | exact s_m | intro _
    by_cases k2 : c.toNat ≤ 57
    case neg =>
      refine g_as 28 (v' := .bool false) rfl (congrArg Value.bool (decide_eq_false (by omega))) ?_
      rw [eN (fun h => k2 h.1.2)]
      repeat (first
        | (refine g_ops ?_; first | refine sO ?_ | refine s_n (fun _ => ?_) | refine s_app (fun _ _ => ?_) | refine s_b0 (fun _ => ?_) | ((fail_if_success refine g_lit rfl rfl rfl ?_); first | apply g_partM rfl rfl rfl | apply g_partMB rfl rfl rfl | fail))
        | refine gS ?_ | exact s_m | intro _)
      exact gM () trivial
    refine g_as 28 (v' := .bool true) rfl (congrArg Value.bool (decide_eq_true (by omega))) ?_
    repeat (first
      | (refine g_ops ?_; first | refine sO ?_ | refine s_n (fun _ => ?_) | refine s_app (fun _ _ => ?_) | refine s_b0 (fun _ => ?_) | ((fail_if_success refine g_lit rfl rfl rfl ?_); first | apply g_partM rfl rfl rfl | apply g_partMB rfl rfl rfl | fail))
      | refine gS ?_ | exact s_m | intro _)
    refine g_as 36 (v' := .bool (decide ((48 ≤ c.toNat ∧ c.toNat ≤ 57) ∧ s + j < 21))) rfl (congrArg Value.bool (decide_eq_decide.2 ⟨fun h => ⟨⟨k1, k2⟩, by push_cast at h; omega⟩, fun h => by push_cast; omega⟩)) ?_
    exact gM () trivial
  by_cases hB : (48 ≤ c.toNat ∧ c.toNat ≤ 57) ∧ s + j < 21
  · rw [decide_eq_true hB]
    have hin : i + s + j < L.length := by
      by_cases h : i + s + j < L.length
      · exact h
      · rw [if_neg h] at hc; subst hc; exact absurd hB.1.1 (by decide)
    rw [if_pos hin] at hc
    have hsub := u8_sub c 48 hB.1.1
    simp only [show (48 : UInt8).toNat = 48 from rfl] at hsub
    repeat (first
      | (refine g_ops ?_; first | refine sO ?_ | refine s_n (fun _ => ?_) | refine s_app (fun _ _ => ?_) | refine s_b0 (fun _ => ?_) | ((fail_if_success refine g_lit rfl rfl rfl ?_); first | apply g_partM rfl rfl rfl | apply g_partMB rfl rfl rfl | fail))
      | refine gS ?_ | exact s_m | intro _)
    refine s_q (q := by exact qs_mul rfl rfl) ?_
    repeat (first
      | (refine g_ops ?_; first | refine sO ?_ | refine s_n (fun _ => ?_) | refine s_app (fun _ _ => ?_) | refine s_b0 (fun _ => ?_) | ((fail_if_success refine g_lit rfl rfl rfl ?_); first | apply g_partM rfl rfl rfl | apply g_partMB rfl rfl rfl | fail) | refine s_k (hnx) ?_)
      | refine gS ?_ | exact s_m | intro _)
    refine s_q (q := by exact qs_sub rfl rfl) ?_
    refine g_as 41 (v' := .int .u8 ((c.toNat : Int) - 48)) rfl (congrArg (Value.int .u8) (by rw [wrap_u8 ⟨by omega, by omega⟩])) ?_
    refine s_q (q := by exact qs_convInt rfl) ?_
    refine g_as 42 (v' := .int .u64 ((c.toNat : Int) - 48)) rfl (congrArg (Value.int .u64) (by rw [wrap_u64 ⟨by omega, by omega⟩])) ?_
    refine s_q (q := by exact qs_add rfl rfl) ?_
    refine g_as 43 (v' := .int .u64 (((u * 10 + (c.toNat - 48)) % 18446744073709551616 : Nat) : Int)) rfl (congrArg (Value.int .u64) (by
      show ((u : Int) * 10 % 18446744073709551616 + ((c.toNat : Int) - 48)) % 18446744073709551616 = _
      omega)) ?_
    repeat (first
      | (refine g_ops ?_; first | refine sO ?_ | refine s_n (fun _ => ?_) | refine s_app (fun _ _ => ?_) | refine s_b0 (fun _ => ?_) | ((fail_if_success refine g_lit rfl rfl rfl ?_); first | apply g_partM rfl rfl rfl | apply g_partMB rfl rfl rfl | fail))
      | refine gS ?_ | exact s_m | intro _)
    rw [show ((i + s + j : Nat) : Int) + 1 = ((i + s + (j + 1) : Nat) : Int) by push_cast; omega]
    refine gA ⟨j + 1, (u * 10 + (c.toNat - 48)) % 18446744073709551616⟩ (by simp only; omega) ⟨by dsimp only; omega, by dsimp only; omega, Nat.mod_lt _ (by decide), ?_⟩
    dsimp only
    have hst := dgF_step (L.drop (i + s + j)) (21 - s - j) u (by rw [List.length_drop]; omega) (by omega)
    rw [drop_end L _ hin, hc, if_pos hB.1, List.drop_drop] at hst
    rw [he, hst, show 21 - s - (j + 1) = 21 - s - j - 1 by omega, show i + s + (j + 1) = i + s + j + 1 by omega]
    dsimp only
    rw [show j + 1 + (dgF (L.drop (i + s + j + 1)) (21 - s - j - 1) ((u * 10 + (c.toNat - 48)) % 18446744073709551616)).1 = j + ((dgF (L.drop (i + s + j + 1)) (21 - s - j - 1) ((u * 10 + (c.toNat - 48)) % 18446744073709551616)).1 + 1) by omega]
  · rw [decide_eq_false hB]
    have e0 : dgF (L.drop (i + s)) (21 - s) 0 = (j, u) := by
      rw [he]
      by_cases h1 : i + s + j < L.length
      · by_cases h2 : s + j < 21
        · rw [if_pos h1] at hc
          rw [dgF_step _ _ _ (by rw [List.length_drop]; omega) (by omega), drop_end L _ h1, hc, if_neg (fun h => hB ⟨h, h2⟩)]; rfl
        · rw [show 21 - s - j = 0 by omega, dgF_zero]; rfl
      · rw [List.drop_eq_nil_of_le (by omega), dgF]; rfl
    rw [e0]
    dsimp only
    clear he hB hnx hnv e0 hdl
    repeat (first
      | (refine g_ops ?_; first | refine sO ?_ | refine s_n (fun _ => ?_) | refine s_app (fun _ _ => ?_) | refine s_b0 (fun _ => ?_) | ((fail_if_success refine g_lit rfl rfl rfl ?_); first | apply g_partM rfl rfl rfl | apply g_partMB rfl rfl rfl | fail))
      | refine gS ?_ | exact s_m | intro _)
    refine s_q (q := by exact qs_convInt rfl) ?_
    refine g_as 52 (v' := int (IntKind.i64.wrap u)) rfl rfl ?_
    repeat (first
      | (refine g_ops ?_; first | refine sO ?_ | refine s_n (fun _ => ?_) | refine s_app (fun _ _ => ?_) | refine s_b0 (fun _ => ?_) | ((fail_if_success refine g_lit rfl rfl rfl ?_); first | apply g_partM rfl rfl rfl | apply g_partMB rfl rfl rfl | fail))
      | refine gS ?_ | exact s_m | intro _)
    refine s_q (q := by exact qs_indexStr (i := i) inferInstance rfl rfl (by rw [hz]; omega)) ?_
    refine g_as 58 (v' := u8v (L.getD i 0)) rfl (by rw [at8_txt]) ?_
    repeat (first
      | (refine g_ops ?_; first | refine sO ?_ | refine s_n (fun _ => ?_) | refine s_app (fun _ _ => ?_) | refine s_b0 (fun _ => ?_) | ((fail_if_success refine g_lit rfl rfl rfl ?_); first | apply g_partM rfl rfl rfl | apply g_partMB rfl rfl rfl | fail))
      | refine gS ?_ | exact s_m | intro _)
    refine g_cutX (X := Unit) (fun _ => [(0, ptr b), (3, int i), (5, int (numN (decide (L.getD i 0 = 45)) u))]) (fun _ => [.row b [.string (txt L), int ((i + s + j : Nat) : Int), .bool false, int n] 65]) (fun _ => True) ?_ (fun _ _ => ?_)
    · by_cases k1 : L.getD i 0 = 45
      · rw [decide_eq_true k1]
        refine g_as 59 (v' := .bool true) rfl (congrArg Value.bool (by rw [k1]; rfl)) ?_
        repeat (first
          | (refine g_ops ?_; first | refine sO ?_ | refine s_n (fun _ => ?_) | refine s_app (fun _ _ => ?_) | refine s_b0 (fun _ => ?_) | ((fail_if_success refine g_lit rfl rfl rfl ?_); first | apply g_partM rfl rfl rfl | apply g_partMB rfl rfl rfl | fail))
          | refine gS ?_ | exact s_m | intro _)
        refine s_q (q := by exact qs_neg rfl) ?_
        repeat (first
          | (refine g_ops ?_; first | refine sO ?_ | refine s_n (fun _ => ?_) | refine s_app (fun _ _ => ?_) | refine s_b0 (fun _ => ?_) | ((fail_if_success refine g_lit rfl rfl rfl ?_); first | apply g_partM rfl rfl rfl | apply g_partMB rfl rfl rfl | fail))
          | refine gS ?_ | exact s_m | intro _)
        exact gM () trivial
      · rw [decide_eq_false k1]
        refine g_as 59 (v' := .bool false) rfl (congrArg Value.bool (decide_eq_false (fun e => k1 (UInt8.toNat_inj.1 (by have : (45 : UInt8).toNat = 45 := rfl; omega))))) ?_
        repeat (first
          | (refine g_ops ?_; first | refine sO ?_ | refine s_n (fun _ => ?_) | refine s_app (fun _ _ => ?_) | refine s_b0 (fun _ => ?_) | ((fail_if_success refine g_lit rfl rfl rfl ?_); first | apply g_partM rfl rfl rfl | apply g_partMB rfl rfl rfl | fail))
          | refine gS ?_ | exact s_m | intro _)
        exact gM () trivial
    have hin := numN_in (decide (L.getD i 0 = 45)) u
    generalize numN (decide (L.getD i 0 = 45)) u = m at hin ⊢
    have hdd := decimal m hin
    repeat (first
      | (refine g_ops ?_; first | refine sO ?_ | refine s_n (fun _ => ?_) | refine s_app (fun _ _ => ?_) | refine s_b0 (fun _ => ?_) | ((fail_if_success refine g_lit rfl rfl rfl ?_); first | apply g_partM rfl rfl rfl | apply g_partMB rfl rfl rfl | fail))
      | refine gS ?_ | exact s_m | intro _)
    refine g_cutX (X := Unit) (fun _ => [(0, ptr b), (5, int m), (74, .bool (!decide (decI m = (L.drop i).take (s + j))))]) (fun _ => [.row b [.string (txt L), int ((i + s + j : Nat) : Int), .bool false, int n] 65]) (fun _ => True) ?_ (fun _ _ => ?_)
    · refine g_draw (.take 0 (.see 1 [] (.take 2 (.take 3 (.take 4 (.see 5 [] (.take 6 (.take 7 (.take 8 (.take 9 (.see 10 [] (.take 11 (.take 12 .done))))))))))))) (by kernel_rfl) (C := [.row b [.string (txt L), int ((i + s + j : Nat) : Int), .bool false, int n] 65]) (by (repeat (first | exact Take.nil | apply Take.cons | exact Sel.here | apply Sel.there)); first | done | fail) (fun m' hd hk => ?_)
      repeat (first
        | (refine gp_take ?_; first | refine pT ?_ | ((fail_if_success refine gp_lit rfl rfl rfl rfl ?_); first | apply gp_guard_dec rfl rfl rfl rfl | apply gp_guard rfl rfl rfl rfl | fail))
        | (refine gp_see ?_; first | refine p_f ?_ | refine pS ?_ | ((fail_if_success refine gp_lit rfl rfl rfl rfl ?_); first | apply gp_guard_dec rfl rfl rfl rfl | apply gp_guard rfl rfl rfl rfl | fail) | refine p_h (does1_more hdd) hd hk ?_)
        | (refine gp_one ?_; first | refine pO ?_ | refine p_n (fun _ => ?_) | refine p_app (fun _ _ => ?_) | refine p_b0 (fun _ => ?_) | ((fail_if_success refine gp_lit rfl rfl rfl rfl ?_); first | apply gp_guard_dec rfl rfl rfl rfl | apply gp_guard rfl rfl rfl rfl | fail) | refine p_k (does1_more hdd) ?_)
        | refine gp_two ?_ ?_ | refine gp_done hd hk ?_ | intro _ | refine p_ta hd hk (fun _ _ _ hd hk => ?_) | refine p_ts hd hk (fun _ hd hk => ?_))
      refine p_q (q := by intro Δ; exact qs_sliceStr (l := i) (h := i + s + j) inferInstance rfl (.some rfl rfl) (.some rfl rfl) (by omega) (by rw [hz]; omega)) ?_
      refine gp_as 73 (v' := .string (txt ((L.drop i).take (s + j)))) rfl (by rw [ext_txt, show i + s + j - i = s + j by omega]) ?_
      repeat (first
        | (refine gp_take ?_; first | refine pT ?_ | ((fail_if_success refine gp_lit rfl rfl rfl rfl ?_); first | apply gp_guard_dec rfl rfl rfl rfl | apply gp_guard rfl rfl rfl rfl | fail))
        | (refine gp_see ?_; first | refine p_f ?_ | refine pS ?_ | ((fail_if_success refine gp_lit rfl rfl rfl rfl ?_); first | apply gp_guard_dec rfl rfl rfl rfl | apply gp_guard rfl rfl rfl rfl | fail))
        | (refine gp_one ?_; first | refine pO ?_ | refine p_n (fun _ => ?_) | refine p_app (fun _ _ => ?_) | refine p_b0 (fun _ => ?_) | ((fail_if_success refine gp_lit rfl rfl rfl rfl ?_); first | apply gp_guard_dec rfl rfl rfl rfl | apply gp_guard rfl rfl rfl rfl | fail))
        | refine gp_two ?_ ?_ | refine gp_done hd hk ?_ | intro _ | refine p_ta hd hk (fun _ _ _ hd hk => ?_) | refine p_ts hd hk (fun _ hd hk => ?_))
      refine g_as 74 (v' := .bool (!decide (decI m = (L.drop i).take (s + j)))) rfl (congrArg Value.bool (by
        rw [Bool.eq_iff_iff]
        simp only [decide_eq_true_eq, Bool.not_eq_true', decide_eq_false_iff_not]
        exact ⟨fun h h2 => h (by rw [h2]), fun h h2 => h (txt_inj h2)⟩)) ?_
      exact gM () trivial
    cases decide (decI m = (L.drop i).take (s + j))
    · repeat (first
        | (refine g_ops ?_; first | refine sO ?_ | refine s_n (fun _ => ?_) | refine s_app (fun _ _ => ?_) | refine s_b0 (fun _ => ?_) | ((fail_if_success refine g_lit rfl rfl rfl ?_); first | apply g_partM rfl rfl rfl | apply g_partMB rfl rfl rfl | fail))
        | refine gS ?_ | exact s_m | intro _)
      exact gR () trivial
    · repeat (first
        | (refine g_ops ?_; first | refine sO ?_ | refine s_n (fun _ => ?_) | refine s_app (fun _ _ => ?_) | refine s_b0 (fun _ => ?_) | ((fail_if_success refine g_lit rfl rfl rfl ?_); first | apply g_partM rfl rfl rfl | apply g_partMB rfl rfl rfl | fail))
        | refine gS ?_ | exact s_m | intro _)
      exact gR () trivial
end Go.Proofs.YtaahibcibgljbaaGreatDoor

namespace Go.Proofs.YtaahibcibgljbaaGreatDoor
open Go.Sl
def noV' : V := .mk 0 false 0 ByteArray.empty [] []
def up (σ : RS) : RS := ⟨σ.at_, σ.n + 1, σ.bad⟩
def shutC (P : Bool) : UInt8 := if P = true then 125 else 93
def comma (L : List UInt8) (m : Nat) (σ : RS) : RS := if 0 < m then tk L 44 σ else σ
def keyD (L : List UInt8) (P : Bool) (σ : RS) : RS := if P = true then tk L 58 (quotedT L σ).2 else σ
mutual
def valD (L : List UInt8) : Nat → Nat → RS → V × RS
  | 0, _, σ => (noV', ⟨σ.at_, σ.n + 1, true⟩)
  | F + 1, lv, σ =>
    if 1000 < σ.n + 1 ∨ 20 < lv then (noV', ⟨σ.at_, σ.n + 1, true⟩)
    else if wordT L wNil (up σ) = true then (nilV, adv (up σ) 3) else if wordT L wTrue (up σ) = true then (boolV true, adv (up σ) 4) else if wordT L wFalse (up σ) = true then (boolV false, adv (up σ) 5)
    else if nx L (up σ) = 34 then (textV (quotedT L (up σ)).1, (quotedT L (up σ)).2)
    else if numC (nx L (up σ)) = true then (intV (numberT L (up σ)).1, (numberT L (up σ)).2)
    else if nx L (up σ) ≠ 91 ∧ nx L (up σ) ≠ 123 then (noV', ⟨σ.at_, σ.n + 1, true⟩)
    else (.mk (if nx L (up σ) = 123 then 6 else 5) false 0 ByteArray.empty (lsD L F lv (decide (nx L (up σ) = 123)) [] [] (adv (up σ) 1)).1 (lsD L F lv (decide (nx L (up σ) = 123)) [] [] (adv (up σ) 1)).2.1,
      tk L (shutC (decide (nx L (up σ) = 123))) (lsD L F lv (decide (nx L (up σ) = 123)) [] [] (adv (up σ) 1)).2.2)
def lsD (L : List UInt8) : Nat → Nat → Bool → List ByteArray → List V → RS → List ByteArray × List V × RS
  | 0, _, _, ks, acc, σ => (ks, acc, ⟨σ.at_, σ.n, true⟩)
  | F + 1, lv, P, ks, acc, σ =>
    if σ.bad = true ∨ nx L σ = shutC P then (ks, acc, σ)
    else lsD L F lv P (if P = true then ks ++ [(quotedT L (comma L acc.length σ)).1] else ks) (acc ++ [(valD L F (lv + 1) (keyD L P (comma L acc.length σ))).1]) (valD L F (lv + 1) (keyD L P (comma L acc.length σ))).2
end
structure FineD (L : List UInt8) (σ σ' : RS) : Prop where
  at_ : σ'.at_ ≤ L.length + 1
  n : σ.n ≤ σ'.n
  m : σ'.n ≤ 1001
  ok : σ'.bad = false → σ'.n ≤ 1000 ∧ σ'.at_ ≤ L.length
theorem tkA (L : List UInt8) (c : UInt8) (σ : RS) (h : σ.at_ ≤ L.length + 1) : (tk L c σ).at_ ≤ L.length + 1 ∧ (tk L c σ).n = σ.n ∧ ((tk L c σ).bad = false → σ.bad = false ∧ (tk L c σ).at_ ≤ L.length) := by
  obtain ⟨h1, h2, h3⟩ := tk_at L c σ
  cases hb : (tk L c σ).bad with
  | true => rw [h3 hb]; exact ⟨h, rfl, fun h => by cases h⟩
  | false =>
    obtain ⟨_, e, e2, e3⟩ := h2 hb
    rw [e]
    exact ⟨by show σ.at_ + 1 ≤ _; omega, rfl, fun _ => ⟨e3, by show σ.at_ + 1 ≤ _; omega⟩⟩
theorem qtA (L : List UInt8) (σ : RS) (h : σ.at_ ≤ L.length + 1) : (qt L σ).at_ ≤ L.length + 1 ∧ (qt L σ).n = σ.n ∧ ((qt L σ).bad = false → σ.bad = false) := by
  obtain ⟨h1, h2, h3⟩ := tkA L 34 σ h
  unfold qt
  split
  · rename_i hb
    exact ⟨h1, h2, fun h => by rw [hb] at h; cases h⟩
  · rename_i hb
    have hb' : (tk L 34 σ).bad = false := by simpa using hb
    obtain ⟨h4, h5⟩ := h3 hb'
    exact ⟨(qd_at L (L.length + 1) _ h5 (by omega)).2.1, rfl, fun _ => h4⟩
theorem quotedA (L : List UInt8) (σ : RS) (h : σ.at_ ≤ L.length + 1) : (quotedT L σ).2.at_ ≤ L.length + 1 ∧ (quotedT L σ).2.n = σ.n ∧ ((quotedT L σ).2.bad = false → σ.bad = false ∧ (quotedT L σ).2.at_ ≤ L.length) ∧ (quotedT L σ).1.size ≤ L.length := by
  obtain ⟨q1, q2, q3⟩ := qtA L σ h
  obtain ⟨t1, t2, t3⟩ := tkA L 34 (qt L σ) q1
  unfold quotedT
  split
  · rename_i hb
    exact ⟨t1, t2.trans q2, fun h => (by rw [hb] at h; cases h), Nat.zero_le _⟩
  · rename_i hb
    have hb' : (tk L 34 (qt L σ)).bad = false := by simpa using hb
    obtain ⟨h4, h5⟩ := t3 hb'
    have hz := unqS_size ((L.drop σ.at_).take ((tk L 34 (qt L σ)).at_ - σ.at_))
    rw [List.length_take, List.length_drop] at hz
    exact ⟨t1, rfl, fun _ => ⟨q3 h4, h5⟩, by dsimp only; omega⟩
theorem numberA (L : List UInt8) (σ : RS) (h : σ.at_ < L.length) : (numberT L σ).2.at_ ≤ L.length ∧ (numberT L σ).2.n = σ.n ∧ inI (numberT L σ).1 := by
  have hs : sgn L σ.at_ ≤ 1 := by unfold sgn; split <;> omega
  have hd := (dgF_le (L.drop (σ.at_ + sgn L σ.at_)) (21 - sgn L σ.at_) 0).1
  rw [List.length_drop] at hd
  unfold numberT
  exact ⟨by dsimp only; omega, rfl, numN_in _ _⟩
theorem nxA {L : List UInt8} {σ : RS} (h : nx L σ ≠ 0) : σ.bad = false ∧ σ.at_ < L.length := by
  unfold nx at h
  split at h
  · rename_i h1; exact h1
  · exact absurd rfl h
theorem commaA (L : List UInt8) (m : Nat) (σ : RS) (h : σ.at_ ≤ L.length + 1) (hok : σ.bad = false → σ.at_ ≤ L.length) : (comma L m σ).at_ ≤ L.length + 1 ∧ (comma L m σ).n = σ.n ∧ ((comma L m σ).bad = false → σ.bad = false ∧ (comma L m σ).at_ ≤ L.length) := by
  unfold comma
  split
  · exact tkA L 44 σ h
  · exact ⟨h, rfl, fun hb => ⟨hb, hok hb⟩⟩
theorem keyA (L : List UInt8) (P : Bool) (σ : RS) (h : σ.at_ ≤ L.length + 1) (hok : σ.bad = false → σ.at_ ≤ L.length) : (keyD L P σ).at_ ≤ L.length + 1 ∧ (keyD L P σ).n = σ.n ∧ ((keyD L P σ).bad = false → σ.bad = false ∧ (keyD L P σ).at_ ≤ L.length) := by
  unfold keyD
  split
  · obtain ⟨q1, q2, q3, _⟩ := quotedA L σ h
    obtain ⟨t1, t2, t3⟩ := tkA L 58 _ q1
    exact ⟨t1, t2.trans q2, fun hb => ⟨(q3 (t3 hb).1).1, (t3 hb).2⟩⟩
  · exact ⟨h, rfl, fun hb => ⟨hb, hok hb⟩⟩
theorem fineD (L : List UInt8) : ∀ F,
    (∀ lv σ, σ.at_ ≤ L.length + 1 → (σ.bad = false → σ.at_ ≤ L.length) → σ.n ≤ 1000 → FineD L σ (valD L F lv σ).2 ∧ σ.n < (valD L F lv σ).2.n ∧ GoodT (valD L F lv σ).1 ∧ szV (valD L F lv σ).1 + L.length ≤ ((valD L F lv σ).2.n - σ.n) * Kz L) ∧
    (∀ lv P ks acc σ, σ.at_ ≤ L.length + 1 → σ.n ≤ 1001 → (σ.bad = false → σ.n ≤ 1000 ∧ σ.at_ ≤ L.length) → (∀ x ∈ acc, GoodT x) → (P = true → ks.length = acc.length) → (P = false → ks = []) → FineD L σ (lsD L F lv P ks acc σ).2.2 ∧ (∀ x ∈ (lsD L F lv P ks acc σ).2.1, GoodT x) ∧ (P = true → (lsD L F lv P ks acc σ).1.length = (lsD L F lv P ks acc σ).2.1.length) ∧ (P = false → (lsD L F lv P ks acc σ).1 = []) ∧
      szS (lsD L F lv P ks acc σ).1 + szK (lsD L F lv P ks acc σ).2.1 ≤ szS ks + szK acc + ((lsD L F lv P ks acc σ).2.2.n - σ.n) * Kz L)
  | 0 => ⟨fun lv σ h hok hn => by
      rw [valD]
      exact ⟨⟨h, by dsimp only; omega, by dsimp only; omega, fun h => by cases h⟩, by dsimp only; omega, flatG (by decide) in0, by
        dsimp only
        unfold noV'
        rw [szV_mk, szS_nil, szK_nil]
        have := one_le_mul (Kz L) σ.n (σ.n + 1) (by omega)
        show 1 + 0 + 0 + 0 + L.length ≤ _
        unfold Kz at this ⊢
        omega⟩,
    fun lv P ks acc σ h hn hok ha hl hk => by
      rw [lsD]
      exact ⟨⟨h, Nat.le_refl _, hn, fun h => by cases h⟩, ha, hl, hk, by dsimp only; omega⟩⟩
  | F + 1 => by
    obtain ⟨iv, il⟩ := fineD L F
    refine ⟨fun lv σ h hok hn => ?_, fun lv P ks acc σ h hn hok ha hl hk => ?_⟩
    · have h1 := one_le_mul (Kz L) σ.n (σ.n + 1) (by omega)
      have hflat : ∀ (v : V) (σ' : RS), szV v ≤ L.length + 1 → GoodT v → σ'.at_ ≤ L.length + 1 → σ'.n = σ.n + 1 → (σ'.bad = false → σ'.n ≤ 1000 ∧ σ'.at_ ≤ L.length) → FineD L σ σ' ∧ σ.n < σ'.n ∧ GoodT v ∧ szV v + L.length ≤ (σ'.n - σ.n) * Kz L := fun v σ' hz hg ha hn' ho =>
        ⟨⟨ha, by omega, by omega, ho⟩, by omega, hg, by rw [hn']; unfold Kz at h1 ⊢; omega⟩
      have z0 : szV noV' ≤ L.length + 1 := by unfold noV'; rw [szV_mk, szS_nil, szK_nil]; show 1 + 0 + 0 + 0 ≤ _; omega
      have z1 : szV nilV ≤ L.length + 1 := by unfold nilV; rw [szV_mk, szS_nil, szK_nil]; show 1 + 0 + 0 + 0 ≤ _; omega
      have z2 : ∀ b, szV (boolV b) ≤ L.length + 1 := fun b => by unfold boolV; rw [szV_mk, szS_nil, szK_nil]; show 1 + 0 + 0 + 0 ≤ _; omega
      have z3 : ∀ n, szV (intV n) ≤ L.length + 1 := fun b => by unfold intV; rw [szV_mk, szS_nil, szK_nil]; show 1 + 0 + 0 + 0 ≤ _; omega
      rw [valD]
      split
      · exact hflat _ _ z0 (flatG (by decide) in0) h rfl (fun h => by cases h)
      rename_i hb0
      have b2 : σ.n + 1 ≤ 1000 := by omega
      have hword : ∀ (w : List UInt8) (v : V), wordT L w (up σ) = true → 0 < w.length → szV v ≤ L.length + 1 → GoodT v → FineD L σ (adv (up σ) w.length) ∧ σ.n < (adv (up σ) w.length).n ∧ GoodT v ∧ szV v + L.length ≤ ((adv (up σ) w.length).n - σ.n) * Kz L := fun w v hw hl hz hg => by
        have := (wordT_at hw hl).2.1
        have this' : σ.at_ + w.length ≤ L.length := this
        exact hflat v _ hz hg (by show σ.at_ + w.length ≤ _; omega) rfl (fun _ => ⟨b2, this'⟩)
      split
      · rename_i hw; exact hword wNil _ hw (by decide) z1 (flatG (by decide) in0)
      split
      · rename_i hw; exact hword wTrue _ hw (by decide) (z2 _) (flatG (by decide) in0)
      split
      · rename_i hw; exact hword wFalse _ hw (by decide) (z2 _) (flatG (by decide) in0)
      split
      · obtain ⟨q1, q2, q3, q4⟩ := quotedA L (up σ) h
        refine hflat _ _ ?_ (flatG (by decide) in0) q1 q2 (fun hb => ⟨by rw [q2]; exact b2, (q3 hb).2⟩)
        unfold textV
        rw [szV_mk, szS_nil, szK_nil]
        omega
      split
      · rename_i hc
        have hx := nxA (L := L) (σ := up σ) (fun e => by rw [e] at hc; exact absurd hc (by decide))
        obtain ⟨n1, n2, n3⟩ := numberA L (up σ) hx.2
        exact hflat _ _ (z3 _) (flatG (by decide) n3) (Nat.le_succ_of_le n1) n2 (fun _ => ⟨by rw [n2]; exact b2, n1⟩)
      split
      · exact hflat _ _ z0 (flatG (by decide) in0) h rfl (fun h => by cases h)
      rename_i hc
      have hne : nx L (up σ) ≠ 0 := fun e => hc ⟨by rw [e]; decide, by rw [e]; decide⟩
      have hx := nxA hne
      have hx2 : σ.at_ < L.length := hx.2
      obtain ⟨f1, f2, f3, f4, f5⟩ := il lv (decide (nx L (up σ) = 123)) [] [] (adv (up σ) 1) (by show σ.at_ + 1 ≤ _; omega) (by show σ.n + 1 ≤ _; omega) (fun _ => ⟨b2, by show σ.at_ + 1 ≤ _; omega⟩) (fun _ h => by cases h) (fun _ => rfl) (fun _ => rfl)
      generalize lsD L F lv (decide (nx L (up σ) = 123)) [] [] (adv (up σ) 1) = r at f1 f2 f3 f4 f5 ⊢
      obtain ⟨r0, r1, r2⟩ := r
      dsimp only at f1 f2 f3 f4 f5 ⊢
      obtain ⟨t1, t2, t3⟩ := tkA L (shutC (decide (nx L (up σ) = 123))) r2 f1.at_
      have hn2 : σ.n + 1 ≤ r2.n := f1.n
      have hm2 := f1.m
      refine ⟨⟨t1, by rw [t2]; omega, by rw [t2]; exact hm2, fun hb => ⟨by rw [t2]; exact (f1.ok (t3 hb).1).1, (t3 hb).2⟩⟩, by rw [t2]; omega, ⟨.mk (fun h6 => f3 (by
        by_cases e : nx L (up σ) = 123
        · exact decide_eq_true e
        · rw [if_neg e] at h6; cases h6)) (fun h6 => f4 (by
        by_cases e : nx L (up σ) = 123
        · rw [if_pos e] at h6; exact absurd rfl h6
        · exact decide_eq_false e)) (fun h5 => by split at h5 <;> exact absurd h5 (by decide)) fun x hx => (f2 x hx).1, .mk in0 fun x hx => (f2 x hx).2⟩, ?_⟩
      rw [szV_mk, t2]
      have h2 := mul_sub (Kz L) σ.n (σ.n + 1) r2.n (by omega) hn2
      have h3 : szS r0 + szK r1 ≤ szS [] + szK [] + (r2.n - (σ.n + 1)) * Kz L := f5
      rw [szS_nil, szK_nil] at h3
      show 1 + 0 + szS r0 + szK r1 + L.length ≤ _
      unfold Kz at h1 h2 h3 ⊢
      omega
    · rw [lsD]
      split
      · exact ⟨⟨h, Nat.le_refl _, hn, hok⟩, ha, hl, hk, Nat.le_add_right _ _⟩
      rename_i hc
      have hb : σ.bad = false := by
        cases hb : σ.bad with
        | false => rfl
        | true => exact absurd (.inl hb) hc
      obtain ⟨hb1, hb2⟩ := hok hb
      obtain ⟨c1, c2, c3⟩ := commaA L acc.length σ h (fun _ => hb2)
      generalize comma L acc.length σ = τ at c1 c2 c3 ⊢
      obtain ⟨k1, k2, k3⟩ := keyA L P τ c1 (fun hb => (c3 hb).2)
      obtain ⟨q1, q2, q3, q4⟩ := quotedA L τ c1
      have kn : (keyD L P τ).n = σ.n := k2.trans c2
      obtain ⟨v1, v2, v3, v4⟩ := iv (lv + 1) (keyD L P τ) k1 (fun hb => (k3 hb).2) (by rw [kn]; exact hb1)
      rw [kn] at v2 v4
      generalize valD L F (lv + 1) (keyD L P τ) = r at v1 v2 v3 v4 ⊢
      obtain ⟨r1, r2⟩ := r
      dsimp only at v1 v2 v3 v4 ⊢
      obtain ⟨f1, f2, f3, f4, f5⟩ := il lv P (if P = true then ks ++ [(quotedT L τ).1] else ks) (acc ++ [r1]) r2 v1.at_ v1.m v1.ok (fun x hx => by
        rcases List.mem_append.1 hx with hx | hx
        · exact ha x hx
        · rw [List.mem_singleton] at hx; rw [hx]; exact v3) (fun hP => by rw [if_pos hP]; simp [hl hP]) (fun hP => by rw [if_neg (by rw [hP]; decide)]; exact hk hP)
      have hn3 : σ.n ≤ r2.n := by omega
      refine ⟨⟨f1.at_, Nat.le_trans hn3 f1.n, f1.m, f1.ok⟩, f2, f3, f4, ?_⟩
      have hks : szS (if P = true then ks ++ [(quotedT L τ).1] else ks) ≤ szS ks + L.length := by
        split
        · rw [szS_append, szS_cons, szS_nil]; omega
        · omega
      rw [szK_append, szK_cons, szK_nil] at f5
      have h2 := mul_sub (Kz L) σ.n r2.n _ hn3 f1.n
      omega
end Go.Proofs.YtaahibcibgljbaaGreatDoor
