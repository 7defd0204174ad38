/- Contracts and laws that the proof stands on. -/
import Derived.Test.YtaahibcibgljbaaGreatDoorCallParses28
set_option linter.unusedSimpArgs false
set_option linter.unusedVariables false
namespace Go.Proofs.YtaahibcibgljbaaGreatDoor
open Go.Sl facts
attribute [local irreducible] Code.wp wpList Exit.then Exit.inBlock bodyPost Back MidQ G GP QStep VStep CStep SStep Does Post Reads
abbrev VdD (L : List UInt8) (H : HP) (b lv : Nat) (σ : RS) (r : V × RS) : Prop :=
  Does Tryz.prog 18 [ptr b, int lv] [rdD b L σ, Pile H] (X := HP × Vc) (fun y => .agg y.2.cells.toArray) (fun y => [rdD b L r.2, Pile y.1]) (fun y => HP.sub H y.1 ∧ VAt (Pile y.1) r.1 y.2)
theorem wordD_yes {b : Nat} {L w : List UInt8} (hL : L.length ≤ 1000000000) (hw : 0 < w.length ∧ w.length ≤ 1000) {σ : RS} (hat : σ.at_ ≤ L.length + 1) (h : wordT L w σ = true) : Does Tryz.prog 35 [ptr b, .string (txt w)] [rdD b L σ] (X := Unit) (fun _ => .bool true) (fun _ => [rdD b L (adv σ w.length)]) (fun _ => True) := by
  have := wordD_ b L w hL hw σ hat
  rwa [h, if_pos rfl] at this
theorem wordD_no {b : Nat} {L w : List UInt8} (hL : L.length ≤ 1000000000) (hw : 0 < w.length ∧ w.length ≤ 1000) {σ : RS} (hat : σ.at_ ≤ L.length + 1) (h : wordT L w σ = false) : Does Tryz.prog 35 [ptr b, .string (txt w)] [rdD b L σ] (X := Unit) (fun _ => .bool false) (fun _ => [rdD b L σ]) (fun _ => True) := by
  have := wordD_ b L w hL hw σ hat
  rwa [h, if_neg Bool.false_ne_true] at this
abbrev vc0 (k : Int) (y : Bool) (n : Int) (s : ByteArray) : Vc := ⟨k, y, n, s, none, 0, 0, none, 0, 0⟩
theorem vat0 (H : HP) {k n : Int} (y : Bool) {s : ByteArray} (hk : inI k) (hn : inI n) (hs : s.size ≤ 9223372036854775807) : VAt (Pile H) (.mk k y n s [] []) (vc0 k y n s) :=
  .mk [] hk hn hs (Nat.zero_le _) (fun _ h => by cases h) ⟨rfl, rfl, fun _ => rfl, fun j v hv => by simp at hv⟩ (Nat.zero_le _) rfl ⟨rfl, rfl, fun _ => rfl, fun j v hv => by simp at hv⟩ (fun i x u h => by simp at h)
structure DlX where
  f : Nat
  ks : List ByteArray
  acc : List V
  σ : RS
  kq : Option Addr
  kc : Nat
  q : Option Addr
  c : Nat
  us : List Vc
  H : HP
abbrev ValDC (L : List UInt8) (F : Nat) : Prop := ∀ (H : HP) (b lv : Nat) (σ : RS), σ.at_ ≤ L.length + 1 → (σ.bad = false → σ.at_ ≤ L.length) → σ.n ≤ 1000 → lv ≤ 21 → 2 * (1002 - σ.n) ≤ F → VdD L H b lv σ (valD L F lv σ)
theorem vats_snoc {H H' : HP} {acc : List V} {us : List Vc} (hs : HP.sub H H') (hl : us.length = acc.length) (h : ∀ (j : Nat) a u, acc[j]? = some a → us[j]? = some u → VAt (Pile H) a u) {a : V} {u : Vc} (ha : VAt (Pile H') a u) : ∀ (j : Nat) a' u', (acc ++ [a])[j]? = some a' → (us ++ [u])[j]? = some u' → VAt (Pile H') a' u' := fun j a' u' h1 h2 => by
  rcases Nat.lt_or_ge j acc.length with hlt | hge
  · rw [List.getElem?_append_left hlt] at h1
    rw [List.getElem?_append_left (by omega)] at h2
    exact (h j a' u' h1 h2).grow hs
  · rw [List.getElem?_append_right hge] at h1
    rw [List.getElem?_append_right (by omega)] at h2
    have hj : j = acc.length := by
      have := (List.getElem?_eq_some_iff.1 h1).1
      simp only [List.length_singleton] at this
      omega
    subst hj
    rw [Nat.sub_self] at h1
    rw [show acc.length - us.length = 0 by omega] at h2
    cases h1
    cases h2
    exact ha
theorem lsD_end {L : List UInt8} {F lv : Nat} {P : Bool} {ks : List ByteArray} {acc : List V} {σ : RS} (h : σ.bad = true ∨ nx L σ = shutC P) : lsD L (F + 1) lv P ks acc σ = (ks, acc, σ) := by rw [lsD, if_pos h]
theorem lsD_go {L : List UInt8} {F lv : Nat} {P : Bool} {ks : List ByteArray} {acc : List V} {σ : RS} (h : ¬ (σ.bad = true ∨ nx L σ = shutC P)) : lsD L (F + 1) lv P ks acc σ = lsD L F lv P (if P = true then ks ++ [(quotedT L (comma L acc.length σ)).1] else ks) (acc ++ [(valD L F (lv + 1) (keyD L P (comma L acc.length σ))).1]) (valD L F (lv + 1) (keyD L P (comma L acc.length σ))).2 := by rw [lsD, if_neg h]
set_option maxHeartbeats 4000000 in
theorem valueD_ (L : List UInt8) (hL : L.length ≤ 100000000) : ∀ (F : Nat) (hv : ∀ F', F' < F → ValDC L F'), ValDC L F
  | 0, _, _, _, _, σ, _, _, hn, _, hF => by omega
  | F + 1, hv, H, b, lv, σ, hat, hok, hn, hlv, hF => by
    have hz : (txt L).size = L.length := txt_size L
    have hno : VAt (Pile H) noV' (vc0 0 false 0 ByteArray.empty) := vat0 H false in0 in0 (by decide)
    rw [valD]
    obtain ⟨i, n, bad⟩ := σ
    dsimp only at hat hok hn hF
    have hne : ((n : Int) + 1) = ((n + 1 : Nat) : Int) := by push_cast; rfl
    unfold VdD
    dsimp only [rdD]
    by_cases h1 : 1000 < n + 1
    · rw [if_pos (.inl h1)]
      refine fn_intro Tryz.func18 rfl Tryz.ntmps18 rfl (by simp only [argFr, Nat.zero_add, Nat.reduceAdd]; rfl) (fun Γ => ?_)
      repeat (first
        | (refine g_ops ?_; first | refine sO ?_ | refine s_n (fun _ => ?_) | refine s_app (fun _ _ => ?_) | refine s_b0 (fun _ => ?_) | ((fail_if_success refine g_lit rfl rfl rfl ?_); first | apply g_partM rfl rfl rfl | apply g_partMB rfl rfl rfl | fail))
        | refine gS ?_ | exact s_m | intro _)
      refine g_as 20 (v' := .bool true) rfl (congrArg Value.bool (decide_eq_true (by omega))) ?_
      repeat (first
        | (refine g_ops ?_; first | refine sO ?_ | refine s_n (fun _ => ?_) | refine s_app (fun _ _ => ?_) | refine s_b0 (fun _ => ?_) | ((fail_if_success refine g_lit rfl rfl rfl ?_); first | apply g_partM rfl rfl rfl | apply g_partMB rfl rfl rfl | fail))
        | refine gS ?_ | exact s_m | intro _)
      rw [hne]
      exact gR (H, vc0 0 false 0 ByteArray.empty) ⟨HP.sub.refl _, hno⟩
    by_cases h2 : 20 < lv
    · rw [if_pos (.inr h2)]
      refine fn_intro Tryz.func18 rfl Tryz.ntmps18 rfl (by simp only [argFr, Nat.zero_add, Nat.reduceAdd]; rfl) (fun Γ => ?_)
      repeat (first
        | (refine g_ops ?_; first | refine sO ?_ | refine s_n (fun _ => ?_) | refine s_app (fun _ _ => ?_) | refine s_b0 (fun _ => ?_) | ((fail_if_success refine g_lit rfl rfl rfl ?_); first | apply g_partM rfl rfl rfl | apply g_partMB rfl rfl rfl | fail))
        | refine gS ?_ | exact s_m | intro _)
      refine g_as 20 (v' := .bool false) rfl (congrArg Value.bool (decide_eq_false (by omega))) ?_
      repeat (first
        | (refine g_ops ?_; first | refine sO ?_ | refine s_n (fun _ => ?_) | refine s_app (fun _ _ => ?_) | refine s_b0 (fun _ => ?_) | ((fail_if_success refine g_lit rfl rfl rfl ?_); first | apply g_partM rfl rfl rfl | apply g_partMB rfl rfl rfl | fail))
        | refine gS ?_ | exact s_m | intro _)
      refine g_as 23 (v' := .bool true) rfl (congrArg Value.bool (decide_eq_true (by omega))) ?_
      repeat (first
        | (refine g_ops ?_; first | refine sO ?_ | refine s_n (fun _ => ?_) | refine s_app (fun _ _ => ?_) | refine s_b0 (fun _ => ?_) | ((fail_if_success refine g_lit rfl rfl rfl ?_); first | apply g_partM rfl rfl rfl | apply g_partMB rfl rfl rfl | fail))
        | refine gS ?_ | exact s_m | intro _)
      rw [hne]
      exact gR (H, vc0 0 false 0 ByteArray.empty) ⟨HP.sub.refl _, hno⟩
    rw [if_neg (fun h => h.elim h1 h2)]
    have hup : up ⟨i, n, bad⟩ = ⟨i, n + 1, bad⟩ := rfl
    rw [hup]
    refine fn_intro Tryz.func18 rfl Tryz.ntmps18 rfl (by simp only [argFr, Nat.zero_add, Nat.reduceAdd]; rfl) (fun Γ => ?_)
    repeat (first
      | (refine g_ops ?_; first | refine sO ?_ | refine s_n (fun _ => ?_) | refine s_app (fun _ _ => ?_) | refine s_b0 (fun _ => ?_) | ((fail_if_success refine g_lit rfl rfl rfl ?_); first | apply g_partM rfl rfl rfl | apply g_partMB rfl rfl rfl | fail))
      | refine gS ?_ | exact s_m | intro _)
    rename_i rb
    refine g_as 20 (v' := .bool false) rfl (congrArg Value.bool (decide_eq_false (by omega))) ?_
    repeat (first
      | (refine g_ops ?_; first | refine sO ?_ | refine s_n (fun _ => ?_) | refine s_app (fun _ _ => ?_) | refine s_b0 (fun _ => ?_) | ((fail_if_success refine g_lit rfl rfl rfl ?_); first | apply g_partM rfl rfl rfl | apply g_partMB rfl rfl rfl | fail))
      | refine gS ?_ | exact s_m | intro _)
    refine g_as 23 (v' := .bool false) rfl (congrArg Value.bool (decide_eq_false (by omega))) ?_
    rw [hne]
    generalize hσ : RS.mk i (n + 1) bad = τ
    have hat' : τ.at_ ≤ L.length + 1 := by rw [← hσ]; exact hat
    have hτ : [.string (txt L), int i, .bool bad, int ((n + 1 : Nat) : Int)] = [.string (txt L), int τ.at_, .bool τ.bad, int τ.n] := by rw [← hσ]
    have hτn : τ.n = n + 1 := by rw [← hσ]
    have hτi : τ.at_ = i := by rw [← hσ]
    have hτb : τ.bad = bad := by rw [← hσ]
    rw [show Value.int .i64 ((n + 1 : Nat) : Int) = int ((n + 1 : Nat) : Int) from rfl, hτ]
    have hnx := next_ b L (by omega) τ hat'
    cases w1 : wordT L wNil τ
    case true =>
      have hw := wordD_yes (b := b) (by omega) (by decide) hat' w1
      rw [if_pos rfl]
      repeat (first
        | (refine g_ops ?_; first | refine sO ?_ | refine s_n (fun _ => ?_) | refine s_app (fun _ _ => ?_) | refine s_b0 (fun _ => ?_) | ((fail_if_success refine g_lit rfl rfl rfl ?_); first | apply g_partM rfl rfl rfl | apply g_partMB rfl rfl rfl | fail) | refine s_k (hnx) ?_ | refine s_c (hw) (fun _ _ => ?_))
        | refine gS ?_ | exact s_m | intro _)
      exact gR (H, vc0 1 false 0 ByteArray.empty) ⟨HP.sub.refl _, vat0 H false ⟨by decide, by decide⟩ in0 (by decide)⟩
    have hw1 := wordD_no (b := b) (by omega) (by decide) hat' w1
    rw [if_neg Bool.false_ne_true]
    cases w2 : wordT L wTrue τ
    case true =>
      have hw := wordD_yes (b := b) (by omega) (by decide) hat' w2
      rw [if_pos rfl]
      repeat (first
        | (refine g_ops ?_; first | refine sO ?_ | refine s_n (fun _ => ?_) | refine s_app (fun _ _ => ?_) | refine s_b0 (fun _ => ?_) | ((fail_if_success refine g_lit rfl rfl rfl ?_); first | apply g_partM rfl rfl rfl | apply g_partMB rfl rfl rfl | fail) | refine s_k (hnx) ?_ | refine s_c (hw1) (fun _ _ => ?_) | refine s_c (hw) (fun _ _ => ?_))
        | refine gS ?_ | exact s_m | intro _)
      exact gR (H, vc0 2 true 0 ByteArray.empty) ⟨HP.sub.refl _, vat0 H true ⟨by decide, by decide⟩ in0 (by decide)⟩
    have hw2 := wordD_no (b := b) (by omega) (by decide) hat' w2
    rw [if_neg Bool.false_ne_true]
    cases w3 : wordT L wFalse τ
    case true =>
      have hw := wordD_yes (b := b) (by omega) (by decide) hat' w3
      rw [if_pos rfl]
      repeat (first
        | (refine g_ops ?_; first | refine sO ?_ | refine s_n (fun _ => ?_) | refine s_app (fun _ _ => ?_) | refine s_b0 (fun _ => ?_) | ((fail_if_success refine g_lit rfl rfl rfl ?_); first | apply g_partM rfl rfl rfl | apply g_partMB rfl rfl rfl | fail) | refine s_k (hnx) ?_ | refine s_c (hw1) (fun _ _ => ?_) | refine s_c (hw2) (fun _ _ => ?_) | refine s_c (hw) (fun _ _ => ?_))
        | refine gS ?_ | exact s_m | intro _)
      exact gR (H, vc0 2 false 0 ByteArray.empty) ⟨HP.sub.refl _, vat0 H false ⟨by decide, by decide⟩ in0 (by decide)⟩
    have hw3 := wordD_no (b := b) (by omega) (by decide) hat' w3
    rw [if_neg Bool.false_ne_true]
    have hxa := nxA (L := L) (σ := τ)
    generalize hc : nx L τ = c at hnx hxa ⊢
    by_cases k1 : c = 34
    · rw [if_pos k1]
      have hq := quoted_ H b L hL τ hat'
      have hqa := quotedA L τ hat'
      subst k1
      repeat (first
        | (refine g_ops ?_; first | refine sO ?_ | refine s_n (fun _ => ?_) | refine s_app (fun _ _ => ?_) | refine s_b0 (fun _ => ?_) | ((fail_if_success refine g_lit rfl rfl rfl ?_); first | apply g_partM rfl rfl rfl | apply g_partMB rfl rfl rfl | fail) | refine s_k (hnx) ?_ | refine s_c (hw1) (fun _ _ => ?_) | refine s_c (hw2) (fun _ _ => ?_) | refine s_c (hw3) (fun _ _ => ?_) | refine s_c (hq) (fun _ _ => ?_))
        | refine gS ?_ | exact s_m | intro _)
      refine g_as 42 (v' := .bool true) rfl rfl ?_
      repeat (first
        | (refine g_ops ?_; first | refine sO ?_ | refine s_n (fun _ => ?_) | refine s_app (fun _ _ => ?_) | refine s_b0 (fun _ => ?_) | ((fail_if_success refine g_lit rfl rfl rfl ?_); first | apply g_partM rfl rfl rfl | apply g_partMB rfl rfl rfl | fail) | refine s_c (hq) (fun _ _ => ?_))
        | refine gS ?_ | exact s_m | intro _)
      exact gR (H, vc0 4 false 0 (quotedT L τ).1) ⟨HP.sub.refl _, vat0 H false ⟨by decide, by decide⟩ in0 (by have := hqa.2.2.2; omega)⟩
    rw [if_neg k1]
    have h8 := c.toNat_lt
    have k1' : ¬ c.toNat = 34 := fun e => k1 (UInt8.toNat_inj.1 e)
    repeat (first
      | (refine g_ops ?_; first | refine sO ?_ | refine s_n (fun _ => ?_) | refine s_app (fun _ _ => ?_) | refine s_b0 (fun _ => ?_) | ((fail_if_success refine g_lit rfl rfl rfl ?_); first | apply g_partM rfl rfl rfl | apply g_partMB rfl rfl rfl | fail) | refine s_k (hnx) ?_ | refine s_c (hw1) (fun _ _ => ?_) | refine s_c (hw2) (fun _ _ => ?_) | refine s_c (hw3) (fun _ _ => ?_))
      | refine gS ?_ | exact s_m | intro _)
    refine g_as 42 (v' := .bool false) rfl (congrArg Value.bool (decide_eq_false (by omega))) ?_
    repeat (first | refine g_cond_false rfl ?_ | refine g_then_normal ?_ | refine g_seq ?_)
    refine g_cutX (X := Unit) (fun _ => [(0, ptr b), (1, int lv), (4, ptr rb), (5, u8v c), (48, .bool (numC c))]) (fun _ => [rdD b L τ, .row rb [int 0, .bool false, int 0, .string ByteArray.empty, .slice none 0 0, .slice none 0 0] 40, Pile H]) (fun _ => True) ?_ (fun _ _ => ?_)
    · have eN : ¬ (c.toNat = 45 ∨ 48 ≤ c.toNat ∧ c.toNat ≤ 57) → numC c = false := decide_eq_false
      have eY : (c.toNat = 45 ∨ 48 ≤ c.toNat ∧ c.toNat ≤ 57) → numC c = true := decide_eq_true
      repeat ((fail_if_success refine s_at 51 ?_); first
        | (refine g_ops ?_; first | refine sO ?_ | refine s_n (fun _ => ?_) | refine s_app (fun _ _ => ?_) | refine s_b0 (fun _ => ?_) | ((fail_if_success refine g_lit rfl rfl rfl ?_); first | apply g_partM rfl rfl rfl | apply g_partMB rfl rfl rfl | fail))
        | refine gS ?_ | exact s_m | intro _)
      first
        | (refine g_ops ?_; first | refine sO ?_ | refine s_n (fun _ => ?_) | refine s_app (fun _ _ => ?_) | refine s_b0 (fun _ => ?_) | ((fail_if_success refine g_lit rfl rfl rfl ?_); first | apply g_partM rfl rfl rfl | apply g_partMB rfl rfl rfl | fail))
        | refine gS ?_ | exact s_m | intro _
      by_cases q1 : c.toNat = 45
      · rw [eY (.inl q1)]
        refine g_as 51 (v' := .bool true) rfl (congrArg Value.bool (decide_eq_true (by omega))) ?_
        repeat (first
          | (refine g_ops ?_; first | refine sO ?_ | refine s_n (fun _ => ?_) | refine s_app (fun _ _ => ?_) | refine s_b0 (fun _ => ?_) | ((fail_if_success refine g_lit rfl rfl rfl ?_); first | apply g_partM rfl rfl rfl | apply g_partMB rfl rfl rfl | fail))
          | refine gS ?_ | exact s_m | intro _)
        exact gM () trivial
      refine g_as 51 (v' := .bool false) rfl (congrArg Value.bool (decide_eq_false (by omega))) ?_
      repeat ((fail_if_success refine s_at 54 ?_); first
        | (refine g_ops ?_; first | refine sO ?_ | refine s_n (fun _ => ?_) | refine s_app (fun _ _ => ?_) | refine s_b0 (fun _ => ?_) | ((fail_if_success refine g_lit rfl rfl rfl ?_); first | apply g_partM rfl rfl rfl | apply g_partMB rfl rfl rfl | fail))
        | refine gS ?_ | exact s_m | intro _)
      first
        | (refine g_ops ?_; first | refine sO ?_ | refine s_n (fun _ => ?_) | refine s_app (fun _ _ => ?_) | refine s_b0 (fun _ => ?_) | ((fail_if_success refine g_lit rfl rfl rfl ?_); first | apply g_partM rfl rfl rfl | apply g_partMB rfl rfl rfl | fail))
        | refine gS ?_ | exact s_m | intro _
      by_cases q2 : 48 ≤ c.toNat
      · refine g_as 54 (v' := .bool true) rfl (congrArg Value.bool (decide_eq_true (by omega))) ?_
        by_cases q3 : c.toNat ≤ 57
        · rw [eY (.inr ⟨q2, q3⟩)]
          repeat (first
            | (refine g_ops ?_; first | refine sO ?_ | refine s_n (fun _ => ?_) | refine s_app (fun _ _ => ?_) | refine s_b0 (fun _ => ?_) | ((fail_if_success refine g_lit rfl rfl rfl ?_); first | apply g_partM rfl rfl rfl | apply g_partMB rfl rfl rfl | fail))
            | refine gS ?_ | exact s_m | intro _)
          refine g_as 48 (v' := .bool true) rfl (congrArg Value.bool (decide_eq_true (by omega))) ?_
          exact gM () trivial
        · rw [eN (by omega)]
          repeat (first
            | (refine g_ops ?_; first | refine sO ?_ | refine s_n (fun _ => ?_) | refine s_app (fun _ _ => ?_) | refine s_b0 (fun _ => ?_) | ((fail_if_success refine g_lit rfl rfl rfl ?_); first | apply g_partM rfl rfl rfl | apply g_partMB rfl rfl rfl | fail))
            | refine gS ?_ | exact s_m | intro _)
          refine g_as 48 (v' := .bool false) rfl (congrArg Value.bool (decide_eq_false (by omega))) ?_
          exact gM () trivial
      · rw [eN (by omega)]
        refine g_as 54 (v' := .bool false) rfl (congrArg Value.bool (decide_eq_false (by omega))) ?_
        repeat (first
          | (refine g_ops ?_; first | refine sO ?_ | refine s_n (fun _ => ?_) | refine s_app (fun _ _ => ?_) | refine s_b0 (fun _ => ?_) | ((fail_if_success refine g_lit rfl rfl rfl ?_); first | apply g_partM rfl rfl rfl | apply g_partMB rfl rfl rfl | fail))
          | refine gS ?_ | exact s_m | intro _)
        exact gM () trivial
    cases k2 : numC c
    case true =>
      have hxa' := hxa (fun e => by rw [e] at k2; exact absurd k2 (by decide))
      have hnm := numberD_ b L hL τ.at_ τ.n hxa'.2
      rw [show RS.mk τ.at_ τ.n false = τ by rw [← hxa'.1]] at hnm
      rw [if_pos rfl]
      repeat (first
        | (refine g_ops ?_; first | refine sO ?_ | refine s_n (fun _ => ?_) | refine s_app (fun _ _ => ?_) | refine s_b0 (fun _ => ?_) | ((fail_if_success refine g_lit rfl rfl rfl ?_); first | apply g_partM rfl rfl rfl | apply g_partMB rfl rfl rfl | fail) | refine s_c (hnm) (fun _ _ => ?_))
        | refine gS ?_ | exact s_m | intro _)
      exact gR (H, vc0 3 false (numberT L τ).1 ByteArray.empty) ⟨HP.sub.refl _, vat0 H false ⟨by decide, by decide⟩ (numberA L τ hxa'.2).2.2 (by decide)⟩
    rw [if_neg Bool.false_ne_true]
    by_cases k3 : c ≠ 91 ∧ c ≠ 123
    · rw [if_pos k3]
      have k4 : ¬ c.toNat = 91 := fun e => k3.1 (UInt8.toNat_inj.1 e)
      have k5 : ¬ c.toNat = 123 := fun e => k3.2 (UInt8.toNat_inj.1 e)
      repeat ((fail_if_success refine s_at 65 ?_); first
        | (refine g_ops ?_; first | refine sO ?_ | refine s_n (fun _ => ?_) | refine s_app (fun _ _ => ?_) | refine s_b0 (fun _ => ?_) | ((fail_if_success refine g_lit rfl rfl rfl ?_); first | apply g_partM rfl rfl rfl | apply g_partMB rfl rfl rfl | fail))
        | refine gS ?_ | exact s_m | intro _)
      first
        | (refine g_ops ?_; first | refine sO ?_ | refine s_n (fun _ => ?_) | refine s_app (fun _ _ => ?_) | refine s_b0 (fun _ => ?_) | ((fail_if_success refine g_lit rfl rfl rfl ?_); first | apply g_partM rfl rfl rfl | apply g_partMB rfl rfl rfl | fail))
        | refine gS ?_ | exact s_m | intro _
      refine g_as 65 (v' := .bool true) rfl (congrArg Value.bool (decide_eq_true (by omega))) ?_
      repeat (first
        | (refine g_ops ?_; first | refine sO ?_ | refine s_n (fun _ => ?_) | refine s_app (fun _ _ => ?_) | refine s_b0 (fun _ => ?_) | ((fail_if_success refine g_lit rfl rfl rfl ?_); first | apply g_partM rfl rfl rfl | apply g_partMB rfl rfl rfl | fail))
        | refine gS ?_ | exact s_m | intro _)
      refine g_as 62 (v' := .bool true) rfl (congrArg Value.bool (decide_eq_true (by omega))) ?_
      repeat (first
        | (refine g_ops ?_; first | refine sO ?_ | refine s_n (fun _ => ?_) | refine s_app (fun _ _ => ?_) | refine s_b0 (fun _ => ?_) | ((fail_if_success refine g_lit rfl rfl rfl ?_); first | apply g_partM rfl rfl rfl | apply g_partMB rfl rfl rfl | fail))
        | refine gS ?_ | exact s_m | intro _)
      rw [← hτn, ← hτi]
      exact gR (H, vc0 0 false 0 ByteArray.empty) ⟨HP.sub.refl _, hno⟩
    rw [if_neg k3]
    have k4 : c = 91 ∨ c = 123 := by
      by_cases e : c = 91
      · exact .inl e
      · by_cases e2 : c = 123
        · exact .inr e2
        · exact absurd ⟨e, e2⟩ k3
    obtain ⟨hb, hlt⟩ := hxa (fun e => by rw [e] at k4; revert k4; decide)
    generalize hP : decide (c = 123) = P
    have hkp : (if c = 123 then (6 : Int) else 5) = if P = true then 6 else 5 := by
      rw [← hP]
      by_cases e : c = 123
      · rw [if_pos e, if_pos (decide_eq_true e)]
      · rw [if_neg e, decide_eq_false e]; rfl
    rw [hkp]
    repeat (first | refine g_cond_false rfl ?_ | refine g_then_normal ?_ | refine g_seq ?_)
    refine g_cutX (X := Unit) (fun _ => [(0, ptr b), (1, int lv), (4, ptr rb), (5, u8v c), (62, .bool false)]) (fun _ => [rdD b L τ, .row rb [int 0, .bool false, int 0, .string ByteArray.empty, .slice none 0 0, .slice none 0 0] 40, Pile H]) (fun _ => True) ?_ (fun _ _ => ?_)
    · rcases k4 with e | e
      · subst e
        repeat ((fail_if_success refine s_at 65 ?_); first
          | (refine g_ops ?_; first | refine sO ?_ | refine s_n (fun _ => ?_) | refine s_app (fun _ _ => ?_) | refine s_b0 (fun _ => ?_) | ((fail_if_success refine g_lit rfl rfl rfl ?_); first | apply g_partM rfl rfl rfl | apply g_partMB rfl rfl rfl | fail))
          | refine gS ?_ | exact s_m | intro _)
        first
          | (refine g_ops ?_; first | refine sO ?_ | refine s_n (fun _ => ?_) | refine s_app (fun _ _ => ?_) | refine s_b0 (fun _ => ?_) | ((fail_if_success refine g_lit rfl rfl rfl ?_); first | apply g_partM rfl rfl rfl | apply g_partMB rfl rfl rfl | fail))
          | refine gS ?_ | exact s_m | intro _
        refine g_as 65 (v' := .bool false) rfl (congrArg Value.bool (by decide)) ?_
        repeat (first
          | (refine g_ops ?_; first | refine sO ?_ | refine s_n (fun _ => ?_) | refine s_app (fun _ _ => ?_) | refine s_b0 (fun _ => ?_) | ((fail_if_success refine g_lit rfl rfl rfl ?_); first | apply g_partM rfl rfl rfl | apply g_partMB rfl rfl rfl | fail))
          | refine gS ?_ | exact s_m | intro _)
        exact gM () trivial
      · subst e
        repeat ((fail_if_success refine s_at 65 ?_); first
          | (refine g_ops ?_; first | refine sO ?_ | refine s_n (fun _ => ?_) | refine s_app (fun _ _ => ?_) | refine s_b0 (fun _ => ?_) | ((fail_if_success refine g_lit rfl rfl rfl ?_); first | apply g_partM rfl rfl rfl | apply g_partMB rfl rfl rfl | fail))
          | refine gS ?_ | exact s_m | intro _)
        first
          | (refine g_ops ?_; first | refine sO ?_ | refine s_n (fun _ => ?_) | refine s_app (fun _ _ => ?_) | refine s_b0 (fun _ => ?_) | ((fail_if_success refine g_lit rfl rfl rfl ?_); first | apply g_partM rfl rfl rfl | apply g_partMB rfl rfl rfl | fail))
          | refine gS ?_ | exact s_m | intro _
        refine g_as 65 (v' := .bool true) rfl (congrArg Value.bool (by decide)) ?_
        repeat (first
          | (refine g_ops ?_; first | refine sO ?_ | refine s_n (fun _ => ?_) | refine s_app (fun _ _ => ?_) | refine s_b0 (fun _ => ?_) | ((fail_if_success refine g_lit rfl rfl rfl ?_); first | apply g_partM rfl rfl rfl | apply g_partMB rfl rfl rfl | fail))
          | refine gS ?_ | exact s_m | intro _)
        refine g_as 62 (v' := .bool false) rfl (congrArg Value.bool (by decide)) ?_
        exact gM () trivial
    repeat (first
      | (refine g_ops ?_; first | refine sO ?_ | refine s_n (fun _ => ?_) | refine s_app (fun _ _ => ?_) | refine s_b0 (fun _ => ?_) | ((fail_if_success refine g_lit rfl rfl rfl ?_); first | apply g_partM rfl rfl rfl | apply g_partMB rfl rfl rfl | fail))
      | refine gS ?_ | exact s_m | intro _)
    rename_i vb
    refine g_cutX (X := Unit) (fun _ => [(0, ptr b), (1, int lv), (4, ptr rb), (6, ptr vb), (7, u8v (shutC P))]) (fun _ => [rdD b L τ, .row rb [int 0, .bool false, int 0, .string ByteArray.empty, .slice none 0 0, .slice none 0 0] 40, .row vb [int (if P = true then 6 else 5), .bool false, int 0, .string ByteArray.empty, .slice none 0 0, .slice none 0 0] 40, Pile H]) (fun _ => True) ?_ (fun _ _ => ?_)
    · rcases k4 with e | e
      · subst e
        obtain rfl : P = false := by rw [← hP]; decide
        repeat (first
          | (refine g_ops ?_; first | refine sO ?_ | refine s_n (fun _ => ?_) | refine s_app (fun _ _ => ?_) | refine s_b0 (fun _ => ?_) | ((fail_if_success refine g_lit rfl rfl rfl ?_); first | apply g_partM rfl rfl rfl | apply g_partMB rfl rfl rfl | fail))
          | refine gS ?_ | exact s_m | intro _)
        exact gM () trivial
      · subst e
        obtain rfl : P = true := by rw [← hP]; decide
        repeat (first
          | (refine g_ops ?_; first | refine sO ?_ | refine s_n (fun _ => ?_) | refine s_app (fun _ _ => ?_) | refine s_b0 (fun _ => ?_) | ((fail_if_success refine g_lit rfl rfl rfl ?_); first | apply g_partM rfl rfl rfl | apply g_partMB rfl rfl rfl | fail))
          | refine gS ?_ | exact s_m | intro _)
        exact gM () trivial
    repeat (first
      | (refine g_ops ?_; first | refine sO ?_ | refine s_n (fun _ => ?_) | refine s_app (fun _ _ => ?_) | refine s_b0 (fun _ => ?_) | ((fail_if_success refine g_lit rfl rfl rfl ?_); first | apply g_partM rfl rfl rfl | apply g_partMB rfl rfl rfl | fail))
      | refine gS ?_ | exact s_m | intro _)
    refine g_own_nil none 1 9 ?_
    refine g_own_nil none 6 40 ?_
    have hadv : (adv τ 1).at_ ≤ L.length := by show τ.at_ + 1 ≤ _; omega
    refine g_loop (X := DlX) (fun x => [(0, ptr b), (1, int lv), (4, ptr rb), (6, ptr vb), (7, u8v (shutC P))]) (fun x => [rdD b L x.σ, .row rb [int 0, .bool false, int 0, .string ByteArray.empty, .slice none 0 0, .slice none 0 0] 40, .row vb [int (if P = true then 6 else 5), .bool false, int 0, .string ByteArray.empty, .slice x.kq x.ks.length x.kc, .slice x.q x.us.length x.c] 40, .own x.kq x.ks.length x.kc 1 (x.ks.map .string) 9, .own x.q x.us.length x.c 6 (x.us.flatMap Vc.cells) 40, Pile x.H])
      (fun x => lsD L F lv P [] [] (adv τ 1) = lsD L x.f lv P x.ks x.acc x.σ ∧ x.f ≤ F ∧ x.σ.at_ ≤ L.length + 1 ∧ x.σ.n ≤ 1001 ∧ (x.σ.bad = false → x.σ.n ≤ 1000 ∧ x.σ.at_ ≤ L.length) ∧ 2 * (1002 - x.σ.n) + 1 ≤ x.f ∧ x.us.length = x.acc.length ∧ x.acc.length ≤ x.σ.n ∧ x.ks.length ≤ x.acc.length ∧ (∀ s ∈ x.ks, s.size ≤ L.length) ∧ HP.sub H x.H ∧ ∀ (j : Nat) a u, x.acc[j]? = some a → x.us[j]? = some u → VAt (Pile x.H) a u) (fun x => x.f)
      ⟨F, [], [], adv τ 1, none, 0, none, 0, [], H⟩ ⟨rfl, Nat.le_refl _, by dsimp only; omega, by show τ.n ≤ 1001; omega, fun _ => ⟨by show τ.n ≤ 1000; omega, hadv⟩, by show 2 * (1002 - τ.n) + 1 ≤ F; omega, rfl, Nat.zero_le _, Nat.le_refl _, (fun _ h => by cases h), HP.sub.refl _, fun j a u h => by simp at h⟩ (by (repeat (first | exact FrSub.nil | refine FrSub.cons rfl ?_)); first | done | fail) (by (repeat (first | exact Take.nil | apply Take.cons | exact Sel.here | apply Sel.there)); first | done | fail) (fun x hx => ?_)
    clear hadv hnx hxa hw1 hw2 hw3 hτ hlt hkp k4 k3 hc k1 k1' h8 hF hn hok hat hno
    obtain ⟨f, ks, acc, σ, kq, kc, q, c2, us, H1⟩ := x
    obtain ⟨he, hfF, hat, hn, hok, hf, hul, hal, hkl, hkz, hs1, hvs⟩ := hx
    dsimp only at he hfF hat hn hok hf hul hal hkl hkz hs1 hvs ⊢
    obtain ⟨f, rfl⟩ : ∃ f', f = f' + 1 := ⟨f - 1, by omega⟩
    have hvf := hv f (by omega)
    rw [he]
    have hnx := next_ b L (by omega) σ hat
    have htk := takes_ b L (by omega) (shutC P) σ hat
    have fin : ∀ (H2 H3 : HP), HP.sub H1 H2 → HP.sub H2 H3 → SlAt (Pile H2) 1 kq ks.length (ks.map .string) → SlAt (Pile H3) 6 q us.length (us.flatMap Vc.cells) → VAt (Pile H3) (.mk (if P = true then 6 else 5) false 0 ByteArray.empty ks acc) ⟨if P = true then 6 else 5, false, 0, ByteArray.empty, kq, ks.length, kc, q, us.length, c2⟩ := fun H2 H3 h12 h23 hk hS => by
      rw [hul] at hS ⊢
      exact .mk us (by split <;> exact ⟨by decide, by decide⟩) in0 (by decide) (by omega) (fun x hx => by have := hkz x hx; omega) (hk.grow h23) (by omega) hul hS fun j a u h1 h2 => (hvs j a u h1 h2).grow (h12.trans h23)
    cases hbb : σ.bad
    case true =>
      rw [lsD_end (.inl hbb)]
      repeat (first
        | (refine g_ops ?_; first | refine sO ?_ | refine s_n (fun _ => ?_) | refine s_app (fun _ _ => ?_) | refine s_b0 (fun _ => ?_) | ((fail_if_success refine g_lit rfl rfl rfl ?_); first | apply g_partM rfl rfl rfl | apply g_partMB rfl rfl rfl | fail) | refine s_k (hnx) ?_ | refine s_c (htk) (fun _ _ => ?_))
        | refine gS ?_ | exact s_m | intro _)
      refine g_as 89 (v' := .bool false) rfl (by rw [hbb]; rfl) ?_
      repeat (first
        | (refine g_ops ?_; first | refine sO ?_ | refine s_n (fun _ => ?_) | refine s_app (fun _ _ => ?_) | refine s_b0 (fun _ => ?_) | ((fail_if_success refine g_lit rfl rfl rfl ?_); first | apply g_partM rfl rfl rfl | apply g_partMB rfl rfl rfl | fail) | refine s_k (hnx) ?_ | refine s_c (htk) (fun _ _ => ?_))
        | refine gS ?_ | exact s_m | intro _)
      dsimp only [List.cons_append, List.nil_append, List.append_eq]
      refine g_pile (n := 1) (by (repeat (first | exact Sel.here | apply Sel.there)); first | done | fail) (by (repeat (first | exact Sel.here | apply Sel.there)); first | done | fail) (fun H2 hs2 hS2 => ?_)
      refine g_pile (n := 6) (by (repeat (first | exact Sel.here | apply Sel.there)); first | done | fail) (by (repeat (first | exact Sel.here | apply Sel.there)); first | done | fail) (fun H3 hs3 hS3 => ?_)
      exact gR (H3, ⟨if P = true then 6 else 5, false, 0, ByteArray.empty, kq, ks.length, kc, q, us.length, c2⟩) ⟨(hs1.trans hs2).trans hs3, fin H2 H3 hs2 hs3 hS2 hS3⟩
    repeat (first
      | (refine g_ops ?_; first | refine sO ?_ | refine s_n (fun _ => ?_) | refine s_app (fun _ _ => ?_) | refine s_b0 (fun _ => ?_) | ((fail_if_success refine g_lit rfl rfl rfl ?_); first | apply g_partM rfl rfl rfl | apply g_partMB rfl rfl rfl | fail) | refine s_k (hnx) ?_ | refine s_c (htk) (fun _ _ => ?_))
      | refine gS ?_ | exact s_m | intro _)
    refine g_as 89 (v' := .bool true) rfl (by rw [hbb]; rfl) ?_
    have h8 := (nx L σ).toNat_lt
    have h9 := (shutC P).toNat_lt
    by_cases hsh : nx L σ = shutC P
    · rw [lsD_end (.inr hsh)]
      repeat (first
        | (refine g_ops ?_; first | refine sO ?_ | refine s_n (fun _ => ?_) | refine s_app (fun _ _ => ?_) | refine s_b0 (fun _ => ?_) | ((fail_if_success refine g_lit rfl rfl rfl ?_); first | apply g_partM rfl rfl rfl | apply g_partMB rfl rfl rfl | fail) | refine s_k (hnx) ?_ | refine s_c (htk) (fun _ _ => ?_))
        | refine gS ?_ | exact s_m | intro _)
      refine g_as 94 (v' := .bool false) rfl (congrArg Value.bool (by rw [hsh]; simp)) ?_
      repeat (first
        | (refine g_ops ?_; first | refine sO ?_ | refine s_n (fun _ => ?_) | refine s_app (fun _ _ => ?_) | refine s_b0 (fun _ => ?_) | ((fail_if_success refine g_lit rfl rfl rfl ?_); first | apply g_partM rfl rfl rfl | apply g_partMB rfl rfl rfl | fail) | refine s_k (hnx) ?_ | refine s_c (htk) (fun _ _ => ?_))
        | refine gS ?_ | exact s_m | intro _)
      dsimp only [List.cons_append, List.nil_append, List.append_eq]
      refine g_pile (n := 1) (by (repeat (first | exact Sel.here | apply Sel.there)); first | done | fail) (by (repeat (first | exact Sel.here | apply Sel.there)); first | done | fail) (fun H2 hs2 hS2 => ?_)
      refine g_pile (n := 6) (by (repeat (first | exact Sel.here | apply Sel.there)); first | done | fail) (by (repeat (first | exact Sel.here | apply Sel.there)); first | done | fail) (fun H3 hs3 hS3 => ?_)
      exact gR (H3, ⟨if P = true then 6 else 5, false, 0, ByteArray.empty, kq, ks.length, kc, q, us.length, c2⟩) ⟨(hs1.trans hs2).trans hs3, fin H2 H3 hs2 hs3 hS2 hS3⟩
    obtain ⟨hok1, hok2⟩ := hok hbb
    rw [lsD_go (fun h => h.elim (fun h => by rw [hbb] at h; cases h) hsh)]
    have hsh' : ¬ (nx L σ).toNat = (shutC P).toNat := fun e => hsh (UInt8.toNat_inj.1 e)
    repeat (first
      | (refine g_ops ?_; first | refine sO ?_ | refine s_n (fun _ => ?_) | refine s_app (fun _ _ => ?_) | refine s_b0 (fun _ => ?_) | ((fail_if_success refine g_lit rfl rfl rfl ?_); first | apply g_partM rfl rfl rfl | apply g_partMB rfl rfl rfl | fail) | refine s_k (hnx) ?_)
      | refine gS ?_ | exact s_m | intro _)
    refine g_as 94 (v' := .bool true) rfl (congrArg Value.bool (decide_eq_true (by omega))) ?_
    obtain ⟨c1, c2', c3⟩ := commaA L acc.length σ hat (fun _ => hok2)
    have hcm := takes_ b L (by omega) 44 σ hat
    repeat (first
      | (refine g_ops ?_; first | refine sO ?_ | refine s_n (fun _ => ?_) | refine s_app (fun _ _ => ?_) | refine s_b0 (fun _ => ?_) | ((fail_if_success refine g_lit rfl rfl rfl ?_); first | apply g_partM rfl rfl rfl | apply g_partMB rfl rfl rfl | fail) | refine s_k (hnx) ?_)
      | refine gS ?_ | exact s_m | intro _)
    refine g_cutX (X := Unit) (fun _ => [(0, ptr b), (1, int lv), (4, ptr rb), (6, ptr vb), (7, u8v (shutC P))]) (fun _ => [rdD b L (comma L acc.length σ), .row rb [int 0, .bool false, int 0, .string ByteArray.empty, .slice none 0 0, .slice none 0 0] 40, .row vb [int (if P = true then 6 else 5), .bool false, int 0, .string ByteArray.empty, .slice kq ks.length kc, .slice q us.length c2] 40, .own kq ks.length kc 1 (ks.map .string) 9, .own q us.length c2 6 (us.flatMap Vc.cells) 40, Pile H1]) (fun _ => True) ?_ (fun _ _ => ?_)
    · unfold comma
      refine g_cond_dec rfl (fun h2 => ?_) (fun h2 => ?_)
      · rw [if_pos (show 0 < acc.length by omega)]
        repeat (first
          | (refine g_ops ?_; first | refine sO ?_ | refine s_n (fun _ => ?_) | refine s_app (fun _ _ => ?_) | refine s_b0 (fun _ => ?_) | ((fail_if_success refine g_lit rfl rfl rfl ?_); first | apply g_partM rfl rfl rfl | apply g_partMB rfl rfl rfl | fail) | refine s_c (hcm) (fun _ _ => ?_))
          | refine gS ?_ | exact s_m | intro _)
        exact gM () trivial
      · rw [if_neg (show ¬ 0 < acc.length by omega)]
        repeat (first
          | (refine g_ops ?_; first | refine sO ?_ | refine s_n (fun _ => ?_) | refine s_app (fun _ _ => ?_) | refine s_b0 (fun _ => ?_) | ((fail_if_success refine g_lit rfl rfl rfl ?_); first | apply g_partM rfl rfl rfl | apply g_partMB rfl rfl rfl | fail))
          | refine gS ?_ | exact s_m | intro _)
        exact gM () trivial
    generalize comma L acc.length σ = κ at c1 c2' c3 ⊢
    clear hcm htk hnx hsh hsh' h8 h9
    obtain ⟨k1, k2, k3⟩ := keyA L P κ c1 (fun hb => (c3 hb).2)
    obtain ⟨q1, q2, q3, q4⟩ := quotedA L κ c1
    have hq := quoted_ H1 b L hL κ c1
    have hcl := takes_ b L (by omega) 58 _ q1
    repeat (first | (refine g_ops ?_; first | refine sO ?_) | refine gS ?_ | refine g_seq ?_ | refine g_region ?_ | refine g_nil ?_ | refine g_then_normal ?_ | intro _)
    refine g_cutX (X := Option Addr × Nat) (fun _ => [(0, ptr b), (1, int lv), (4, ptr rb), (6, ptr vb), (7, u8v (shutC P))]) (fun z => [rdD b L (keyD L P κ), .row rb [int 0, .bool false, int 0, .string ByteArray.empty, .slice none 0 0, .slice none 0 0] 40, .row vb [int (if P = true then 6 else 5), .bool false, int 0, .string ByteArray.empty, .slice z.1 (if P = true then ks ++ [(quotedT L κ).1] else ks).length z.2, .slice q us.length c2] 40, .own z.1 (if P = true then ks ++ [(quotedT L κ).1] else ks).length z.2 1 ((if P = true then ks ++ [(quotedT L κ).1] else ks).map .string) 9, .own q us.length c2 6 (us.flatMap Vc.cells) 40, Pile H1]) (fun _ => True) ?_ (fun z _ => ?_)
    · unfold keyD
      cases P
      · rw [if_neg Bool.false_ne_true, if_neg Bool.false_ne_true, if_neg Bool.false_ne_true]
        refine g_as 103 (v' := .bool false) rfl rfl ?_
        repeat (first
          | (refine g_ops ?_; first | refine sO ?_ | refine s_n (fun _ => ?_) | refine s_app (fun _ _ => ?_) | refine s_b0 (fun _ => ?_) | ((fail_if_success refine g_lit rfl rfl rfl ?_); first | apply g_partM rfl rfl rfl | apply g_partMB rfl rfl rfl | fail))
          | refine gS ?_ | exact s_m | intro _)
        exact gM (kq, kc) trivial
      · rw [if_pos rfl, if_pos rfl, if_pos rfl]
        refine g_as 103 (v' := .bool true) rfl rfl ?_
        repeat (first | refine gS ?_ | refine g_cond_true rfl ?_)
        refine g_draw (.take 0 (.see 1 [5,6,7] (.take 2 (.one 3 (.one 4 (.one 5 (.take 6 (.thaw 7 .done)))))))) (by kernel_rfl) (C := [.row vb [int 6, .bool false, int 0, .string ByteArray.empty, .slice kq ks.length kc, .slice q us.length c2] 40]) (by (repeat (first | exact Take.nil | apply Take.cons | exact Sel.here | apply Sel.there)); first | done | fail) (fun m hd hk => ?_)
        repeat (first
          | (refine gp_take ?_; first | refine pT ?_ | ((fail_if_success refine gp_lit rfl rfl rfl rfl ?_); first | apply gp_guard_dec rfl rfl rfl rfl | apply gp_guard rfl rfl rfl rfl | fail))
          | (refine gp_see ?_; first | refine p_f ?_ | refine pS ?_ | ((fail_if_success refine gp_lit rfl rfl rfl rfl ?_); first | apply gp_guard_dec rfl rfl rfl rfl | apply gp_guard rfl rfl rfl rfl | fail))
          | (refine gp_one ?_; first | refine pO ?_ | refine p_n (fun _ => ?_) | refine p_app (fun _ _ => ?_) | refine p_b0 (fun _ => ?_) | ((fail_if_success refine gp_lit rfl rfl rfl rfl ?_); first | apply gp_guard_dec rfl rfl rfl rfl | apply gp_guard rfl rfl rfl rfl | fail) | refine p_c (hq) (fun _ _ => ?_))
          | refine gp_two ?_ ?_ | refine gp_done hd hk ?_ | intro _ | refine p_ta hd hk (fun _ _ _ hd hk => ?_) | refine p_ts hd hk (fun _ hd hk => ?_))
        rename_i q' c' _
        rw [show ks.length + 1 = (ks ++ [(quotedT L κ).1]).length by simp, show ks.map Value.string ++ [Value.string (quotedT L κ).1] = (ks ++ [(quotedT L κ).1]).map Value.string by simp]
        repeat (first
          | (refine g_ops ?_; first | refine sO ?_ | refine s_n (fun _ => ?_) | refine s_app (fun _ _ => ?_) | refine s_b0 (fun _ => ?_) | ((fail_if_success refine g_lit rfl rfl rfl ?_); first | apply g_partM rfl rfl rfl | apply g_partMB rfl rfl rfl | fail) | refine s_c (hcl) (fun _ _ => ?_))
          | refine gS ?_ | exact s_m | intro _)
        exact gM (q', c') trivial
    obtain ⟨kq', kc'⟩ := z
    dsimp only
    have hkl' : (if P = true then ks ++ [(quotedT L κ).1] else ks).length ≤ acc.length + 1 := by
      split
      · rw [List.length_append, List.length_singleton]; omega
      · omega
    have hkz' : ∀ s ∈ (if P = true then ks ++ [(quotedT L κ).1] else ks), s.size ≤ L.length := by
      split
      · intro s hs
        rcases List.mem_append.1 hs with h | h
        · exact hkz s h
        · rw [List.mem_singleton] at h; rw [h]; exact q4
      · exact hkz
    generalize (if P = true then ks ++ [(quotedT L κ).1] else ks) = ks' at hkl' hkz' ⊢
    have kn : (keyD L P κ).n = σ.n := k2.trans c2'
    have hc := hvf H1 b (lv + 1) (keyD L P κ) k1 (fun hb => (k3 hb).2) (by rw [kn]; exact hok1) (by omega) (by rw [kn]; omega)
    obtain ⟨v1, v2, _, _⟩ := (fineD L f).1 (lv + 1) (keyD L P κ) k1 (fun hb => (k3 hb).2) (by rw [kn]; exact hok1)
    rw [kn] at v2
    generalize valD L f (lv + 1) (keyD L P κ) = r at hc v1 v2 ⊢
    generalize keyD L P κ = ρ at hc ⊢
    unfold VdD at hc
    rw [show ((lv + 1 : Nat) : Int) = (lv : Int) + 1 by push_cast; rfl] at hc
    repeat (first | refine gS ?_ | refine g_cond_true rfl ?_)
    refine g_draw (.take 0 (.see 1 [7,8,9] (.take 2 (.take 3 (.take 4 (.one 5 (.one 6 (.one 7 (.take 8 (.thaw 9 .done)))))))))) (by kernel_rfl) (C := [.row vb [int (if P = true then 6 else 5), .bool false, int 0, .string ByteArray.empty, .slice kq' ks'.length kc', .slice q us.length c2] 40]) (by (repeat (first | exact Take.nil | apply Take.cons | exact Sel.here | apply Sel.there)); first | done | fail) (fun m hd hk => ?_)
    repeat (first
      | (refine gp_take ?_; first | refine pT ?_ | ((fail_if_success refine gp_lit rfl rfl rfl rfl ?_); first | apply gp_guard_dec rfl rfl rfl rfl | apply gp_guard rfl rfl rfl rfl | fail))
      | (refine gp_see ?_; first | refine p_f ?_ | refine pS ?_ | ((fail_if_success refine gp_lit rfl rfl rfl rfl ?_); first | apply gp_guard_dec rfl rfl rfl rfl | apply gp_guard rfl rfl rfl rfl | fail))
      | (refine gp_one ?_; first | refine pO ?_ | refine p_n (fun _ => ?_) | refine p_app (fun _ _ => ?_) | refine p_b0 (fun _ => ?_) | ((fail_if_success refine gp_lit rfl rfl rfl rfl ?_); first | apply gp_guard_dec rfl rfl rfl rfl | apply gp_guard rfl rfl rfl rfl | fail) | refine p_c (hc) (fun _ _ => ?_))
      | refine gp_two ?_ ?_ | refine gp_done hd hk ?_ | intro _ | refine p_ta hd hk (fun _ _ _ hd hk => ?_) | refine p_ts hd hk (fun _ hd hk => ?_))
    rename_i y hy _ q' c' _
    obtain ⟨H2, u⟩ := y
    obtain ⟨hs2, hu⟩ := hy
    dsimp only [List.cons_append, List.nil_append, List.append_eq] at hs2 hu ⊢
    rw [show us.length + 1 = (us ++ [u]).length by simp, show us.flatMap Vc.cells ++ [.int .i64 u.k, .bool u.y, .int .i64 u.n, .string u.s, .slice u.kp u.kn u.kc, .slice u.p u.m u.c] = (us ++ [u]).flatMap Vc.cells by simp [Vc.cells]]
    repeat (first
      | (refine g_ops ?_; first | refine sO ?_ | refine s_n (fun _ => ?_) | refine s_app (fun _ _ => ?_) | refine s_b0 (fun _ => ?_) | ((fail_if_success refine g_lit rfl rfl rfl ?_); first | apply g_partM rfl rfl rfl | apply g_partMB rfl rfl rfl | fail))
      | refine gS ?_ | exact s_m | intro _)
    refine gA ⟨f, ks', acc ++ [r.1], r.2, kq', kc', q', c', us ++ [u], H2⟩ (by simp only; omega) ⟨rfl, by dsimp only; omega, v1.at_, v1.m, v1.ok, by dsimp only; omega, by simp [hul], by dsimp only; rw [List.length_append, List.length_singleton]; omega, by dsimp only; rw [List.length_append, List.length_singleton]; omega, hkz', hs1.trans hs2, vats_snoc hs2 hul hvs hu⟩
theorem valD_ (L : List UInt8) (hL : L.length ≤ 100000000) (F : Nat) : ValDC L F := by
  induction F using Nat.strongRecOn with
  | _ F ih => exact valueD_ L hL F ih
end Go.Proofs.YtaahibcibgljbaaGreatDoor

namespace Go.Proofs.YtaahibcibgljbaaGreatDoor
open Go.Sl
def QD (L : List UInt8) (j : Nat) (R : Nat × Bool) : Prop := ∀ F, L.length < j + F → qd L F j = R
theorem drop_head {L : List UInt8} {j : Nat} {c : UInt8} {r : List UInt8} (h : L.drop j = c :: r) : j < L.length ∧ L.getD j 0 = c ∧ L.length = j + 1 + r.length := by
  have hl := congrArg List.length h
  rw [List.length_drop, List.length_cons] at hl
  have := drop_end L j (by omega)
  rw [h] at this
  exact ⟨by omega, this.symm, by omega⟩
theorem QD_end {L : List UInt8} {j : Nat} {r : List UInt8} (h : L.drop j = 34 :: r) : QD L j (j, false) := fun F hF => by
  obtain ⟨h1, h2, h3⟩ := drop_head h
  obtain ⟨F, rfl⟩ : ∃ F', F = F' + 1 := ⟨F - 1, by omega⟩
  rw [qd, if_pos ⟨h1, h2⟩]
theorem QD_esc {L : List UInt8} {j : Nat} {c d : UInt8} {r : List UInt8} {R : Nat × Bool} (h : L.drop j = 92 :: c :: d :: r) (k : QD L (j + 2) R) : QD L j R := fun F hF => by
  obtain ⟨h1, h2, h3⟩ := drop_head h
  simp only [List.length_cons] at h3
  obtain ⟨F, rfl⟩ : ∃ F', F = F' + 1 := ⟨F - 1, by omega⟩
  have hs : (if j < L.length ∧ L.getD j 0 = 92 then 2 else 1) = 2 := if_pos ⟨h1, h2⟩
  rw [qd, hs, if_neg (fun hh => by rw [h2] at hh; exact absurd hh.2 (by decide)), if_neg (by omega)]
  exact k F (by omega)
theorem QD_one {L : List UInt8} {j : Nat} {c d : UInt8} {r : List UInt8} {R : Nat × Bool} (h : L.drop j = c :: d :: r) (c1 : c.toNat ≠ 34) (c2 : c.toNat ≠ 92) (k : QD L (j + 1) R) : QD L j R := fun F hF => by
  obtain ⟨h1, h2, h3⟩ := drop_head h
  simp only [List.length_cons] at h3
  obtain ⟨F, rfl⟩ : ∃ F', F = F' + 1 := ⟨F - 1, by omega⟩
  have hs : (if j < L.length ∧ L.getD j 0 = 92 then 2 else 1) = 1 := if_neg (fun hh => c2 (by rw [← h2, hh.2]; rfl))
  rw [qd, hs, if_neg (fun hh => c1 (by rw [← h2, hh.2]; rfl)), if_neg (by omega)]
  exact k F (by omega)
theorem QD_all {L : List UInt8} {d : UInt8} {r : List UInt8} {R : Nat × Bool} : ∀ (m : List UInt8) (j : Nat), L.drop j = m ++ d :: r → (∀ c ∈ m, c.toNat ≠ 34 ∧ c.toNat ≠ 92) → QD L (j + m.length) R → QD L j R
  | [], j, _, _, k => k
  | c :: m, j, h, hc, k => by
    have h1 := hc c (List.mem_cons_self ..)
    have hd : L.drop (j + 1) = m ++ d :: r := drop_more (a := [c]) h
    have ih := QD_all m (j + 1) hd (fun x hx => hc x (List.mem_cons_of_mem _ hx)) (by rw [show j + 1 + m.length = j + (c :: m).length by simp; omega]; exact k)
    cases m with
    | nil => exact QD_one (L := L) (d := d) (r := r) h h1.1 h1.2 ih
    | cons e m => exact QD_one (L := L) (d := e) (r := m ++ d :: r) h h1.1 h1.2 ih
theorem QD_rune (s : ByteArray) (k : Nat) (h : k < s.size) {L : List UInt8} {j : Nat} {d : UInt8} {r : List UInt8} {R : Nat × Bool} (hd : L.drop j = qR s k ++ d :: r) (hk : QD L (j + (qR s k).length) R) : QD L j R := by
  have h8 := (at8 s k).toNat_lt
  have hone : (at8 s k).toNat < 128 → (s.data.toList.drop k).take (Utf8.decode s k).2 = [at8 s k] := fun ha => rune_one s k h (by rw [decode_at h ha])
  rw [qR_doc s k h] at hd hk
  split at hd
  · rename_i h1; rw [if_pos h1] at hk; exact QD_esc hd hk
  rename_i h1
  rw [if_neg h1] at hk
  split at hd
  · rename_i h2; rw [if_pos h2] at hk; exact QD_esc hd hk
  rename_i h2
  rw [if_neg h2] at hk
  split at hd
  · rename_i h3; rw [if_pos h3] at hk; exact QD_esc hd hk
  rename_i h3
  rw [if_neg h3] at hk
  split at hd
  · rename_i h4
    rw [if_pos h4] at hk
    have e1 := hex_ne ((at8 s k).toNat / 16) (by omega)
    have e2 := hex_ne ((at8 s k).toNat % 16) (by omega)
    have hd2 : L.drop (j + 2) = hexB ((at8 s k).toNat / 16) :: hexB ((at8 s k).toNat % 16) :: d :: r := drop_more (a := [92, 120]) hd
    have hd3 : L.drop (j + 2 + 1) = hexB ((at8 s k).toNat % 16) :: d :: r := drop_more (a := [_]) hd2
    exact QD_esc hd (QD_one hd2 e1.1 e1.2 (QD_one hd3 e2.1 e2.2 hk))
  · rename_i h4
    rw [if_neg h4] at hk
    refine QD_all _ j hd (fun c hc => ?_) hk
    by_cases ha : (at8 s k).toNat < 128
    · rw [hone ha, List.mem_singleton] at hc
      rw [hc]; exact ⟨h1, h2⟩
    · have := rune_bytes s k h ha c hc
      omega
theorem QD_run (s : ByteArray) (L : List UInt8) (r : List UInt8) : ∀ f k j, s.size ≤ k + f → k ≤ s.size → L.drop j = qF s f k ++ 34 :: r → QD L j (j + (qF s f k).length, false)
  | f, k, j, hf, hk, hd => by
    by_cases h : k < s.size
    · obtain ⟨f, rfl⟩ : ∃ f', f = f' + 1 := ⟨f - 1, by omega⟩
      have hw := Lib.decode_width_pos s k h
      have hin := decode_in s k h
      rw [qF_go s f k h] at hd ⊢
      rw [List.append_assoc] at hd
      have ih := QD_run s L r f _ _ (by omega) hin (drop_more hd)
      rw [List.length_append, ← Nat.add_assoc]
      cases hq : qF s f (k + (Utf8.decode s k).2) with
      | nil => rw [hq] at hd ih; exact QD_rune s k h hd ih
      | cons e m => rw [hq] at hd ih; exact QD_rune s k h (d := e) (r := m ++ 34 :: r) hd ih
    · rw [qF_end s f k h] at hd ⊢
      exact QD_end hd
theorem tk_yes {L : List UInt8} {i n : Nat} {c : UInt8} {r : List UInt8} (h : L.drop i = c :: r) : tk L c ⟨i, n, false⟩ = ⟨i + 1, n, false⟩ := by
  unfold tk
  rw [if_pos (by rw [isT_of h]; exact decide_eq_true rfl)]; rfl
theorem quotedT_quote {L : List UInt8} {s : ByteArray} {r : List UInt8} {i n : Nat} (h : L.drop i = quoteL s ++ r) : quotedT L ⟨i, n, false⟩ = (s, ⟨i + (quoteL s).length, n, false⟩) := by
  have e : L.drop i = 34 :: (qF s s.size 0 ++ 34 :: r) := by rw [h]; unfold quoteL; simp
  have el : (quoteL s).length = (qF s s.size 0).length + 2 := by unfold quoteL; simp
  have h1 : L.drop (i + 1) = qF s s.size 0 ++ 34 :: r := drop_more (a := [34]) e
  have h2 : L.drop (i + 1 + (qF s s.size 0).length) = 34 :: r := drop_more h1
  have hq := QD_run s L r s.size 0 (i + 1) (by omega) (Nat.zero_le _) h1 (L.length + 1) (by omega)
  have e1 : qt L ⟨i, n, false⟩ = ⟨i + 1 + (qF s s.size 0).length, n, false⟩ := by
    unfold qt
    rw [tk_yes e, if_neg Bool.false_ne_true]
    dsimp only
    rw [hq]
  unfold quotedT
  rw [e1, tk_yes h2, if_neg Bool.false_ne_true]
  dsimp only
  rw [h, show i + 1 + (qF s s.size 0).length + 1 - i = (quoteL s).length by omega, List.take_left' rfl, unqS_quote, show i + 1 + (qF s s.size 0).length + 1 = i + (quoteL s).length by omega]
  rfl
def digV (l : List UInt8) (a : Nat) : Nat := l.foldl (fun u c => (u * 10 + (c.toNat - 48)) % 18446744073709551616) a
theorem dgF_all : ∀ (m r : List UInt8) (f a : Nat), (∀ c ∈ m, 48 ≤ c.toNat ∧ c.toNat ≤ 57) → m.length ≤ f → stop r → dgF (m ++ r) f a = (m.length, digV m a)
  | [], r, f, a, _, _, hr => by
    rw [List.nil_append]
    cases r with
    | nil => rw [dgF]; rfl
    | cons c r =>
      cases f with
      | zero => rfl
      | succ f =>
        have hc := hr c rfl
        rw [dgF, if_neg (fun h => by unfold numC at hc; rw [decide_eq_true (.inr h)] at hc; cases hc)]; rfl
  | c :: m, r, f, a, h, hf, hr => by
    obtain ⟨f, rfl⟩ : ∃ f', f = f' + 1 := ⟨f - 1, by simp at hf; omega⟩
    rw [List.cons_append, dgF, if_pos (h c (List.mem_cons_self ..)), dgF_all m r f _ (fun d hd => h d (List.mem_cons_of_mem _ hd)) (by simp at hf; omega) hr, List.length_cons]; rfl
theorem digV_dec : ∀ u : Nat, u < 18446744073709551616 → digV (Lib.decDigits u) 0 = u := by
  intro u
  induction u using Nat.strongRecOn with
  | _ u ih =>
    intro hu
    by_cases h : u < 10
    · rw [Lib.decDigits_one h]
      unfold digV
      rw [List.foldl_cons, List.foldl_nil, dig_toNat u h]; omega
    · have := ih (u / 10) (by omega) (by omega)
      rw [decDigits_snoc h]
      unfold digV at this ⊢
      rw [List.foldl_append, this, List.foldl_cons, List.foldl_nil, dig_toNat _ (by omega)]; omega
theorem numberT_dec {L : List UInt8} {m : Int} {r : List UInt8} {i n : Nat} (hm : inI m) (h : L.drop i = decI m ++ r) (hr : stop r) : numberT L ⟨i, n, false⟩ = (m, ⟨i + (decI m).length, n, false⟩) := by
  have hl := decI_len20 m hm
  unfold inI at hm
  by_cases h0 : m < 0
  · have e : decI m = 45 :: Lib.decDigits m.natAbs := if_pos h0
    rw [e] at h hl ⊢
    obtain ⟨h1, h2, h3⟩ := drop_head (show L.drop i = 45 :: (Lib.decDigits m.natAbs ++ r) from h)
    have hd : L.drop (i + 1) = Lib.decDigits m.natAbs ++ r := drop_more (a := [45]) h
    have hs : sgn L i = 1 := if_pos h2
    have hv : numN true m.natAbs = m := by
      unfold numN
      rw [if_pos rfl, i64w, i64w]; omega
    unfold numberT
    dsimp only
    rw [hs, hd, dgF_all _ r 20 0 (dec_num _) (by simp at hl; omega) hr, digV_dec _ (by omega), h2, decide_eq_true rfl, hv, h, e]
    dsimp only
    rw [show 1 + (Lib.decDigits m.natAbs).length = (45 :: Lib.decDigits m.natAbs).length by simp; omega, List.take_left' rfl, show i + 1 + (Lib.decDigits m.natAbs).length = i + (45 :: Lib.decDigits m.natAbs).length by simp; omega]
    simp
  · have e : decI m = Lib.decDigits m.toNat := if_neg h0
    rw [e] at h hl ⊢
    have hn := dec_num m.toNat
    have hne : L.getD i 0 ≠ 45 := by
      cases hdd : Lib.decDigits m.toNat with
      | nil => exact absurd hdd (dec_ne _)
      | cons c r' =>
        rw [hdd] at h
        obtain ⟨_, h2, _⟩ := drop_head (show L.drop i = c :: (r' ++ r) from h)
        rw [h2]
        have := hn c (by rw [hdd]; exact List.mem_cons_self ..)
        exact fun h => by rw [h] at this; exact absurd this.1 (by decide)
    have hs : sgn L i = 0 := if_neg hne
    have hv : numN false m.toNat = m := by
      unfold numN
      rw [if_neg (by decide), i64w]; omega
    unfold numberT
    dsimp only
    rw [hs, Nat.add_zero, Nat.sub_zero, Nat.zero_add, h, dgF_all _ r 21 0 hn (by omega) hr, digV_dec _ (by omega), decide_eq_false hne, hv, e]
    dsimp only
    rw [List.take_left' rfl]
    simp
end Go.Proofs.YtaahibcibgljbaaGreatDoor
