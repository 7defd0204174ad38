/- Contracts and laws that the proof stands on. -/
import Derived.Test.YtpilcncdgjnbeaaDoorValueNumbers20
set_option linter.unusedSimpArgs false
set_option linter.unusedVariables false
namespace Go.Proofs.YtpilcncdgjnbeaaDoor
open Go.Sl facts
def lf (p n : Int) : Int := if p.tmod n < 0 then p.tmod n + n else p.tmod n
theorem lf_in (p n : Int) (h : 0 < n) : 0 ≤ lf p n ∧ lf p n < n := by
  unfold lf
  have h1 := Int.tmod_lt_of_pos p h
  have h2 : -n < p.tmod n := by
    have := Int.tmod_lt_of_pos (-p) h
    rw [Int.neg_tmod] at this
    omega
  split <;> omega
def lastN (l : List UInt8) : Prop := ∃ r c, l = r ++ [c] ∧ c ≠ 44
theorem lastN.app {a b : List UInt8} (h : lastN b) : lastN (a ++ b) := by
  obtain ⟨r, c, e, hc⟩ := h
  exact ⟨a ++ r, c, by rw [e, List.append_assoc], hc⟩
theorem dec_last (u : Nat) : lastN (Lib.decDigits u) := by
  have h := dec_num u
  rcases List.eq_nil_or_concat (Lib.decDigits u) with e | ⟨r, c, e⟩
  · exact absurd e (dec_ne u)
  · rw [List.concat_eq_append] at e
    refine ⟨r, c, e, fun hc => ?_⟩
    have := h c (by rw [e]; simp)
    rw [hc] at this
    exact absurd this (by decide)
theorem text_last (v : V) : lastN (textL v) := by
  obtain ⟨k, y, n, s, ks, l⟩ := v
  rw [textL_mk]
  split
  · exact ⟨[110, 105], 108, rfl, by decide⟩
  split
  · unfold boolL
    split
    · exact ⟨[116, 114, 117], 101, rfl, by decide⟩
    · exact ⟨[102, 97, 108, 115], 101, rfl, by decide⟩
  split
  · unfold decI
    split
    · exact lastN.app (a := [45]) (dec_last _)
    · exact dec_last _
  split
  · unfold quoteL
    exact ⟨34 :: qF s s.size 0, 34, rfl, by decide⟩
  split
  · exact ⟨91 :: textK false true ks l, 93, rfl, by decide⟩
  · exact ⟨123 :: (if k = 6 then textK true true ks l else []), 125, rfl, by decide⟩
theorem textK_last : ∀ (l : List V) (first : Bool) (ks : List ByteArray), l ≠ [] → lastN (textK false first ks l)
  | [], _, _, h => absurd rfl h
  | [x], first, ks, _ => by
    rw [textK_cons, textK_nil, List.append_nil]
    exact ((text_last x).app).app
  | x :: y :: l, first, ks, _ => by
    rw [textK_cons]
    exact (((textK_last (y :: l) false ks.tail (by simp)).app).app).app
theorem dec_zero : ∀ (u : Nat) (r : List UInt8), Lib.decDigits u = 48 :: r → r = [] ∧ u = 0 := by
  intro u
  induction u using Nat.strongRecOn with
  | _ u ih =>
    intro r h
    by_cases hu : u < 10
    · rw [Lib.decDigits_one hu] at h
      injection h with h1 h2
      have := congrArg UInt8.toNat h1
      rw [dig_toNat u hu] at this
      have e : (48 : UInt8).toNat = 48 := rfl
      exact ⟨h2.symm, by omega⟩
    · rw [decDigits_snoc hu] at h
      cases hd : Lib.decDigits (u / 10) with
      | nil => exact absurd hd (dec_ne _)
      | cons c r' =>
        rw [hd] at h
        injection h with h1 h2
        subst h1
        have := (ih (u / 10) (by omega) r' hd).2
        omega
theorem num_of {v : V} {c : UInt8} {r : List UInt8} (hk : 1 ≤ v.kind ∧ v.kind ≤ 6) (hc : numC c = true) (h : textL v = c :: r) : textL v = decI v.n := by
  obtain ⟨k, y, n, s, ks, l⟩ := v
  have hk : 1 ≤ k ∧ k ≤ 6 := hk
  rw [textL_mk] at h ⊢
  have nc : ∀ d : UInt8, numC d = false → c ≠ d := fun d hd e => by rw [e, hd] at hc; cases hc
  by_cases e1 : k = 1
  · rw [if_pos e1] at h; injection h with h _; exact absurd h.symm (nc _ (by decide))
  rw [if_neg e1] at h ⊢
  by_cases e2 : k = 2
  · rw [if_pos e2] at h
    unfold boolL at h
    split at h
    · injection h with h _; exact absurd h.symm (nc _ (by decide))
    · injection h with h _; exact absurd h.symm (nc _ (by decide))
  rw [if_neg e2] at h ⊢
  by_cases e3 : k = 3
  · rw [if_pos e3]; rfl
  rw [if_neg e3] at h
  by_cases e4 : k = 4
  · rw [if_pos e4] at h; unfold quoteL at h; injection h with h _; exact absurd h.symm (nc _ (by decide))
  rw [if_neg e4] at h
  by_cases e5 : k = 5
  · rw [if_pos e5] at h; injection h with h _; exact absurd h.symm (nc _ (by decide))
  rw [if_neg e5] at h
  injection h with h _; exact absurd h.symm (nc _ (by decide))
theorem kind_of {v : V} (h : (weigh v 0 0).1 = 0) : 1 ≤ v.kind ∧ v.kind ≤ 6 := by
  obtain ⟨k, y, n, s, ks, l⟩ := v
  obtain ⟨h1, h2, _⟩ := weigh_kind h
  exact ⟨h1, h2⟩
theorem head_of {v : V} {c : UInt8} {r : List UInt8} (hk : 1 ≤ v.kind ∧ v.kind ≤ 6) (h : textL v = c :: r) : numC c = true ∨ c = 110 ∨ c = 116 ∨ c = 102 ∨ c = 34 ∨ c = 91 ∨ c = 123 := by
  obtain ⟨k, y, n, s, ks, l⟩ := v
  rw [textL_mk] at h
  split at h
  · injection h with h _; exact .inr (.inl h.symm)
  split at h
  · unfold boolL at h
    split at h
    · injection h with h _; exact .inr (.inr (.inl h.symm))
    · injection h with h _; exact .inr (.inr (.inr (.inl h.symm)))
  split at h
  · exact .inl (decI_num n c (by rw [h]; exact List.mem_cons_self ..))
  split at h
  · unfold quoteL at h; injection h with h _; exact .inr (.inr (.inr (.inr (.inl h.symm))))
  split at h
  · injection h with h _; exact .inr (.inr (.inr (.inr (.inr (.inl h.symm)))))
  · injection h with h _; exact .inr (.inr (.inr (.inr (.inr (.inr h.symm)))))
theorem no_value {L : List UInt8} (h : ∀ v : V, (1 ≤ v.kind ∧ v.kind ≤ 6) → textL v ≠ L) : parsP L = none := by
  cases hp : parsP L with
  | none => rfl
  | some v =>
    obtain ⟨h1, h2, _⟩ := parsP_some hp
    exact absurd h2 (h v (kind_of h1))
theorem no_num {L : List UInt8} {c d : UInt8} {r : List UInt8} (h : L = c :: r) (hc : numC c = true) (hd : d ∈ L) (hn : numC d = false) : parsP L = none := no_value fun v hk e => by
  rw [h] at e
  have := num_of hk hc e
  rw [e, ← h] at this
  have := decI_num v.n d (by rw [← this]; exact hd)
  rw [hn] at this
  cases this
theorem no_head {L : List UInt8} {c : UInt8} {r : List UInt8} (h : L = c :: r) (hc : c = 43 ∨ c = 32) : parsP L = none := no_value fun v hk e => by
  rw [h] at e
  have := head_of hk e
  rcases hc with rfl | rfl <;> exact absurd this (by decide)
theorem bad0 (n : Int) : parsP ([48] ++ decI n) = none := no_value fun v hk e => by
  have h1 : textL v = 48 :: decI n := e
  have h2 := num_of hk (by decide) h1
  rw [h1] at h2
  obtain ⟨c, r, e3, _⟩ := decI_head n
  rw [e3] at h2
  unfold decI at h2
  split at h2
  · injection h2 with h2 _; exact absurd h2 (by decide)
  · have := (dec_zero _ _ h2.symm).1
    cases this
theorem bad5 (n : Int) : parsP ([45, 45] ++ decI n) = none := no_value fun v hk e => by
  have h1 : textL v = 45 :: 45 :: decI n := e
  have h2 := num_of hk (by decide) h1
  rw [h1] at h2
  generalize decI n = t at h2
  unfold decI at h2
  split at h2
  · injection h2 with _ h2
    have := dec_num v.n.natAbs 45 (by rw [← h2]; exact List.mem_cons_self ..)
    exact absurd this (by decide)
  · have := dec_num v.n.toNat 45 (by rw [← h2]; exact List.mem_cons_self ..)
    exact absurd this (by decide)
theorem bad7 (n : Int) : parsP (([91] ++ decI n) ++ [44, 93]) = none := no_value fun v hk e => by
  obtain ⟨k, y, m, s, ks, l⟩ := v
  have h1 : textL (.mk k y m s ks l) = 91 :: (decI n ++ [44, 93]) := by rw [e]; simp
  rw [textL_mk] at h1
  split at h1
  · injection h1 with h _; exact absurd h (by decide)
  split at h1
  · unfold boolL at h1
    split at h1
    · injection h1 with h _; exact absurd h (by decide)
    · injection h1 with h _; exact absurd h (by decide)
  split at h1
  · have := decI_num m 91 (by rw [h1]; exact List.mem_cons_self ..)
    exact absurd this (by decide)
  split at h1
  · unfold quoteL at h1; injection h1 with h _; exact absurd h (by decide)
  split at h1
  · injection h1 with _ h1
    have h2 : textK false true ks l ++ [93] = (decI n ++ [44]) ++ [93] := by rw [h1]; simp
    have h3 := List.append_cancel_right h2
    by_cases hl : l = []
    · subst hl
      rw [textK_nil] at h3
      have := congrArg List.length h3
      simp at this
    · obtain ⟨r, c, e2, hc⟩ := textK_last l true ks hl
      rw [e2] at h3
      have := List.append_inj_right' h3 rfl
      injection this with this _
      exact hc this
  · injection h1 with h _; exact absurd h (by decide)
theorem bad_all (n : Int) : ∀ L ∈ [[48] ++ decI n, [43] ++ decI n, decI n ++ [46, 48], [32] ++ decI n, decI n ++ [32], [45, 45] ++ decI n, decI n ++ [101, 48], ([91] ++ decI n) ++ [44, 93]], parsP L = none := fun L hL => by
  obtain ⟨c, r, ec, hc⟩ := decI_head n
  simp only [List.mem_cons, List.not_mem_nil, or_false] at hL
  rcases hL with rfl | rfl | rfl | rfl | rfl | rfl | rfl | rfl
  · exact bad0 n
  · exact no_head rfl (.inl rfl)
  · exact no_num (d := 46) (by rw [ec]; rfl) hc (by simp) (by decide)
  · exact no_head rfl (.inr rfl)
  · exact no_num (d := 32) (by rw [ec]; rfl) hc (by simp) (by decide)
  · exact bad5 n
  · exact no_num (d := 101) (by rw [ec]; rfl) hc (by simp) (by decide)
  · exact bad7 n
theorem intV_w (n : Int) : (weigh (intV n) 0 0).1 = 0 := by
  unfold intV
  rw [weigh_mk]; simp
theorem intV_t (n : Int) : textL (intV n) = decI n := by
  unfold intV
  rw [textL_mk]; simp
theorem intV_b (n : Int) : textB (intV n) = txt (decI n) := by
  rw [← intV_t]
  exact if_pos (intV_w n)
theorem intV_n (n : Int) : nrm (intV n) = intV n := by
  unfold intV
  rw [nrm_mk]; simp [intV]
attribute [local irreducible] Code.wp wpList Exit.then Exit.inBlock bodyPost Back MidQ G GP QStep VStep CStep SStep Does Post Reads
theorem round (p n : Int) (h : 0 < n) (hn : n ≤ 1000000000) : Does1 Tryd.prog 30 [int p, int n] [] (int (lf p n)) := by
  have hb := lf_in p n h
  refine fn_intro Tryd.func30 rfl Tryd.ntmps30 rfl (by simp only [argFr, Nat.zero_add, Nat.reduceAdd]; rfl) (fun Γ => ?_)
  repeat (first
    | (refine g_ops ?_; first | refine sO ?_ | refine s_n (fun _ => ?_) | refine s_app (fun _ _ => ?_) | refine s_b0 (fun _ => ?_) | ((fail_if_success refine g_lit rfl rfl rfl ?_); first | apply g_partM rfl rfl rfl | apply g_partMB rfl rfl rfl | fail))
    | refine gS ?_ | exact s_m | intro _)
  refine s_q (q := by exact qs_rem rfl rfl (by omega)) ?_
  repeat (first
    | (refine g_ops ?_; first | refine sO ?_ | refine s_n (fun _ => ?_) | refine s_app (fun _ _ => ?_) | refine s_b0 (fun _ => ?_) | ((fail_if_success refine g_lit rfl rfl rfl ?_); first | apply g_partM rfl rfl rfl | apply g_partMB rfl rfl rfl | fail))
    | refine gS ?_ | exact s_m | intro _)
  refine g_cond_dec rfl (fun h2 => ?_) (fun h2 => ?_)
  · have e : lf p n = p.tmod n + n := if_pos h2
    rw [e] at hb
    repeat (first
      | (refine g_ops ?_; first | refine sO ?_ | refine s_n (fun _ => ?_) | refine s_app (fun _ _ => ?_) | refine s_b0 (fun _ => ?_) | ((fail_if_success refine g_lit rfl rfl rfl ?_); first | apply g_partM rfl rfl rfl | apply g_partMB rfl rfl rfl | fail))
      | refine gS ?_ | exact s_m | intro _)
    exact g_ret () rfl (by (repeat (first | exact RVs.nil | apply RVs.tmp rfl | apply RVs.cellA rfl (by (repeat (first | exact Sel.here | apply Sel.there)); first | done | fail) (by (repeat (first | exact Cut.zero | apply Cut.take | apply Cut.skip)); first | done | fail) | apply RVs.cell1 rfl (by (repeat (first | exact Sel.here | apply Sel.there)); first | done | fail) rfl)); first | done | fail) (by (repeat (first | exact Take.nil | apply Take.cons | exact Sel.here | apply Sel.there)); first | done | fail) (by simp [pack, e]) trivial
  · have e : lf p n = p.tmod n := if_neg h2
    repeat (first
      | (refine g_ops ?_; first | refine sO ?_ | refine s_n (fun _ => ?_) | refine s_app (fun _ _ => ?_) | refine s_b0 (fun _ => ?_) | ((fail_if_success refine g_lit rfl rfl rfl ?_); first | apply g_partM rfl rfl rfl | apply g_partMB rfl rfl rfl | fail))
      | refine gS ?_ | exact s_m | intro _)
    exact g_ret () rfl (by (repeat (first | exact RVs.nil | apply RVs.tmp rfl | apply RVs.cellA rfl (by (repeat (first | exact Sel.here | apply Sel.there)); first | done | fail) (by (repeat (first | exact Cut.zero | apply Cut.take | apply Cut.skip)); first | done | fail) | apply RVs.cell1 rfl (by (repeat (first | exact Sel.here | apply Sel.there)); first | done | fail) rfl)); first | done | fail) (by (repeat (first | exact Take.nil | apply Take.cons | exact Sel.here | apply Sel.there)); first | done | fail) (by simp [pack, e]) trivial
attribute [local irreducible] decI textB
set_option maxHeartbeats 4000000 in
theorem numbers {H : HP} (hT : Tb H) (hE : ErrH H) (n how : Int) (hn : inI n) (hh : inI how) : Does1 Tryd.prog 8 [int n, int how] [Pile H] (.bool true) := by
  have hg : GoodT (intV n) := flatG (by decide) hn
  have hx : TAt H (intV n) (.iface 3 (int n)) := .int hn
  have ht := text1 hT hx hg.2 (by unfold intV; rw [szV_mk, szS_nil, szK_nil]; show 1 + 0 + 0 + 0 ≤ _; decide)
  rw [intV_b] at ht
  have hl := decI_len20 n hn
  have hp1 := parse1 hT hE (decI n) (by omega)
  have hpn : parsP (decI n) = some (intV n) := by
    have := parsP_of (intV_w n) hg
    rwa [intV_t, intV_n] at this
  simp only [hpn] at hp1
  refine fn_intro Tryd.func8 rfl Tryd.ntmps8 rfl (by simp only [argFr, Nat.zero_add, Nat.reduceAdd]; rfl) (fun Γ => ?_)
  repeat (first
    | (refine g_ops ?_; first | refine sO ?_ | refine s_n (fun _ => ?_) | refine s_app (fun _ _ => ?_) | refine s_b0 (fun _ => ?_) | ((fail_if_success refine g_lit rfl rfl rfl ?_); first | apply g_partM rfl rfl rfl | apply g_partMB rfl rfl rfl | fail) | refine s_k (ht) ?_ | refine s_c (hp1) (fun _ _ => ?_))
    | refine gS ?_ | exact s_m | intro _)
  rename_i y hy
  obtain ⟨H2, x⟩ := y
  obtain ⟨hs2, hx2, _⟩ := hy
  dsimp only [List.cons_append, List.nil_append, List.append_eq] at hs2 hx2 ⊢
  have hx3 := hx2 _ rfl
  obtain rfl : x = .iface 3 (int n) := by unfold intV at hx3; cases hx3 with | int h => rfl | other hk => omega
  have hi := int_yes n
  have hlf := lf_in how 8 (by decide)
  have hrd := round how 8 (by decide) (by decide)
  have hba := bad_all n
  obtain ⟨l1, l2⟩ := hl
  generalize decI n = t at l1 l2 hba ⊢
  repeat (first
    | (refine g_ops ?_; first | refine sO ?_ | refine s_n (fun _ => ?_) | refine s_app (fun _ _ => ?_) | refine s_b0 (fun _ => ?_) | ((fail_if_success refine g_lit rfl rfl rfl ?_); first | apply g_partM rfl rfl rfl | apply g_partMB rfl rfl rfl | fail) | refine s_p (hi) ?_)
    | refine gS ?_ | exact s_m | intro _)
  refine g_as 36 (v' := .bool false) rfl (congrArg Value.bool (by simp)) ?_
  repeat (first
    | (refine g_ops ?_; first | refine sO ?_ | refine s_n (fun _ => ?_) | refine s_app (fun _ _ => ?_) | refine s_b0 (fun _ => ?_) | ((fail_if_success refine g_lit rfl rfl rfl ?_); first | apply g_partM rfl rfl rfl | apply g_partMB rfl rfl rfl | fail))
    | refine gS ?_ | exact s_m | intro _)
  refine s_q (q := by exact qs_addT [48] t rfl rfl (by simp only [List.length_singleton]; omega)) ?_
  repeat (first
    | (refine g_ops ?_; first | refine sO ?_ | refine s_n (fun _ => ?_) | refine s_app (fun _ _ => ?_) | refine s_b0 (fun _ => ?_) | ((fail_if_success refine g_lit rfl rfl rfl ?_); first | apply g_partM rfl rfl rfl | apply g_partMB rfl rfl rfl | fail))
    | refine gS ?_ | exact s_m | intro _)
  refine s_q (q := by exact qs_addT [43] t rfl rfl (by simp only [List.length_singleton]; omega)) ?_
  repeat (first
    | (refine g_ops ?_; first | refine sO ?_ | refine s_n (fun _ => ?_) | refine s_app (fun _ _ => ?_) | refine s_b0 (fun _ => ?_) | ((fail_if_success refine g_lit rfl rfl rfl ?_); first | apply g_partM rfl rfl rfl | apply g_partMB rfl rfl rfl | fail))
    | refine gS ?_ | exact s_m | intro _)
  refine s_q (q := by exact qs_addT t [46, 48] rfl rfl (by simp only [List.length_cons, List.length_nil]; omega)) ?_
  repeat (first
    | (refine g_ops ?_; first | refine sO ?_ | refine s_n (fun _ => ?_) | refine s_app (fun _ _ => ?_) | refine s_b0 (fun _ => ?_) | ((fail_if_success refine g_lit rfl rfl rfl ?_); first | apply g_partM rfl rfl rfl | apply g_partMB rfl rfl rfl | fail))
    | refine gS ?_ | exact s_m | intro _)
  refine s_q (q := by exact qs_addT [32] t rfl rfl (by simp only [List.length_singleton]; omega)) ?_
  repeat (first
    | (refine g_ops ?_; first | refine sO ?_ | refine s_n (fun _ => ?_) | refine s_app (fun _ _ => ?_) | refine s_b0 (fun _ => ?_) | ((fail_if_success refine g_lit rfl rfl rfl ?_); first | apply g_partM rfl rfl rfl | apply g_partMB rfl rfl rfl | fail))
    | refine gS ?_ | exact s_m | intro _)
  refine s_q (q := by exact qs_addT t [32] rfl rfl (by simp only [List.length_singleton]; omega)) ?_
  repeat (first
    | (refine g_ops ?_; first | refine sO ?_ | refine s_n (fun _ => ?_) | refine s_app (fun _ _ => ?_) | refine s_b0 (fun _ => ?_) | ((fail_if_success refine g_lit rfl rfl rfl ?_); first | apply g_partM rfl rfl rfl | apply g_partMB rfl rfl rfl | fail))
    | refine gS ?_ | exact s_m | intro _)
  refine s_q (q := by exact qs_addT [45, 45] t rfl rfl (by simp only [List.length_cons, List.length_nil]; omega)) ?_
  repeat (first
    | (refine g_ops ?_; first | refine sO ?_ | refine s_n (fun _ => ?_) | refine s_app (fun _ _ => ?_) | refine s_b0 (fun _ => ?_) | ((fail_if_success refine g_lit rfl rfl rfl ?_); first | apply g_partM rfl rfl rfl | apply g_partMB rfl rfl rfl | fail))
    | refine gS ?_ | exact s_m | intro _)
  refine s_q (q := by exact qs_addT t [101, 48] rfl rfl (by simp only [List.length_cons, List.length_nil]; omega)) ?_
  repeat (first
    | (refine g_ops ?_; first | refine sO ?_ | refine s_n (fun _ => ?_) | refine s_app (fun _ _ => ?_) | refine s_b0 (fun _ => ?_) | ((fail_if_success refine g_lit rfl rfl rfl ?_); first | apply g_partM rfl rfl rfl | apply g_partMB rfl rfl rfl | fail))
    | refine gS ?_ | exact s_m | intro _)
  refine s_q (q := by exact qs_addT [91] t rfl rfl (by simp only [List.length_singleton]; omega)) ?_
  refine s_q (q := by exact qs_addT ([91] ++ t) [44, 93] rfl rfl (by simp only [List.length_append, List.length_cons, List.length_nil]; omega)) ?_
  repeat (first
    | (refine g_ops ?_; first | refine sO ?_ | refine s_n (fun _ => ?_) | refine s_app (fun _ _ => ?_) | refine s_b0 (fun _ => ?_) | ((fail_if_success refine g_lit rfl rfl rfl ?_); first | apply g_partM rfl rfl rfl | apply g_partMB rfl rfl rfl | fail) | refine s_p (hrd) ?_)
    | refine gS ?_ | exact s_m | intro _)
  have hT2 := hT.grow hs2
  have hE2 := hE.grow hs2
  have pb : ∀ L ∈ [[48] ++ t, [43] ++ t, t ++ [46, 48], [32] ++ t, t ++ [32], [45, 45] ++ t, t ++ [101, 48], ([91] ++ t) ++ [44, 93]], L.length ≤ 100000 → Does Tryd.prog 26 [.string (txt L)] [Pile H2] (X := HP × Value) (fun y => .tuple #[y.2, int 10]) (fun y => [Pile y.1]) (fun y => HP.sub H2 y.1) := fun L hL hz => by
    have := parse1 hT2 hE2 L hz
    rw [hba L hL] at this
    exact does_post (fun y hy => hy.1) this
  generalize lf how 8 = r at hlf ⊢
  have hr8 : r = 0 ∨ r = 1 ∨ r = 2 ∨ r = 3 ∨ r = 4 ∨ r = 5 ∨ r = 6 ∨ r = 7 := by omega
  clear hba hrd hp1 hpn ht hi
  rcases hr8 with rfl | rfl | rfl | rfl | rfl | rfl | rfl | rfl
  · have hpb := pb ([48] ++ t) (by simp) (by simp only [List.length_append, List.length_cons, List.length_nil]; omega)
    repeat (first
      | (refine g_ops ?_; first | refine sO ?_ | refine s_n (fun _ => ?_) | refine s_app (fun _ _ => ?_) | refine s_b0 (fun _ => ?_) | ((fail_if_success refine g_lit rfl rfl rfl ?_); first | apply g_partM rfl rfl rfl | apply g_partMB rfl rfl rfl | fail) | refine s_c (hpb) (fun _ _ => ?_))
      | refine gS ?_ | exact s_m | intro _)
    rename_i z hz
    obtain ⟨H3, z⟩ := z
    dsimp only [List.cons_append, List.nil_append, List.append_eq] at hz ⊢
    have aw := awake1 (hT2.grow hz)
    repeat (first
      | (refine g_ops ?_; first | refine sO ?_ | refine s_n (fun _ => ?_) | refine s_app (fun _ _ => ?_) | refine s_b0 (fun _ => ?_) | ((fail_if_success refine g_lit rfl rfl rfl ?_); first | apply g_partM rfl rfl rfl | apply g_partMB rfl rfl rfl | fail) | refine s_k (aw) ?_)
      | refine gS ?_ | exact s_m | intro _)
    refine g_unpile (hs2.trans hz) (by (repeat (first | exact Sel.here | apply Sel.there)); first | done | fail) ?_
    exact s_r ()
  · have hpb := pb ([43] ++ t) (by simp) (by simp only [List.length_append, List.length_cons, List.length_nil]; omega)
    repeat (first
      | (refine g_ops ?_; first | refine sO ?_ | refine s_n (fun _ => ?_) | refine s_app (fun _ _ => ?_) | refine s_b0 (fun _ => ?_) | ((fail_if_success refine g_lit rfl rfl rfl ?_); first | apply g_partM rfl rfl rfl | apply g_partMB rfl rfl rfl | fail) | refine s_c (hpb) (fun _ _ => ?_))
      | refine gS ?_ | exact s_m | intro _)
    rename_i z hz
    obtain ⟨H3, z⟩ := z
    dsimp only [List.cons_append, List.nil_append, List.append_eq] at hz ⊢
    have aw := awake1 (hT2.grow hz)
    repeat (first
      | (refine g_ops ?_; first | refine sO ?_ | refine s_n (fun _ => ?_) | refine s_app (fun _ _ => ?_) | refine s_b0 (fun _ => ?_) | ((fail_if_success refine g_lit rfl rfl rfl ?_); first | apply g_partM rfl rfl rfl | apply g_partMB rfl rfl rfl | fail) | refine s_k (aw) ?_)
      | refine gS ?_ | exact s_m | intro _)
    refine g_unpile (hs2.trans hz) (by (repeat (first | exact Sel.here | apply Sel.there)); first | done | fail) ?_
    exact s_r ()
  · have hpb := pb (t ++ [46, 48]) (by simp) (by simp only [List.length_append, List.length_cons, List.length_nil]; omega)
    repeat (first
      | (refine g_ops ?_; first | refine sO ?_ | refine s_n (fun _ => ?_) | refine s_app (fun _ _ => ?_) | refine s_b0 (fun _ => ?_) | ((fail_if_success refine g_lit rfl rfl rfl ?_); first | apply g_partM rfl rfl rfl | apply g_partMB rfl rfl rfl | fail) | refine s_c (hpb) (fun _ _ => ?_))
      | refine gS ?_ | exact s_m | intro _)
    rename_i z hz
    obtain ⟨H3, z⟩ := z
    dsimp only [List.cons_append, List.nil_append, List.append_eq] at hz ⊢
    have aw := awake1 (hT2.grow hz)
    repeat (first
      | (refine g_ops ?_; first | refine sO ?_ | refine s_n (fun _ => ?_) | refine s_app (fun _ _ => ?_) | refine s_b0 (fun _ => ?_) | ((fail_if_success refine g_lit rfl rfl rfl ?_); first | apply g_partM rfl rfl rfl | apply g_partMB rfl rfl rfl | fail) | refine s_k (aw) ?_)
      | refine gS ?_ | exact s_m | intro _)
    refine g_unpile (hs2.trans hz) (by (repeat (first | exact Sel.here | apply Sel.there)); first | done | fail) ?_
    exact s_r ()
  · have hpb := pb ([32] ++ t) (by simp) (by simp only [List.length_append, List.length_cons, List.length_nil]; omega)
    repeat (first
      | (refine g_ops ?_; first | refine sO ?_ | refine s_n (fun _ => ?_) | refine s_app (fun _ _ => ?_) | refine s_b0 (fun _ => ?_) | ((fail_if_success refine g_lit rfl rfl rfl ?_); first | apply g_partM rfl rfl rfl | apply g_partMB rfl rfl rfl | fail) | refine s_c (hpb) (fun _ _ => ?_))
      | refine gS ?_ | exact s_m | intro _)
    rename_i z hz
    obtain ⟨H3, z⟩ := z
    dsimp only [List.cons_append, List.nil_append, List.append_eq] at hz ⊢
    have aw := awake1 (hT2.grow hz)
    repeat (first
      | (refine g_ops ?_; first | refine sO ?_ | refine s_n (fun _ => ?_) | refine s_app (fun _ _ => ?_) | refine s_b0 (fun _ => ?_) | ((fail_if_success refine g_lit rfl rfl rfl ?_); first | apply g_partM rfl rfl rfl | apply g_partMB rfl rfl rfl | fail) | refine s_k (aw) ?_)
      | refine gS ?_ | exact s_m | intro _)
    refine g_unpile (hs2.trans hz) (by (repeat (first | exact Sel.here | apply Sel.there)); first | done | fail) ?_
    exact s_r ()
  · have hpb := pb (t ++ [32]) (by simp) (by simp only [List.length_append, List.length_cons, List.length_nil]; omega)
    repeat (first
      | (refine g_ops ?_; first | refine sO ?_ | refine s_n (fun _ => ?_) | refine s_app (fun _ _ => ?_) | refine s_b0 (fun _ => ?_) | ((fail_if_success refine g_lit rfl rfl rfl ?_); first | apply g_partM rfl rfl rfl | apply g_partMB rfl rfl rfl | fail) | refine s_c (hpb) (fun _ _ => ?_))
      | refine gS ?_ | exact s_m | intro _)
    rename_i z hz
    obtain ⟨H3, z⟩ := z
    dsimp only [List.cons_append, List.nil_append, List.append_eq] at hz ⊢
    have aw := awake1 (hT2.grow hz)
    repeat (first
      | (refine g_ops ?_; first | refine sO ?_ | refine s_n (fun _ => ?_) | refine s_app (fun _ _ => ?_) | refine s_b0 (fun _ => ?_) | ((fail_if_success refine g_lit rfl rfl rfl ?_); first | apply g_partM rfl rfl rfl | apply g_partMB rfl rfl rfl | fail) | refine s_k (aw) ?_)
      | refine gS ?_ | exact s_m | intro _)
    refine g_unpile (hs2.trans hz) (by (repeat (first | exact Sel.here | apply Sel.there)); first | done | fail) ?_
    exact s_r ()
  · have hpb := pb ([45, 45] ++ t) (by simp) (by simp only [List.length_append, List.length_cons, List.length_nil]; omega)
    repeat (first
      | (refine g_ops ?_; first | refine sO ?_ | refine s_n (fun _ => ?_) | refine s_app (fun _ _ => ?_) | refine s_b0 (fun _ => ?_) | ((fail_if_success refine g_lit rfl rfl rfl ?_); first | apply g_partM rfl rfl rfl | apply g_partMB rfl rfl rfl | fail) | refine s_c (hpb) (fun _ _ => ?_))
      | refine gS ?_ | exact s_m | intro _)
    rename_i z hz
    obtain ⟨H3, z⟩ := z
    dsimp only [List.cons_append, List.nil_append, List.append_eq] at hz ⊢
    have aw := awake1 (hT2.grow hz)
    repeat (first
      | (refine g_ops ?_; first | refine sO ?_ | refine s_n (fun _ => ?_) | refine s_app (fun _ _ => ?_) | refine s_b0 (fun _ => ?_) | ((fail_if_success refine g_lit rfl rfl rfl ?_); first | apply g_partM rfl rfl rfl | apply g_partMB rfl rfl rfl | fail) | refine s_k (aw) ?_)
      | refine gS ?_ | exact s_m | intro _)
    refine g_unpile (hs2.trans hz) (by (repeat (first | exact Sel.here | apply Sel.there)); first | done | fail) ?_
    exact s_r ()
  · have hpb := pb (t ++ [101, 48]) (by simp) (by simp only [List.length_append, List.length_cons, List.length_nil]; omega)
    repeat (first
      | (refine g_ops ?_; first | refine sO ?_ | refine s_n (fun _ => ?_) | refine s_app (fun _ _ => ?_) | refine s_b0 (fun _ => ?_) | ((fail_if_success refine g_lit rfl rfl rfl ?_); first | apply g_partM rfl rfl rfl | apply g_partMB rfl rfl rfl | fail) | refine s_c (hpb) (fun _ _ => ?_))
      | refine gS ?_ | exact s_m | intro _)
    rename_i z hz
    obtain ⟨H3, z⟩ := z
    dsimp only [List.cons_append, List.nil_append, List.append_eq] at hz ⊢
    have aw := awake1 (hT2.grow hz)
    repeat (first
      | (refine g_ops ?_; first | refine sO ?_ | refine s_n (fun _ => ?_) | refine s_app (fun _ _ => ?_) | refine s_b0 (fun _ => ?_) | ((fail_if_success refine g_lit rfl rfl rfl ?_); first | apply g_partM rfl rfl rfl | apply g_partMB rfl rfl rfl | fail) | refine s_k (aw) ?_)
      | refine gS ?_ | exact s_m | intro _)
    refine g_unpile (hs2.trans hz) (by (repeat (first | exact Sel.here | apply Sel.there)); first | done | fail) ?_
    exact s_r ()
  · have hpb := pb (([91] ++ t) ++ [44, 93]) (by simp) (by simp only [List.length_append, List.length_cons, List.length_nil]; omega)
    repeat (first
      | (refine g_ops ?_; first | refine sO ?_ | refine s_n (fun _ => ?_) | refine s_app (fun _ _ => ?_) | refine s_b0 (fun _ => ?_) | ((fail_if_success refine g_lit rfl rfl rfl ?_); first | apply g_partM rfl rfl rfl | apply g_partMB rfl rfl rfl | fail) | refine s_c (hpb) (fun _ _ => ?_))
      | refine gS ?_ | exact s_m | intro _)
    rename_i z hz
    obtain ⟨H3, z⟩ := z
    dsimp only [List.cons_append, List.nil_append, List.append_eq] at hz ⊢
    have aw := awake1 (hT2.grow hz)
    repeat (first
      | (refine g_ops ?_; first | refine sO ?_ | refine s_n (fun _ => ?_) | refine s_app (fun _ _ => ?_) | refine s_b0 (fun _ => ?_) | ((fail_if_success refine g_lit rfl rfl rfl ?_); first | apply g_partM rfl rfl rfl | apply g_partMB rfl rfl rfl | fail) | refine s_k (aw) ?_)
      | refine gS ?_ | exact s_m | intro _)
    refine g_unpile (hs2.trans hz) (by (repeat (first | exact Sel.here | apply Sel.there)); first | done | fail) ?_
    exact s_r ()
end Go.Proofs.YtpilcncdgjnbeaaDoor
