/- Contracts: how much there is of a value that came in: weight, small. Contract: made: a value of Go's own types. The law's walk: ValueMust. -/
import Derived.Test.YtpilcncdgjnbeaaDoorValJ
import Derived.Test.YtpilcncdgjnbeaaDoorAlkA
set_option linter.unusedSimpArgs false
set_option linter.unusedVariables false
namespace Go.Proofs.YtpilcncdgjnbeaaDoor
open Go.Sl facts
theorem sumF_sum : ∀ (l : List Int) (n : Int), (∀ x ∈ l, 0 ≤ x) → n ≤ most → sumF n l < most → sumF n l = n + l.sum
  | [], n, _, _, _ => by simp [sumF]
  | x :: l, n, hl, h, hs => by
    simp only [sumF] at hs ⊢
    split at hs
    · exact absurd hs (Int.lt_irrefl _)
    · rename_i hc
      rw [if_neg hc, sumF_sum l (n + x) (fun z hz => hl z (List.mem_cons_of_mem _ hz)) (by omega) hs, List.sum_cons]
      omega
theorem sum_upS (n : Int) (l : List Int) (hl : ∀ x ∈ l, 0 ≤ x) (h : n ≤ most) : sumF n l ≤ most ∧ n ≤ sumF n l ∧ (sumF n l < most → sumF n l = n + l.sum) :=
  ⟨(sumF_ge l n hl h).2, (sumF_ge l n hl h).1, fun hs => sumF_sum l n hl h hs⟩
/-- A value's parts are as its kind says. -/
inductive SmV : V → Prop where
  | mk {k y n s ks l} (h6 : k = 6 → ks.length = l.length) (h0 : k ≠ 6 → ks = []) (h5 : k < 5 → l = []) (h : ∀ x ∈ l, SmV x) : SmV (.mk k y n s ks l)
theorem VAt.ok {C : Chunk} {v : V} {u : Vc} (h : VAt C v u) : VOk v := by
  induction h with
  | mk us hk hn hs hkl hks hkS hl hu hS _ ih =>
    refine .mk hn fun x hx => ?_
    obtain ⟨i, hi, rfl⟩ := List.mem_iff_getElem.1 hx
    exact ih i _ _ (List.getElem?_eq_getElem hi) (List.getElem?_eq_getElem (by omega))
theorem szV_pos (v : V) : 1 ≤ szV v := by cases v; rw [szV_mk]; omega
theorem szK_len : ∀ l : List V, l.length ≤ szK l
  | [] => by simp
  | x :: l => by have := szK_len l; have := szV_pos x; rw [szK_cons, List.length_cons]; omega
theorem shape (deep k : Int) (a b : Nat) (h : (bif decide (40 < deep) then true
          else
            bif decide ((a : Int) ≠ (b : Int)) then
              bif decide (k = 6) then true
              else
                bif decide (k ≠ 6) then
                  bif decide (0 < (a : Int)) then true else bif decide (k < 5) then decide (0 < (b : Int)) else false
                else bif decide (k < 5) then decide (0 < (b : Int)) else false
            else
              bif decide (k ≠ 6) then
                bif decide (0 < (a : Int)) then true else bif decide (k < 5) then decide (0 < (b : Int)) else false
              else bif decide (k < 5) then decide (0 < (b : Int)) else false) = false) : deep ≤ 40 ∧ (k = 6 → a = b) ∧ (k ≠ 6 → a = 0) ∧ (k < 5 → b = 0) := by
  by_cases a1 : 40 < deep
  · simp only [decide_eq_true a1, cond_true] at h; cases h
  simp only [decide_eq_false a1, cond_false] at h
  by_cases a2 : (a : Int) ≠ (b : Int) <;> by_cases a3 : k = 6 <;> by_cases a4 : (0 : Int) < a <;> by_cases a5 : k < 5 <;> by_cases a6 : (0 : Int) < b <;>
    first | omega | (simp only [a2, a3, a4, a5, a6, ne_eq, not_true, not_false_eq_true, decide_true, decide_false, cond_true, cond_false] at h; cases h) | (simp [a2, a3, a4, a5, a6] at h; done) | omega
attribute [local irreducible] Code.wp wpList Exit.then Exit.inBlock bodyPost Back MidQ G GP QStep VStep CStep SStep Does Post Reads
attribute [local irreducible] sumF szV szK szS
structure IM where
  i : Nat
  m : Int
set_option maxHeartbeats 2000000 in
theorem total {H : HP} (p : Option Addr) (cap : Nat) (top : Int) (l : List ByteArray) (hS : SlAt (Pile H) 1 p l.length (l.map Value.string)) (ht : 0 ≤ top ∧ top ≤ 100000) (hlen : l.length ≤ 9223372036854775807) (hO : ∀ t ∈ l, t.size ≤ 9223372036854775807) :
    Does Tryd.prog 31 [.slice p l.length cap, int top] [Pile H] (X := Int) int (fun _ => [Pile H]) (fun r => 0 ≤ r ∧ r ≤ most ∧ (r ≤ top → (l.length : Int) + szS l ≤ r)) := by
  refine fn_intro Tryd.func31 rfl Tryd.ntmps31 rfl (by simp only [argFr, Nat.zero_add, Nat.reduceAdd]; rfl) (fun Γ => ?_)
  have hmost : most = 1099511627776 := rfl
  have h0 := sum_upS 0 [(l.length : Int)] (by simp) (by omega)
  simp only [List.sum_cons, List.sum_nil, Int.add_zero, Int.zero_add] at h0
  repeat (first
    | (refine g_ops ?_; first | refine sO ?_ | refine s_n (fun _ => ?_) | refine s_app (fun _ _ => ?_) | refine s_b0 (fun _ => ?_) | ((fail_if_success refine g_lit rfl rfl rfl ?_); first | apply g_partM rfl rfl rfl | apply g_partMB rfl rfl rfl | fail) | refine s_k (sum_row _ _ _ 0 [(l.length : Int)] ⟨by omega, by omega⟩ (by simp; omega) (by simp)) ?_)
    | apply g_regB (id := 3) 19 | refine gS ?_ | exact s_m | intro _ | (refine gp_take ?_; first | refine pT ?_ | ((fail_if_success refine gp_lit rfl rfl rfl rfl ?_); first | apply gp_guard_dec rfl rfl rfl rfl | apply gp_guard rfl rfl rfl rfl | fail))
    | (refine gp_see ?_; first | refine p_f ?_ | refine pS ?_ | ((fail_if_success refine gp_lit rfl rfl rfl rfl ?_); first | apply gp_guard_dec rfl rfl rfl rfl | apply gp_guard rfl rfl rfl rfl | fail) | refine p_h (sum_row _ _ _ 0 [(l.length : Int)] ⟨by omega, by omega⟩ (by simp; omega) (by simp)) hd hk ?_)
    | (refine gp_one ?_; first | refine pO ?_ | refine p_n (fun _ => ?_) | refine p_app (fun _ _ => ?_) | refine p_b0 (fun _ => ?_) | ((fail_if_success refine gp_lit rfl rfl rfl rfl ?_); first | apply gp_guard_dec rfl rfl rfl rfl | apply gp_guard rfl rfl rfl rfl | fail) | refine p_k (sum_row _ _ _ 0 [(l.length : Int)] ⟨by omega, by omega⟩ (by simp; omega) (by simp)) ?_)
    | refine gp_two ?_ ?_ | refine gp_done hd hk ?_ | intro _ | refine p_ta hd hk (fun _ _ _ hd hk => ?_) | refine p_ts hd hk (fun _ hd hk => ?_))
  refine g_loop (X := IM) (fun x => [(6, int x.i), (5, int x.m), (4, int 0), (0, .slice p l.length cap), (1, int top)]) (fun _ => [Pile H]) (fun x => x.i ≤ l.length ∧ 0 ≤ x.m ∧ x.m ≤ most ∧ (x.m < most → (l.length : Int) + szS l ≤ x.m + szS (l.drop x.i))) (fun x => l.length - x.i) ⟨0, sumF 0 [(l.length : Int)]⟩ ⟨Nat.zero_le _, by simp only; omega, h0.1, fun h => by have := h0.2.2 h; simp only [List.drop_zero]; omega⟩ (by (repeat (first | exact FrSub.nil | refine FrSub.cons rfl ?_)); first | done | fail) (by (repeat (first | exact Take.nil | apply Take.cons | exact Sel.here | apply Sel.there)); first | done | fail) (fun x hx => ?_)
  obtain ⟨i, m⟩ := x
  obtain ⟨hi, hm0, hm1, hm2⟩ := hx
  dsimp only at hi hm0 hm1 hm2 ⊢
  repeat (first
    | (refine g_ops ?_; first | refine sO ?_ | refine s_n (fun _ => ?_) | refine s_app (fun _ _ => ?_) | refine s_b0 (fun _ => ?_) | ((fail_if_success refine g_lit rfl rfl rfl ?_); first | apply g_partM rfl rfl rfl | apply g_partMB rfl rfl rfl | fail))
    | apply g_regB (id := 3) 19 | refine gS ?_ | exact s_m | intro _ | (refine gp_take ?_; first | refine pT ?_ | ((fail_if_success refine gp_lit rfl rfl rfl rfl ?_); first | apply gp_guard_dec rfl rfl rfl rfl | apply gp_guard rfl rfl rfl rfl | fail))
    | (refine gp_see ?_; first | refine p_f ?_ | refine pS ?_ | ((fail_if_success refine gp_lit rfl rfl rfl rfl ?_); first | apply gp_guard_dec rfl rfl rfl rfl | apply gp_guard rfl rfl rfl rfl | fail))
    | (refine gp_one ?_; first | refine pO ?_ | refine p_n (fun _ => ?_) | refine p_app (fun _ _ => ?_) | refine p_b0 (fun _ => ?_) | ((fail_if_success refine gp_lit rfl rfl rfl rfl ?_); first | apply gp_guard_dec rfl rfl rfl rfl | apply gp_guard rfl rfl rfl rfl | fail))
    | refine gp_two ?_ ?_ | refine gp_done hd hk ?_ | intro _ | refine p_ta hd hk (fun _ _ _ hd hk => ?_) | refine p_ts hd hk (fun _ hd hk => ?_))
  refine g_cond rfl (fun h2 => ?_) (fun h2 => ?_)
  · have hi' : i < l.length := by simp at h2; omega
    obtain ⟨b, o, rfl, hr0⟩ := slAt_cell hS (i := i) (v := .string l[i]) (by simp [hi'])
    have hz1 := hO l[i] (List.getElem_mem _)
    rw [List.drop_eq_getElem_cons hi', szS_cons] at hm2
    generalize l[i] = x at hr0 hz1 hm2
    have hr : ∀ k', k' = i → Reads (Pile H) ⟨b, o + k', none⟩ (.string x) := fun _ e => e ▸ hr0
    have h3 := sum_upS m [(x.size : Int)] (by simp) hm1
    simp only [List.sum_cons, List.sum_nil, Int.add_zero] at h3
    repeat (first
      | (refine g_ops ?_; first | refine sO ?_ | refine s_n (fun _ => ?_) | refine s_app (fun _ _ => ?_) | refine s_b0 (fun _ => ?_) | ((fail_if_success refine g_lit rfl rfl rfl ?_); first | apply g_partM rfl rfl rfl | apply g_partMB rfl rfl rfl | fail) | refine s_k (sum_row _ _ _ m [(x.size : Int)] ⟨hm0, hm1⟩ (by simp; omega) (by simp)) ?_)
      | apply g_regB (id := 3) 19 | refine gS ?_ | exact s_m | intro _ | (refine gp_take ?_; first | refine pT ?_ | ((fail_if_success refine gp_lit rfl rfl rfl rfl ?_); first | apply gp_guard_dec rfl rfl rfl rfl | apply gp_guard rfl rfl rfl rfl | fail))
      | (refine gp_see ?_; first | refine p_f ?_ | refine pS ?_ | ((fail_if_success refine gp_lit rfl rfl rfl rfl ?_); first | apply gp_guard_dec rfl rfl rfl rfl | apply gp_guard rfl rfl rfl rfl | fail) | refine p_h (sum_row _ _ _ m [(x.size : Int)] ⟨hm0, hm1⟩ (by simp; omega) (by simp)) hd hk ?_)
      | (refine gp_one ?_; first | refine pO ?_ | refine p_n (fun _ => ?_) | refine p_app (fun _ _ => ?_) | refine p_b0 (fun _ => ?_) | ((fail_if_success refine gp_lit rfl rfl rfl rfl ?_); first | apply gp_guard_dec rfl rfl rfl rfl | apply gp_guard rfl rfl rfl rfl | fail) | refine p_k (sum_row _ _ _ m [(x.size : Int)] ⟨hm0, hm1⟩ (by simp; omega) (by simp)) ?_)
      | refine gp_two ?_ ?_ | refine gp_done hd hk ?_ | intro _ | refine p_ta hd hk (fun _ _ _ hd hk => ?_) | refine p_ts hd hk (fun _ hd hk => ?_))
    refine g_as 6 (v' := int ((i + 1 : Nat) : Int)) rfl (congrArg (Value.int .i64) (by push_cast; rfl)) ?_
    exact gA ⟨i + 1, sumF m [(x.size : Int)]⟩ (by simp only []; omega) ⟨hi', by simp only []; omega, h3.1, fun h => by have := hm2 (by simp only at h; omega); have := h3.2.2 h; simp only; omega⟩
  · repeat (first
      | (refine g_ops ?_; first | refine sO ?_ | refine s_n (fun _ => ?_) | refine s_app (fun _ _ => ?_) | refine s_b0 (fun _ => ?_) | ((fail_if_success refine g_lit rfl rfl rfl ?_); first | apply g_partM rfl rfl rfl | apply g_partMB rfl rfl rfl | fail))
      | apply g_regB (id := 3) 19 | refine gS ?_ | exact s_m | intro _ | (refine gp_take ?_; first | refine pT ?_ | ((fail_if_success refine gp_lit rfl rfl rfl rfl ?_); first | apply gp_guard_dec rfl rfl rfl rfl | apply gp_guard rfl rfl rfl rfl | fail))
      | (refine gp_see ?_; first | refine p_f ?_ | refine pS ?_ | ((fail_if_success refine gp_lit rfl rfl rfl rfl ?_); first | apply gp_guard_dec rfl rfl rfl rfl | apply gp_guard rfl rfl rfl rfl | fail))
      | (refine gp_one ?_; first | refine pO ?_ | refine p_n (fun _ => ?_) | refine p_app (fun _ _ => ?_) | refine p_b0 (fun _ => ?_) | ((fail_if_success refine gp_lit rfl rfl rfl rfl ?_); first | apply gp_guard_dec rfl rfl rfl rfl | apply gp_guard rfl rfl rfl rfl | fail))
      | refine gp_two ?_ ?_ | refine gp_done hd hk ?_ | intro _ | refine p_ta hd hk (fun _ _ _ hd hk => ?_) | refine p_ts hd hk (fun _ hd hk => ?_))
    exact s_r m (hx := ⟨hm0, hm1, fun h => by
      have : i = l.length := by simp at h2; omega
      subst this
      have := hm2 (by omega)
      rw [List.drop_length, szS_nil] at this
      omega⟩)
set_option maxHeartbeats 4000000 in
theorem weight {H : HP} (v : V) : ∀ (u : Vc), VAt (Pile H) v u → ∀ (deep n : Int), 0 ≤ deep ∧ deep ≤ 41 → 0 ≤ n ∧ n ≤ 3000 →
    Does Tryd.prog 33 [.agg u.cells.toArray, int deep, int n] [Pile H] (X := Int) int (fun _ => [Pile H]) (fun r => 0 ≤ r ∧ r ≤ most ∧ (r ≤ 3000 → SmV v ∧ n + szV v ≤ r)) := by
  refine V.ind (Q := fun v => ∀ (u : Vc), VAt (Pile H) v u → ∀ (deep n : Int), 0 ≤ deep ∧ deep ≤ 41 → 0 ≤ n ∧ n ≤ 3000 →
    Does Tryd.prog 33 [.agg u.cells.toArray, int deep, int n] [Pile H] (X := Int) int (fun _ => [Pile H]) (fun r => 0 ≤ r ∧ r ≤ most ∧ (r ≤ 3000 → SmV v ∧ n + szV v ≤ r))) (fun k y n0 s ks l ih u hu deep n hdp hn => ?_) v
  have hw := szV_mk k y n0 s ks l
  have hmost : most = 1099511627776 := rfl
  cases hu with
  | @mk _ _ _ _ _ _ kp kc p c us hki hn0 hs hkl hks hkS hl hul hS h =>
    have ht := total kp kc 3000 ks hkS ⟨by omega, by omega⟩ hkl hks
    dsimp only [Vc.cells]
    refine fn_intro Tryd.func33 rfl Tryd.ntmps33 rfl (by simp only [argFr, Nat.zero_add, Nat.reduceAdd]; rfl) (fun Γ => ?_)
    repeat (first
      | (refine g_ops ?_; first | refine sO ?_ | refine s_n (fun _ => ?_) | refine s_app (fun _ _ => ?_) | refine s_b0 (fun _ => ?_) | ((fail_if_success refine g_lit rfl rfl rfl ?_); first | apply g_partM rfl rfl rfl | apply g_partMB rfl rfl rfl | fail))
      | refine gS ?_ | exact s_m | intro _)
    rename_i b
    refine g_draw (.take 0 (.take 1 (.see 2 [] (.take 3 (.take 4 (.see 5 [] (.one 6 (.one 7 (.one 8 (.take 9 .done)))))))))) (by kernel_rfl) (C := [.row b [int k, .bool y, int n0, .string s, .slice kp ks.length kc, .slice p l.length c] 25]) (by (repeat (first | exact Take.nil | apply Take.cons | exact Sel.here | apply Sel.there)); first | done | fail) (fun m hd hk => ?_)
    repeat (first
      | (refine gp_take ?_; first | refine pT ?_ | ((fail_if_success refine gp_lit rfl rfl rfl rfl ?_); first | apply gp_guard_dec rfl rfl rfl rfl | apply gp_guard rfl rfl rfl rfl | fail))
      | (refine gp_see ?_; first | refine p_f ?_ | refine pS ?_ | ((fail_if_success refine gp_lit rfl rfl rfl rfl ?_); first | apply gp_guard_dec rfl rfl rfl rfl | apply gp_guard rfl rfl rfl rfl | fail))
      | (refine gp_one ?_; first | refine pO ?_ | refine p_n (fun _ => ?_) | refine p_app (fun _ _ => ?_) | refine p_b0 (fun _ => ?_) | ((fail_if_success refine gp_lit rfl rfl rfl rfl ?_); first | apply gp_guard_dec rfl rfl rfl rfl | apply gp_guard rfl rfl rfl rfl | fail) | refine p_c (ht) (fun _ _ => ?_))
      | refine gp_two ?_ ?_ | refine gp_done hd hk ?_ | intro _ | refine p_ta hd hk (fun _ _ _ hd hk => ?_) | refine p_ts hd hk (fun _ hd hk => ?_))
    rename_i T hT _
    have h1 := sum_upS n [(s.size : Int), T, 1] (by simp; omega) (by omega)
    simp only [List.sum_cons, List.sum_nil, Int.add_zero] at h1
    have hlim : ∀ x ∈ [(s.size : Int), T, 1], 0 ≤ x ∧ x ≤ 9223372036854775807 := by simp; omega
    repeat (first
      | (refine gp_take ?_; first | refine pT ?_ | ((fail_if_success refine gp_lit rfl rfl rfl rfl ?_); first | apply gp_guard_dec rfl rfl rfl rfl | apply gp_guard rfl rfl rfl rfl | fail))
      | (refine gp_see ?_; first | refine p_f ?_ | refine pS ?_ | ((fail_if_success refine gp_lit rfl rfl rfl rfl ?_); first | apply gp_guard_dec rfl rfl rfl rfl | apply gp_guard rfl rfl rfl rfl | fail) | refine p_h (sum_row _ _ _ n [(s.size : Int), T, 1] ⟨by omega, by omega⟩ hlim (by simp)) hd hk ?_)
      | (refine gp_one ?_; first | refine pO ?_ | refine p_n (fun _ => ?_) | refine p_app (fun _ _ => ?_) | refine p_b0 (fun _ => ?_) | ((fail_if_success refine gp_lit rfl rfl rfl rfl ?_); first | apply gp_guard_dec rfl rfl rfl rfl | apply gp_guard rfl rfl rfl rfl | fail) | refine p_k (sum_row _ _ _ n [(s.size : Int), T, 1] ⟨by omega, by omega⟩ hlim (by simp)) ?_)
      | refine gp_two ?_ ?_ | refine gp_done hd hk ?_ | intro _ | refine p_ta hd hk (fun _ _ _ hd hk => ?_) | refine p_ts hd hk (fun _ hd hk => ?_))
    generalize sumF n [(s.size : Int), T, 1] = m1 at h1 ⊢
    repeat (first
      | (refine g_ops ?_; first | refine sO ?_ | refine s_n (fun _ => ?_) | refine s_app (fun _ _ => ?_) | refine s_b0 (fun _ => ?_) | ((fail_if_success refine g_lit rfl rfl rfl ?_); first | apply g_partM rfl rfl rfl | apply g_partMB rfl rfl rfl | fail))
      | apply g_regB (id := 2) 54 | apply g_regB (id := 5) 63 | refine gS ?_ | exact s_m | intro _ | (refine gp_take ?_; first | refine pT ?_ | ((fail_if_success refine gp_lit rfl rfl rfl rfl ?_); first | apply gp_guard_dec rfl rfl rfl rfl | apply gp_guard rfl rfl rfl rfl | fail))
      | (refine gp_see ?_; first | refine p_f ?_ | refine pS ?_ | ((fail_if_success refine gp_lit rfl rfl rfl rfl ?_); first | apply gp_guard_dec rfl rfl rfl rfl | apply gp_guard rfl rfl rfl rfl | fail))
      | (refine gp_one ?_; first | refine pO ?_ | refine p_n (fun _ => ?_) | refine p_app (fun _ _ => ?_) | refine p_b0 (fun _ => ?_) | ((fail_if_success refine gp_lit rfl rfl rfl rfl ?_); first | apply gp_guard_dec rfl rfl rfl rfl | apply gp_guard rfl rfl rfl rfl | fail))
      | refine gp_two ?_ ?_ | refine gp_done hd hk ?_ | intro _ | refine p_ta hd hk (fun _ _ _ hd hk => ?_) | refine p_ts hd hk (fun _ hd hk => ?_))
    refine g_cond rfl (fun h2 => ?_) (fun h2 => ?_)
    · repeat (first
        | (refine g_ops ?_; first | refine sO ?_ | refine s_n (fun _ => ?_) | refine s_app (fun _ _ => ?_) | refine s_b0 (fun _ => ?_) | ((fail_if_success refine g_lit rfl rfl rfl ?_); first | apply g_partM rfl rfl rfl | apply g_partMB rfl rfl rfl | fail))
        | refine gS ?_ | exact s_m | intro _)
      exact s_r 3001 (hx := ⟨by omega, by omega, fun h => by omega⟩)
    have hde : deep ≤ 40 ∧ (k = 6 → ks.length = l.length) ∧ (k ≠ 6 → ks.length = 0) ∧ (k < 5 → l.length = 0) := by
      have := shape deep k ks.length l.length h2
      exact this
    clear h2
    obtain ⟨hde, e6, e0, e5⟩ := hde
    have hkm : ∀ j x u, l[j]? = some x → us[j]? = some u → ∃ b o, p = some ⟨b, o, none⟩ ∧ (∀ (i : Nat) (v : Value), u.cells[i]? = some v → Reads (Pile H) ⟨b, o + j * 6 + i, none⟩ v) := fun j x u hx hu => slAt_elem hS Vc.len (by decide) hu
    repeat (first
      | (refine g_ops ?_; first | refine sO ?_ | refine s_n (fun _ => ?_) | refine s_app (fun _ _ => ?_) | refine s_b0 (fun _ => ?_) | ((fail_if_success refine g_lit rfl rfl rfl ?_); first | apply g_partM rfl rfl rfl | apply g_partMB rfl rfl rfl | fail))
      | refine gS ?_ | exact s_m | intro _)
    refine g_loop (X := IM) (fun x => [(7, int x.i), (2, int x.m), (3, ptr b), (1, int deep)]) (fun _ => [.row b [int k, .bool y, int n0, .string s, .slice kp ks.length kc, .slice p l.length c] 25, Pile H])
      (fun x => x.i ≤ l.length ∧ 0 ≤ x.m ∧ x.m ≤ most ∧ (x.m ≤ 3000 → (∀ j x', j < x.i → l[j]? = some x' → SmV x') ∧ n + szV (.mk k y n0 s ks l) ≤ x.m + szK (l.drop x.i))) (fun x => l.length - x.i) ⟨0, m1⟩ ⟨Nat.zero_le _, by dsimp only; omega, h1.1, fun h => ⟨fun j x' hj => absurd hj (Nat.not_lt_zero _), by
        have h5 := h1.2.2 (by dsimp only at h; omega)
        have h6 := hT.2.2 (by dsimp only at h; omega)
        dsimp only
        rw [List.drop_zero, hw]
        push_cast
        omega⟩⟩ (by (repeat (first | exact FrSub.nil | refine FrSub.cons rfl ?_)); first | done | fail) (by (repeat (first | exact Take.nil | apply Take.cons | exact Sel.here | apply Sel.there)); first | done | fail) (fun x hx => ?_)
    obtain ⟨i, m2⟩ := x
    obtain ⟨hi, hm0, hm1, hm2⟩ := hx
    dsimp only at hi hm0 hm1 hm2 ⊢
    repeat (first
      | (refine g_ops ?_; first | refine sO ?_ | refine s_n (fun _ => ?_) | refine s_app (fun _ _ => ?_) | refine s_b0 (fun _ => ?_) | ((fail_if_success refine g_lit rfl rfl rfl ?_); first | apply g_partM rfl rfl rfl | apply g_partMB rfl rfl rfl | fail))
      | apply g_regB (id := 2) 54 | apply g_regB (id := 5) 63 | refine gS ?_ | exact s_m | intro _ | (refine gp_take ?_; first | refine pT ?_ | ((fail_if_success refine gp_lit rfl rfl rfl rfl ?_); first | apply gp_guard_dec rfl rfl rfl rfl | apply gp_guard rfl rfl rfl rfl | fail))
      | (refine gp_see ?_; first | refine p_f ?_ | refine pS ?_ | ((fail_if_success refine gp_lit rfl rfl rfl rfl ?_); first | apply gp_guard_dec rfl rfl rfl rfl | apply gp_guard rfl rfl rfl rfl | fail))
      | (refine gp_one ?_; first | refine pO ?_ | refine p_n (fun _ => ?_) | refine p_app (fun _ _ => ?_) | refine p_b0 (fun _ => ?_) | ((fail_if_success refine gp_lit rfl rfl rfl rfl ?_); first | apply gp_guard_dec rfl rfl rfl rfl | apply gp_guard rfl rfl rfl rfl | fail))
      | refine gp_two ?_ ?_ | refine gp_done hd hk ?_ | intro _ | refine p_ta hd hk (fun _ _ _ hd hk => ?_) | refine p_ts hd hk (fun _ hd hk => ?_))
    refine g_cond rfl (fun h2 => ?_) (fun h2 => ?_)
    · have hi' : i < l.length := by simp at h2; omega
      have hm3 : m2 ≤ 3000 := by simp at h2; omega
      have hgl : l[i]? = some l[i] := List.getElem?_eq_getElem hi'
      have hgu : us[i]? = some (us[i]'(by omega)) := List.getElem?_eq_getElem _
      have hmem : l[i] ∈ l := List.getElem_mem _
      have hat := h i _ _ hgl hgu
      obtain ⟨b2, o, rfl, hrow⟩ := hkm i _ _ hgl hgu
      rw [List.drop_eq_getElem_cons hi', szK_cons] at hm2
      generalize hx : l[i] = x at hat hmem hm2 hgl
      generalize us[i]'_ = u' at hat hrow
      have hc := ih x hmem u' hat (deep + 1) m2 ⟨by omega, by omega⟩ ⟨hm0, hm3⟩
      repeat (first
        | (refine g_ops ?_; first | refine sO ?_ | refine s_n (fun _ => ?_) | refine s_app (fun _ _ => ?_) | refine s_b0 (fun _ => ?_) | ((fail_if_success refine g_lit rfl rfl rfl ?_); first | apply g_partM rfl rfl rfl | apply g_partMB rfl rfl rfl | fail) | refine s_c (hc) (fun _ _ => ?_))
        | refine gS ?_ | exact s_m | intro _)
      rename_i m3 hm4
      dsimp only [List.cons_append, List.nil_append]
      refine g_as 7 (v' := int ((i + 1 : Nat) : Int)) rfl (congrArg (Value.int .i64) (by push_cast; rfl)) ?_
      refine gA ⟨i + 1, m3⟩ (by simp only; omega) ⟨hi', hm4.1, hm4.2.1, fun hm => ?_⟩
      obtain ⟨g1, g2⟩ := hm4.2.2 hm
      obtain ⟨g3, g4⟩ := hm2 hm3
      refine ⟨fun j x' hj hx' => ?_, by dsimp only; push_cast at g4; omega⟩
      rcases Nat.lt_or_ge j i with hlt | hge
      · exact g3 j x' hlt hx'
      · obtain rfl : j = i := by dsimp only at hj; omega
        rw [hgl] at hx'
        cases hx'
        exact g1
    · repeat (first
        | (refine g_ops ?_; first | refine sO ?_ | refine s_n (fun _ => ?_) | refine s_app (fun _ _ => ?_) | refine s_b0 (fun _ => ?_) | ((fail_if_success refine g_lit rfl rfl rfl ?_); first | apply g_partM rfl rfl rfl | apply g_partMB rfl rfl rfl | fail))
        | refine gS ?_ | exact s_m | intro _)
      exact s_r m2 (hx := ⟨hm0, hm1, fun hm => by
        have : i = l.length := by simp at h2; omega
        subst this
        obtain ⟨g1, g2⟩ := hm2 hm
        rw [List.drop_length, szK_nil] at g2
        refine ⟨.mk e6 (fun h => List.eq_nil_of_length_eq_zero (e0 h)) (fun h => List.eq_nil_of_length_eq_zero (e5 h)) fun x hx => ?_, by omega⟩
        obtain ⟨j, hj, rfl⟩ := List.mem_iff_getElem.1 hx
        exact g1 j _ hj (List.getElem?_eq_getElem hj)⟩)
theorem small27 {H : HP} (v : V) (u : Vc) (hu : VAt (Pile H) v u) : Does Tryd.prog 10 [.agg u.cells.toArray, int 0] [Pile H] (X := Bool) Value.bool (fun _ => [Pile H]) (fun r => r = true → SmV v ∧ szV v ≤ 3000) := by
  have hw := weight v u hu 0 0 ⟨by decide, by decide⟩ ⟨by decide, by decide⟩
  dsimp only [Vc.cells] at hw ⊢
  refine fn_intro Tryd.func10 rfl Tryd.ntmps10 rfl (by simp only [argFr, Nat.zero_add, Nat.reduceAdd]; rfl) (fun Γ => ?_)
  repeat (first
    | (refine g_ops ?_; first | refine sO ?_ | refine s_n (fun _ => ?_) | refine s_app (fun _ _ => ?_) | refine s_b0 (fun _ => ?_) | ((fail_if_success refine g_lit rfl rfl rfl ?_); first | apply g_partM rfl rfl rfl | apply g_partMB rfl rfl rfl | fail) | refine s_c (hw) (fun _ _ => ?_))
    | refine gS ?_ | exact s_m | intro _)
  rename_i r hr
  exact s_r (decide (r ≤ 3000)) (hx := fun h => by
    have h := of_decide_eq_true h
    have := hr.2.2 h
    exact ⟨this.1, by omega⟩)
end Go.Proofs.YtpilcncdgjnbeaaDoor
namespace Go.Sl
theorem nil_get {α : Type} {j : Nat} {w : α} (h : ([] : List α)[j]? = some w) : False := by simp at h
end Go.Sl
namespace Go.Proofs.YtpilcncdgjnbeaaDoor
open Go.Sl facts
attribute [local irreducible] Code.wp wpList Exit.then Exit.inBlock bodyPost Back MidQ G GP QStep VStep CStep SStep Does Post Reads
structure MdX where
  i : Nat
  q : Option Addr
  c : Nat
  vs : List Value
  H : HP
structure MpX where
  i : Nat
  q : Option Addr
  c : Nat
  ps : List Pr
  H : HP
abbrev MadeD (H : HP) (v : V) (u : Vc) : Prop := Does Tryd.prog 12 [.agg u.cells.toArray] [Pile H] (X := HP × Value) (fun y => y.2) (fun y => [Pile y.1]) (fun y => HP.sub H y.1 ∧ TAt y.1 v y.2)
structure MqX where
  q : Option Addr
  c : Nat
  H : HP
  w : Value
theorem TAt.shape {H : HP} {v : V} {x : Value} (h : TAt H v x) : x = .nilIface ∨ ∃ t u, x = .iface t u := by cases h <;> first | exact .inl rfl | exact .inr ⟨_, _, rfl⟩
theorem TAt.one {H : HP} {v : V} {x : Value} (h : TAt H v x) : x.oneCell' = true := by cases h <;> rfl
set_option maxHeartbeats 8000000 in
theorem made (v : V) : ∀ (H : HP) (u : Vc), VAt (Pile H) v u → SmV v → szV v ≤ 1000000 → MadeD H v u := by
  refine V.ind (Q := fun v => ∀ (H : HP) (u : Vc), VAt (Pile H) v u → SmV v → szV v ≤ 1000000 → MadeD H v u) (fun k y n s ks l ih H u hu hsm hsz => ?_) v
  have hsl := szK_len l
  rw [szV_mk] at hsz
  obtain ⟨h6, h0, h5, hsk⟩ := hsm
  cases hu with
  | @mk _ _ _ _ _ _ kp kc p c us hki hn0 hs hkl hks hkS hl hul hS h =>
    unfold MadeD
    dsimp only [Vc.cells]
    refine fn_intro Tryd.func12 rfl Tryd.ntmps12 rfl (by simp only [argFr, Nat.zero_add, Nat.reduceAdd]; rfl) (fun Γ => ?_)
    repeat (first
      | (refine g_ops ?_; first | refine sO ?_ | refine s_n (fun _ => ?_) | refine s_app (fun _ _ => ?_) | refine s_b0 (fun _ => ?_) | ((fail_if_success refine g_lit rfl rfl rfl ?_); first | apply g_partM rfl rfl rfl | apply g_partMB rfl rfl rfl | fail))
      | refine gS ?_ | exact s_m | intro _)
    rename_i b
    by_cases k1 : k = 1
    · subst k1
      refine g_as 9 (v' := .bool true) rfl rfl ?_
      repeat (first
        | (refine g_ops ?_; first | refine sO ?_ | refine s_n (fun _ => ?_) | refine s_app (fun _ _ => ?_) | refine s_b0 (fun _ => ?_) | ((fail_if_success refine g_lit rfl rfl rfl ?_); first | apply g_partM rfl rfl rfl | apply g_partMB rfl rfl rfl | fail))
        | refine gS ?_ | exact s_m | intro _)
      exact s_r (H, .nilIface) (hx := ⟨HP.sub.refl _, .nil⟩)
    refine g_as 9 (v' := .bool false) rfl (congrArg Value.bool (decide_eq_false k1)) ?_
    repeat (first
      | (refine g_ops ?_; first | refine sO ?_ | refine s_n (fun _ => ?_) | refine s_app (fun _ _ => ?_) | refine s_b0 (fun _ => ?_) | ((fail_if_success refine g_lit rfl rfl rfl ?_); first | apply g_partM rfl rfl rfl | apply g_partMB rfl rfl rfl | fail))
      | refine gS ?_ | exact s_m | intro _)
    by_cases k2 : k = 2
    · subst k2
      refine g_as 11 (v' := .bool true) rfl rfl ?_
      repeat (first
        | (refine g_ops ?_; first | refine sO ?_ | refine s_n (fun _ => ?_) | refine s_app (fun _ _ => ?_) | refine s_b0 (fun _ => ?_) | ((fail_if_success refine g_lit rfl rfl rfl ?_); first | apply g_partM rfl rfl rfl | apply g_partMB rfl rfl rfl | fail))
        | refine gS ?_ | exact s_m | intro _)
      exact s_r (H, .iface 4 (.bool y)) (hx := ⟨HP.sub.refl _, .bool⟩)
    refine g_as 11 (v' := .bool false) rfl (congrArg Value.bool (decide_eq_false k2)) ?_
    repeat (first
      | (refine g_ops ?_; first | refine sO ?_ | refine s_n (fun _ => ?_) | refine s_app (fun _ _ => ?_) | refine s_b0 (fun _ => ?_) | ((fail_if_success refine g_lit rfl rfl rfl ?_); first | apply g_partM rfl rfl rfl | apply g_partMB rfl rfl rfl | fail))
      | refine gS ?_ | exact s_m | intro _)
    by_cases k3 : k = 3
    · subst k3
      refine g_as 16 (v' := .bool true) rfl rfl ?_
      repeat (first
        | (refine g_ops ?_; first | refine sO ?_ | refine s_n (fun _ => ?_) | refine s_app (fun _ _ => ?_) | refine s_b0 (fun _ => ?_) | ((fail_if_success refine g_lit rfl rfl rfl ?_); first | apply g_partM rfl rfl rfl | apply g_partMB rfl rfl rfl | fail))
        | refine gS ?_ | exact s_m | intro _)
      exact s_r (H, .iface 3 (int n)) (hx := ⟨HP.sub.refl _, .int hn0⟩)
    refine g_as 16 (v' := .bool false) rfl (congrArg Value.bool (decide_eq_false k3)) ?_
    repeat (first
      | (refine g_ops ?_; first | refine sO ?_ | refine s_n (fun _ => ?_) | refine s_app (fun _ _ => ?_) | refine s_b0 (fun _ => ?_) | ((fail_if_success refine g_lit rfl rfl rfl ?_); first | apply g_partM rfl rfl rfl | apply g_partMB rfl rfl rfl | fail))
      | refine gS ?_ | exact s_m | intro _)
    by_cases k4 : k = 4
    · subst k4
      refine g_as 21 (v' := .bool true) rfl rfl ?_
      repeat (first
        | (refine g_ops ?_; first | refine sO ?_ | refine s_n (fun _ => ?_) | refine s_app (fun _ _ => ?_) | refine s_b0 (fun _ => ?_) | ((fail_if_success refine g_lit rfl rfl rfl ?_); first | apply g_partM rfl rfl rfl | apply g_partMB rfl rfl rfl | fail))
        | refine gS ?_ | exact s_m | intro _)
      exact s_r (H, .iface 9 (.string s)) (hx := ⟨HP.sub.refl _, .text hs⟩)
    refine g_as 21 (v' := .bool false) rfl (congrArg Value.bool (decide_eq_false k4)) ?_
    repeat (first
      | (refine g_ops ?_; first | refine sO ?_ | refine s_n (fun _ => ?_) | refine s_app (fun _ _ => ?_) | refine s_b0 (fun _ => ?_) | ((fail_if_success refine g_lit rfl rfl rfl ?_); first | apply g_partM rfl rfl rfl | apply g_partMB rfl rfl rfl | fail))
      | refine gS ?_ | exact s_m | intro _)
    by_cases k5 : k = 5
    · subst k5
      refine g_as 26 (v' := .bool true) rfl rfl ?_
      repeat (first
        | (refine g_ops ?_; first | refine sO ?_ | refine s_n (fun _ => ?_) | refine s_app (fun _ _ => ?_) | refine s_b0 (fun _ => ?_) | ((fail_if_success refine g_lit rfl rfl rfl ?_); first | apply g_partM rfl rfl rfl | apply g_partMB rfl rfl rfl | fail))
        | refine gS ?_ | exact s_m | intro _)
      rename_i b2
      refine g_loop (X := MdX) (fun x => [(1, ptr b), (3, .slice x.q x.vs.length x.c), (4, int x.i)]) (fun x => [.own x.q x.vs.length x.c 1 x.vs 20, .row b [int 5, .bool y, int n, .string s, .slice kp ks.length kc, .slice p l.length c] 25, Pile x.H])
        (fun x => x.i ≤ l.length ∧ x.vs.length = x.i ∧ HP.sub H x.H ∧ ∀ j a w, l[j]? = some a → x.vs[j]? = some w → TAt x.H a w) (fun x => l.length - x.i) ⟨0, some ⟨b2, 0, none⟩, 0, [], H⟩ ⟨Nat.zero_le _, rfl, HP.sub.refl _, fun j a w _ hw => (nil_get hw).elim⟩ (by (repeat (first | exact FrSub.nil | refine FrSub.cons rfl ?_)); first | done | fail) (by (repeat (first | exact Take.nil | apply Take.cons | exact Sel.here | apply Sel.there)); first | done | fail) (fun x hx => ?_)
      obtain ⟨i, q, c2, vs, H1⟩ := x
      obtain ⟨hi, hvl, hs1, hts⟩ := hx
      dsimp only at hi hvl hs1 hts ⊢
      repeat (first
        | (refine g_ops ?_; first | refine sO ?_ | refine s_n (fun _ => ?_) | refine s_app (fun _ _ => ?_) | refine s_b0 (fun _ => ?_) | ((fail_if_success refine g_lit rfl rfl rfl ?_); first | apply g_partM rfl rfl rfl | apply g_partMB rfl rfl rfl | fail))
        | refine gS ?_ | exact s_m | intro _)
      refine g_cond_dec rfl (fun h2 => ?_) (fun h2 => ?_)
      · have hi' : i < l.length := by omega
        have hgl : l[i]? = some l[i] := List.getElem?_eq_getElem hi'
        have hgu : us[i]? = some (us[i]'(by omega)) := List.getElem?_eq_getElem _
        have hmem : l[i] ∈ l := List.getElem_mem _
        have hat := (h i _ _ hgl hgu).grow hs1
        obtain ⟨b3, o, rfl, hrow⟩ := slAt_elem (hS.grow hs1) Vc.len (by decide) hgu
        have hsx := szK_mem hmem
        generalize l[i] = x at hat hmem hgl hsx
        generalize us[i]'_ = u' at hat hrow
        have hc := ih x hmem H1 u' hat (hsk x hmem) (by omega)
        unfold MadeD at hc
        repeat (first
          | (refine g_ops ?_; first | refine sO ?_ | refine s_n (fun _ => ?_) | refine s_app (fun _ _ => ?_) | refine s_b0 (fun _ => ?_) | ((fail_if_success refine g_lit rfl rfl rfl ?_); first | apply g_partM rfl rfl rfl | apply g_partMB rfl rfl rfl | fail) | refine s_c (hc) (fun _ _ => ?_))
          | refine gS ?_ | exact s_m | intro _)
        rename_i y hy
        obtain ⟨H2, w⟩ := y
        obtain ⟨hs2, hat2⟩ := hy
        dsimp only [List.cons_append, List.nil_append] at hs2 hat2 ⊢
        have hw1 := hat2.one
        refine g_ops ?_
        refine s_n (q := cs_buildSlice rfl rfl rfl (Parts.cons rfl (CellsOf.one hw1) rfl Parts.nil (.cons .nil))) (fun b4 => ?_)
        refine g_ops ?_
        refine s_app (news := [w]) (fun q' c' => ?_) (src := by exact srcRow inferInstance (by (repeat (first | exact Sel.here | apply Sel.there)); first | done | fail) (by (repeat (first | exact Cut.zero | apply Cut.take | apply Cut.skip)); first | done | fail) (by simp [hw1]))
        repeat (first
          | (refine g_ops ?_; first | refine sO ?_ | refine s_n (fun _ => ?_) | refine s_app (fun _ _ => ?_) | refine s_b0 (fun _ => ?_) | ((fail_if_success refine g_lit rfl rfl rfl ?_); first | apply g_partM rfl rfl rfl | apply g_partMB rfl rfl rfl | fail))
          | refine gS ?_ | exact s_m | intro _)
        refine g_as 4 (v' := int ((i + 1 : Nat) : Int)) rfl (congrArg (Value.int .i64) (by push_cast; rfl)) ?_
        rw [show vs.length + 1 = (vs ++ [w]).length by simp]
        refine gA ⟨i + 1, q', c', vs ++ [w], H2⟩ (by simp only; omega) ⟨hi', by simp [hvl], hs1.trans hs2, fun j a w' ha hw' => ?_⟩
        dsimp only at hw' ⊢
        rcases Nat.lt_or_ge j vs.length with hlt | hge
        · rw [List.getElem?_append_left hlt] at hw'
          exact (hts j a w' ha hw').grow hs2
        · rw [List.getElem?_append_right hge] at hw'
          have hj : j = i := by
            have := (List.getElem?_eq_some_iff.1 hw').1
            simp only [List.length_singleton] at this
            omega
          subst hj
          rw [show j - vs.length = 0 by omega] at hw'
          rw [hgl] at ha
          cases ha
          cases hw'
          exact hat2
      · obtain rfl : i = l.length := by omega
        repeat (first
          | (refine g_ops ?_; first | refine sO ?_ | refine s_n (fun _ => ?_) | refine s_app (fun _ _ => ?_) | refine s_b0 (fun _ => ?_) | ((fail_if_success refine g_lit rfl rfl rfl ?_); first | apply g_partM rfl rfl rfl | apply g_partMB rfl rfl rfl | fail))
          | refine gS ?_ | exact s_m | intro _)
        refine g_pile (by (repeat (first | exact Sel.here | apply Sel.there)); first | done | fail) (by (repeat (first | exact Sel.here | apply Sel.there)); first | done | fail) (fun H2 hs2 hS2 => ?_)
        rw [hvl] at hS2
        refine s_r (H2, .iface 35 (.slice q l.length c2)) (hx := ⟨hs1.trans hs2, .list vs hvl (by omega) hS2 fun j a w ha hw => (hts j a w ha hw).grow hs2⟩) (hp := by simp only [pack, hvl])
    refine g_as 26 (v' := .bool false) rfl (congrArg Value.bool (decide_eq_false k5)) ?_
    repeat (first
      | (refine g_ops ?_; first | refine sO ?_ | refine s_n (fun _ => ?_) | refine s_app (fun _ _ => ?_) | refine s_b0 (fun _ => ?_) | ((fail_if_success refine g_lit rfl rfl rfl ?_); first | apply g_partM rfl rfl rfl | apply g_partMB rfl rfl rfl | fail))
      | refine gS ?_ | exact s_m | intro _)
    by_cases k6 : k = 6
    · subst k6
      refine g_as 47 (v' := .bool true) rfl rfl ?_
      repeat (first
        | (refine g_ops ?_; first | refine sO ?_ | refine s_n (fun _ => ?_) | refine s_app (fun _ _ => ?_) | refine s_b0 (fun _ => ?_) | ((fail_if_success refine g_lit rfl rfl rfl ?_); first | apply g_partM rfl rfl rfl | apply g_partMB rfl rfl rfl | fail))
        | refine gS ?_ | exact s_m | intro _)
      rename_i b2
      have hkl6 := h6 rfl
      refine g_loop (X := MpX) (fun x => [(1, ptr b), (5, .slice x.q x.ps.length x.c), (6, int x.i)]) (fun x => [.own x.q x.ps.length x.c 2 (x.ps.flatMap Pr.cells) 42, .row b [int 6, .bool y, int n, .string s, .slice kp ks.length kc, .slice p l.length c] 25, Pile x.H])
        (fun x => x.i ≤ l.length ∧ x.ps.length = x.i ∧ HP.sub H x.H ∧ x.ps.map Pr.k = ks.take x.i ∧ ∀ j a w, l[j]? = some a → x.ps[j]? = some w → TAt x.H a w.v) (fun x => l.length - x.i) ⟨0, some ⟨b2, 0, none⟩, 0, [], H⟩ ⟨Nat.zero_le _, rfl, HP.sub.refl _, rfl, fun j a w _ hw => (nil_get hw).elim⟩ (by (repeat (first | exact FrSub.nil | refine FrSub.cons rfl ?_)); first | done | fail) (by (repeat (first | exact Take.nil | apply Take.cons | exact Sel.here | apply Sel.there)); first | done | fail) (fun x hx => ?_)
      obtain ⟨i, q, c2, ps, H1⟩ := x
      obtain ⟨hi, hvl, hs1, hpk, hts⟩ := hx
      dsimp only at hi hvl hs1 hpk hts ⊢
      repeat (first
        | (refine g_ops ?_; first | refine sO ?_ | refine s_n (fun _ => ?_) | refine s_app (fun _ _ => ?_) | refine s_b0 (fun _ => ?_) | ((fail_if_success refine g_lit rfl rfl rfl ?_); first | apply g_partM rfl rfl rfl | apply g_partMB rfl rfl rfl | fail))
        | refine gS ?_ | exact s_m | intro _)
      refine g_cond_dec rfl (fun h2 => ?_) (fun h2 => ?_)
      · have hi' : i < l.length := by omega
        have hgl : l[i]? = some l[i] := List.getElem?_eq_getElem hi'
        have hgu : us[i]? = some (us[i]'(by omega)) := List.getElem?_eq_getElem _
        have hgk : (ks.map Value.string)[i]? = some (.string (ks[i]'(by omega))) := by rw [List.getElem?_map, List.getElem?_eq_getElem (by omega)]; rfl
        have hmem : l[i] ∈ l := List.getElem_mem _
        have hat := (h i _ _ hgl hgu).grow hs1
        obtain ⟨b3, o, rfl, hrow⟩ := slAt_elem (hS.grow hs1) Vc.len (by decide) hgu
        obtain ⟨b4, o4, rfl, hr0⟩ := slAt_cell (hkS.grow hs1) hgk
        have hsx := szK_mem hmem
        have htake : ks.take (i + 1) = ks.take i ++ [ks[i]'(by omega)] := by rw [List.take_add_one, List.getElem?_eq_getElem (by omega)]; rfl
        generalize l[i] = x at hat hmem hgl hsx
        generalize us[i]'_ = u' at hat hrow
        generalize ks[i]'_ = kk at hr0 htake
        have hr : ∀ k', k' = i → Reads (Pile H1) ⟨b4, o4 + k', none⟩ (.string kk) := fun _ e => e ▸ hr0
        have hc := ih x hmem H1 u' hat (hsk x hmem) (by omega)
        unfold MadeD at hc
        repeat (first | refine g_skip ?_ | refine g_then_normal ?_ | refine g_block ?_ | refine g_seq ?_)
        refine g_cutX (X := MqX) (fun z => [(5, .slice z.q (ps.length + 1) z.c), (6, int i), (1, ptr b)]) (fun z => [.own z.q (ps.length + 1) z.c 2 (ps.flatMap Pr.cells ++ [.string kk, z.w]) 42, .row b [int 6, .bool y, int n, .string s, .slice (some ⟨b4, o4, none⟩) ks.length kc, .slice (some ⟨b3, o, none⟩) l.length c] 25, Pile z.H]) (fun z => HP.sub H1 z.H ∧ TAt z.H x z.w) ?_ (fun z hz => ?_)
        · refine g_draw (.take 0 (.take 1 (.see 2 [] (.take 3 (.take 4 (.take 6 (.see 7 [] (.take 8 (.take 9 (.two 5 (.one 10 (.one 11 (.take 12 (.one 13 (.one 14 (.take 15 .done)))))) 10 (.two 5 (.one 11 (.take 12 (.one 13 (.one 14 (.take 15 .done))))) 11 (.one 5 (.take 12 (.one 13 (.one 14 (.take 15 .done)))))))))))))))) (by kernel_rfl) (C := [.row b [int 6, .bool y, int n, .string s, .slice (some ⟨b4, o4, none⟩) ks.length kc, .slice (some ⟨b3, o, none⟩) l.length c] 25]) (by (repeat (first | exact Take.nil | apply Take.cons | exact Sel.here | apply Sel.there)); first | done | fail) (fun m hd hk => ?_)
          repeat (first
            | (refine gp_take ?_; first | refine pT ?_ | ((fail_if_success refine gp_lit rfl rfl rfl rfl ?_); first | apply gp_guard_dec rfl rfl rfl rfl | apply gp_guard rfl rfl rfl rfl | fail))
            | (refine gp_see ?_; first | refine p_f ?_ | refine pS ?_ | ((fail_if_success refine gp_lit rfl rfl rfl rfl ?_); first | apply gp_guard_dec rfl rfl rfl rfl | apply gp_guard rfl rfl rfl rfl | fail))
            | (refine gp_one ?_; first | refine pO ?_ | refine p_n (fun _ => ?_) | refine p_app (fun _ _ => ?_) | refine p_b0 (fun _ => ?_) | ((fail_if_success refine gp_lit rfl rfl rfl rfl ?_); first | apply gp_guard_dec rfl rfl rfl rfl | apply gp_guard rfl rfl rfl rfl | fail) | refine p_c (hc) (fun _ _ => ?_))
            | refine gp_two ?_ ?_ | refine gp_done hd hk ?_ | intro _ | refine p_ta hd hk (fun _ _ _ hd hk => ?_) | refine p_ts hd hk (fun _ hd hk => ?_))
          · rename_i z hz
            obtain ⟨H2, w⟩ := z
            obtain ⟨hs2, hat2⟩ := hz
            dsimp only [List.cons_append, List.nil_append] at hs2 hat2 ⊢
            rcases hat2.shape with rfl | ⟨t, v', rfl⟩
            · repeat (first
                | (refine gp_take ?_; first | refine pT ?_ | ((fail_if_success refine gp_lit rfl rfl rfl rfl ?_); first | apply gp_guard_dec rfl rfl rfl rfl | apply gp_guard rfl rfl rfl rfl | fail))
                | (refine gp_see ?_; first | refine p_f ?_ | refine pS ?_ | ((fail_if_success refine gp_lit rfl rfl rfl rfl ?_); first | apply gp_guard_dec rfl rfl rfl rfl | apply gp_guard rfl rfl rfl rfl | fail))
                | (refine gp_one ?_; first | refine pO ?_ | refine p_n (fun _ => ?_) | refine p_app (fun _ _ => ?_) | refine p_b0 (fun _ => ?_) | ((fail_if_success refine gp_lit rfl rfl rfl rfl ?_); first | apply gp_guard_dec rfl rfl rfl rfl | apply gp_guard rfl rfl rfl rfl | fail))
                | refine gp_two ?_ ?_ | refine gp_done hd hk ?_ | intro _ | refine p_ta hd hk (fun _ _ _ hd hk => ?_) | refine p_ts hd hk (fun _ hd hk => ?_))
              exact gM ⟨_, _, H2, _⟩ ⟨hs2, hat2⟩
            · repeat (first
                | (refine gp_take ?_; first | refine pT ?_ | ((fail_if_success refine gp_lit rfl rfl rfl rfl ?_); first | apply gp_guard_dec rfl rfl rfl rfl | apply gp_guard rfl rfl rfl rfl | fail))
                | (refine gp_see ?_; first | refine p_f ?_ | refine pS ?_ | ((fail_if_success refine gp_lit rfl rfl rfl rfl ?_); first | apply gp_guard_dec rfl rfl rfl rfl | apply gp_guard rfl rfl rfl rfl | fail))
                | (refine gp_one ?_; first | refine pO ?_ | refine p_n (fun _ => ?_) | refine p_app (fun _ _ => ?_) | refine p_b0 (fun _ => ?_) | ((fail_if_success refine gp_lit rfl rfl rfl rfl ?_); first | apply gp_guard_dec rfl rfl rfl rfl | apply gp_guard rfl rfl rfl rfl | fail))
                | refine gp_two ?_ ?_ | refine gp_done hd hk ?_ | intro _ | refine p_ta hd hk (fun _ _ _ hd hk => ?_) | refine p_ts hd hk (fun _ hd hk => ?_))
              exact gM ⟨_, _, H2, _⟩ ⟨hs2, hat2⟩
          · repeat (first
              | (refine gp_take ?_; first | refine pT ?_ | ((fail_if_success refine gp_lit rfl rfl rfl rfl ?_); first | apply gp_guard_dec rfl rfl rfl rfl | apply gp_guard rfl rfl rfl rfl | fail))
              | (refine gp_see ?_; first | refine p_f ?_ | refine pS ?_ | ((fail_if_success refine gp_lit rfl rfl rfl rfl ?_); first | apply gp_guard_dec rfl rfl rfl rfl | apply gp_guard rfl rfl rfl rfl | fail))
              | (refine gp_one ?_; first | refine pO ?_ | refine p_n (fun _ => ?_) | refine p_app (fun _ _ => ?_) | refine p_b0 (fun _ => ?_) | ((fail_if_success refine gp_lit rfl rfl rfl rfl ?_); first | apply gp_guard_dec rfl rfl rfl rfl | apply gp_guard rfl rfl rfl rfl | fail) | refine p_c (hc) (fun _ _ => ?_))
              | refine gp_two ?_ ?_ | refine gp_done hd hk ?_ | intro _ | refine p_ta hd hk (fun _ _ _ hd hk => ?_) | refine p_ts hd hk (fun _ hd hk => ?_))
            · rename_i z hz
              obtain ⟨H2, w⟩ := z
              obtain ⟨hs2, hat2⟩ := hz
              dsimp only [List.cons_append, List.nil_append] at hs2 hat2 ⊢
              rcases hat2.shape with rfl | ⟨t, v', rfl⟩
              · repeat (first
                  | (refine gp_take ?_; first | refine pT ?_ | ((fail_if_success refine gp_lit rfl rfl rfl rfl ?_); first | apply gp_guard_dec rfl rfl rfl rfl | apply gp_guard rfl rfl rfl rfl | fail))
                  | (refine gp_see ?_; first | refine p_f ?_ | refine pS ?_ | ((fail_if_success refine gp_lit rfl rfl rfl rfl ?_); first | apply gp_guard_dec rfl rfl rfl rfl | apply gp_guard rfl rfl rfl rfl | fail))
                  | (refine gp_one ?_; first | refine pO ?_ | refine p_n (fun _ => ?_) | refine p_app (fun _ _ => ?_) | refine p_b0 (fun _ => ?_) | ((fail_if_success refine gp_lit rfl rfl rfl rfl ?_); first | apply gp_guard_dec rfl rfl rfl rfl | apply gp_guard rfl rfl rfl rfl | fail))
                  | refine gp_two ?_ ?_ | refine gp_done hd hk ?_ | intro _ | refine p_ta hd hk (fun _ _ _ hd hk => ?_) | refine p_ts hd hk (fun _ hd hk => ?_))
                exact gM ⟨_, _, H2, _⟩ ⟨hs2, hat2⟩
              · repeat (first
                  | (refine gp_take ?_; first | refine pT ?_ | ((fail_if_success refine gp_lit rfl rfl rfl rfl ?_); first | apply gp_guard_dec rfl rfl rfl rfl | apply gp_guard rfl rfl rfl rfl | fail))
                  | (refine gp_see ?_; first | refine p_f ?_ | refine pS ?_ | ((fail_if_success refine gp_lit rfl rfl rfl rfl ?_); first | apply gp_guard_dec rfl rfl rfl rfl | apply gp_guard rfl rfl rfl rfl | fail))
                  | (refine gp_one ?_; first | refine pO ?_ | refine p_n (fun _ => ?_) | refine p_app (fun _ _ => ?_) | refine p_b0 (fun _ => ?_) | ((fail_if_success refine gp_lit rfl rfl rfl rfl ?_); first | apply gp_guard_dec rfl rfl rfl rfl | apply gp_guard rfl rfl rfl rfl | fail))
                  | refine gp_two ?_ ?_ | refine gp_done hd hk ?_ | intro _ | refine p_ta hd hk (fun _ _ _ hd hk => ?_) | refine p_ts hd hk (fun _ hd hk => ?_))
                exact gM ⟨_, _, H2, _⟩ ⟨hs2, hat2⟩
            · repeat (first
                | (refine gp_take ?_; first | refine pT ?_ | ((fail_if_success refine gp_lit rfl rfl rfl rfl ?_); first | apply gp_guard_dec rfl rfl rfl rfl | apply gp_guard rfl rfl rfl rfl | fail))
                | (refine gp_see ?_; first | refine p_f ?_ | refine pS ?_ | ((fail_if_success refine gp_lit rfl rfl rfl rfl ?_); first | apply gp_guard_dec rfl rfl rfl rfl | apply gp_guard rfl rfl rfl rfl | fail))
                | (refine gp_one ?_; first | refine pO ?_ | refine p_n (fun _ => ?_) | refine p_app (fun _ _ => ?_) | refine p_b0 (fun _ => ?_) | ((fail_if_success refine gp_lit rfl rfl rfl rfl ?_); first | apply gp_guard_dec rfl rfl rfl rfl | apply gp_guard rfl rfl rfl rfl | fail) | refine p_c (hc) (fun _ _ => ?_))
                | refine gp_two ?_ ?_ | refine gp_done hd hk ?_ | intro _ | refine p_ta hd hk (fun _ _ _ hd hk => ?_) | refine p_ts hd hk (fun _ hd hk => ?_))
              rename_i z hz
              obtain ⟨H2, w⟩ := z
              obtain ⟨hs2, hat2⟩ := hz
              dsimp only [List.cons_append, List.nil_append] at hs2 hat2 ⊢
              replace hr : ∀ k', k' = i → Reads (Pile H2) ⟨b4, o4 + k', none⟩ (.string kk) := fun k' e => reads_grow hs2 (hr k' e)
              repeat (first
                | (refine gp_take ?_; first | refine pT ?_ | ((fail_if_success refine gp_lit rfl rfl rfl rfl ?_); first | apply gp_guard_dec rfl rfl rfl rfl | apply gp_guard rfl rfl rfl rfl | fail))
                | (refine gp_see ?_; first | refine p_f ?_ | refine pS ?_ | ((fail_if_success refine gp_lit rfl rfl rfl rfl ?_); first | apply gp_guard_dec rfl rfl rfl rfl | apply gp_guard rfl rfl rfl rfl | fail))
                | (refine gp_one ?_; first | refine pO ?_ | refine p_n (fun _ => ?_) | refine p_app (fun _ _ => ?_) | refine p_b0 (fun _ => ?_) | ((fail_if_success refine gp_lit rfl rfl rfl rfl ?_); first | apply gp_guard_dec rfl rfl rfl rfl | apply gp_guard rfl rfl rfl rfl | fail))
                | refine gp_two ?_ ?_ | refine gp_done hd hk ?_ | intro _ | refine p_ta hd hk (fun _ _ _ hd hk => ?_) | refine p_ts hd hk (fun _ hd hk => ?_))
              rcases hat2.shape with rfl | ⟨t, v', rfl⟩
              · repeat (first
                  | (refine gp_take ?_; first | refine pT ?_ | ((fail_if_success refine gp_lit rfl rfl rfl rfl ?_); first | apply gp_guard_dec rfl rfl rfl rfl | apply gp_guard rfl rfl rfl rfl | fail))
                  | (refine gp_see ?_; first | refine p_f ?_ | refine pS ?_ | ((fail_if_success refine gp_lit rfl rfl rfl rfl ?_); first | apply gp_guard_dec rfl rfl rfl rfl | apply gp_guard rfl rfl rfl rfl | fail))
                  | (refine gp_one ?_; first | refine pO ?_ | refine p_n (fun _ => ?_) | refine p_app (fun _ _ => ?_) | refine p_b0 (fun _ => ?_) | ((fail_if_success refine gp_lit rfl rfl rfl rfl ?_); first | apply gp_guard_dec rfl rfl rfl rfl | apply gp_guard rfl rfl rfl rfl | fail))
                  | refine gp_two ?_ ?_ | refine gp_done hd hk ?_ | intro _ | refine p_ta hd hk (fun _ _ _ hd hk => ?_) | refine p_ts hd hk (fun _ hd hk => ?_))
                exact gM ⟨_, _, H2, _⟩ ⟨hs2, hat2⟩
              · repeat (first
                  | (refine gp_take ?_; first | refine pT ?_ | ((fail_if_success refine gp_lit rfl rfl rfl rfl ?_); first | apply gp_guard_dec rfl rfl rfl rfl | apply gp_guard rfl rfl rfl rfl | fail))
                  | (refine gp_see ?_; first | refine p_f ?_ | refine pS ?_ | ((fail_if_success refine gp_lit rfl rfl rfl rfl ?_); first | apply gp_guard_dec rfl rfl rfl rfl | apply gp_guard rfl rfl rfl rfl | fail))
                  | (refine gp_one ?_; first | refine pO ?_ | refine p_n (fun _ => ?_) | refine p_app (fun _ _ => ?_) | refine p_b0 (fun _ => ?_) | ((fail_if_success refine gp_lit rfl rfl rfl rfl ?_); first | apply gp_guard_dec rfl rfl rfl rfl | apply gp_guard rfl rfl rfl rfl | fail))
                  | refine gp_two ?_ ?_ | refine gp_done hd hk ?_ | intro _ | refine p_ta hd hk (fun _ _ _ hd hk => ?_) | refine p_ts hd hk (fun _ hd hk => ?_))
                exact gM ⟨_, _, H2, _⟩ ⟨hs2, hat2⟩
        obtain ⟨q', c', H2, w⟩ := z
        obtain ⟨hs2, hat2⟩ := hz
        dsimp only at hs2 hat2 ⊢
        repeat (first
          | (refine g_ops ?_; first | refine sO ?_ | refine s_n (fun _ => ?_) | refine s_app (fun _ _ => ?_) | refine s_b0 (fun _ => ?_) | ((fail_if_success refine g_lit rfl rfl rfl ?_); first | apply g_partM rfl rfl rfl | apply g_partMB rfl rfl rfl | fail))
          | refine gS ?_ | exact s_m | intro _)
        refine g_as 6 (v' := int ((i + 1 : Nat) : Int)) rfl (congrArg (Value.int .i64) (by push_cast; rfl)) ?_
        rw [show ps.length + 1 = (ps ++ [(⟨kk, w⟩ : Pr)]).length by simp, show ps.flatMap Pr.cells ++ [.string kk, w] = (ps ++ [(⟨kk, w⟩ : Pr)]).flatMap Pr.cells by simp [Pr.cells]]
        refine gA ⟨i + 1, q', c', ps ++ [⟨kk, w⟩], H2⟩ (by simp only; omega) ⟨hi', by simp [hvl], hs1.trans hs2, by dsimp only; rw [htake, List.map_append, hpk]; rfl, fun j a w' ha hw' => ?_⟩
        dsimp only at hw' ⊢
        rcases Nat.lt_or_ge j ps.length with hlt | hge
        · rw [List.getElem?_append_left hlt] at hw'
          exact (hts j a w' ha hw').grow hs2
        · rw [List.getElem?_append_right hge] at hw'
          have hj : j = i := by
            have := (List.getElem?_eq_some_iff.1 hw').1
            simp only [List.length_singleton] at this
            omega
          subst hj
          rw [show j - ps.length = 0 by omega] at hw'
          rw [hgl] at ha
          cases ha
          cases hw'
          exact hat2
      · obtain rfl : i = l.length := by omega
        repeat (first
          | (refine g_ops ?_; first | refine sO ?_ | refine s_n (fun _ => ?_) | refine s_app (fun _ _ => ?_) | refine s_b0 (fun _ => ?_) | ((fail_if_success refine g_lit rfl rfl rfl ?_); first | apply g_partM rfl rfl rfl | apply g_partMB rfl rfl rfl | fail))
          | refine gS ?_ | exact s_m | intro _)
        refine g_pile (by (repeat (first | exact Sel.here | apply Sel.there)); first | done | fail) (by (repeat (first | exact Sel.here | apply Sel.there)); first | done | fail) (fun H2 hs2 hS2 => ?_)
        rw [hvl] at hS2
        rw [List.take_of_length_le (by omega)] at hpk
        refine s_r (H2, .iface 47 (.slice q l.length c2)) (hx := ⟨hs1.trans hs2, .pairs ps hvl (by omega) hpk.symm (fun q hq => hks _ (by rw [← hpk]; exact List.mem_map_of_mem hq)) hS2 fun j a w ha hw => (hts j a w ha hw).grow hs2⟩) (hp := by simp only [pack, hvl])
    refine g_as 47 (v' := .bool false) rfl (congrArg Value.bool (decide_eq_false k6)) ?_
    have hko : k < 1 ∨ 6 < k := by omega
    repeat (first
      | (refine g_ops ?_; first | refine sO ?_ | refine s_n (fun _ => ?_) | refine s_app (fun _ _ => ?_) | refine s_b0 (fun _ => ?_) | ((fail_if_success refine g_lit rfl rfl rfl ?_); first | apply g_partM rfl rfl rfl | apply g_partMB rfl rfl rfl | fail))
      | refine gS ?_ | exact s_m | intro _)
    refine s_q (q := by exact qs_rem rfl rfl (by decide)) ?_
    repeat (first
      | (refine g_ops ?_; first | refine sO ?_ | refine s_n (fun _ => ?_) | refine s_app (fun _ _ => ?_) | refine s_b0 (fun _ => ?_) | ((fail_if_success refine g_lit rfl rfl rfl ?_); first | apply g_partM rfl rfl rfl | apply g_partMB rfl rfl rfl | fail))
      | refine gS ?_ | exact s_m | intro _)
    refine g_cond_dec rfl (fun h7 => ?_) (fun h7 => ?_)
    · repeat (first
        | (refine g_ops ?_; first | refine sO ?_ | refine s_n (fun _ => ?_) | refine s_app (fun _ _ => ?_) | refine s_b0 (fun _ => ?_) | ((fail_if_success refine g_lit rfl rfl rfl ?_); first | apply g_partM rfl rfl rfl | apply g_partMB rfl rfl rfl | fail))
        | refine gS ?_ | exact s_m | intro _)
      exact s_r (H, .iface 2 (int n)) (hx := ⟨HP.sub.refl _, .other hko rfl rfl rfl rfl rfl⟩)
    · repeat (first
        | (refine g_ops ?_; first | refine sO ?_ | refine s_n (fun _ => ?_) | refine s_app (fun _ _ => ?_) | refine s_b0 (fun _ => ?_) | ((fail_if_success refine g_lit rfl rfl rfl ?_); first | apply g_partM rfl rfl rfl | apply g_partMB rfl rfl rfl | fail))
        | refine gS ?_ | exact s_m | intro _)
      rename_i b2
      exact s_r (H, .iface 22 (.slice (some ⟨b2, 0, none⟩) 1 1)) (hx := ⟨HP.sub.refl _, .other hko rfl rfl rfl rfl rfl⟩)
end Go.Proofs.YtpilcncdgjnbeaaDoor
namespace Go.Sl
variable {P : Program} {Γ : Ctx} {L R : List Chunk} {N : Nat} {fr : Fr} {Q : Exit → Act → World → Prop} {ops : Array Oper} {rest : List Oper}
variable {dst : Option Nat} {ty : TypeId} {pos : String} {aft : Array Edge} {gd : Option (Nat × Bool)} {x y z : Operand} {v u : Value} {t xt at_ : TypeId}
theorem g_assertDNil {td : TypeDesc} {T : TypeId} (D : TDesc P at_ td) (hi : ifaceD td = false) (Rt : P.underlying P.rt.typeAssertionError = some (.pointer T)) (hx : ev fr x = some .nilIface) (hg : Runs ops fr gd)
    (K : ∀ t v, G Γ N fr L (Q (.panic [{ v := .iface t v, recovered := false }]))) : G Γ N fr L (wpList P ops Q (⟨dst, .typeAssert x xt at_ false, ty, pos, aft, gd⟩ :: rest)) := by
  refine g_halt (V := fun v => ∃ t u, v = .iface t u) hg (fun a w hf hh => ?_) (fun v ⟨t, u, e⟩ => by subst e; exact K t u)
  refine ⟨_, w.alloc (.cells #[typeHandle P xt, .pointer none, typeHandle P at_, strVal ""] T), ⟨P.rt.typeAssertionError, .pointer (some ⟨w.heap.size, 0, none⟩), rfl⟩, ?_, hh.newRow.tail⟩
  cases td <;> simp [ifaceD] at hi <;> simp [execOp, hf.ev hx, Instr.typeAssert, run_underlying D.desc, runtimePanic, elemOf, run_underlying Rt, newVar, newRow, Value.cells]
end Go.Sl
namespace Go.Proofs.YtpilcncdgjnbeaaDoor
open Go.Sl facts
attribute [local irreducible] Code.wp wpList Exit.then Exit.inBlock bodyPost Back MidQ G GP QStep VStep CStep SStep Does Post Reads
/-- The kind of what a tree stands for, where it is an int or a text. -/
def Other (ty : TypeId) (x : Value) : Prop := x = .nilIface ∨ ∃ t v, x = .iface t v ∧ Nat.beq t ty = false
theorem mustInt_dies' {x : Value} (h : Other 3 x) : Dies Tryd.prog 22 [x] [] [] := by
  rcases h with rfl | ⟨t, v, rfl, ne⟩
  · refine fn_introD Tryd.func22 rfl Tryd.ntmps22 rfl (by simp only [argFr, Nat.zero_add, Nat.reduceAdd]; rfl) (fun Γ => ?_)
    repeat (first
      | (refine g_ops ?_; first | refine sO ?_ | refine s_n (fun _ => ?_) | refine s_app (fun _ _ => ?_) | refine s_b0 (fun _ => ?_) | ((fail_if_success refine g_lit rfl rfl rfl ?_); first | apply g_partM rfl rfl rfl | apply g_partMB rfl rfl rfl | fail))
      | refine gS ?_ | exact s_m | intro _)
    refine g_assertDNil (T := 171) inferInstance rfl (by kernel_rfl) rfl rfl (fun t v => ?_)
    exact g_then_panic (g_dead .nil)
  · exact mustInt_dies t v ne
theorem mustText_dies {x : Value} (h : Other 9 x) : Dies Tryd.prog 24 [x] [] [] := by
  rcases h with rfl | ⟨t, v, rfl, ne⟩
  · refine fn_introD Tryd.func24 rfl Tryd.ntmps24 rfl (by simp only [argFr, Nat.zero_add, Nat.reduceAdd]; rfl) (fun Γ => ?_)
    repeat (first
      | (refine g_ops ?_; first | refine sO ?_ | refine s_n (fun _ => ?_) | refine s_app (fun _ _ => ?_) | refine s_b0 (fun _ => ?_) | ((fail_if_success refine g_lit rfl rfl rfl ?_); first | apply g_partM rfl rfl rfl | apply g_partMB rfl rfl rfl | fail))
      | refine gS ?_ | exact s_m | intro _)
    refine g_assertDNil (T := 171) inferInstance rfl (by kernel_rfl) rfl rfl (fun t v => ?_)
    exact g_then_panic (g_dead .nil)
  · refine fn_introD Tryd.func24 rfl Tryd.ntmps24 rfl (by simp only [argFr, Nat.zero_add, Nat.reduceAdd]; rfl) (fun Γ => ?_)
    repeat (first
      | (refine g_ops ?_; first | refine sO ?_ | refine s_n (fun _ => ?_) | refine s_app (fun _ _ => ?_) | refine s_b0 (fun _ => ?_) | ((fail_if_success refine g_lit rfl rfl rfl ?_); first | apply g_partM rfl rfl rfl | apply g_partMB rfl rfl rfl | fail))
      | refine gS ?_ | exact s_m | intro _)
    refine g_assertD (T := 171) inferInstance rfl (by kernel_rfl) rfl ne rfl (fun t v => ?_)
    exact g_then_panic (g_dead .nil)
theorem must1_dies {x : Value} (h : Other 3 x) (b : Nat) (e : TypeId) : Dies Tryd.prog 23 [ptr b] [.row b [x] e] [.row b [x] e] := by
  refine fn_introD Tryd.func23 rfl Tryd.ntmps23 rfl (by simp only [argFr, Nat.zero_add, Nat.reduceAdd]; rfl) (fun Γ => ?_)
  repeat (first
    | (refine g_ops ?_; first | refine sO ?_ | refine s_n (fun _ => ?_) | refine s_app (fun _ _ => ?_) | refine s_b0 (fun _ => ?_) | ((fail_if_success refine g_lit rfl rfl rfl ?_); first | apply g_partM rfl rfl rfl | apply g_partMB rfl rfl rfl | fail))
    | refine gS ?_ | exact s_m | intro _)
  refine g_callD (mustInt_dies' h) rfl (by (repeat (first | exact Evs.nil | refine Evs.cons rfl ?_)); first | done | fail) .nil (fun t v => ?_)
  exact g_dead (by (repeat (first | exact Take.nil | apply Take.cons | exact Sel.here | apply Sel.there)); first | done | fail)
theorem must2_dies {x : Value} (h : Other 9 x) (b : Nat) (e : TypeId) : Dies Tryd.prog 25 [ptr b] [.row b [x] e] [.row b [x] e] := by
  refine fn_introD Tryd.func25 rfl Tryd.ntmps25 rfl (by simp only [argFr, Nat.zero_add, Nat.reduceAdd]; rfl) (fun Γ => ?_)
  repeat (first
    | (refine g_ops ?_; first | refine sO ?_ | refine s_n (fun _ => ?_) | refine s_app (fun _ _ => ?_) | refine s_b0 (fun _ => ?_) | ((fail_if_success refine g_lit rfl rfl rfl ?_); first | apply g_partM rfl rfl rfl | apply g_partMB rfl rfl rfl | fail))
    | refine gS ?_ | exact s_m | intro _)
  refine g_callD (mustText_dies h) rfl (by (repeat (first | exact Evs.nil | refine Evs.cons rfl ?_)); first | done | fail) .nil (fun t v => ?_)
  exact g_dead (by (repeat (first | exact Take.nil | apply Take.cons | exact Sel.here | apply Sel.there)); first | done | fail)
theorem mustInt_yes (n : Int) : Does1 Tryd.prog 22 [.iface 3 (int n)] [] (int n) := by
  refine fn_intro Tryd.func22 rfl Tryd.ntmps22 rfl (by simp only [argFr, Nat.zero_add, Nat.reduceAdd]; rfl) (fun Γ => ?_)
  repeat (first
    | (refine g_ops ?_; first | refine sO ?_ | refine s_n (fun _ => ?_) | refine s_app (fun _ _ => ?_) | refine s_b0 (fun _ => ?_) | ((fail_if_success refine g_lit rfl rfl rfl ?_); first | apply g_partM rfl rfl rfl | apply g_partMB rfl rfl rfl | fail))
    | refine gS ?_ | exact s_m | intro _)
  exact s_r ()
theorem mustText_yes (s : ByteArray) : Does1 Tryd.prog 24 [.iface 9 (.string s)] [] (.string s) := by
  refine fn_intro Tryd.func24 rfl Tryd.ntmps24 rfl (by simp only [argFr, Nat.zero_add, Nat.reduceAdd]; rfl) (fun Γ => ?_)
  repeat (first
    | (refine g_ops ?_; first | refine sO ?_ | refine s_n (fun _ => ?_) | refine s_app (fun _ _ => ?_) | refine s_b0 (fun _ => ?_) | ((fail_if_success refine g_lit rfl rfl rfl ?_); first | apply g_partM rfl rfl rfl | apply g_partMB rfl rfl rfl | fail))
    | refine gS ?_ | exact s_m | intro _)
  exact s_r ()
theorem int_yes (n : Int) : Does1 Tryd.prog 19 [.iface 3 (int n)] [] (.tuple #[int n, .bool true]) := by
  refine fn_intro Tryd.func19 rfl Tryd.ntmps19 rfl (by simp only [argFr, Nat.zero_add, Nat.reduceAdd]; rfl) (fun Γ => ?_)
  repeat (first
    | (refine g_ops ?_; first | refine sO ?_ | refine s_n (fun _ => ?_) | refine s_app (fun _ _ => ?_) | refine s_b0 (fun _ => ?_) | ((fail_if_success refine g_lit rfl rfl rfl ?_); first | apply g_partM rfl rfl rfl | apply g_partMB rfl rfl rfl | fail))
    | refine gS ?_ | exact s_m | intro _)
  exact s_r ()
theorem int_no {x : Value} (h : Other 3 x) : Does1 Tryd.prog 19 [x] [] (.tuple #[int 0, .bool false]) := by
  rcases h with rfl | ⟨t, v, rfl, ne⟩
  · refine fn_intro Tryd.func19 rfl Tryd.ntmps19 rfl (by simp only [argFr, Nat.zero_add, Nat.reduceAdd]; rfl) (fun Γ => ?_)
    repeat (first
      | (refine g_ops ?_; first | refine sO ?_ | refine s_n (fun _ => ?_) | refine s_app (fun _ _ => ?_) | refine s_b0 (fun _ => ?_) | ((fail_if_success refine g_lit rfl rfl rfl ?_); first | apply g_partM rfl rfl rfl | apply g_partMB rfl rfl rfl | fail))
      | refine gS ?_ | exact s_m | intro _)
    exact s_r ()
  · refine fn_intro Tryd.func19 rfl Tryd.ntmps19 rfl (by simp only [argFr, Nat.zero_add, Nat.reduceAdd]; rfl) (fun Γ => ?_)
    repeat (first
      | (refine g_ops ?_; first | refine sO ?_ | refine s_n (fun _ => ?_) | refine s_app (fun _ _ => ?_) | refine s_b0 (fun _ => ?_) | ((fail_if_success refine g_lit rfl rfl rfl ?_); first | apply g_partM rfl rfl rfl | apply g_partMB rfl rfl rfl | fail))
      | refine gS ?_ | exact s_m | intro _)
    exact s_r ()
theorem TAt.int_of {H : HP} {v : V} {x : Value} (h : TAt H v x) : (v.kind = 3 ∧ x = .iface 3 (.int .i64 v.n)) ∨ (v.kind ≠ 3 ∧ Other 3 x) := by
  cases h with
  | nil => exact .inr ⟨(by show (1 : Int) ≠ 3; decide), .inl rfl⟩
  | bool => exact .inr ⟨(by show (2 : Int) ≠ 3; decide), .inr ⟨_, _, rfl, rfl⟩⟩
  | int h => exact .inl ⟨rfl, rfl⟩
  | text h => exact .inr ⟨(by show (4 : Int) ≠ 3; decide), .inr ⟨_, _, rfl, rfl⟩⟩
  | list vs => exact .inr ⟨(by show (5 : Int) ≠ 3; decide), .inr ⟨_, _, rfl, rfl⟩⟩
  | pairs ps => exact .inr ⟨(by show (6 : Int) ≠ 3; decide), .inr ⟨_, _, rfl, rfl⟩⟩
  | @other k _ _ _ _ _ _ _ hk h1 h2 => exact .inr ⟨(by show k ≠ 3; omega), .inr ⟨_, _, rfl, h2⟩⟩
theorem TAt.text_of {H : HP} {v : V} {x : Value} (h : TAt H v x) : (v.kind = 4 ∧ x = .iface 9 (.string v.s)) ∨ (v.kind ≠ 4 ∧ Other 9 x) := by
  cases h with
  | nil => exact .inr ⟨(by show (1 : Int) ≠ 4; decide), .inl rfl⟩
  | bool => exact .inr ⟨(by show (2 : Int) ≠ 4; decide), .inr ⟨_, _, rfl, rfl⟩⟩
  | int h => exact .inr ⟨(by show (3 : Int) ≠ 4; decide), .inr ⟨_, _, rfl, rfl⟩⟩
  | text h => exact .inl ⟨rfl, rfl⟩
  | list vs => exact .inr ⟨(by show (5 : Int) ≠ 4; decide), .inr ⟨_, _, rfl, rfl⟩⟩
  | pairs ps => exact .inr ⟨(by show (6 : Int) ≠ 4; decide), .inr ⟨_, _, rfl, rfl⟩⟩
  | @other k _ _ _ _ _ _ _ hk h1 h2 h3 => exact .inr ⟨(by show k ≠ 4; omega), .inr ⟨_, _, rfl, h3⟩⟩
set_option maxHeartbeats 4000000 in
theorem must {H : HP} (hT : Tb H) (v : V) (u : Vc) (hu : VAt (Pile H) v u) : Does1 Tryd.prog 6 [.agg u.cells.toArray] [Pile H] (.bool true) := by
  have hsm := small27 v u hu
  have hmd := made v H u hu
  have huk : u.k = v.kind ∧ u.n = v.n ∧ u.s = v.s := by cases hu; exact ⟨rfl, rfl, rfl⟩
  obtain ⟨k, y, n, s, kp, kn, kc, p, m, c⟩ := u
  obtain ⟨hk, hn, hs⟩ := huk
  dsimp only at hk hn hs
  dsimp only [Vc.cells] at hsm hmd ⊢
  refine fn_intro Tryd.func6 rfl Tryd.ntmps6 rfl (by simp only [argFr, Nat.zero_add, Nat.reduceAdd]; rfl) (fun Γ => ?_)
  repeat (first
    | (refine g_ops ?_; first | refine sO ?_ | refine s_n (fun _ => ?_) | refine s_app (fun _ _ => ?_) | refine s_b0 (fun _ => ?_) | ((fail_if_success refine g_lit rfl rfl rfl ?_); first | apply g_partM rfl rfl rfl | apply g_partMB rfl rfl rfl | fail) | refine s_c (hsm) (fun _ _ => ?_))
    | refine gS ?_ | exact s_m | intro _)
  rename_i b r hr
  refine g_cond rfl (fun h1 => ?_) (fun h1 => ?_)
  · repeat (first
      | (refine g_ops ?_; first | refine sO ?_ | refine s_n (fun _ => ?_) | refine s_app (fun _ _ => ?_) | refine s_b0 (fun _ => ?_) | ((fail_if_success refine g_lit rfl rfl rfl ?_); first | apply g_partM rfl rfl rfl | apply g_partMB rfl rfl rfl | fail) | refine s_c (awake hT) (fun _ _ => ?_))
      | refine gS ?_ | exact s_m | intro _)
    rename_i H2 hs2
    dsimp only [List.cons_append, List.nil_append]
    refine g_unpile hs2 (by (repeat (first | exact Sel.here | apply Sel.there)); first | done | fail) ?_
    exact s_r ()
  obtain ⟨hsv, hsz⟩ := hr (by simpa using h1)
  have hm := hmd hsv (by omega)
  unfold MadeD at hm
  dsimp only [Vc.cells] at hm
  repeat (first
    | (refine g_ops ?_; first | refine sO ?_ | refine s_n (fun _ => ?_) | refine s_app (fun _ _ => ?_) | refine s_b0 (fun _ => ?_) | ((fail_if_success refine g_lit rfl rfl rfl ?_); first | apply g_partM rfl rfl rfl | apply g_partMB rfl rfl rfl | fail) | refine s_c (hm) (fun _ _ => ?_))
    | refine gS ?_ | exact s_m | intro _)
  rename_i z hz b3
  obtain ⟨H2, x⟩ := z
  obtain ⟨hs2, hat⟩ := hz
  dsimp only [List.cons_append, List.nil_append, List.append_eq] at hs2 hat ⊢
  have hT2 := hT.grow hs2
  rcases hat.int_of with ⟨hk3, rfl⟩ | ⟨hk3, hoi⟩
  · rw [hk3] at hk
    subst hk hn
    have hi := int_yes v.n
    have hmi := mustInt_yes v.n
    repeat (first
      | (refine g_ops ?_; first | refine sO ?_ | refine s_n (fun _ => ?_) | refine s_app (fun _ _ => ?_) | refine s_b0 (fun _ => ?_) | ((fail_if_success refine g_lit rfl rfl rfl ?_); first | apply g_partM rfl rfl rfl | apply g_partMB rfl rfl rfl | fail) | refine s_p (hi) ?_)
      | apply g_regB (id := 5) 38 | apply g_regB (id := 11) 2 | refine gS ?_ | exact s_m | intro _ | (refine gp_take ?_; first | refine pT ?_ | ((fail_if_success refine gp_lit rfl rfl rfl rfl ?_); first | apply gp_guard_dec rfl rfl rfl rfl | apply gp_guard rfl rfl rfl rfl | fail) | refine p_p (hi) ?_)
      | (refine gp_see ?_; first | refine p_f ?_ | refine pS ?_ | ((fail_if_success refine gp_lit rfl rfl rfl rfl ?_); first | apply gp_guard_dec rfl rfl rfl rfl | apply gp_guard rfl rfl rfl rfl | fail) | refine p_sp (hi) ?_)
      | (refine gp_one ?_; first | refine pO ?_ | refine p_n (fun _ => ?_) | refine p_app (fun _ _ => ?_) | refine p_b0 (fun _ => ?_) | ((fail_if_success refine gp_lit rfl rfl rfl rfl ?_); first | apply gp_guard_dec rfl rfl rfl rfl | apply gp_guard rfl rfl rfl rfl | fail))
      | refine gp_two ?_ ?_ | refine gp_done hd hk ?_ | intro _ | refine p_ta hd hk (fun _ _ _ hd hk => ?_) | refine p_ts hd hk (fun _ hd hk => ?_))
    refine g_as 38 (v' := .bool false) rfl (congrArg Value.bool (by simp)) ?_
    repeat (first
      | (refine g_ops ?_; first | refine sO ?_ | refine s_n (fun _ => ?_) | refine s_app (fun _ _ => ?_) | refine s_b0 (fun _ => ?_) | ((fail_if_success refine g_lit rfl rfl rfl ?_); first | apply g_partM rfl rfl rfl | apply g_partMB rfl rfl rfl | fail))
      | refine gS ?_ | exact s_m | intro _)
    refine g_draw (.take 0 (.take 1 (.see 2 [] (.see 3 [] (.take 4 (.see 5 [] (.take 6 (.take 7 (.take 8 (.take 9 (.take 10 (.take 11 (.take 12 (.one 13 (.take 14 (.take 15 (.take 16 .done))))))))))))))))) (by kernel_rfl) (C := [.row b3 [.iface 3 (int v.n)] 20, .row b [int 3, .bool y, int v.n, .string s, .slice kp kn kc, .slice p m c] 25]) (by (repeat (first | exact Take.nil | apply Take.cons | exact Sel.here | apply Sel.there)); first | done | fail) (fun m hd hk => ?_)
    repeat (first
      | (refine gp_take ?_; first | refine pT ?_ | ((fail_if_success refine gp_lit rfl rfl rfl rfl ?_); first | apply gp_guard_dec rfl rfl rfl rfl | apply gp_guard rfl rfl rfl rfl | fail) | refine p_p (hmi) ?_)
      | (refine gp_see ?_; first | refine p_f ?_ | refine pS ?_ | ((fail_if_success refine gp_lit rfl rfl rfl rfl ?_); first | apply gp_guard_dec rfl rfl rfl rfl | apply gp_guard rfl rfl rfl rfl | fail) | refine p_sp (hmi) ?_)
      | (refine gp_one ?_; first | refine pO ?_ | refine p_n (fun _ => ?_) | refine p_app (fun _ _ => ?_) | refine p_b0 (fun _ => ?_) | ((fail_if_success refine gp_lit rfl rfl rfl rfl ?_); first | apply gp_guard_dec rfl rfl rfl rfl | apply gp_guard rfl rfl rfl rfl | fail))
      | refine gp_two ?_ ?_ | refine gp_done hd hk ?_ | intro _ | refine p_ta hd hk (fun _ _ _ hd hk => ?_) | refine p_ts hd hk (fun _ hd hk => ?_))
    refine gp_as 47 (v' := .bool false) rfl (congrArg Value.bool (by simp)) ?_
    repeat (first
      | (refine gp_take ?_; first | refine pT ?_ | ((fail_if_success refine gp_lit rfl rfl rfl rfl ?_); first | apply gp_guard_dec rfl rfl rfl rfl | apply gp_guard rfl rfl rfl rfl | fail))
      | (refine gp_see ?_; first | refine p_f ?_ | refine pS ?_ | ((fail_if_success refine gp_lit rfl rfl rfl rfl ?_); first | apply gp_guard_dec rfl rfl rfl rfl | apply gp_guard rfl rfl rfl rfl | fail))
      | (refine gp_one ?_; first | refine pO ?_ | refine p_n (fun _ => ?_) | refine p_app (fun _ _ => ?_) | refine p_b0 (fun _ => ?_) | ((fail_if_success refine gp_lit rfl rfl rfl rfl ?_); first | apply gp_guard_dec rfl rfl rfl rfl | apply gp_guard rfl rfl rfl rfl | fail))
      | refine gp_two ?_ ?_ | refine gp_done hd hk ?_ | intro _ | refine p_ta hd hk (fun _ _ _ hd hk => ?_) | refine p_ts hd hk (fun _ hd hk => ?_))
    repeat (first
      | (refine g_ops ?_; first | refine sO ?_ | refine s_n (fun _ => ?_) | refine s_app (fun _ _ => ?_) | refine s_b0 (fun _ => ?_) | ((fail_if_success refine g_lit rfl rfl rfl ?_); first | apply g_partM rfl rfl rfl | apply g_partMB rfl rfl rfl | fail))
      | refine gS ?_ | exact s_m | intro _)
    refine g_as 58 (v' := .bool false) rfl rfl ?_
    have hot : Other 9 (.iface 3 (int v.n)) := .inr ⟨_, _, rfl, rfl⟩
    repeat (first
      | (refine g_ops ?_; first | refine sO ?_ | refine s_n (fun _ => ?_) | refine s_app (fun _ _ => ?_) | refine s_b0 (fun _ => ?_) | ((fail_if_success refine g_lit rfl rfl rfl ?_); first | apply g_partM rfl rfl rfl | apply g_partMB rfl rfl rfl | fail))
      | refine gS ?_ | exact s_m | intro _)
    refine s_q (q := by exact qs_makeFunc (vs := [ptr b3]) (by (repeat (first | exact Evs.nil | refine Evs.cons rfl ?_)); first | done | fail)) ?_
    repeat (first
      | (refine g_ops ?_; first | refine sO ?_ | refine s_n (fun _ => ?_) | refine s_app (fun _ _ => ?_) | refine s_b0 (fun _ => ?_) | ((fail_if_success refine g_lit rfl rfl rfl ?_); first | apply g_partM rfl rfl rfl | apply g_partMB rfl rfl rfl | fail) | refine s_c (panics_ (must2_dies hot b3 _)) (fun _ _ => ?_) | refine s_c (awake hT2) (fun _ _ => ?_))
      | refine gS ?_ | exact s_m | intro _)
    rename_i H3 hs3
    dsimp only [List.cons_append, List.nil_append]
    refine g_unpile (hs2.trans hs3) (by (repeat (first | exact Sel.here | apply Sel.there)); first | done | fail) ?_
    exact s_r ()
  rcases hat.text_of with ⟨hk4, rfl⟩ | ⟨hk4, hot⟩
  · rw [hk4] at hk
    subst hk hs
    have hi := int_no hoi
    have hmt := mustText_yes v.s
    repeat (first
      | (refine g_ops ?_; first | refine sO ?_ | refine s_n (fun _ => ?_) | refine s_app (fun _ _ => ?_) | refine s_b0 (fun _ => ?_) | ((fail_if_success refine g_lit rfl rfl rfl ?_); first | apply g_partM rfl rfl rfl | apply g_partMB rfl rfl rfl | fail) | refine s_p (hi) ?_)
      | apply g_regB (id := 5) 38 | apply g_regB (id := 11) 2 | refine gS ?_ | exact s_m | intro _ | (refine gp_take ?_; first | refine pT ?_ | ((fail_if_success refine gp_lit rfl rfl rfl rfl ?_); first | apply gp_guard_dec rfl rfl rfl rfl | apply gp_guard rfl rfl rfl rfl | fail) | refine p_p (hi) ?_)
      | (refine gp_see ?_; first | refine p_f ?_ | refine pS ?_ | ((fail_if_success refine gp_lit rfl rfl rfl rfl ?_); first | apply gp_guard_dec rfl rfl rfl rfl | apply gp_guard rfl rfl rfl rfl | fail) | refine p_sp (hi) ?_)
      | (refine gp_one ?_; first | refine pO ?_ | refine p_n (fun _ => ?_) | refine p_app (fun _ _ => ?_) | refine p_b0 (fun _ => ?_) | ((fail_if_success refine gp_lit rfl rfl rfl rfl ?_); first | apply gp_guard_dec rfl rfl rfl rfl | apply gp_guard rfl rfl rfl rfl | fail))
      | refine gp_two ?_ ?_ | refine gp_done hd hk ?_ | intro _ | refine p_ta hd hk (fun _ _ _ hd hk => ?_) | refine p_ts hd hk (fun _ hd hk => ?_))
    refine g_as 38 (v' := .bool false) rfl (congrArg Value.bool (by simp)) ?_
    repeat (first
      | (refine g_ops ?_; first | refine sO ?_ | refine s_n (fun _ => ?_) | refine s_app (fun _ _ => ?_) | refine s_b0 (fun _ => ?_) | ((fail_if_success refine g_lit rfl rfl rfl ?_); first | apply g_partM rfl rfl rfl | apply g_partMB rfl rfl rfl | fail))
      | refine gS ?_ | exact s_m | intro _)
    refine g_draw (.take 0 (.take 1 (.see 2 [] (.see 3 [] (.take 4 (.see 5 [] (.take 6 (.take 7 (.take 8 (.take 9 (.take 10 (.take 11 (.take 12 (.one 13 (.take 14 (.take 15 (.take 16 .done))))))))))))))))) (by kernel_rfl) (C := [.row b [int 4, .bool y, int n, .string v.s, .slice kp kn kc, .slice p m c] 25]) (by (repeat (first | exact Take.nil | apply Take.cons | exact Sel.here | apply Sel.there)); first | done | fail) (fun m' hd hk => ?_)
    repeat (first
      | (refine gp_take ?_; first | refine pT ?_ | ((fail_if_success refine gp_lit rfl rfl rfl rfl ?_); first | apply gp_guard_dec rfl rfl rfl rfl | apply gp_guard rfl rfl rfl rfl | fail))
      | (refine gp_see ?_; first | refine p_f ?_ | refine pS ?_ | ((fail_if_success refine gp_lit rfl rfl rfl rfl ?_); first | apply gp_guard_dec rfl rfl rfl rfl | apply gp_guard rfl rfl rfl rfl | fail))
      | (refine gp_one ?_; first | refine pO ?_ | refine p_n (fun _ => ?_) | refine p_app (fun _ _ => ?_) | refine p_b0 (fun _ => ?_) | ((fail_if_success refine gp_lit rfl rfl rfl rfl ?_); first | apply gp_guard_dec rfl rfl rfl rfl | apply gp_guard rfl rfl rfl rfl | fail))
      | refine gp_two ?_ ?_ | refine gp_done hd hk ?_ | intro _ | refine p_ta hd hk (fun _ _ _ hd hk => ?_) | refine p_ts hd hk (fun _ hd hk => ?_))
    refine p_q (q := by intro Δ; exact qs_makeFunc (vs := [ptr b3]) (by (repeat (first | exact Evs.nil | refine Evs.cons rfl ?_)); first | done | fail)) ?_
    repeat (first
      | (refine gp_take ?_; first | refine pT ?_ | ((fail_if_success refine gp_lit rfl rfl rfl rfl ?_); first | apply gp_guard_dec rfl rfl rfl rfl | apply gp_guard rfl rfl rfl rfl | fail))
      | (refine gp_see ?_; first | refine p_f ?_ | refine pS ?_ | ((fail_if_success refine gp_lit rfl rfl rfl rfl ?_); first | apply gp_guard_dec rfl rfl rfl rfl | apply gp_guard rfl rfl rfl rfl | fail))
      | (refine gp_one ?_; first | refine pO ?_ | refine p_n (fun _ => ?_) | refine p_app (fun _ _ => ?_) | refine p_b0 (fun _ => ?_) | ((fail_if_success refine gp_lit rfl rfl rfl rfl ?_); first | apply gp_guard_dec rfl rfl rfl rfl | apply gp_guard rfl rfl rfl rfl | fail) | refine p_c (panics_ (must1_dies hoi b3 _)) (fun _ _ => ?_))
      | refine gp_two ?_ ?_ | refine gp_done hd hk ?_ | intro _ | refine p_ta hd hk (fun _ _ _ hd hk => ?_) | refine p_ts hd hk (fun _ hd hk => ?_))
    dsimp only [List.cons_append, List.nil_append]
    repeat (first
      | (refine g_ops ?_; first | refine sO ?_ | refine s_n (fun _ => ?_) | refine s_app (fun _ _ => ?_) | refine s_b0 (fun _ => ?_) | ((fail_if_success refine g_lit rfl rfl rfl ?_); first | apply g_partM rfl rfl rfl | apply g_partMB rfl rfl rfl | fail))
      | refine gS ?_ | exact s_m | intro _)
    refine g_as 58 (v' := .bool true) rfl rfl ?_
    repeat (first
      | (refine g_ops ?_; first | refine sO ?_ | refine s_n (fun _ => ?_) | refine s_app (fun _ _ => ?_) | refine s_b0 (fun _ => ?_) | ((fail_if_success refine g_lit rfl rfl rfl ?_); first | apply g_partM rfl rfl rfl | apply g_partMB rfl rfl rfl | fail))
      | refine gS ?_ | exact s_m | intro _)
    refine g_draw (.see 0 [] (.see 1 [] (.take 2 (.see 3 [] (.take 4 (.take 5 (.one 6 (.take 7 (.take 8 .done))))))))) (by kernel_rfl) (C := [.row b3 [.iface 9 (.string v.s)] 20, .row b [int 4, .bool y, int n, .string v.s, .slice kp kn kc, .slice p m c] 25]) (by (repeat (first | exact Take.nil | apply Take.cons | exact Sel.here | apply Sel.there)); first | done | fail) (fun m' hd hk => ?_)
    repeat (first
      | (refine gp_take ?_; first | refine pT ?_ | ((fail_if_success refine gp_lit rfl rfl rfl rfl ?_); first | apply gp_guard_dec rfl rfl rfl rfl | apply gp_guard rfl rfl rfl rfl | fail) | refine p_p (hmt) ?_)
      | (refine gp_see ?_; first | refine p_f ?_ | refine pS ?_ | ((fail_if_success refine gp_lit rfl rfl rfl rfl ?_); first | apply gp_guard_dec rfl rfl rfl rfl | apply gp_guard rfl rfl rfl rfl | fail) | refine p_sp (hmt) ?_)
      | (refine gp_one ?_; first | refine pO ?_ | refine p_n (fun _ => ?_) | refine p_app (fun _ _ => ?_) | refine p_b0 (fun _ => ?_) | ((fail_if_success refine gp_lit rfl rfl rfl rfl ?_); first | apply gp_guard_dec rfl rfl rfl rfl | apply gp_guard rfl rfl rfl rfl | fail))
      | refine gp_two ?_ ?_ | refine gp_done hd hk ?_ | intro _ | refine p_ta hd hk (fun _ _ _ hd hk => ?_) | refine p_ts hd hk (fun _ hd hk => ?_))
    refine gp_as 64 (v' := .bool true) rfl (congrArg Value.bool (by simp)) ?_
    repeat (first
      | (refine gp_take ?_; first | refine pT ?_ | ((fail_if_success refine gp_lit rfl rfl rfl rfl ?_); first | apply gp_guard_dec rfl rfl rfl rfl | apply gp_guard rfl rfl rfl rfl | fail))
      | (refine gp_see ?_; first | refine p_f ?_ | refine pS ?_ | ((fail_if_success refine gp_lit rfl rfl rfl rfl ?_); first | apply gp_guard_dec rfl rfl rfl rfl | apply gp_guard rfl rfl rfl rfl | fail))
      | (refine gp_one ?_; first | refine pO ?_ | refine p_n (fun _ => ?_) | refine p_app (fun _ _ => ?_) | refine p_b0 (fun _ => ?_) | ((fail_if_success refine gp_lit rfl rfl rfl rfl ?_); first | apply gp_guard_dec rfl rfl rfl rfl | apply gp_guard rfl rfl rfl rfl | fail) | refine p_c (awake hT2) (fun _ _ => ?_))
      | refine gp_two ?_ ?_ | refine gp_done hd hk ?_ | intro _ | refine p_ta hd hk (fun _ _ _ hd hk => ?_) | refine p_ts hd hk (fun _ hd hk => ?_))
    rename_i H3 hs3
    dsimp only [List.cons_append, List.nil_append]
    repeat (first
      | (refine g_ops ?_; first | refine sO ?_ | refine s_n (fun _ => ?_) | refine s_app (fun _ _ => ?_) | refine s_b0 (fun _ => ?_) | ((fail_if_success refine g_lit rfl rfl rfl ?_); first | apply g_partM rfl rfl rfl | apply g_partMB rfl rfl rfl | fail))
      | refine gS ?_ | exact s_m | intro _)
    refine g_unpile (hs2.trans hs3) (by (repeat (first | exact Sel.here | apply Sel.there)); first | done | fail) ?_
    exact s_r ()
  have e3 : k ≠ 3 := by rw [hk]; exact hk3
  have e4 : k ≠ 4 := by rw [hk]; exact hk4
  rcases hat.shape with rfl | ⟨t, v', rfl⟩
  · have hi := int_no hoi
    repeat (first
      | (refine g_ops ?_; first | refine sO ?_ | refine s_n (fun _ => ?_) | refine s_app (fun _ _ => ?_) | refine s_b0 (fun _ => ?_) | ((fail_if_success refine g_lit rfl rfl rfl ?_); first | apply g_partM rfl rfl rfl | apply g_partMB rfl rfl rfl | fail) | refine s_p (hi) ?_)
      | apply g_regB (id := 5) 38 | apply g_regB (id := 11) 2 | refine gS ?_ | exact s_m | intro _ | (refine gp_take ?_; first | refine pT ?_ | ((fail_if_success refine gp_lit rfl rfl rfl rfl ?_); first | apply gp_guard_dec rfl rfl rfl rfl | apply gp_guard rfl rfl rfl rfl | fail) | refine p_p (hi) ?_)
      | (refine gp_see ?_; first | refine p_f ?_ | refine pS ?_ | ((fail_if_success refine gp_lit rfl rfl rfl rfl ?_); first | apply gp_guard_dec rfl rfl rfl rfl | apply gp_guard rfl rfl rfl rfl | fail) | refine p_sp (hi) ?_)
      | (refine gp_one ?_; first | refine pO ?_ | refine p_n (fun _ => ?_) | refine p_app (fun _ _ => ?_) | refine p_b0 (fun _ => ?_) | ((fail_if_success refine gp_lit rfl rfl rfl rfl ?_); first | apply gp_guard_dec rfl rfl rfl rfl | apply gp_guard rfl rfl rfl rfl | fail))
      | refine gp_two ?_ ?_ | refine gp_done hd hk ?_ | intro _ | refine p_ta hd hk (fun _ _ _ hd hk => ?_) | refine p_ts hd hk (fun _ hd hk => ?_))
    refine g_as 38 (v' := .bool false) rfl (congrArg Value.bool (by simp [e3])) ?_
    repeat (first
      | (refine g_ops ?_; first | refine sO ?_ | refine s_n (fun _ => ?_) | refine s_app (fun _ _ => ?_) | refine s_b0 (fun _ => ?_) | ((fail_if_success refine g_lit rfl rfl rfl ?_); first | apply g_partM rfl rfl rfl | apply g_partMB rfl rfl rfl | fail))
      | refine gS ?_ | exact s_m | intro _)
    refine g_draw (.take 0 (.take 1 (.see 2 [] (.see 3 [] (.take 4 (.see 5 [] (.take 6 (.take 7 (.take 8 (.take 9 (.take 10 (.take 11 (.take 12 (.one 13 (.take 14 (.take 15 (.take 16 .done))))))))))))))))) (by kernel_rfl) (C := [.row b [int k, .bool y, int n, .string s, .slice kp kn kc, .slice p m c] 25]) (by (repeat (first | exact Take.nil | apply Take.cons | exact Sel.here | apply Sel.there)); first | done | fail) (fun m' hd hk => ?_)
    repeat (first
      | (refine gp_take ?_; first | refine pT ?_ | ((fail_if_success refine gp_lit rfl rfl rfl rfl ?_); first | apply gp_guard_dec rfl rfl rfl rfl | apply gp_guard rfl rfl rfl rfl | fail))
      | (refine gp_see ?_; first | refine p_f ?_ | refine pS ?_ | ((fail_if_success refine gp_lit rfl rfl rfl rfl ?_); first | apply gp_guard_dec rfl rfl rfl rfl | apply gp_guard rfl rfl rfl rfl | fail))
      | (refine gp_one ?_; first | refine pO ?_ | refine p_n (fun _ => ?_) | refine p_app (fun _ _ => ?_) | refine p_b0 (fun _ => ?_) | ((fail_if_success refine gp_lit rfl rfl rfl rfl ?_); first | apply gp_guard_dec rfl rfl rfl rfl | apply gp_guard rfl rfl rfl rfl | fail))
      | refine gp_two ?_ ?_ | refine gp_done hd hk ?_ | intro _ | refine p_ta hd hk (fun _ _ _ hd hk => ?_) | refine p_ts hd hk (fun _ hd hk => ?_))
    refine p_q (q := by intro Δ; exact qs_makeFunc (vs := [ptr b3]) (by (repeat (first | exact Evs.nil | refine Evs.cons rfl ?_)); first | done | fail)) ?_
    repeat (first
      | (refine gp_take ?_; first | refine pT ?_ | ((fail_if_success refine gp_lit rfl rfl rfl rfl ?_); first | apply gp_guard_dec rfl rfl rfl rfl | apply gp_guard rfl rfl rfl rfl | fail))
      | (refine gp_see ?_; first | refine p_f ?_ | refine pS ?_ | ((fail_if_success refine gp_lit rfl rfl rfl rfl ?_); first | apply gp_guard_dec rfl rfl rfl rfl | apply gp_guard rfl rfl rfl rfl | fail))
      | (refine gp_one ?_; first | refine pO ?_ | refine p_n (fun _ => ?_) | refine p_app (fun _ _ => ?_) | refine p_b0 (fun _ => ?_) | ((fail_if_success refine gp_lit rfl rfl rfl rfl ?_); first | apply gp_guard_dec rfl rfl rfl rfl | apply gp_guard rfl rfl rfl rfl | fail) | refine p_c (panics_ (must1_dies hoi b3 _)) (fun _ _ => ?_))
      | refine gp_two ?_ ?_ | refine gp_done hd hk ?_ | intro _ | refine p_ta hd hk (fun _ _ _ hd hk => ?_) | refine p_ts hd hk (fun _ hd hk => ?_))
    dsimp only [List.cons_append, List.nil_append]
    repeat (first
      | (refine g_ops ?_; first | refine sO ?_ | refine s_n (fun _ => ?_) | refine s_app (fun _ _ => ?_) | refine s_b0 (fun _ => ?_) | ((fail_if_success refine g_lit rfl rfl rfl ?_); first | apply g_partM rfl rfl rfl | apply g_partMB rfl rfl rfl | fail))
      | refine gS ?_ | exact s_m | intro _)
    refine g_as 58 (v' := .bool false) rfl (congrArg Value.bool (decide_eq_false e4)) ?_
    repeat (first
      | (refine g_ops ?_; first | refine sO ?_ | refine s_n (fun _ => ?_) | refine s_app (fun _ _ => ?_) | refine s_b0 (fun _ => ?_) | ((fail_if_success refine g_lit rfl rfl rfl ?_); first | apply g_partM rfl rfl rfl | apply g_partMB rfl rfl rfl | fail))
      | refine gS ?_ | exact s_m | intro _)
    refine s_q (q := by exact qs_makeFunc (vs := [ptr b3]) (by (repeat (first | exact Evs.nil | refine Evs.cons rfl ?_)); first | done | fail)) ?_
    repeat (first
      | (refine g_ops ?_; first | refine sO ?_ | refine s_n (fun _ => ?_) | refine s_app (fun _ _ => ?_) | refine s_b0 (fun _ => ?_) | ((fail_if_success refine g_lit rfl rfl rfl ?_); first | apply g_partM rfl rfl rfl | apply g_partMB rfl rfl rfl | fail) | refine s_c (panics_ (must2_dies hot b3 _)) (fun _ _ => ?_) | refine s_c (awake hT2) (fun _ _ => ?_))
      | refine gS ?_ | exact s_m | intro _)
    rename_i H3 hs3
    dsimp only [List.cons_append, List.nil_append]
    refine g_unpile (hs2.trans hs3) (by (repeat (first | exact Sel.here | apply Sel.there)); first | done | fail) ?_
    exact s_r ()
  · have hi := int_no hoi
    repeat (first
      | (refine g_ops ?_; first | refine sO ?_ | refine s_n (fun _ => ?_) | refine s_app (fun _ _ => ?_) | refine s_b0 (fun _ => ?_) | ((fail_if_success refine g_lit rfl rfl rfl ?_); first | apply g_partM rfl rfl rfl | apply g_partMB rfl rfl rfl | fail) | refine s_p (hi) ?_)
      | apply g_regB (id := 5) 38 | apply g_regB (id := 11) 2 | refine gS ?_ | exact s_m | intro _ | (refine gp_take ?_; first | refine pT ?_ | ((fail_if_success refine gp_lit rfl rfl rfl rfl ?_); first | apply gp_guard_dec rfl rfl rfl rfl | apply gp_guard rfl rfl rfl rfl | fail) | refine p_p (hi) ?_)
      | (refine gp_see ?_; first | refine p_f ?_ | refine pS ?_ | ((fail_if_success refine gp_lit rfl rfl rfl rfl ?_); first | apply gp_guard_dec rfl rfl rfl rfl | apply gp_guard rfl rfl rfl rfl | fail) | refine p_sp (hi) ?_)
      | (refine gp_one ?_; first | refine pO ?_ | refine p_n (fun _ => ?_) | refine p_app (fun _ _ => ?_) | refine p_b0 (fun _ => ?_) | ((fail_if_success refine gp_lit rfl rfl rfl rfl ?_); first | apply gp_guard_dec rfl rfl rfl rfl | apply gp_guard rfl rfl rfl rfl | fail))
      | refine gp_two ?_ ?_ | refine gp_done hd hk ?_ | intro _ | refine p_ta hd hk (fun _ _ _ hd hk => ?_) | refine p_ts hd hk (fun _ hd hk => ?_))
    refine g_as 38 (v' := .bool false) rfl (congrArg Value.bool (by simp [e3])) ?_
    repeat (first
      | (refine g_ops ?_; first | refine sO ?_ | refine s_n (fun _ => ?_) | refine s_app (fun _ _ => ?_) | refine s_b0 (fun _ => ?_) | ((fail_if_success refine g_lit rfl rfl rfl ?_); first | apply g_partM rfl rfl rfl | apply g_partMB rfl rfl rfl | fail))
      | refine gS ?_ | exact s_m | intro _)
    refine g_draw (.take 0 (.take 1 (.see 2 [] (.see 3 [] (.take 4 (.see 5 [] (.take 6 (.take 7 (.take 8 (.take 9 (.take 10 (.take 11 (.take 12 (.one 13 (.take 14 (.take 15 (.take 16 .done))))))))))))))))) (by kernel_rfl) (C := [.row b [int k, .bool y, int n, .string s, .slice kp kn kc, .slice p m c] 25]) (by (repeat (first | exact Take.nil | apply Take.cons | exact Sel.here | apply Sel.there)); first | done | fail) (fun m' hd hk => ?_)
    repeat (first
      | (refine gp_take ?_; first | refine pT ?_ | ((fail_if_success refine gp_lit rfl rfl rfl rfl ?_); first | apply gp_guard_dec rfl rfl rfl rfl | apply gp_guard rfl rfl rfl rfl | fail))
      | (refine gp_see ?_; first | refine p_f ?_ | refine pS ?_ | ((fail_if_success refine gp_lit rfl rfl rfl rfl ?_); first | apply gp_guard_dec rfl rfl rfl rfl | apply gp_guard rfl rfl rfl rfl | fail))
      | (refine gp_one ?_; first | refine pO ?_ | refine p_n (fun _ => ?_) | refine p_app (fun _ _ => ?_) | refine p_b0 (fun _ => ?_) | ((fail_if_success refine gp_lit rfl rfl rfl rfl ?_); first | apply gp_guard_dec rfl rfl rfl rfl | apply gp_guard rfl rfl rfl rfl | fail))
      | refine gp_two ?_ ?_ | refine gp_done hd hk ?_ | intro _ | refine p_ta hd hk (fun _ _ _ hd hk => ?_) | refine p_ts hd hk (fun _ hd hk => ?_))
    refine p_q (q := by intro Δ; exact qs_makeFunc (vs := [ptr b3]) (by (repeat (first | exact Evs.nil | refine Evs.cons rfl ?_)); first | done | fail)) ?_
    repeat (first
      | (refine gp_take ?_; first | refine pT ?_ | ((fail_if_success refine gp_lit rfl rfl rfl rfl ?_); first | apply gp_guard_dec rfl rfl rfl rfl | apply gp_guard rfl rfl rfl rfl | fail))
      | (refine gp_see ?_; first | refine p_f ?_ | refine pS ?_ | ((fail_if_success refine gp_lit rfl rfl rfl rfl ?_); first | apply gp_guard_dec rfl rfl rfl rfl | apply gp_guard rfl rfl rfl rfl | fail))
      | (refine gp_one ?_; first | refine pO ?_ | refine p_n (fun _ => ?_) | refine p_app (fun _ _ => ?_) | refine p_b0 (fun _ => ?_) | ((fail_if_success refine gp_lit rfl rfl rfl rfl ?_); first | apply gp_guard_dec rfl rfl rfl rfl | apply gp_guard rfl rfl rfl rfl | fail) | refine p_c (panics_ (must1_dies hoi b3 _)) (fun _ _ => ?_))
      | refine gp_two ?_ ?_ | refine gp_done hd hk ?_ | intro _ | refine p_ta hd hk (fun _ _ _ hd hk => ?_) | refine p_ts hd hk (fun _ hd hk => ?_))
    dsimp only [List.cons_append, List.nil_append]
    repeat (first
      | (refine g_ops ?_; first | refine sO ?_ | refine s_n (fun _ => ?_) | refine s_app (fun _ _ => ?_) | refine s_b0 (fun _ => ?_) | ((fail_if_success refine g_lit rfl rfl rfl ?_); first | apply g_partM rfl rfl rfl | apply g_partMB rfl rfl rfl | fail))
      | refine gS ?_ | exact s_m | intro _)
    refine g_as 58 (v' := .bool false) rfl (congrArg Value.bool (decide_eq_false e4)) ?_
    repeat (first
      | (refine g_ops ?_; first | refine sO ?_ | refine s_n (fun _ => ?_) | refine s_app (fun _ _ => ?_) | refine s_b0 (fun _ => ?_) | ((fail_if_success refine g_lit rfl rfl rfl ?_); first | apply g_partM rfl rfl rfl | apply g_partMB rfl rfl rfl | fail))
      | refine gS ?_ | exact s_m | intro _)
    refine s_q (q := by exact qs_makeFunc (vs := [ptr b3]) (by (repeat (first | exact Evs.nil | refine Evs.cons rfl ?_)); first | done | fail)) ?_
    repeat (first
      | (refine g_ops ?_; first | refine sO ?_ | refine s_n (fun _ => ?_) | refine s_app (fun _ _ => ?_) | refine s_b0 (fun _ => ?_) | ((fail_if_success refine g_lit rfl rfl rfl ?_); first | apply g_partM rfl rfl rfl | apply g_partMB rfl rfl rfl | fail) | refine s_c (panics_ (must2_dies hot b3 _)) (fun _ _ => ?_) | refine s_c (awake hT2) (fun _ _ => ?_))
      | refine gS ?_ | exact s_m | intro _)
    rename_i H3 hs3
    dsimp only [List.cons_append, List.nil_append]
    refine g_unpile (hs2.trans hs3) (by (repeat (first | exact Sel.here | apply Sel.there)); first | done | fail) ?_
    exact s_r ()
end Go.Proofs.YtpilcncdgjnbeaaDoor
