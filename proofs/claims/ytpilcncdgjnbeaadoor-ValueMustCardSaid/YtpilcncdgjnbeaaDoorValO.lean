/- Contracts: how much there is of a value that came in: weight, small. -/
import Derived.Test.YtpilcncdgjnbeaaDoorValN
import Derived.Test.YtpilcncdgjnbeaaDoorValL
import Derived.Test.YtpilcncdgjnbeaaDoorAlkA
set_option linter.unusedSimpArgs false
set_option linter.unusedVariables false
namespace Go.Proofs.YtpilcncdgjnbeaaDoor
open Go.Sl facts
theorem sumF_sum : ∀ (l : List Int) (n : Int), (∀ x ∈ l, 0 ≤ x) → n ≤ most → sumF n l < most → sumF n l = n + l.sum
  | [], n, _, _, _ => by simp [sumF]
  | x :: l, n, hl, h, hs => by
    simp only [sumF] at hs ⊢
    split at hs
    · exact absurd hs (Int.lt_irrefl _)
    · rename_i hc
      rw [if_neg hc, sumF_sum l (n + x) (fun z hz => hl z (List.mem_cons_of_mem _ hz)) (by omega) hs, List.sum_cons]
      omega
theorem sum_upS (n : Int) (l : List Int) (hl : ∀ x ∈ l, 0 ≤ x) (h : n ≤ most) : sumF n l ≤ most ∧ n ≤ sumF n l ∧ (sumF n l < most → sumF n l = n + l.sum) :=
  ⟨(sumF_ge l n hl h).2, (sumF_ge l n hl h).1, fun hs => sumF_sum l n hl h hs⟩
/-- A value's parts are as its kind says. -/
inductive SmV : V → Prop where
  | mk {k y n s ks l} (h6 : k = 6 → ks.length = l.length) (h0 : k ≠ 6 → ks = []) (h5 : k < 5 → l = []) (h : ∀ x ∈ l, SmV x) : SmV (.mk k y n s ks l)
theorem VAt.ok {C : Chunk} {v : V} {u : Vc} (h : VAt C v u) : VOk v := by
  induction h with
  | mk us hk hn hs hkl hks hkS hl hu hS _ ih =>
    refine .mk hn fun x hx => ?_
    obtain ⟨i, hi, rfl⟩ := List.mem_iff_getElem.1 hx
    exact ih i _ _ (List.getElem?_eq_getElem hi) (List.getElem?_eq_getElem (by omega))
theorem szV_pos (v : V) : 1 ≤ szV v := by cases v; rw [szV_mk]; omega
theorem szK_len : ∀ l : List V, l.length ≤ szK l
  | [] => by simp
  | x :: l => by have := szK_len l; have := szV_pos x; rw [szK_cons, List.length_cons]; omega
theorem shape (deep k : Int) (a b : Nat) (h : (bif decide (40 < deep) then true
          else
            bif decide ((a : Int) ≠ (b : Int)) then
              bif decide (k = 6) then true
              else
                bif decide (k ≠ 6) then
                  bif decide (0 < (a : Int)) then true else bif decide (k < 5) then decide (0 < (b : Int)) else false
                else bif decide (k < 5) then decide (0 < (b : Int)) else false
            else
              bif decide (k ≠ 6) then
                bif decide (0 < (a : Int)) then true else bif decide (k < 5) then decide (0 < (b : Int)) else false
              else bif decide (k < 5) then decide (0 < (b : Int)) else false) = false) : deep ≤ 40 ∧ (k = 6 → a = b) ∧ (k ≠ 6 → a = 0) ∧ (k < 5 → b = 0) := by
  by_cases a1 : 40 < deep
  · simp only [decide_eq_true a1, cond_true] at h; cases h
  simp only [decide_eq_false a1, cond_false] at h
  by_cases a2 : (a : Int) ≠ (b : Int) <;> by_cases a3 : k = 6 <;> by_cases a4 : (0 : Int) < a <;> by_cases a5 : k < 5 <;> by_cases a6 : (0 : Int) < b <;>
    first | omega | (simp only [a2, a3, a4, a5, a6, ne_eq, not_true, not_false_eq_true, decide_true, decide_false, cond_true, cond_false] at h; cases h) | (simp [a2, a3, a4, a5, a6] at h; done) | omega
attribute [local irreducible] Code.wp wpList Exit.then Exit.inBlock bodyPost Back MidQ G GP QStep VStep CStep SStep Does Post Reads
attribute [local irreducible] sumF szV szK szS
structure IM where
  i : Nat
  m : Int
set_option maxHeartbeats 2000000 in
theorem total {H : HP} (p : Option Addr) (cap : Nat) (top : Int) (l : List ByteArray) (hS : SlAt (Pile H) 1 p l.length (l.map Value.string)) (ht : 0 ≤ top ∧ top ≤ 100000) (hlen : l.length ≤ 9223372036854775807) (hO : ∀ t ∈ l, t.size ≤ 9223372036854775807) :
    Does Tryd.prog 31 [.slice p l.length cap, int top] [Pile H] (X := Int) int (fun _ => [Pile H]) (fun r => 0 ≤ r ∧ r ≤ most ∧ (r ≤ top → (l.length : Int) + szS l ≤ r)) := by
  refine fn_intro Tryd.func31 rfl Tryd.ntmps31 rfl (by simp only [argFr, Nat.zero_add, Nat.reduceAdd]; rfl) (fun Γ => ?_)
  have hmost : most = 1099511627776 := rfl
  have h0 := sum_upS 0 [(l.length : Int)] (by simp) (by omega)
  simp only [List.sum_cons, List.sum_nil, Int.add_zero, Int.zero_add] at h0
  repeat (first
    | (refine g_ops ?_; first | refine s_q ?_ | refine s_v ?_ | refine s_s ?_ | refine s_n (fun _ => ?_) | refine s_x ?_ | refine s_y ?_ | refine s_mq ?_ | refine s_app (fun _ _ => ?_) | refine s_mv ?_ | refine s_ms ?_ | refine s_b0 (fun _ => ?_) | ((fail_if_success refine g_lit rfl rfl rfl ?_); first | apply g_partM rfl rfl rfl | apply g_partMB rfl rfl rfl | fail) | refine s_k (sum_row _ _ _ 0 [(l.length : Int)] ⟨by omega, by omega⟩ (by simp; omega) (by simp)) ?_)
    | apply g_regB (id := 3) 19 | refine g_seq ?_ | refine g_region ?_ | refine g_nil ?_ | refine g_then_normal ?_ | refine g_block ?_ | refine g_in_normal ?_
    | refine g_retc ?_ | refine g_then_ret ?_ | refine g_in_ret ?_ | refine g_exit ?_ | refine g_then_exit ?_ | refine g_in_exit ?_ | refine g_in_other rfl ?_
    | refine g_skip ?_ | refine g_label ?_ | refine g_cond_true rfl ?_ | refine g_cond_false rfl ?_ | exact s_m | intro _ | (refine gp_take ?_; first | refine p_q ?_ | refine p_x ?_ | refine p_mq ?_ | ((fail_if_success refine gp_lit rfl rfl rfl rfl ?_); first | apply gp_guard_dec rfl rfl rfl rfl | apply gp_guard rfl rfl rfl rfl | fail))
    | (refine gp_see ?_; first | refine p_f ?_ | refine p_sx ?_ | ((fail_if_success refine gp_lit rfl rfl rfl rfl ?_); first | apply gp_guard_dec rfl rfl rfl rfl | apply gp_guard rfl rfl rfl rfl | fail) | refine p_h (sum_row _ _ _ 0 [(l.length : Int)] ⟨by omega, by omega⟩ (by simp; omega) (by simp)) hd hk ?_ | refine p_sq ?_)
    | (refine gp_one ?_; first | refine p_v ?_ | refine p_s ?_ | refine p_n (fun _ => ?_) | refine p_y ?_ | refine p_app (fun _ _ => ?_) | refine p_mv ?_ | refine p_ms ?_ | refine p_b0 (fun _ => ?_) | ((fail_if_success refine gp_lit rfl rfl rfl rfl ?_); first | apply gp_guard_dec rfl rfl rfl rfl | apply gp_guard rfl rfl rfl rfl | fail) | refine p_k (sum_row _ _ _ 0 [(l.length : Int)] ⟨by omega, by omega⟩ (by simp; omega) (by simp)) ?_)
    | refine gp_two ?_ ?_ | refine gp_done hd hk ?_ | intro _ | refine p_ta hd hk (fun _ _ _ hd hk => ?_) | refine p_ts hd hk (fun _ hd hk => ?_))
  refine g_loop (X := IM) (fun x => [(6, int x.i), (5, int x.m), (4, int 0), (0, .slice p l.length cap), (1, int top)]) (fun _ => [Pile H]) (fun x => x.i ≤ l.length ∧ 0 ≤ x.m ∧ x.m ≤ most ∧ (x.m < most → (l.length : Int) + szS l ≤ x.m + szS (l.drop x.i))) (fun x => l.length - x.i) ⟨0, sumF 0 [(l.length : Int)]⟩ ⟨Nat.zero_le _, by simp only; omega, h0.1, fun h => by have := h0.2.2 h; simp only [List.drop_zero]; omega⟩ (by (repeat (first | exact FrSub.nil | refine FrSub.cons rfl ?_)); first | done | fail) (by (repeat (first | exact Take.nil | apply Take.cons | exact Sel.here | apply Sel.there)); first | done | fail) (fun x hx => ?_)
  obtain ⟨i, m⟩ := x
  obtain ⟨hi, hm0, hm1, hm2⟩ := hx
  dsimp only at hi hm0 hm1 hm2 ⊢
  repeat (first
    | (refine g_ops ?_; first | refine s_q ?_ | refine s_v ?_ | refine s_s ?_ | refine s_n (fun _ => ?_) | refine s_x ?_ | refine s_y ?_ | refine s_mq ?_ | refine s_app (fun _ _ => ?_) | refine s_mv ?_ | refine s_ms ?_ | refine s_b0 (fun _ => ?_) | ((fail_if_success refine g_lit rfl rfl rfl ?_); first | apply g_partM rfl rfl rfl | apply g_partMB rfl rfl rfl | fail))
    | apply g_regB (id := 3) 19 | refine g_seq ?_ | refine g_region ?_ | refine g_nil ?_ | refine g_then_normal ?_ | refine g_block ?_ | refine g_in_normal ?_
    | refine g_retc ?_ | refine g_then_ret ?_ | refine g_in_ret ?_ | refine g_exit ?_ | refine g_then_exit ?_ | refine g_in_exit ?_ | refine g_in_other rfl ?_
    | refine g_skip ?_ | refine g_label ?_ | refine g_cond_true rfl ?_ | refine g_cond_false rfl ?_ | exact s_m | intro _ | (refine gp_take ?_; first | refine p_q ?_ | refine p_x ?_ | refine p_mq ?_ | ((fail_if_success refine gp_lit rfl rfl rfl rfl ?_); first | apply gp_guard_dec rfl rfl rfl rfl | apply gp_guard rfl rfl rfl rfl | fail))
    | (refine gp_see ?_; first | refine p_f ?_ | refine p_sx ?_ | ((fail_if_success refine gp_lit rfl rfl rfl rfl ?_); first | apply gp_guard_dec rfl rfl rfl rfl | apply gp_guard rfl rfl rfl rfl | fail) | refine p_sq ?_)
    | (refine gp_one ?_; first | refine p_v ?_ | refine p_s ?_ | refine p_n (fun _ => ?_) | refine p_y ?_ | refine p_app (fun _ _ => ?_) | refine p_mv ?_ | refine p_ms ?_ | refine p_b0 (fun _ => ?_) | ((fail_if_success refine gp_lit rfl rfl rfl rfl ?_); first | apply gp_guard_dec rfl rfl rfl rfl | apply gp_guard rfl rfl rfl rfl | fail))
    | refine gp_two ?_ ?_ | refine gp_done hd hk ?_ | intro _ | refine p_ta hd hk (fun _ _ _ hd hk => ?_) | refine p_ts hd hk (fun _ hd hk => ?_))
  refine g_cond rfl (fun h2 => ?_) (fun h2 => ?_)
  · have hi' : i < l.length := by simp at h2; omega
    obtain ⟨b, o, rfl, hr0⟩ := slAt_cell hS (i := i) (v := .string l[i]) (by simp [hi'])
    have hz1 := hO l[i] (List.getElem_mem _)
    rw [List.drop_eq_getElem_cons hi', szS_cons] at hm2
    generalize l[i] = x at hr0 hz1 hm2
    have hr : ∀ k', k' = i → Reads (Pile H) ⟨b, o + k', none⟩ (.string x) := fun _ e => e ▸ hr0
    have h3 := sum_upS m [(x.size : Int)] (by simp) hm1
    simp only [List.sum_cons, List.sum_nil, Int.add_zero] at h3
    repeat (first
      | (refine g_ops ?_; first | refine s_q ?_ | refine s_v ?_ | refine s_s ?_ | refine s_n (fun _ => ?_) | refine s_x ?_ | refine s_y ?_ | refine s_mq ?_ | refine s_app (fun _ _ => ?_) | refine s_mv ?_ | refine s_ms ?_ | refine s_b0 (fun _ => ?_) | ((fail_if_success refine g_lit rfl rfl rfl ?_); first | apply g_partM rfl rfl rfl | apply g_partMB rfl rfl rfl | fail) | refine s_k (sum_row _ _ _ m [(x.size : Int)] ⟨hm0, hm1⟩ (by simp; omega) (by simp)) ?_)
      | apply g_regB (id := 3) 19 | refine g_seq ?_ | refine g_region ?_ | refine g_nil ?_ | refine g_then_normal ?_ | refine g_block ?_ | refine g_in_normal ?_
      | refine g_retc ?_ | refine g_then_ret ?_ | refine g_in_ret ?_ | refine g_exit ?_ | refine g_then_exit ?_ | refine g_in_exit ?_ | refine g_in_other rfl ?_
      | refine g_skip ?_ | refine g_label ?_ | refine g_cond_true rfl ?_ | refine g_cond_false rfl ?_ | exact s_m | intro _ | (refine gp_take ?_; first | refine p_q ?_ | refine p_x ?_ | refine p_mq ?_ | ((fail_if_success refine gp_lit rfl rfl rfl rfl ?_); first | apply gp_guard_dec rfl rfl rfl rfl | apply gp_guard rfl rfl rfl rfl | fail))
      | (refine gp_see ?_; first | refine p_f ?_ | refine p_sx ?_ | ((fail_if_success refine gp_lit rfl rfl rfl rfl ?_); first | apply gp_guard_dec rfl rfl rfl rfl | apply gp_guard rfl rfl rfl rfl | fail) | refine p_h (sum_row _ _ _ m [(x.size : Int)] ⟨hm0, hm1⟩ (by simp; omega) (by simp)) hd hk ?_ | refine p_sq ?_)
      | (refine gp_one ?_; first | refine p_v ?_ | refine p_s ?_ | refine p_n (fun _ => ?_) | refine p_y ?_ | refine p_app (fun _ _ => ?_) | refine p_mv ?_ | refine p_ms ?_ | refine p_b0 (fun _ => ?_) | ((fail_if_success refine gp_lit rfl rfl rfl rfl ?_); first | apply gp_guard_dec rfl rfl rfl rfl | apply gp_guard rfl rfl rfl rfl | fail) | refine p_k (sum_row _ _ _ m [(x.size : Int)] ⟨hm0, hm1⟩ (by simp; omega) (by simp)) ?_)
      | refine gp_two ?_ ?_ | refine gp_done hd hk ?_ | intro _ | refine p_ta hd hk (fun _ _ _ hd hk => ?_) | refine p_ts hd hk (fun _ hd hk => ?_))
    refine g_as 6 (v' := int ((i + 1 : Nat) : Int)) rfl (congrArg (Value.int .i64) (by push_cast; rfl)) ?_
    exact g_again ⟨i + 1, sumF m [(x.size : Int)]⟩ (by simp only []; omega) ⟨hi', by simp only []; omega, h3.1, fun h => by have := hm2 (by simp only at h; omega); have := h3.2.2 h; simp only; omega⟩ (by (repeat (first | exact FrSub.nil | refine FrSub.cons rfl ?_)); first | done | fail) (by (repeat (first | exact Take.nil | apply Take.cons | exact Sel.here | apply Sel.there)); first | done | fail)
  · repeat (first
      | (refine g_ops ?_; first | refine s_q ?_ | refine s_v ?_ | refine s_s ?_ | refine s_n (fun _ => ?_) | refine s_x ?_ | refine s_y ?_ | refine s_mq ?_ | refine s_app (fun _ _ => ?_) | refine s_mv ?_ | refine s_ms ?_ | refine s_b0 (fun _ => ?_) | ((fail_if_success refine g_lit rfl rfl rfl ?_); first | apply g_partM rfl rfl rfl | apply g_partMB rfl rfl rfl | fail))
      | apply g_regB (id := 3) 19 | refine g_seq ?_ | refine g_region ?_ | refine g_nil ?_ | refine g_then_normal ?_ | refine g_block ?_ | refine g_in_normal ?_
      | refine g_retc ?_ | refine g_then_ret ?_ | refine g_in_ret ?_ | refine g_exit ?_ | refine g_then_exit ?_ | refine g_in_exit ?_ | refine g_in_other rfl ?_
      | refine g_skip ?_ | refine g_label ?_ | refine g_cond_true rfl ?_ | refine g_cond_false rfl ?_ | exact s_m | intro _ | (refine gp_take ?_; first | refine p_q ?_ | refine p_x ?_ | refine p_mq ?_ | ((fail_if_success refine gp_lit rfl rfl rfl rfl ?_); first | apply gp_guard_dec rfl rfl rfl rfl | apply gp_guard rfl rfl rfl rfl | fail))
      | (refine gp_see ?_; first | refine p_f ?_ | refine p_sx ?_ | ((fail_if_success refine gp_lit rfl rfl rfl rfl ?_); first | apply gp_guard_dec rfl rfl rfl rfl | apply gp_guard rfl rfl rfl rfl | fail) | refine p_sq ?_)
      | (refine gp_one ?_; first | refine p_v ?_ | refine p_s ?_ | refine p_n (fun _ => ?_) | refine p_y ?_ | refine p_app (fun _ _ => ?_) | refine p_mv ?_ | refine p_ms ?_ | refine p_b0 (fun _ => ?_) | ((fail_if_success refine gp_lit rfl rfl rfl rfl ?_); first | apply gp_guard_dec rfl rfl rfl rfl | apply gp_guard rfl rfl rfl rfl | fail))
      | refine gp_two ?_ ?_ | refine gp_done hd hk ?_ | intro _ | refine p_ta hd hk (fun _ _ _ hd hk => ?_) | refine p_ts hd hk (fun _ hd hk => ?_))
    exact s_r m (hx := ⟨hm0, hm1, fun h => by
      have : i = l.length := by simp at h2; omega
      subst this
      have := hm2 (by omega)
      rw [List.drop_length, szS_nil] at this
      omega⟩)
set_option maxHeartbeats 4000000 in
theorem weight {H : HP} (v : V) : ∀ (u : Vc), VAt (Pile H) v u → ∀ (deep n : Int), 0 ≤ deep ∧ deep ≤ 41 → 0 ≤ n ∧ n ≤ 3000 →
    Does Tryd.prog 33 [.agg u.cells.toArray, int deep, int n] [Pile H] (X := Int) int (fun _ => [Pile H]) (fun r => 0 ≤ r ∧ r ≤ most ∧ (r ≤ 3000 → SmV v ∧ n + szV v ≤ r)) := by
  refine V.ind (Q := fun v => ∀ (u : Vc), VAt (Pile H) v u → ∀ (deep n : Int), 0 ≤ deep ∧ deep ≤ 41 → 0 ≤ n ∧ n ≤ 3000 →
    Does Tryd.prog 33 [.agg u.cells.toArray, int deep, int n] [Pile H] (X := Int) int (fun _ => [Pile H]) (fun r => 0 ≤ r ∧ r ≤ most ∧ (r ≤ 3000 → SmV v ∧ n + szV v ≤ r))) (fun k y n0 s ks l ih u hu deep n hdp hn => ?_) v
  have hw := szV_mk k y n0 s ks l
  have hmost : most = 1099511627776 := rfl
  cases hu with
  | @mk _ _ _ _ _ _ kp kc p c us hki hn0 hs hkl hks hkS hl hul hS h =>
    have ht := total kp kc 3000 ks hkS ⟨by omega, by omega⟩ hkl hks
    dsimp only [Vc.cells]
    refine fn_intro Tryd.func33 rfl Tryd.ntmps33 rfl (by simp only [argFr, Nat.zero_add, Nat.reduceAdd]; rfl) (fun Γ => ?_)
    repeat (first
      | (refine g_ops ?_; first | refine s_q ?_ | refine s_v ?_ | refine s_s ?_ | refine s_n (fun _ => ?_) | refine s_x ?_ | refine s_y ?_ | refine s_mq ?_ | refine s_app (fun _ _ => ?_) | refine s_mv ?_ | refine s_ms ?_ | refine s_b0 (fun _ => ?_) | ((fail_if_success refine g_lit rfl rfl rfl ?_); first | apply g_partM rfl rfl rfl | apply g_partMB rfl rfl rfl | fail))
      | refine g_seq ?_ | refine g_region ?_ | refine g_nil ?_ | refine g_then_normal ?_ | refine g_block ?_ | refine g_in_normal ?_ | refine g_retc ?_
      | refine g_then_ret ?_ | refine g_in_ret ?_ | refine g_exit ?_ | refine g_then_exit ?_ | refine g_in_exit ?_ | refine g_in_other rfl ?_ | refine g_skip ?_
      | refine g_label ?_ | refine g_cond_true rfl ?_ | refine g_cond_false rfl ?_ | exact s_m | intro _)
    rename_i b
    refine g_draw (.take 0 (.take 1 (.see 2 [] (.take 3 (.take 4 (.see 5 [] (.one 6 (.one 7 (.one 8 (.take 9 .done)))))))))) (by kernel_rfl) (C := [.row b [int k, .bool y, int n0, .string s, .slice kp ks.length kc, .slice p l.length c] 25]) (by (repeat (first | exact Take.nil | apply Take.cons | exact Sel.here | apply Sel.there)); first | done | fail) (fun m hd hk => ?_)
    repeat (first
      | (refine gp_take ?_; first | refine p_q ?_ | refine p_x ?_ | refine p_mq ?_ | ((fail_if_success refine gp_lit rfl rfl rfl rfl ?_); first | apply gp_guard_dec rfl rfl rfl rfl | apply gp_guard rfl rfl rfl rfl | fail))
      | (refine gp_see ?_; first | refine p_f ?_ | refine p_sx ?_ | ((fail_if_success refine gp_lit rfl rfl rfl rfl ?_); first | apply gp_guard_dec rfl rfl rfl rfl | apply gp_guard rfl rfl rfl rfl | fail) | refine p_sq ?_)
      | (refine gp_one ?_; first | refine p_v ?_ | refine p_s ?_ | refine p_n (fun _ => ?_) | refine p_y ?_ | refine p_app (fun _ _ => ?_) | refine p_mv ?_ | refine p_ms ?_ | refine p_b0 (fun _ => ?_) | ((fail_if_success refine gp_lit rfl rfl rfl rfl ?_); first | apply gp_guard_dec rfl rfl rfl rfl | apply gp_guard rfl rfl rfl rfl | fail) | refine p_c (ht) (fun _ _ => ?_))
      | refine gp_two ?_ ?_ | refine gp_done hd hk ?_ | intro _ | refine p_ta hd hk (fun _ _ _ hd hk => ?_) | refine p_ts hd hk (fun _ hd hk => ?_))
    rename_i T hT _
    have h1 := sum_upS n [(s.size : Int), T, 1] (by simp; omega) (by omega)
    simp only [List.sum_cons, List.sum_nil, Int.add_zero] at h1
    have hlim : ∀ x ∈ [(s.size : Int), T, 1], 0 ≤ x ∧ x ≤ 9223372036854775807 := by simp; omega
    repeat (first
      | (refine gp_take ?_; first | refine p_q ?_ | refine p_x ?_ | refine p_mq ?_ | ((fail_if_success refine gp_lit rfl rfl rfl rfl ?_); first | apply gp_guard_dec rfl rfl rfl rfl | apply gp_guard rfl rfl rfl rfl | fail))
      | (refine gp_see ?_; first | refine p_f ?_ | refine p_sx ?_ | ((fail_if_success refine gp_lit rfl rfl rfl rfl ?_); first | apply gp_guard_dec rfl rfl rfl rfl | apply gp_guard rfl rfl rfl rfl | fail) | refine p_h (sum_row _ _ _ n [(s.size : Int), T, 1] ⟨by omega, by omega⟩ hlim (by simp)) hd hk ?_ | refine p_sq ?_)
      | (refine gp_one ?_; first | refine p_v ?_ | refine p_s ?_ | refine p_n (fun _ => ?_) | refine p_y ?_ | refine p_app (fun _ _ => ?_) | refine p_mv ?_ | refine p_ms ?_ | refine p_b0 (fun _ => ?_) | ((fail_if_success refine gp_lit rfl rfl rfl rfl ?_); first | apply gp_guard_dec rfl rfl rfl rfl | apply gp_guard rfl rfl rfl rfl | fail) | refine p_k (sum_row _ _ _ n [(s.size : Int), T, 1] ⟨by omega, by omega⟩ hlim (by simp)) ?_)
      | refine gp_two ?_ ?_ | refine gp_done hd hk ?_ | intro _ | refine p_ta hd hk (fun _ _ _ hd hk => ?_) | refine p_ts hd hk (fun _ hd hk => ?_))
    generalize sumF n [(s.size : Int), T, 1] = m1 at h1 ⊢
    repeat (first
      | (refine g_ops ?_; first | refine s_q ?_ | refine s_v ?_ | refine s_s ?_ | refine s_n (fun _ => ?_) | refine s_x ?_ | refine s_y ?_ | refine s_mq ?_ | refine s_app (fun _ _ => ?_) | refine s_mv ?_ | refine s_ms ?_ | refine s_b0 (fun _ => ?_) | ((fail_if_success refine g_lit rfl rfl rfl ?_); first | apply g_partM rfl rfl rfl | apply g_partMB rfl rfl rfl | fail))
      | apply g_regB (id := 2) 54 | apply g_regB (id := 5) 63 | refine g_seq ?_ | refine g_region ?_ | refine g_nil ?_ | refine g_then_normal ?_ | refine g_block ?_
      | refine g_in_normal ?_ | refine g_retc ?_ | refine g_then_ret ?_ | refine g_in_ret ?_ | refine g_exit ?_ | refine g_then_exit ?_ | refine g_in_exit ?_
      | refine g_in_other rfl ?_ | refine g_skip ?_ | refine g_label ?_ | refine g_cond_true rfl ?_ | refine g_cond_false rfl ?_ | exact s_m | intro _
      | (refine gp_take ?_; first | refine p_q ?_ | refine p_x ?_ | refine p_mq ?_ | ((fail_if_success refine gp_lit rfl rfl rfl rfl ?_); first | apply gp_guard_dec rfl rfl rfl rfl | apply gp_guard rfl rfl rfl rfl | fail))
      | (refine gp_see ?_; first | refine p_f ?_ | refine p_sx ?_ | ((fail_if_success refine gp_lit rfl rfl rfl rfl ?_); first | apply gp_guard_dec rfl rfl rfl rfl | apply gp_guard rfl rfl rfl rfl | fail) | refine p_sq ?_)
      | (refine gp_one ?_; first | refine p_v ?_ | refine p_s ?_ | refine p_n (fun _ => ?_) | refine p_y ?_ | refine p_app (fun _ _ => ?_) | refine p_mv ?_ | refine p_ms ?_ | refine p_b0 (fun _ => ?_) | ((fail_if_success refine gp_lit rfl rfl rfl rfl ?_); first | apply gp_guard_dec rfl rfl rfl rfl | apply gp_guard rfl rfl rfl rfl | fail))
      | refine gp_two ?_ ?_ | refine gp_done hd hk ?_ | intro _ | refine p_ta hd hk (fun _ _ _ hd hk => ?_) | refine p_ts hd hk (fun _ hd hk => ?_))
    refine g_cond rfl (fun h2 => ?_) (fun h2 => ?_)
    · repeat (first
        | (refine g_ops ?_; first | refine s_q ?_ | refine s_v ?_ | refine s_s ?_ | refine s_n (fun _ => ?_) | refine s_x ?_ | refine s_y ?_ | refine s_mq ?_ | refine s_app (fun _ _ => ?_) | refine s_mv ?_ | refine s_ms ?_ | refine s_b0 (fun _ => ?_) | ((fail_if_success refine g_lit rfl rfl rfl ?_); first | apply g_partM rfl rfl rfl | apply g_partMB rfl rfl rfl | fail))
        | refine g_seq ?_ | refine g_region ?_ | refine g_nil ?_ | refine g_then_normal ?_ | refine g_block ?_ | refine g_in_normal ?_ | refine g_retc ?_
        | refine g_then_ret ?_ | refine g_in_ret ?_ | refine g_exit ?_ | refine g_then_exit ?_ | refine g_in_exit ?_ | refine g_in_other rfl ?_ | refine g_skip ?_
        | refine g_label ?_ | refine g_cond_true rfl ?_ | refine g_cond_false rfl ?_ | exact s_m | intro _)
      exact s_r 3001 (hx := ⟨by omega, by omega, fun h => by omega⟩)
    have hde : deep ≤ 40 ∧ (k = 6 → ks.length = l.length) ∧ (k ≠ 6 → ks.length = 0) ∧ (k < 5 → l.length = 0) := by
      have := shape deep k ks.length l.length h2
      exact this
    clear h2
    obtain ⟨hde, e6, e0, e5⟩ := hde
    have hkm : ∀ j x u, l[j]? = some x → us[j]? = some u → ∃ b o, p = some ⟨b, o, none⟩ ∧ (∀ (i : Nat) (v : Value), u.cells[i]? = some v → Reads (Pile H) ⟨b, o + j * 6 + i, none⟩ v) := fun j x u hx hu => slAt_elem hS Vc.len (by decide) hu
    repeat (first
      | (refine g_ops ?_; first | refine s_q ?_ | refine s_v ?_ | refine s_s ?_ | refine s_n (fun _ => ?_) | refine s_x ?_ | refine s_y ?_ | refine s_mq ?_ | refine s_app (fun _ _ => ?_) | refine s_mv ?_ | refine s_ms ?_ | refine s_b0 (fun _ => ?_) | ((fail_if_success refine g_lit rfl rfl rfl ?_); first | apply g_partM rfl rfl rfl | apply g_partMB rfl rfl rfl | fail))
      | refine g_seq ?_ | refine g_region ?_ | refine g_nil ?_ | refine g_then_normal ?_ | refine g_block ?_ | refine g_in_normal ?_ | refine g_retc ?_
      | refine g_then_ret ?_ | refine g_in_ret ?_ | refine g_exit ?_ | refine g_then_exit ?_ | refine g_in_exit ?_ | refine g_in_other rfl ?_ | refine g_skip ?_
      | refine g_label ?_ | refine g_cond_true rfl ?_ | refine g_cond_false rfl ?_ | exact s_m | intro _)
    refine g_loop (X := IM) (fun x => [(7, int x.i), (2, int x.m), (3, ptr b), (1, int deep)]) (fun _ => [.row b [int k, .bool y, int n0, .string s, .slice kp ks.length kc, .slice p l.length c] 25, Pile H])
      (fun x => x.i ≤ l.length ∧ 0 ≤ x.m ∧ x.m ≤ most ∧ (x.m ≤ 3000 → (∀ j x', j < x.i → l[j]? = some x' → SmV x') ∧ n + szV (.mk k y n0 s ks l) ≤ x.m + szK (l.drop x.i))) (fun x => l.length - x.i) ⟨0, m1⟩ ⟨Nat.zero_le _, by dsimp only; omega, h1.1, fun h => ⟨fun j x' hj => absurd hj (Nat.not_lt_zero _), by
        have h5 := h1.2.2 (by dsimp only at h; omega)
        have h6 := hT.2.2 (by dsimp only at h; omega)
        dsimp only
        rw [List.drop_zero, hw]
        push_cast
        omega⟩⟩ (by (repeat (first | exact FrSub.nil | refine FrSub.cons rfl ?_)); first | done | fail) (by (repeat (first | exact Take.nil | apply Take.cons | exact Sel.here | apply Sel.there)); first | done | fail) (fun x hx => ?_)
    obtain ⟨i, m2⟩ := x
    obtain ⟨hi, hm0, hm1, hm2⟩ := hx
    dsimp only at hi hm0 hm1 hm2 ⊢
    repeat (first
      | (refine g_ops ?_; first | refine s_q ?_ | refine s_v ?_ | refine s_s ?_ | refine s_n (fun _ => ?_) | refine s_x ?_ | refine s_y ?_ | refine s_mq ?_ | refine s_app (fun _ _ => ?_) | refine s_mv ?_ | refine s_ms ?_ | refine s_b0 (fun _ => ?_) | ((fail_if_success refine g_lit rfl rfl rfl ?_); first | apply g_partM rfl rfl rfl | apply g_partMB rfl rfl rfl | fail))
      | apply g_regB (id := 2) 54 | apply g_regB (id := 5) 63 | refine g_seq ?_ | refine g_region ?_ | refine g_nil ?_ | refine g_then_normal ?_ | refine g_block ?_
      | refine g_in_normal ?_ | refine g_retc ?_ | refine g_then_ret ?_ | refine g_in_ret ?_ | refine g_exit ?_ | refine g_then_exit ?_ | refine g_in_exit ?_
      | refine g_in_other rfl ?_ | refine g_skip ?_ | refine g_label ?_ | refine g_cond_true rfl ?_ | refine g_cond_false rfl ?_ | exact s_m | intro _
      | (refine gp_take ?_; first | refine p_q ?_ | refine p_x ?_ | refine p_mq ?_ | ((fail_if_success refine gp_lit rfl rfl rfl rfl ?_); first | apply gp_guard_dec rfl rfl rfl rfl | apply gp_guard rfl rfl rfl rfl | fail))
      | (refine gp_see ?_; first | refine p_f ?_ | refine p_sx ?_ | ((fail_if_success refine gp_lit rfl rfl rfl rfl ?_); first | apply gp_guard_dec rfl rfl rfl rfl | apply gp_guard rfl rfl rfl rfl | fail) | refine p_sq ?_)
      | (refine gp_one ?_; first | refine p_v ?_ | refine p_s ?_ | refine p_n (fun _ => ?_) | refine p_y ?_ | refine p_app (fun _ _ => ?_) | refine p_mv ?_ | refine p_ms ?_ | refine p_b0 (fun _ => ?_) | ((fail_if_success refine gp_lit rfl rfl rfl rfl ?_); first | apply gp_guard_dec rfl rfl rfl rfl | apply gp_guard rfl rfl rfl rfl | fail))
      | refine gp_two ?_ ?_ | refine gp_done hd hk ?_ | intro _ | refine p_ta hd hk (fun _ _ _ hd hk => ?_) | refine p_ts hd hk (fun _ hd hk => ?_))
    refine g_cond rfl (fun h2 => ?_) (fun h2 => ?_)
    · have hi' : i < l.length := by simp at h2; omega
      have hm3 : m2 ≤ 3000 := by simp at h2; omega
      have hgl : l[i]? = some l[i] := List.getElem?_eq_getElem hi'
      have hgu : us[i]? = some (us[i]'(by omega)) := List.getElem?_eq_getElem _
      have hmem : l[i] ∈ l := List.getElem_mem _
      have hat := h i _ _ hgl hgu
      obtain ⟨b2, o, rfl, hrow⟩ := hkm i _ _ hgl hgu
      rw [List.drop_eq_getElem_cons hi', szK_cons] at hm2
      generalize hx : l[i] = x at hat hmem hm2 hgl
      generalize us[i]'_ = u' at hat hrow
      have hc := ih x hmem u' hat (deep + 1) m2 ⟨by omega, by omega⟩ ⟨hm0, hm3⟩
      repeat (first
        | (refine g_ops ?_; first | refine s_q ?_ | refine s_v ?_ | refine s_s ?_ | refine s_n (fun _ => ?_) | refine s_x ?_ | refine s_y ?_ | refine s_mq ?_ | refine s_app (fun _ _ => ?_) | refine s_mv ?_ | refine s_ms ?_ | refine s_b0 (fun _ => ?_) | ((fail_if_success refine g_lit rfl rfl rfl ?_); first | apply g_partM rfl rfl rfl | apply g_partMB rfl rfl rfl | fail) | refine s_c (hc) (fun _ _ => ?_))
        | refine g_seq ?_ | refine g_region ?_ | refine g_nil ?_ | refine g_then_normal ?_ | refine g_block ?_ | refine g_in_normal ?_ | refine g_retc ?_
        | refine g_then_ret ?_ | refine g_in_ret ?_ | refine g_exit ?_ | refine g_then_exit ?_ | refine g_in_exit ?_ | refine g_in_other rfl ?_ | refine g_skip ?_
        | refine g_label ?_ | refine g_cond_true rfl ?_ | refine g_cond_false rfl ?_ | exact s_m | intro _)
      rename_i m3 hm4
      dsimp only [List.cons_append, List.nil_append]
      refine g_as 7 (v' := int ((i + 1 : Nat) : Int)) rfl (congrArg (Value.int .i64) (by push_cast; rfl)) ?_
      refine g_again ⟨i + 1, m3⟩ (by simp only; omega) ⟨hi', hm4.1, hm4.2.1, fun hm => ?_⟩ (by (repeat (first | exact FrSub.nil | refine FrSub.cons rfl ?_)); first | done | fail) (by (repeat (first | exact Take.nil | apply Take.cons | exact Sel.here | apply Sel.there)); first | done | fail)
      obtain ⟨g1, g2⟩ := hm4.2.2 hm
      obtain ⟨g3, g4⟩ := hm2 hm3
      refine ⟨fun j x' hj hx' => ?_, by dsimp only; push_cast at g4; omega⟩
      rcases Nat.lt_or_ge j i with hlt | hge
      · exact g3 j x' hlt hx'
      · obtain rfl : j = i := by dsimp only at hj; omega
        rw [hgl] at hx'
        cases hx'
        exact g1
    · repeat (first
        | (refine g_ops ?_; first | refine s_q ?_ | refine s_v ?_ | refine s_s ?_ | refine s_n (fun _ => ?_) | refine s_x ?_ | refine s_y ?_ | refine s_mq ?_ | refine s_app (fun _ _ => ?_) | refine s_mv ?_ | refine s_ms ?_ | refine s_b0 (fun _ => ?_) | ((fail_if_success refine g_lit rfl rfl rfl ?_); first | apply g_partM rfl rfl rfl | apply g_partMB rfl rfl rfl | fail))
        | refine g_seq ?_ | refine g_region ?_ | refine g_nil ?_ | refine g_then_normal ?_ | refine g_block ?_ | refine g_in_normal ?_ | refine g_retc ?_
        | refine g_then_ret ?_ | refine g_in_ret ?_ | refine g_exit ?_ | refine g_then_exit ?_ | refine g_in_exit ?_ | refine g_in_other rfl ?_ | refine g_skip ?_
        | refine g_label ?_ | refine g_cond_true rfl ?_ | refine g_cond_false rfl ?_ | exact s_m | intro _)
      exact s_r m2 (hx := ⟨hm0, hm1, fun hm => by
        have : i = l.length := by simp at h2; omega
        subst this
        obtain ⟨g1, g2⟩ := hm2 hm
        rw [List.drop_length, szK_nil] at g2
        refine ⟨.mk e6 (fun h => List.eq_nil_of_length_eq_zero (e0 h)) (fun h => List.eq_nil_of_length_eq_zero (e5 h)) fun x hx => ?_, by omega⟩
        obtain ⟨j, hj, rfl⟩ := List.mem_iff_getElem.1 hx
        exact g1 j _ hj (List.getElem?_eq_getElem hj)⟩)
theorem small27 {H : HP} (v : V) (u : Vc) (hu : VAt (Pile H) v u) : Does Tryd.prog 10 [.agg u.cells.toArray, int 0] [Pile H] (X := Bool) Value.bool (fun _ => [Pile H]) (fun r => r = true → SmV v ∧ szV v ≤ 3000) := by
  have hw := weight v u hu 0 0 ⟨by decide, by decide⟩ ⟨by decide, by decide⟩
  dsimp only [Vc.cells] at hw ⊢
  refine fn_intro Tryd.func10 rfl Tryd.ntmps10 rfl (by simp only [argFr, Nat.zero_add, Nat.reduceAdd]; rfl) (fun Γ => ?_)
  repeat (first
    | (refine g_ops ?_; first | refine s_q ?_ | refine s_v ?_ | refine s_s ?_ | refine s_n (fun _ => ?_) | refine s_x ?_ | refine s_y ?_ | refine s_mq ?_ | refine s_app (fun _ _ => ?_) | refine s_mv ?_ | refine s_ms ?_ | refine s_b0 (fun _ => ?_) | ((fail_if_success refine g_lit rfl rfl rfl ?_); first | apply g_partM rfl rfl rfl | apply g_partMB rfl rfl rfl | fail) | refine s_c (hw) (fun _ _ => ?_))
    | refine g_seq ?_ | refine g_region ?_ | refine g_nil ?_ | refine g_then_normal ?_ | refine g_block ?_ | refine g_in_normal ?_ | refine g_retc ?_ | refine g_then_ret ?_
    | refine g_in_ret ?_ | refine g_exit ?_ | refine g_then_exit ?_ | refine g_in_exit ?_ | refine g_in_other rfl ?_ | refine g_skip ?_ | refine g_label ?_
    | refine g_cond_true rfl ?_ | refine g_cond_false rfl ?_ | exact s_m | intro _)
  rename_i r hr
  exact s_r (decide (r ≤ 3000)) (hx := fun h => by
    have h := of_decide_eq_true h
    have := hr.2.2 h
    exact ⟨this.1, by omega⟩)
end Go.Proofs.YtpilcncdgjnbeaaDoor
