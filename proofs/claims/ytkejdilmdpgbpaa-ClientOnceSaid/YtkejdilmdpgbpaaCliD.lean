/- Contracts: what the client shows; nothing; what the document fixes of it. -/
import Derived.Test.YtkejdilmdpgbpaaCliC
import Derived.Test.YtkejdilmdpgbpaaSlg
set_option linter.unusedSimpArgs false
set_option linter.unusedVariables false
namespace Go.Proofs.Ytkejdilmdpgbpaa
open Go.Sl facts
attribute [local irreducible] Code.wp wpList Exit.then Exit.inBlock bodyPost Back MidQ G GP QStep VStep CStep SStep Does Post Reads
theorem token (b : Nat) (s : Cl) (mp : Option Nat) (fp : Option Addr) (fl fc : Nat) (rp : Option Addr) (rl rc : Nat) : Does1 Try.prog 10 [ptr b] [clr b s mp fp fl fc rp rl rc] s.tok.v := by
  refine fn_intro Try.func10 rfl Try.ntmps10 rfl (by simp only [argFr, Nat.zero_add, Nat.reduceAdd]; rfl) (fun Γ => ?_)
  repeat (first
    | (refine g_ops ?_; first | refine s_q ?_ | refine s_v ?_ | refine s_s ?_ | refine s_n (fun _ => ?_) | refine s_x ?_ | refine s_y ?_ | refine s_mq ?_ | refine s_app (fun _ _ => ?_) | refine s_mv ?_ | refine s_ms ?_ | refine s_b0 (fun _ => ?_) | ((fail_if_success refine g_lit rfl rfl rfl ?_); first | apply g_partM rfl rfl rfl | apply g_partMB rfl rfl rfl | fail))
    | refine g_seq ?_ | refine g_region ?_ | refine g_nil ?_ | refine g_then_normal ?_ | refine g_block ?_ | refine g_in_normal ?_ | refine g_retc ?_ | refine g_then_ret ?_
    | refine g_in_ret ?_ | refine g_exit ?_ | refine g_then_exit ?_ | refine g_in_exit ?_ | refine g_in_other rfl ?_ | refine g_skip ?_ | refine g_label ?_
    | refine g_cond_true rfl ?_ | refine g_cond_false rfl ?_ | exact s_m | intro _ | (refine gp_take ?_; first | refine p_q ?_ | refine p_x ?_ | refine p_mq ?_ | ((fail_if_success refine gp_lit rfl rfl rfl rfl ?_); first | apply gp_guard_dec rfl rfl rfl rfl | apply gp_guard rfl rfl rfl rfl | fail))
    | (refine gp_see ?_; first | refine p_f ?_ | refine p_sx ?_ | ((fail_if_success refine gp_lit rfl rfl rfl rfl ?_); first | apply gp_guard_dec rfl rfl rfl rfl | apply gp_guard rfl rfl rfl rfl | fail) | refine p_sq ?_)
    | (refine gp_one ?_; first | refine p_v ?_ | refine p_s ?_ | refine p_n (fun _ => ?_) | refine p_y ?_ | refine p_app (fun _ _ => ?_) | refine p_mv ?_ | refine p_ms ?_ | refine p_b0 (fun _ => ?_))
    | refine gp_done hd hk ?_ | intro _ | refine p_ta hd hk (fun _ _ _ hd hk => ?_))
  exact s_r ()
theorem token_nil : Does1 Try.prog 10 [.pointer none] [] S3.zero.v := by
  refine fn_intro Try.func10 rfl Try.ntmps10 rfl (by simp only [argFr, Nat.zero_add, Nat.reduceAdd]; rfl) (fun Γ => ?_)
  repeat (first
    | (refine g_ops ?_; first | refine s_q ?_ | refine s_v ?_ | refine s_s ?_ | refine s_n (fun _ => ?_) | refine s_x ?_ | refine s_y ?_ | refine s_mq ?_ | refine s_app (fun _ _ => ?_) | refine s_mv ?_ | refine s_ms ?_ | refine s_b0 (fun _ => ?_) | ((fail_if_success refine g_lit rfl rfl rfl ?_); first | apply g_partM rfl rfl rfl | apply g_partMB rfl rfl rfl | fail))
    | refine g_seq ?_ | refine g_region ?_ | refine g_nil ?_ | refine g_then_normal ?_ | refine g_block ?_ | refine g_in_normal ?_ | refine g_retc ?_ | refine g_then_ret ?_
    | refine g_in_ret ?_ | refine g_exit ?_ | refine g_then_exit ?_ | refine g_in_exit ?_ | refine g_in_other rfl ?_ | refine g_skip ?_ | refine g_label ?_
    | refine g_cond_true rfl ?_ | refine g_cond_false rfl ?_ | exact s_m | intro _ | (refine gp_take ?_; first | refine p_q ?_ | refine p_x ?_ | refine p_mq ?_ | ((fail_if_success refine gp_lit rfl rfl rfl rfl ?_); first | apply gp_guard_dec rfl rfl rfl rfl | apply gp_guard rfl rfl rfl rfl | fail))
    | (refine gp_see ?_; first | refine p_f ?_ | refine p_sx ?_ | ((fail_if_success refine gp_lit rfl rfl rfl rfl ?_); first | apply gp_guard_dec rfl rfl rfl rfl | apply gp_guard rfl rfl rfl rfl | fail) | refine p_sq ?_)
    | (refine gp_one ?_; first | refine p_v ?_ | refine p_s ?_ | refine p_n (fun _ => ?_) | refine p_y ?_ | refine p_app (fun _ _ => ?_) | refine p_mv ?_ | refine p_ms ?_ | refine p_b0 (fun _ => ?_))
    | refine gp_done hd hk ?_ | intro _ | refine p_ta hd hk (fun _ _ _ hd hk => ?_))
  exact s_r ()
abbrev Cur.v (c : Cur) : Value := .agg [int c.s.w, int c.s.l, int c.s.n, int c.i, .string c.t].toArray
theorem cursor (b : Nat) (s : Cl) (mp : Option Nat) (fp : Option Addr) (fl fc : Nat) (rp : Option Addr) (rl rc : Nat) : Does1 Try.prog 16 [ptr b] [clr b s mp fp fl fc rp rl rc] s.cur.v := by
  refine fn_intro Try.func16 rfl Try.ntmps16 rfl (by simp only [argFr, Nat.zero_add, Nat.reduceAdd]; rfl) (fun Γ => ?_)
  repeat (first
    | (refine g_ops ?_; first | refine s_q ?_ | refine s_v ?_ | refine s_s ?_ | refine s_n (fun _ => ?_) | refine s_x ?_ | refine s_y ?_ | refine s_mq ?_ | refine s_app (fun _ _ => ?_) | refine s_mv ?_ | refine s_ms ?_ | refine s_b0 (fun _ => ?_) | ((fail_if_success refine g_lit rfl rfl rfl ?_); first | apply g_partM rfl rfl rfl | apply g_partMB rfl rfl rfl | fail))
    | refine g_seq ?_ | refine g_region ?_ | refine g_nil ?_ | refine g_then_normal ?_ | refine g_block ?_ | refine g_in_normal ?_ | refine g_retc ?_ | refine g_then_ret ?_
    | refine g_in_ret ?_ | refine g_exit ?_ | refine g_then_exit ?_ | refine g_in_exit ?_ | refine g_in_other rfl ?_ | refine g_skip ?_ | refine g_label ?_
    | refine g_cond_true rfl ?_ | refine g_cond_false rfl ?_ | exact s_m | intro _ | (refine gp_take ?_; first | refine p_q ?_ | refine p_x ?_ | refine p_mq ?_ | ((fail_if_success refine gp_lit rfl rfl rfl rfl ?_); first | apply gp_guard_dec rfl rfl rfl rfl | apply gp_guard rfl rfl rfl rfl | fail))
    | (refine gp_see ?_; first | refine p_f ?_ | refine p_sx ?_ | ((fail_if_success refine gp_lit rfl rfl rfl rfl ?_); first | apply gp_guard_dec rfl rfl rfl rfl | apply gp_guard rfl rfl rfl rfl | fail) | refine p_sq ?_)
    | (refine gp_one ?_; first | refine p_v ?_ | refine p_s ?_ | refine p_n (fun _ => ?_) | refine p_y ?_ | refine p_app (fun _ _ => ?_) | refine p_mv ?_ | refine p_ms ?_ | refine p_b0 (fun _ => ?_))
    | refine gp_done hd hk ?_ | intro _ | refine p_ta hd hk (fun _ _ _ hd hk => ?_))
  exact s_r ()
theorem clone_own {p : Option Addr} {m c : Nat} {news : List Value} (hm : m ≤ 1000000) : Does Try.prog 28 [.slice p m c] [.own p m c 7 news 53] (X := Option Addr × Nat) (fun q => .slice q.1 m q.2) (fun q => [.own q.1 m q.2 7 news 53, .own p m c 7 news 53]) (fun _ => True) := by
  cases p with
  | none =>
    refine fn_intro Try.func28 rfl Try.ntmps28 rfl (by simp only [argFr, Nat.zero_add, Nat.reduceAdd]; rfl) (fun Γ => ?_)
    repeat (first
      | (refine g_ops ?_; first | refine s_q ?_ | refine s_v ?_ | refine s_s ?_ | refine s_n (fun _ => ?_) | refine s_x ?_ | refine s_y ?_ | refine s_mq ?_ | refine s_app (fun _ _ => ?_) | refine s_mv ?_ | refine s_ms ?_ | refine s_b0 (fun _ => ?_) | ((fail_if_success refine g_lit rfl rfl rfl ?_); first | apply g_partM rfl rfl rfl | apply g_partMB rfl rfl rfl | fail))
      | refine g_seq ?_ | refine g_region ?_ | refine g_nil ?_ | refine g_then_normal ?_ | refine g_block ?_ | refine g_in_normal ?_ | refine g_retc ?_
      | refine g_then_ret ?_ | refine g_in_ret ?_ | refine g_exit ?_ | refine g_then_exit ?_ | refine g_in_exit ?_ | refine g_in_other rfl ?_ | refine g_skip ?_
      | refine g_label ?_ | refine g_cond_true rfl ?_ | refine g_cond_false rfl ?_ | exact s_m | intro _ | (refine gp_take ?_; first | refine p_q ?_ | refine p_x ?_ | refine p_mq ?_ | ((fail_if_success refine gp_lit rfl rfl rfl rfl ?_); first | apply gp_guard_dec rfl rfl rfl rfl | apply gp_guard rfl rfl rfl rfl | fail))
      | (refine gp_see ?_; first | refine p_f ?_ | refine p_sx ?_ | ((fail_if_success refine gp_lit rfl rfl rfl rfl ?_); first | apply gp_guard_dec rfl rfl rfl rfl | apply gp_guard rfl rfl rfl rfl | fail) | refine p_sq ?_)
      | (refine gp_one ?_; first | refine p_v ?_ | refine p_s ?_ | refine p_n (fun _ => ?_) | refine p_y ?_ | refine p_app (fun _ _ => ?_) | refine p_mv ?_ | refine p_ms ?_ | refine p_b0 (fun _ => ?_))
      | refine gp_done hd hk ?_ | intro _ | refine p_ta hd hk (fun _ _ _ hd hk => ?_))
    refine g_own .here (fun h1 h2 h3 => ?_)
    have h4 : m = 0 := by
      rcases Nat.eq_zero_or_pos m with h | h
      · exact h
      · obtain ⟨b, e⟩ := h3 h
        cases e
    subst h4
    obtain rfl : news = [] := List.eq_nil_of_length_eq_zero (by rw [h1, Nat.zero_mul])
    refine g_own_nil none 7 53 ?_
    exact s_r (none, 0)
  | some a =>
    refine fn_intro Try.func28 rfl Try.ntmps28 rfl (by simp only [argFr, Nat.zero_add, Nat.reduceAdd]; rfl) (fun Γ => ?_)
    have hsrc : ∀ {Γ : Ctx} {b : Nat}, SrcIs Try.prog Γ [.own (some ⟨b, 0, none⟩) 0 0 7 [] 53, .own (some a) m c 7 news 53] 7 28 (.slice (some a) m c) m news := fun {Γ b} => srcOwn inferInstance (.there .here)
    repeat (first
      | (refine g_ops ?_; first | refine s_q ?_ | refine s_v ?_ | refine s_s ?_ | refine s_n (fun _ => ?_) | refine s_x ?_ | refine s_y ?_ | refine s_mq ?_ | refine s_app (fun _ _ => ?_) | refine s_mv ?_ | refine s_ms ?_ | refine s_b0 (fun _ => ?_) | ((fail_if_success refine g_lit rfl rfl rfl ?_); first | apply g_partM rfl rfl rfl | apply g_partMB rfl rfl rfl | fail))
      | refine g_seq ?_ | refine g_region ?_ | refine g_nil ?_ | refine g_then_normal ?_ | refine g_block ?_ | refine g_in_normal ?_ | refine g_retc ?_
      | refine g_then_ret ?_ | refine g_in_ret ?_ | refine g_exit ?_ | refine g_then_exit ?_ | refine g_in_exit ?_ | refine g_in_other rfl ?_ | refine g_skip ?_
      | refine g_label ?_ | refine g_cond_true rfl ?_ | refine g_cond_false rfl ?_ | exact s_m | intro _ | (refine gp_take ?_; first | refine p_q ?_ | refine p_x ?_ | refine p_mq ?_ | ((fail_if_success refine gp_lit rfl rfl rfl rfl ?_); first | apply gp_guard_dec rfl rfl rfl rfl | apply gp_guard rfl rfl rfl rfl | fail))
      | (refine gp_see ?_; first | refine p_f ?_ | refine p_sx ?_ | ((fail_if_success refine gp_lit rfl rfl rfl rfl ?_); first | apply gp_guard_dec rfl rfl rfl rfl | apply gp_guard rfl rfl rfl rfl | fail) | refine p_sq ?_)
      | (refine gp_one ?_; first | refine p_v ?_ | refine p_s ?_ | refine p_n (fun _ => ?_) | refine p_y ?_ | refine p_app (fun _ _ => ?_) | refine p_mv ?_ | refine p_ms ?_ | refine p_b0 (fun _ => ?_))
      | refine gp_done hd hk ?_ | intro _ | refine p_ta hd hk (fun _ _ _ hd hk => ?_))
    rename_i q c'
    exact s_r (q, c') (hp := by simp [pack]) (tk := by rw [Nat.zero_add, List.nil_append]; exact (by (repeat (first | exact Take.nil | apply Take.cons | exact Sel.here | apply Sel.there)); first | done | fail))
theorem feed (b : Nat) (s : Cl) (mp : Option Nat) (fp : Option Addr) (fl fc : Nat) (fs : List Value) (rp : Option Addr) (rl rc : Nat) (hfl : fl ≤ 1000000) : Does Try.prog 11 [ptr b] [clr b s mp fp fl fc rp rl rc, .own fp fl fc 7 fs 53] (X := Option Addr × Nat) (fun q => .slice q.1 fl q.2) (fun q => [.own q.1 fl q.2 7 fs 53, clr b s mp fp fl fc rp rl rc, .own fp fl fc 7 fs 53]) (fun _ => True) := by
  refine fn_intro Try.func11 rfl Try.ntmps11 rfl (by simp only [argFr, Nat.zero_add, Nat.reduceAdd]; rfl) (fun Γ => ?_)
  repeat (first
    | (refine g_ops ?_; first | refine s_q ?_ | refine s_v ?_ | refine s_s ?_ | refine s_n (fun _ => ?_) | refine s_x ?_ | refine s_y ?_ | refine s_mq ?_ | refine s_app (fun _ _ => ?_) | refine s_mv ?_ | refine s_ms ?_ | refine s_b0 (fun _ => ?_) | ((fail_if_success refine g_lit rfl rfl rfl ?_); first | apply g_partM rfl rfl rfl | apply g_partMB rfl rfl rfl | fail) | refine s_c (clone_own hfl) (fun _ _ => ?_))
    | refine g_seq ?_ | refine g_region ?_ | refine g_nil ?_ | refine g_then_normal ?_ | refine g_block ?_ | refine g_in_normal ?_ | refine g_retc ?_ | refine g_then_ret ?_
    | refine g_in_ret ?_ | refine g_exit ?_ | refine g_then_exit ?_ | refine g_in_exit ?_ | refine g_in_other rfl ?_ | refine g_skip ?_ | refine g_label ?_
    | refine g_cond_true rfl ?_ | refine g_cond_false rfl ?_ | exact s_m | intro _ | (refine gp_take ?_; first | refine p_q ?_ | refine p_x ?_ | refine p_mq ?_ | ((fail_if_success refine gp_lit rfl rfl rfl rfl ?_); first | apply gp_guard_dec rfl rfl rfl rfl | apply gp_guard rfl rfl rfl rfl | fail))
    | (refine gp_see ?_; first | refine p_f ?_ | refine p_sx ?_ | ((fail_if_success refine gp_lit rfl rfl rfl rfl ?_); first | apply gp_guard_dec rfl rfl rfl rfl | apply gp_guard rfl rfl rfl rfl | fail) | refine p_sq ?_)
    | (refine gp_one ?_; first | refine p_v ?_ | refine p_s ?_ | refine p_n (fun _ => ?_) | refine p_y ?_ | refine p_app (fun _ _ => ?_) | refine p_mv ?_ | refine p_ms ?_ | refine p_b0 (fun _ => ?_) | refine p_c (clone_own hfl) (fun _ _ => ?_))
    | refine gp_done hd hk ?_ | intro _ | refine p_ta hd hk (fun _ _ _ hd hk => ?_))
  exact s_r (by assumption)
theorem feed_nil : Does1 Try.prog 11 [.pointer none] [] (.slice none 0 0) := by
  refine fn_intro Try.func11 rfl Try.ntmps11 rfl (by simp only [argFr, Nat.zero_add, Nat.reduceAdd]; rfl) (fun Γ => ?_)
  repeat (first
    | (refine g_ops ?_; first | refine s_q ?_ | refine s_v ?_ | refine s_s ?_ | refine s_n (fun _ => ?_) | refine s_x ?_ | refine s_y ?_ | refine s_mq ?_ | refine s_app (fun _ _ => ?_) | refine s_mv ?_ | refine s_ms ?_ | refine s_b0 (fun _ => ?_) | ((fail_if_success refine g_lit rfl rfl rfl ?_); first | apply g_partM rfl rfl rfl | apply g_partMB rfl rfl rfl | fail))
    | refine g_seq ?_ | refine g_region ?_ | refine g_nil ?_ | refine g_then_normal ?_ | refine g_block ?_ | refine g_in_normal ?_ | refine g_retc ?_ | refine g_then_ret ?_
    | refine g_in_ret ?_ | refine g_exit ?_ | refine g_then_exit ?_ | refine g_in_exit ?_ | refine g_in_other rfl ?_ | refine g_skip ?_ | refine g_label ?_
    | refine g_cond_true rfl ?_ | refine g_cond_false rfl ?_ | exact s_m | intro _ | (refine gp_take ?_; first | refine p_q ?_ | refine p_x ?_ | refine p_mq ?_ | ((fail_if_success refine gp_lit rfl rfl rfl rfl ?_); first | apply gp_guard_dec rfl rfl rfl rfl | apply gp_guard rfl rfl rfl rfl | fail))
    | (refine gp_see ?_; first | refine p_f ?_ | refine p_sx ?_ | ((fail_if_success refine gp_lit rfl rfl rfl rfl ?_); first | apply gp_guard_dec rfl rfl rfl rfl | apply gp_guard rfl rfl rfl rfl | fail) | refine p_sq ?_)
    | (refine gp_one ?_; first | refine p_v ?_ | refine p_s ?_ | refine p_n (fun _ => ?_) | refine p_y ?_ | refine p_app (fun _ _ => ?_) | refine p_mv ?_ | refine p_ms ?_ | refine p_b0 (fun _ => ?_))
    | refine gp_done hd hk ?_ | intro _ | refine p_ta hd hk (fun _ _ _ hd hk => ?_))
  exact s_r ()
def CallV.zero (k : Int) : CallV := ⟨k, S3.zero, ByteArray.empty, ByteArray.empty, 0, Cur.zero, ByteArray.empty, 0, 0, 0, 0, 0, 0⟩
theorem ask_nilC (x : CallV) : Does1 Try.prog 8 [.pointer none, x.v] [] (.tuple [(CallV.zero 0).v, int 0].toArray) := by
  refine fn_intro Try.func8 rfl Try.ntmps8 rfl (by simp only [argFr, Nat.zero_add, Nat.reduceAdd]; rfl) (fun Γ => ?_)
  repeat (first
    | (refine g_ops ?_; first | refine s_q ?_ | refine s_v ?_ | refine s_s ?_ | refine s_n (fun _ => ?_) | refine s_x ?_ | refine s_y ?_ | refine s_mq ?_ | refine s_app (fun _ _ => ?_) | refine s_mv ?_ | refine s_ms ?_ | refine s_b0 (fun _ => ?_) | ((fail_if_success refine g_lit rfl rfl rfl ?_); first | apply g_partM rfl rfl rfl | apply g_partMB rfl rfl rfl | fail))
    | apply g_regB (id := 5) 24 | refine g_drawS (id := 11) 4 (.see 0 [] (.take 1 (.take 2 (.take 3 (.see 4 [] (.one 5 (.take 6 .done))))))) (fun k hd hk => ?_)
    | refine g_seq ?_ | refine g_region ?_ | refine g_nil ?_ | refine g_then_normal ?_ | refine g_block ?_ | refine g_in_normal ?_ | refine g_retc ?_ | refine g_then_ret ?_
    | refine g_in_ret ?_ | refine g_exit ?_ | refine g_then_exit ?_ | refine g_in_exit ?_ | refine g_in_other rfl ?_ | refine g_skip ?_ | refine g_label ?_
    | refine g_cond_true rfl ?_ | refine g_cond_false rfl ?_ | exact s_m | intro _ | (refine gp_take ?_; first | refine p_q ?_ | refine p_x ?_ | refine p_mq ?_ | ((fail_if_success refine gp_lit rfl rfl rfl rfl ?_); first | apply gp_guard_dec rfl rfl rfl rfl | apply gp_guard rfl rfl rfl rfl | fail))
    | (refine gp_see ?_; first | refine p_f ?_ | refine p_sx ?_ | ((fail_if_success refine gp_lit rfl rfl rfl rfl ?_); first | apply gp_guard_dec rfl rfl rfl rfl | apply gp_guard rfl rfl rfl rfl | fail) | refine p_sq ?_)
    | (refine gp_one ?_; first | refine p_v ?_ | refine p_s ?_ | refine p_n (fun _ => ?_) | refine p_y ?_ | refine p_app (fun _ _ => ?_) | refine p_mv ?_ | refine p_ms ?_ | refine p_b0 (fun _ => ?_))
    | refine gp_done hd hk ?_ | intro _ | refine p_ta hd hk (fun _ _ _ hd hk => ?_))
  exact s_r ()
theorem take_nil (num : Int) (r : RepV) : Does1 Try.prog 9 [.pointer none, int num, .agg (r.cells none 0 0).toArray] [] (.bool false) := by
  refine fn_intro Try.func9 rfl Try.ntmps9 rfl (by simp only [argFr, Nat.zero_add, Nat.reduceAdd]; rfl) (fun Γ => ?_)
  repeat (first
    | (refine g_ops ?_; first | refine s_q ?_ | refine s_v ?_ | refine s_s ?_ | refine s_n (fun _ => ?_) | refine s_x ?_ | refine s_y ?_ | refine s_mq ?_ | refine s_app (fun _ _ => ?_) | refine s_mv ?_ | refine s_ms ?_ | refine s_b0 (fun _ => ?_) | ((fail_if_success refine g_lit rfl rfl rfl ?_); first | apply g_partM rfl rfl rfl | apply g_partMB rfl rfl rfl | fail))
    | (apply g_drawB (id := 11) 70 (.take 0 (.see 1 [] (.take 2 (.take 3 (.see 4 [] (.take 5 (.take 6 (.take 7 (.see 8 [] (.take 9 (.take 10 (.take 11 (.take 12 (.see 13 [] (.take 14 (.take 15 .done)))))))))))))))) (by kernel_rfl); intro k hd hk)
    | refine g_seq ?_ | refine g_region ?_ | refine g_nil ?_ | refine g_then_normal ?_ | refine g_block ?_ | refine g_in_normal ?_ | refine g_retc ?_ | refine g_then_ret ?_
    | refine g_in_ret ?_ | refine g_exit ?_ | refine g_then_exit ?_ | refine g_in_exit ?_ | refine g_in_other rfl ?_ | refine g_skip ?_ | refine g_label ?_
    | refine g_cond_true rfl ?_ | refine g_cond_false rfl ?_ | exact s_m | intro _ | (refine gp_take ?_; first | refine p_q ?_ | refine p_x ?_ | refine p_mq ?_ | ((fail_if_success refine gp_lit rfl rfl rfl rfl ?_); first | apply gp_guard_dec rfl rfl rfl rfl | apply gp_guard rfl rfl rfl rfl | fail))
    | (refine gp_see ?_; first | refine p_f ?_ | refine p_sx ?_ | ((fail_if_success refine gp_lit rfl rfl rfl rfl ?_); first | apply gp_guard_dec rfl rfl rfl rfl | apply gp_guard rfl rfl rfl rfl | fail) | refine p_sq ?_)
    | (refine gp_one ?_; first | refine p_v ?_ | refine p_s ?_ | refine p_n (fun _ => ?_) | refine p_y ?_ | refine p_app (fun _ _ => ?_) | refine p_mv ?_ | refine p_ms ?_ | refine p_b0 (fun _ => ?_))
    | refine gp_done hd hk ?_ | intro _ | refine p_ta hd hk (fun _ _ _ hd hk => ?_))
  exact s_r ()
theorem take_still0 (b : Nat) (s : Cl) (mp : Nat) (M : List (Int × Value)) (fp : Option Addr) (fl fc : Nat) (rp : Option Addr) (rl rc : Nat) (rs : List Value) (num : Int) (r : RepV) (pb : Bool) (c0 : Cur)
    (hq : mget M num = some (askV pb c0)) (hrl : rl ≤ 1000000) (hmv : (pb && sameC c0 s.cur && decide (r.code = 0)) = false) :
    Does Try.prog 9 [ptr b, int num, .agg (r.cells none 0 0).toArray] [clr b s (some mp) fp fl fc rp rl rc, .map mp M, .own rp rl rc 15 rs 74] (X := (Option Addr × Nat) × (Option Addr × Nat)) (fun _ => .bool true)
      (fun q => [clr b { s with tok := tokOf s r } (some mp) fp fl fc q.1.1 (rl + 1) q.1.2, .map mp (mdel M num), .own q.1.1 (rl + 1) q.1.2 15 (rs ++ ansCells num r q.2.1 0 q.2.2) 74, .own q.2.1 0 q.2.2 7 [] 53]) (fun _ => True) :=
  does_noC (take_still b s mp M fp fl fc rp rl rc rs num r none 0 0 pb c0 hq (C := .pure True) SlAt.none (by omega) hrl hmv)
def repZ (st : S3) : RepV := ⟨0, st, Cur.zero, 0⟩
theorem awake : Does1 Try.prog 12 [] [] (.bool true) := by
  refine fn_intro Try.func12 rfl Try.ntmps12 rfl (by simp only [argFr, Nat.zero_add, Nat.reduceAdd]; rfl) (fun Γ => ?_)
  repeat (first
    | (refine g_ops ?_; first | refine s_q ?_ | refine s_v ?_ | refine s_s ?_ | refine s_n (fun _ => ?_) | refine s_x ?_ | refine s_y ?_ | refine s_mq ?_ | refine s_app (fun _ _ => ?_) | refine s_mv ?_ | refine s_ms ?_ | refine s_b0 (fun _ => ?_) | ((fail_if_success refine g_lit rfl rfl rfl ?_); first | apply g_partM rfl rfl rfl | apply g_partMB rfl rfl rfl | fail) | refine s_c (new) (fun _ _ => ?_) | refine s_c (ask_none _ ⟨0, S3.zero, Cur.zero⟩ (CallV.zero 6) none 0 0 none 0 0 (by decide)) (fun _ _ => ?_))
    | refine g_seq ?_ | refine g_region ?_ | refine g_nil ?_ | refine g_then_normal ?_ | refine g_block ?_ | refine g_in_normal ?_ | refine g_retc ?_ | refine g_then_ret ?_
    | refine g_in_ret ?_ | refine g_exit ?_ | refine g_then_exit ?_ | refine g_in_exit ?_ | refine g_in_other rfl ?_ | refine g_skip ?_ | refine g_label ?_
    | refine g_cond_true rfl ?_ | refine g_cond_false rfl ?_ | exact s_m | intro _ | (refine gp_take ?_; first | refine p_q ?_ | refine p_x ?_ | refine p_mq ?_ | ((fail_if_success refine gp_lit rfl rfl rfl rfl ?_); first | apply gp_guard_dec rfl rfl rfl rfl | apply gp_guard rfl rfl rfl rfl | fail))
    | (refine gp_see ?_; first | refine p_f ?_ | refine p_sx ?_ | ((fail_if_success refine gp_lit rfl rfl rfl rfl ?_); first | apply gp_guard_dec rfl rfl rfl rfl | apply gp_guard rfl rfl rfl rfl | fail) | refine p_sq ?_)
    | (refine gp_one ?_; first | refine p_v ?_ | refine p_s ?_ | refine p_n (fun _ => ?_) | refine p_y ?_ | refine p_app (fun _ _ => ?_) | refine p_mv ?_ | refine p_ms ?_ | refine p_b0 (fun _ => ?_) | refine p_c (new) (fun _ _ => ?_) | refine p_c (ask_none _ ⟨0, S3.zero, Cur.zero⟩ (CallV.zero 6) none 0 0 none 0 0 (by decide)) (fun _ _ => ?_))
    | refine gp_done hd hk ?_ | intro _ | refine p_ta hd hk (fun _ _ _ hd hk => ?_))
  rename_i b _ q hq _
  obtain ⟨mp, pb⟩ := q
  have hpb : pb = false := hq
  subst hpb
  repeat (first
    | (refine g_ops ?_; first | refine s_q ?_ | refine s_v ?_ | refine s_s ?_ | refine s_n (fun _ => ?_) | refine s_x ?_ | refine s_y ?_ | refine s_mq ?_ | refine s_app (fun _ _ => ?_) | refine s_mv ?_ | refine s_ms ?_ | refine s_b0 (fun _ => ?_) | ((fail_if_success refine g_lit rfl rfl rfl ?_); first | apply g_partM rfl rfl rfl | apply g_partMB rfl rfl rfl | fail) | refine s_c (take_still0 b ⟨1, S3.zero, Cur.zero⟩ mp _ none 0 0 none 0 0 [] 1 (repZ ⟨5, 0, 1⟩) false Cur.zero rfl (by decide) rfl) (fun _ _ => ?_))
    | refine g_seq ?_ | refine g_region ?_ | refine g_nil ?_ | refine g_then_normal ?_ | refine g_block ?_ | refine g_in_normal ?_ | refine g_retc ?_ | refine g_then_ret ?_
    | refine g_in_ret ?_ | refine g_exit ?_ | refine g_then_exit ?_ | refine g_in_exit ?_ | refine g_in_other rfl ?_ | refine g_skip ?_ | refine g_label ?_
    | refine g_cond_true rfl ?_ | refine g_cond_false rfl ?_ | exact s_m | intro _ | (refine gp_take ?_; first | refine p_q ?_ | refine p_x ?_ | refine p_mq ?_ | ((fail_if_success refine gp_lit rfl rfl rfl rfl ?_); first | apply gp_guard_dec rfl rfl rfl rfl | apply gp_guard rfl rfl rfl rfl | fail))
    | (refine gp_see ?_; first | refine p_f ?_ | refine p_sx ?_ | ((fail_if_success refine gp_lit rfl rfl rfl rfl ?_); first | apply gp_guard_dec rfl rfl rfl rfl | apply gp_guard rfl rfl rfl rfl | fail) | refine p_sq ?_)
    | (refine gp_one ?_; first | refine p_v ?_ | refine p_s ?_ | refine p_n (fun _ => ?_) | refine p_y ?_ | refine p_app (fun _ _ => ?_) | refine p_mv ?_ | refine p_ms ?_ | refine p_b0 (fun _ => ?_) | refine p_c (take_still0 b ⟨1, S3.zero, Cur.zero⟩ mp _ none 0 0 none 0 0 [] 1 (repZ ⟨5, 0, 1⟩) false Cur.zero rfl (by decide) rfl) (fun _ _ => ?_))
    | refine gp_done hd hk ?_ | intro _ | refine p_ta hd hk (fun _ _ _ hd hk => ?_))
  rename_i q _
  obtain ⟨⟨r1, r2⟩, ⟨e1, e2⟩⟩ := q
  repeat (first
    | (refine g_ops ?_; first | refine s_q ?_ | refine s_v ?_ | refine s_s ?_ | refine s_n (fun _ => ?_) | refine s_x ?_ | refine s_y ?_ | refine s_mq ?_ | refine s_app (fun _ _ => ?_) | refine s_mv ?_ | refine s_ms ?_ | refine s_b0 (fun _ => ?_) | ((fail_if_success refine g_lit rfl rfl rfl ?_); first | apply g_partM rfl rfl rfl | apply g_partMB rfl rfl rfl | fail) | refine s_k (take_no b ⟨1, tokOf ⟨1, S3.zero, Cur.zero⟩ (repZ ⟨5, 0, 1⟩), Cur.zero⟩ mp (mdel (mput ([] : List (Int × Value)) (0 + 1) (askV false Cur.zero)) 1) none 0 0 r1 1 r2 1 (repZ S3.zero) none 0 0 rfl) ?_ | refine s_k (token b ⟨1, tokOf ⟨1, S3.zero, Cur.zero⟩ (repZ ⟨5, 0, 1⟩), Cur.zero⟩ (some mp) none 0 0 r1 1 r2) ?_)
    | refine g_seq ?_ | refine g_region ?_ | refine g_nil ?_ | refine g_then_normal ?_ | refine g_block ?_ | refine g_in_normal ?_ | refine g_retc ?_ | refine g_then_ret ?_
    | refine g_in_ret ?_ | refine g_exit ?_ | refine g_then_exit ?_ | refine g_in_exit ?_ | refine g_in_other rfl ?_ | refine g_skip ?_ | refine g_label ?_
    | refine g_cond_true rfl ?_ | refine g_cond_false rfl ?_ | exact s_m | intro _ | (refine gp_take ?_; first | refine p_q ?_ | refine p_x ?_ | refine p_mq ?_ | ((fail_if_success refine gp_lit rfl rfl rfl rfl ?_); first | apply gp_guard_dec rfl rfl rfl rfl | apply gp_guard rfl rfl rfl rfl | fail))
    | (refine gp_see ?_; first | refine p_f ?_ | refine p_sx ?_ | ((fail_if_success refine gp_lit rfl rfl rfl rfl ?_); first | apply gp_guard_dec rfl rfl rfl rfl | apply gp_guard rfl rfl rfl rfl | fail) | refine p_h (take_no b ⟨1, tokOf ⟨1, S3.zero, Cur.zero⟩ (repZ ⟨5, 0, 1⟩), Cur.zero⟩ mp (mdel (mput ([] : List (Int × Value)) (0 + 1) (askV false Cur.zero)) 1) none 0 0 r1 1 r2 1 (repZ S3.zero) none 0 0 rfl) hd hk ?_ | refine p_h (token b ⟨1, tokOf ⟨1, S3.zero, Cur.zero⟩ (repZ ⟨5, 0, 1⟩), Cur.zero⟩ (some mp) none 0 0 r1 1 r2) hd hk ?_ | refine p_sq ?_)
    | (refine gp_one ?_; first | refine p_v ?_ | refine p_s ?_ | refine p_n (fun _ => ?_) | refine p_y ?_ | refine p_app (fun _ _ => ?_) | refine p_mv ?_ | refine p_ms ?_ | refine p_b0 (fun _ => ?_) | refine p_k (take_no b ⟨1, tokOf ⟨1, S3.zero, Cur.zero⟩ (repZ ⟨5, 0, 1⟩), Cur.zero⟩ mp (mdel (mput ([] : List (Int × Value)) (0 + 1) (askV false Cur.zero)) 1) none 0 0 r1 1 r2 1 (repZ S3.zero) none 0 0 rfl) ?_ | refine p_k (token b ⟨1, tokOf ⟨1, S3.zero, Cur.zero⟩ (repZ ⟨5, 0, 1⟩), Cur.zero⟩ (some mp) none 0 0 r1 1 r2) ?_)
    | refine gp_done hd hk ?_ | intro _ | refine p_ta hd hk (fun _ _ _ hd hk => ?_))
  exact s_r ()
theorem nothing (n : Int) : Does1 Try.prog 3 [int n] [] (.bool true) := by
  refine fn_intro Try.func3 rfl Try.ntmps3 rfl (by simp only [argFr, Nat.zero_add, Nat.reduceAdd]; rfl) (fun Γ => ?_)
  repeat (first
    | (refine g_ops ?_; first | refine s_q ?_ | refine s_v ?_ | refine s_s ?_ | refine s_n (fun _ => ?_) | refine s_x ?_ | refine s_y ?_ | refine s_mq ?_ | refine s_app (fun _ _ => ?_) | refine s_mv ?_ | refine s_ms ?_ | refine s_b0 (fun _ => ?_) | ((fail_if_success refine g_lit rfl rfl rfl ?_); first | apply g_partM rfl rfl rfl | apply g_partMB rfl rfl rfl | fail) | refine s_k (ask_nilC (CallV.zero 6)) ?_ | refine s_c (ask_none _ ⟨0, S3.zero, Cur.zero⟩ (CallV.zero 6) none 0 0 none 0 0 (by decide)) (fun _ _ => ?_))
    | refine g_seq ?_ | refine g_region ?_ | refine g_nil ?_ | refine g_then_normal ?_ | refine g_block ?_ | refine g_in_normal ?_ | refine g_retc ?_ | refine g_then_ret ?_
    | refine g_in_ret ?_ | refine g_exit ?_ | refine g_then_exit ?_ | refine g_in_exit ?_ | refine g_in_other rfl ?_ | refine g_skip ?_ | refine g_label ?_
    | refine g_cond_true rfl ?_ | refine g_cond_false rfl ?_ | exact s_m | intro _ | (refine gp_take ?_; first | refine p_q ?_ | refine p_x ?_ | refine p_mq ?_ | ((fail_if_success refine gp_lit rfl rfl rfl rfl ?_); first | apply gp_guard_dec rfl rfl rfl rfl | apply gp_guard rfl rfl rfl rfl | fail))
    | (refine gp_see ?_; first | refine p_f ?_ | refine p_sx ?_ | ((fail_if_success refine gp_lit rfl rfl rfl rfl ?_); first | apply gp_guard_dec rfl rfl rfl rfl | apply gp_guard rfl rfl rfl rfl | fail) | refine p_h (ask_nilC (CallV.zero 6)) hd hk ?_ | refine p_sq ?_)
    | (refine gp_one ?_; first | refine p_v ?_ | refine p_s ?_ | refine p_n (fun _ => ?_) | refine p_y ?_ | refine p_app (fun _ _ => ?_) | refine p_mv ?_ | refine p_ms ?_ | refine p_b0 (fun _ => ?_) | refine p_k (ask_nilC (CallV.zero 6)) ?_ | refine p_c (ask_none _ ⟨0, S3.zero, Cur.zero⟩ (CallV.zero 6) none 0 0 none 0 0 (by decide)) (fun _ _ => ?_))
    | refine gp_done hd hk ?_ | intro _ | refine p_ta hd hk (fun _ _ _ hd hk => ?_))
  repeat (first
    | (refine g_ops ?_; first | refine s_q ?_ | refine s_v ?_ | refine s_s ?_ | refine s_n (fun _ => ?_) | refine s_x ?_ | refine s_y ?_ | refine s_mq ?_ | refine s_app (fun _ _ => ?_) | refine s_mv ?_ | refine s_ms ?_ | refine s_b0 (fun _ => ?_) | ((fail_if_success refine g_lit rfl rfl rfl ?_); first | apply g_partM rfl rfl rfl | apply g_partMB rfl rfl rfl | fail) | refine s_k (take_nil n (repZ S3.zero)) ?_ | refine s_k (token_nil) ?_ | refine s_k (feed_nil) ?_ | refine s_k (awake) ?_)
    | refine g_seq ?_ | refine g_region ?_ | refine g_nil ?_ | refine g_then_normal ?_ | refine g_block ?_ | refine g_in_normal ?_ | refine g_retc ?_ | refine g_then_ret ?_
    | refine g_in_ret ?_ | refine g_exit ?_ | refine g_then_exit ?_ | refine g_in_exit ?_ | refine g_in_other rfl ?_ | refine g_skip ?_ | refine g_label ?_
    | refine g_cond_true rfl ?_ | refine g_cond_false rfl ?_ | exact s_m | intro _ | (refine gp_take ?_; first | refine p_q ?_ | refine p_x ?_ | refine p_mq ?_ | ((fail_if_success refine gp_lit rfl rfl rfl rfl ?_); first | apply gp_guard_dec rfl rfl rfl rfl | apply gp_guard rfl rfl rfl rfl | fail))
    | (refine gp_see ?_; first | refine p_f ?_ | refine p_sx ?_ | ((fail_if_success refine gp_lit rfl rfl rfl rfl ?_); first | apply gp_guard_dec rfl rfl rfl rfl | apply gp_guard rfl rfl rfl rfl | fail) | refine p_h (take_nil n (repZ S3.zero)) hd hk ?_ | refine p_h (token_nil) hd hk ?_ | refine p_h (feed_nil) hd hk ?_ | refine p_h (awake) hd hk ?_ | refine p_sq ?_)
    | (refine gp_one ?_; first | refine p_v ?_ | refine p_s ?_ | refine p_n (fun _ => ?_) | refine p_y ?_ | refine p_app (fun _ _ => ?_) | refine p_mv ?_ | refine p_ms ?_ | refine p_b0 (fun _ => ?_) | refine p_k (take_nil n (repZ S3.zero)) ?_ | refine p_k (token_nil) ?_ | refine p_k (feed_nil) ?_ | refine p_k (awake) ?_)
    | refine gp_done hd hk ?_ | intro _ | refine p_ta hd hk (fun _ _ _ hd hk => ?_))
  exact s_r ()
end Go.Proofs.Ytkejdilmdpgbpaa
