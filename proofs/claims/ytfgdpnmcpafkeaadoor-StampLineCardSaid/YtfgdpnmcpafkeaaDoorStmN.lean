/- StampLine: the walk. -/
import Derived.Test.YtfgdpnmcpafkeaaDoorStmQ
set_option linter.unusedSimpArgs false
set_option linter.unusedVariables false
namespace Go.Proofs.YtfgdpnmcpafkeaaDoor
open Go.Sl facts
attribute [local irreducible] Code.wp wpList Exit.then Exit.inBlock bodyPost Back MidQ G GP QStep VStep CStep SStep Does Post Reads
set_option maxHeartbeats 2000000 in
theorem line_law {H : HP} (hT : TabH H) (a b c : S3) (ha : a.inI) (hb : b.inI) : Does1 Tryd.prog 7 [a.v, b.v, c.v] [Pile H] (.bool true) := by
  have htr : ltS a b → ltS b c → ltS a c := ltS_trans
  refine fn_intro Tryd.func7 rfl Tryd.ntmps7 rfl (by simp only [argFr, Nat.zero_add, Nat.reduceAdd]; rfl) (fun Γ => ?_)
  repeat (first
    | (refine g_ops ?_; first | refine s_q ?_ | refine s_v ?_ | refine s_s ?_ | refine s_n (fun _ => ?_) | refine s_x ?_ | refine s_y ?_ | refine s_mq ?_ | refine s_app (fun _ _ => ?_) | refine s_mv ?_ | refine s_ms ?_ | refine s_b0 (fun _ => ?_) | ((fail_if_success refine g_lit rfl rfl rfl ?_); first | apply g_partM rfl rfl rfl | apply g_partMB rfl rfl rfl | fail) | refine s_p (less a b) ?_ | refine s_p (less b a) ?_)
    | refine g_seq ?_ | refine g_region ?_ | refine g_nil ?_ | refine g_then_normal ?_ | refine g_block ?_ | refine g_in_normal ?_ | refine g_retc ?_ | refine g_then_ret ?_
    | refine g_in_ret ?_ | refine g_exit ?_ | refine g_then_exit ?_ | refine g_in_exit ?_ | refine g_in_other rfl ?_ | refine g_skip ?_ | refine g_label ?_
    | refine g_cond_true rfl ?_ | refine g_cond_false rfl ?_ | exact s_m | intro _ | (refine gp_take ?_; first | refine p_q ?_ | refine p_x ?_ | refine p_mq ?_ | ((fail_if_success refine gp_lit rfl rfl rfl rfl ?_); first | apply gp_guard_dec rfl rfl rfl rfl | apply gp_guard rfl rfl rfl rfl | fail) | refine p_p (less a b) ?_ | refine p_p (less b a) ?_)
    | (refine gp_see ?_; first | refine p_f ?_ | refine p_sx ?_ | ((fail_if_success refine gp_lit rfl rfl rfl rfl ?_); first | apply gp_guard_dec rfl rfl rfl rfl | apply gp_guard rfl rfl rfl rfl | fail) | refine p_sp (less a b) ?_ | refine p_sp (less b a) ?_ | refine p_sq ?_)
    | (refine gp_one ?_; first | refine p_v ?_ | refine p_s ?_ | refine p_n (fun _ => ?_) | refine p_y ?_ | refine p_app (fun _ _ => ?_) | refine p_mv ?_ | refine p_ms ?_ | refine p_b0 (fun _ => ?_) | ((fail_if_success refine gp_lit rfl rfl rfl rfl ?_); first | apply gp_guard_dec rfl rfl rfl rfl | apply gp_guard rfl rfl rfl rfl | fail))
    | refine gp_two ?_ ?_ | refine gp_done hd hk ?_ | intro _ | refine p_ta hd hk (fun _ _ _ hd hk => ?_) | refine p_ts hd hk (fun _ hd hk => ?_))
  rename_i x y z
  refine g_cutX (X := Int) (fun n => [(7, .int .i64 n), (6, .bool false), (5, .pointer (some ⟨z, 0, none⟩)), (4, .pointer (some ⟨y, 0, none⟩)), (3, .pointer (some ⟨x, 0, none⟩)), (0, a.v), (1, b.v), (2, c.v)]) (fun _ => [.row z [.int .i64 c.w, .int .i64 c.l, .int .i64 c.n] 23, .row y [.int .i64 b.w, .int .i64 b.l, .int .i64 b.n] 23, .row x [.int .i64 a.w, .int .i64 a.l, .int .i64 a.n] 23, Pile H]) (fun n => ltS a b ∧ n = 1 ∨ ¬ ltS a b ∧ n = 0) ?_ (fun n1 hn1 => ?_)
  · refine g_cond rfl (fun h => ?_) (fun h => ?_)
    · repeat (first
        | (refine g_ops ?_; first | refine s_q ?_ | refine s_v ?_ | refine s_s ?_ | refine s_n (fun _ => ?_) | refine s_x ?_ | refine s_y ?_ | refine s_mq ?_ | refine s_app (fun _ _ => ?_) | refine s_mv ?_ | refine s_ms ?_ | refine s_b0 (fun _ => ?_) | ((fail_if_success refine g_lit rfl rfl rfl ?_); first | apply g_partM rfl rfl rfl | apply g_partMB rfl rfl rfl | fail))
        | refine g_seq ?_ | refine g_region ?_ | refine g_nil ?_ | refine g_then_normal ?_ | refine g_block ?_ | refine g_in_normal ?_ | refine g_retc ?_
        | refine g_then_ret ?_ | refine g_in_ret ?_ | refine g_exit ?_ | refine g_then_exit ?_ | refine g_in_exit ?_ | refine g_in_other rfl ?_ | refine g_skip ?_
        | refine g_label ?_ | refine g_cond_true rfl ?_ | refine g_cond_false rfl ?_ | exact s_m | intro _)
      exact g_midX _ (.inl ⟨by simpa using h, rfl⟩) (by (repeat (first | exact FrSub.nil | refine FrSub.cons rfl ?_)); first | done | fail) (by (repeat (first | exact Take.nil | apply Take.cons | exact Sel.here | apply Sel.there)); first | done | fail)
    · repeat (first
        | (refine g_ops ?_; first | refine s_q ?_ | refine s_v ?_ | refine s_s ?_ | refine s_n (fun _ => ?_) | refine s_x ?_ | refine s_y ?_ | refine s_mq ?_ | refine s_app (fun _ _ => ?_) | refine s_mv ?_ | refine s_ms ?_ | refine s_b0 (fun _ => ?_) | ((fail_if_success refine g_lit rfl rfl rfl ?_); first | apply g_partM rfl rfl rfl | apply g_partMB rfl rfl rfl | fail))
        | refine g_seq ?_ | refine g_region ?_ | refine g_nil ?_ | refine g_then_normal ?_ | refine g_block ?_ | refine g_in_normal ?_ | refine g_retc ?_
        | refine g_then_ret ?_ | refine g_in_ret ?_ | refine g_exit ?_ | refine g_then_exit ?_ | refine g_in_exit ?_ | refine g_in_other rfl ?_ | refine g_skip ?_
        | refine g_label ?_ | refine g_cond_true rfl ?_ | refine g_cond_false rfl ?_ | exact s_m | intro _)
      exact g_midX _ (.inr ⟨by simpa using h, rfl⟩) (by (repeat (first | exact FrSub.nil | refine FrSub.cons rfl ?_)); first | done | fail) (by (repeat (first | exact Take.nil | apply Take.cons | exact Sel.here | apply Sel.there)); first | done | fail)
  have hr1 : inI (n1 + 1) := by constructor <;> omega
  repeat (first
    | (refine g_ops ?_; first | refine s_q ?_ | refine s_v ?_ | refine s_s ?_ | refine s_n (fun _ => ?_) | refine s_x ?_ | refine s_y ?_ | refine s_mq ?_ | refine s_app (fun _ _ => ?_) | refine s_mv ?_ | refine s_ms ?_ | refine s_b0 (fun _ => ?_) | ((fail_if_success refine g_lit rfl rfl rfl ?_); first | apply g_partM rfl rfl rfl | apply g_partMB rfl rfl rfl | fail) | refine s_p (less a b) ?_ | refine s_p (less b a) ?_)
    | refine g_seq ?_ | refine g_region ?_ | refine g_nil ?_ | refine g_then_normal ?_ | refine g_block ?_ | refine g_in_normal ?_ | refine g_retc ?_ | refine g_then_ret ?_
    | refine g_in_ret ?_ | refine g_exit ?_ | refine g_then_exit ?_ | refine g_in_exit ?_ | refine g_in_other rfl ?_ | refine g_skip ?_ | refine g_label ?_
    | refine g_cond_true rfl ?_ | refine g_cond_false rfl ?_ | exact s_m | intro _ | (refine gp_take ?_; first | refine p_q ?_ | refine p_x ?_ | refine p_mq ?_ | ((fail_if_success refine gp_lit rfl rfl rfl rfl ?_); first | apply gp_guard_dec rfl rfl rfl rfl | apply gp_guard rfl rfl rfl rfl | fail) | refine p_p (less a b) ?_ | refine p_p (less b a) ?_)
    | (refine gp_see ?_; first | refine p_f ?_ | refine p_sx ?_ | ((fail_if_success refine gp_lit rfl rfl rfl rfl ?_); first | apply gp_guard_dec rfl rfl rfl rfl | apply gp_guard rfl rfl rfl rfl | fail) | refine p_sp (less a b) ?_ | refine p_sp (less b a) ?_ | refine p_sq ?_)
    | (refine gp_one ?_; first | refine p_v ?_ | refine p_s ?_ | refine p_n (fun _ => ?_) | refine p_y ?_ | refine p_app (fun _ _ => ?_) | refine p_mv ?_ | refine p_ms ?_ | refine p_b0 (fun _ => ?_) | ((fail_if_success refine gp_lit rfl rfl rfl rfl ?_); first | apply gp_guard_dec rfl rfl rfl rfl | apply gp_guard rfl rfl rfl rfl | fail))
    | refine gp_two ?_ ?_ | refine gp_done hd hk ?_ | intro _ | refine p_ta hd hk (fun _ _ _ hd hk => ?_) | refine p_ts hd hk (fun _ hd hk => ?_))
  refine g_cutX (X := Int) (fun n => [(7, .int .i64 n), (6, .bool false), (5, .pointer (some ⟨z, 0, none⟩)), (4, .pointer (some ⟨y, 0, none⟩)), (3, .pointer (some ⟨x, 0, none⟩)), (0, a.v), (1, b.v), (2, c.v)]) (fun _ => [.row z [.int .i64 c.w, .int .i64 c.l, .int .i64 c.n] 23, .row y [.int .i64 b.w, .int .i64 b.l, .int .i64 b.n] 23, .row x [.int .i64 a.w, .int .i64 a.l, .int .i64 a.n] 23, Pile H]) (fun n => (a.w = b.w ∧ a.l = b.l ∧ a.n = b.n) ∧ n = 0 ∨ ¬ (a.w = b.w ∧ a.l = b.l ∧ a.n = b.n) ∧ n = 1) ?_ (fun n hn => ?_)
  · refine g_cond rfl (fun h => ?_) (fun h => ?_)
    · have h' : ltS b a := by simpa using h
      repeat (first
        | (refine g_ops ?_; first | refine s_q ?_ | refine s_v ?_ | refine s_s ?_ | refine s_n (fun _ => ?_) | refine s_x ?_ | refine s_y ?_ | refine s_mq ?_ | refine s_app (fun _ _ => ?_) | refine s_mv ?_ | refine s_ms ?_ | refine s_b0 (fun _ => ?_) | ((fail_if_success refine g_lit rfl rfl rfl ?_); first | apply g_partM rfl rfl rfl | apply g_partMB rfl rfl rfl | fail))
        | refine g_seq ?_ | refine g_region ?_ | refine g_nil ?_ | refine g_then_normal ?_ | refine g_block ?_ | refine g_in_normal ?_ | refine g_retc ?_
        | refine g_then_ret ?_ | refine g_in_ret ?_ | refine g_exit ?_ | refine g_then_exit ?_ | refine g_in_exit ?_ | refine g_in_other rfl ?_ | refine g_skip ?_
        | refine g_label ?_ | refine g_cond_true rfl ?_ | refine g_cond_false rfl ?_ | exact s_m | intro _)
      exact g_midX (n1 + 1) (.inr ⟨fun e => ltS_ne h' ⟨e.1.symm, e.2.1.symm, e.2.2.symm⟩, by
        rcases hn1 with ⟨h1, _⟩ | ⟨_, h1⟩
        · exact absurd h' (ltS_asym h1)
        · rw [h1]; rfl⟩) (by (repeat (first | exact FrSub.nil | refine FrSub.cons rfl ?_)); first | done | fail) (by (repeat (first | exact Take.nil | apply Take.cons | exact Sel.here | apply Sel.there)); first | done | fail)
    · have h' : ¬ ltS b a := by simpa using h
      repeat (first
        | (refine g_ops ?_; first | refine s_q ?_ | refine s_v ?_ | refine s_s ?_ | refine s_n (fun _ => ?_) | refine s_x ?_ | refine s_y ?_ | refine s_mq ?_ | refine s_app (fun _ _ => ?_) | refine s_mv ?_ | refine s_ms ?_ | refine s_b0 (fun _ => ?_) | ((fail_if_success refine g_lit rfl rfl rfl ?_); first | apply g_partM rfl rfl rfl | apply g_partMB rfl rfl rfl | fail))
        | refine g_seq ?_ | refine g_region ?_ | refine g_nil ?_ | refine g_then_normal ?_ | refine g_block ?_ | refine g_in_normal ?_ | refine g_retc ?_
        | refine g_then_ret ?_ | refine g_in_ret ?_ | refine g_exit ?_ | refine g_then_exit ?_ | refine g_in_exit ?_ | refine g_in_other rfl ?_ | refine g_skip ?_
        | refine g_label ?_ | refine g_cond_true rfl ?_ | refine g_cond_false rfl ?_ | exact s_m | intro _)
      exact g_midX _ (by
        rcases hn1 with ⟨h1, h2⟩ | ⟨h1, h2⟩
        · exact .inr ⟨ltS_ne h1, h2⟩
        · rcases ltS_or a b with h3 | h3 | h3
          · exact absurd h3 h1
          · exact absurd h3 h'
          · subst h3; exact .inl ⟨⟨rfl, rfl, rfl⟩, h2⟩) (by (repeat (first | exact FrSub.nil | refine FrSub.cons rfl ?_)); first | done | fail) (by (repeat (first | exact Take.nil | apply Take.cons | exact Sel.here | apply Sel.there)); first | done | fail)
  repeat (first
    | (refine g_ops ?_; first | refine s_q ?_ | refine s_v ?_ | refine s_s ?_ | refine s_n (fun _ => ?_) | refine s_x ?_ | refine s_y ?_ | refine s_mq ?_ | refine s_app (fun _ _ => ?_) | refine s_mv ?_ | refine s_ms ?_ | refine s_b0 (fun _ => ?_) | ((fail_if_success refine g_lit rfl rfl rfl ?_); first | apply g_partM rfl rfl rfl | apply g_partMB rfl rfl rfl | fail))
    | (apply g_drawB (id := 6) 38 (.take 0 (.take 1 (.see 2 [] (.see 3 [] (.take 4 (.take 5 (.take 6 (.take 7 (.take 8 (.take 9 (.take 10 (.see 11 [] (.see 13 [] (.see 16 [] (.see 17 [] (.take 18 (.one 12 (.one 14 (.take 15 (.take 19 (.take 20 .done))))))))))))))))))))) (by kernel_rfl); intro k hd hk)
    | refine g_seq ?_ | refine g_region ?_ | refine g_nil ?_ | refine g_then_normal ?_ | refine g_block ?_ | refine g_in_normal ?_ | refine g_retc ?_ | refine g_then_ret ?_
    | refine g_in_ret ?_ | refine g_exit ?_ | refine g_then_exit ?_ | refine g_in_exit ?_ | refine g_in_other rfl ?_ | refine g_skip ?_ | refine g_label ?_
    | refine g_cond_true rfl ?_ | refine g_cond_false rfl ?_ | exact s_m | intro _ | (refine gp_take ?_; first | refine p_q ?_ | refine p_x ?_ | refine p_mq ?_ | ((fail_if_success refine gp_lit rfl rfl rfl rfl ?_); first | apply gp_guard_dec rfl rfl rfl rfl | apply gp_guard rfl rfl rfl rfl | fail))
    | (refine gp_see ?_; first | refine p_f ?_ | refine p_sx ?_ | ((fail_if_success refine gp_lit rfl rfl rfl rfl ?_); first | apply gp_guard_dec rfl rfl rfl rfl | apply gp_guard rfl rfl rfl rfl | fail) | refine p_sq ?_)
    | (refine gp_one ?_; first | refine p_v ?_ | refine p_s ?_ | refine p_n (fun _ => ?_) | refine p_y ?_ | refine p_app (fun _ _ => ?_) | refine p_mv ?_ | refine p_ms ?_ | refine p_b0 (fun _ => ?_) | ((fail_if_success refine gp_lit rfl rfl rfl rfl ?_); first | apply gp_guard_dec rfl rfl rfl rfl | apply gp_guard rfl rfl rfl rfl | fail) | refine p_cP (textS hT a ha) hd hk (fun _ _ => ?_) | refine p_cP (textS hT b hb) hd hk (fun _ _ => ?_))
    | refine gp_two ?_ ?_ | refine gp_done hd hk ?_ | intro _ | refine p_ta hd hk (fun _ _ _ hd hk => ?_) | refine p_ts hd hk (fun _ hd hk => ?_))
  refine g_cond rfl (fun h4 => ?_) (fun h4 => ?_)
  · exfalso
    rw [eq3] at h4
    rcases hn with ⟨h5, h6⟩ | ⟨h5, h6⟩
    · have h7 := txt_inj.2 h5
      simp [h5, h6, h7] at h4
    · have h7 : ¬ txt a.text = txt b.text := fun h => h5 (txt_inj.1 h)
      rw [decide_eq_false h5, decide_eq_false h7, h6] at h4
      simp at h4
  · repeat (first
      | (refine g_ops ?_; first | refine s_qa ?_ | refine s_q ?_ | refine s_v ?_ | refine s_s ?_ | refine s_n (fun _ => ?_) | refine s_x ?_ | refine s_y ?_ | refine s_mq ?_ | refine s_app (fun _ _ => ?_) | refine s_mv ?_ | refine s_ms ?_ | refine s_b0 (fun _ => ?_) | ((fail_if_success refine g_lit rfl rfl rfl ?_); first | apply g_partM rfl rfl rfl | apply g_partMB rfl rfl rfl | fail) | refine s_p (less a b) ?_ | refine s_p (less b c) ?_ | refine s_p (less a c) ?_ | refine s_k (mx1 a b _ _) ?_ | refine s_k (mx2 a b _ _) ?_ | refine s_k (mn1 a b _ _) ?_ | refine s_k (mn2 a b _ _) ?_)
      | (apply g_drawB (id := 6) 38 (.take 0 (.take 1 (.see 2 [] (.see 3 [] (.take 4 (.take 5 (.take 6 (.take 7 (.take 8 (.take 9 (.take 10 (.see 11 [] (.see 13 [] (.see 16 [] (.see 17 [] (.take 18 (.one 12 (.one 14 (.take 15 (.take 19 (.take 20 .done))))))))))))))))))))) (by kernel_rfl); intro k hd hk)
      | (apply g_drawB (id := 8) 6 (.see 0 [] (.see 1 [] (.see 2 [] (.take 3 (.take 4 (.see 5 [] (.see 6 [] (.see 7 [] (.take 8 (.take 9 (.take 10 (.see 11 [] (.see 12 [] (.see 13 [] (.take 14 (.take 15 (.see 16 [] (.see 17 [] (.see 20 [] (.see 21 [] (.two 18 (.two 19 (.one 22 (.one 23 (.take 24 (.take 25 (.take 26 (.see 27 [] (.see 28 [] (.see 31 [] (.see 32 [] (.two 29 (.two 30 (.one 33 (.one 34 (.take 35 (.take 36 (.take 37 (.one 38 (.take 39 (.take 40 .done)))))))) 33 (.one 30 (.one 34 (.take 35 (.take 36 (.take 37 (.one 38 (.take 39 (.take 40 .done))))))))) 33 (.one 29 (.one 30 (.one 34 (.take 35 (.take 36 (.take 37 (.one 38 (.take 39 (.take 40 .done))))))))))))))))))) 22 (.one 19 (.one 23 (.take 24 (.take 25 (.take 26 (.see 27 [] (.see 28 [] (.see 31 [] (.see 32 [] (.two 29 (.two 30 (.one 33 (.one 34 (.take 35 (.take 36 (.take 37 (.one 38 (.take 39 (.take 40 .done)))))))) 33 (.one 30 (.one 34 (.take 35 (.take 36 (.take 37 (.one 38 (.take 39 (.take 40 .done))))))))) 33 (.one 29 (.one 30 (.one 34 (.take 35 (.take 36 (.take 37 (.one 38 (.take 39 (.take 40 .done)))))))))))))))))))) 22 (.one 18 (.one 19 (.one 23 (.take 24 (.take 25 (.take 26 (.see 27 [] (.see 28 [] (.see 31 [] (.see 32 [] (.two 29 (.two 30 (.one 33 (.one 34 (.take 35 (.take 36 (.take 37 (.one 38 (.take 39 (.take 40 .done)))))))) 33 (.one 30 (.one 34 (.take 35 (.take 36 (.take 37 (.one 38 (.take 39 (.take 40 .done))))))))) 33 (.one 29 (.one 30 (.one 34 (.take 35 (.take 36 (.take 37 (.one 38 (.take 39 (.take 40 .done))))))))))))))))))))))))))))))))))))))))) (by kernel_rfl); intro k hd hk)
      | refine g_seq ?_ | refine g_region ?_ | refine g_nil ?_ | refine g_then_normal ?_ | refine g_block ?_ | refine g_in_normal ?_ | refine g_retc ?_
      | refine g_then_ret ?_ | refine g_in_ret ?_ | refine g_exit ?_ | refine g_then_exit ?_ | refine g_in_exit ?_ | refine g_in_other rfl ?_ | refine g_skip ?_
      | refine g_label ?_ | refine g_cond_true rfl ?_ | refine g_cond_false rfl ?_ | exact s_m | intro _ | (refine gp_take ?_; first | refine p_qa ?_ | refine p_q ?_ | refine p_x ?_ | refine p_mq ?_ | ((fail_if_success refine gp_lit rfl rfl rfl rfl ?_); first | apply gp_guard_dec rfl rfl rfl rfl | apply gp_guard rfl rfl rfl rfl | fail) | refine p_p (less a b) ?_ | refine p_p (less b c) ?_ | refine p_p (less a c) ?_)
      | (refine gp_see ?_; first | refine p_f ?_ | refine p_sx ?_ | ((fail_if_success refine gp_lit rfl rfl rfl rfl ?_); first | apply gp_guard_dec rfl rfl rfl rfl | apply gp_guard rfl rfl rfl rfl | fail) | refine p_sp (less a b) ?_ | refine p_sp (less b c) ?_ | refine p_sp (less a c) ?_ | refine p_h (mx1 a b _ _) hd hk ?_ | refine p_h (mx2 a b _ _) hd hk ?_ | refine p_h (mn1 a b _ _) hd hk ?_ | refine p_h (mn2 a b _ _) hd hk ?_ | refine p_sq ?_)
      | (refine gp_one ?_; first | refine p_v ?_ | refine p_s ?_ | refine p_n (fun _ => ?_) | refine p_y ?_ | refine p_app (fun _ _ => ?_) | refine p_mv ?_ | refine p_ms ?_ | refine p_b0 (fun _ => ?_) | ((fail_if_success refine gp_lit rfl rfl rfl rfl ?_); first | apply gp_guard_dec rfl rfl rfl rfl | apply gp_guard rfl rfl rfl rfl | fail) | refine p_cP (awake hT) hd hk (fun _ _ => ?_) | refine p_k (mx1 a b _ _) ?_ | refine p_k (mx2 a b _ _) ?_ | refine p_k (mn1 a b _ _) ?_ | refine p_k (mn2 a b _ _) ?_)
      | refine gp_two ?_ ?_ | refine gp_done hd hk ?_ | intro _ | refine p_ta hd hk (fun _ _ _ hd hk => ?_) | refine p_ts hd hk (fun _ hd hk => ?_))
    exact g_ret () rfl (by (repeat (first | exact RVs.nil | apply RVs.tmp rfl | apply RVs.cellA rfl (by (repeat (first | exact Sel.here | apply Sel.there)); first | done | fail) (by (repeat (first | exact Cut.zero | apply Cut.take | apply Cut.skip)); first | done | fail) | apply RVs.cell1 rfl (by (repeat (first | exact Sel.here | apply Sel.there)); first | done | fail) rfl)); first | done | fail) (by (repeat (first | exact Take.nil | apply Take.cons | exact Sel.here | apply Sel.there)); first | done | fail) (by simp only [pack]; exact congrArg Value.bool (by by_cases k1 : ltS a b <;> by_cases k2 : ltS b c <;> by_cases k3 : ltS a c <;> simp [k1, k2, k3] <;> exact k3 (htr k1 k2))) trivial
end Go.Proofs.YtfgdpnmcpafkeaaDoor
