/- The laws of the clock: drift, nothing: the walks. -/
import Derived.Test.YtbgjcgaodchneaaClkC
set_option linter.unusedSimpArgs false
set_option linter.unusedVariables false
namespace Go.Proofs.Ytbgjcgaodchneaa
open Go.Sl facts
attribute [local irreducible] Code.wp wpList Exit.then Exit.inBlock bodyPost Back MidQ G GP QStep VStep CStep SStep Does Post Reads
theorem stamp_of {W : World} {x : Int × Int × Int × Unit} {cs : List Value} (h : Opens.is Try.prog 29 W x cs) : ∃ s : S3, cs = [.int .i64 s.w, .int .i64 s.l, .int .i64 s.n] := by
  obtain ⟨hl, ⟨h1, _⟩, ⟨h2, _⟩, ⟨h3, _⟩, _⟩ := h
  match cs, hl with
  | [a, b, c], _ => exact ⟨⟨x.1, x.2.1, x.2.2.1⟩, by simp_all⟩
theorem nothing (s : S3) : Does1 Try.prog 8 [s.v] [] (.bool true) := by
  refine fn_intro Try.func8 rfl Try.ntmps8 rfl (by simp only [argFr, Nat.zero_add, Nat.reduceAdd]; rfl) (fun Γ => ?_)
  repeat (first
    | (refine g_ops ?_; first | refine s_q ?_ | refine s_v ?_ | refine s_s ?_ | refine s_n (fun _ => ?_) | refine s_x ?_ | refine s_y ?_ | ((fail_if_success refine g_lit rfl rfl rfl ?_); first | apply g_partM rfl rfl rfl | apply g_partMB rfl rfl rfl | fail) | refine s_p (awake) ?_ | refine s_p (read_nil _) ?_ | refine s_p (tick_nil) ?_ | refine s_p (merge_nil ⟨_, _, _⟩) ?_ | refine s_p (now_nil) ?_ | refine s_p (reading_nil) ?_)
    | apply g_regB (id := 4) 2 | refine g_seq ?_ | refine g_region ?_ | refine g_nil ?_ | refine g_then_normal ?_ | refine g_block ?_ | refine g_in_normal ?_
    | refine g_retc ?_ | refine g_then_ret ?_ | refine g_in_ret ?_ | refine g_exit ?_ | refine g_then_exit ?_ | refine g_in_exit ?_ | refine g_in_other rfl ?_
    | refine g_skip ?_ | refine g_label ?_ | refine g_cond_true rfl ?_ | refine g_cond_false rfl ?_ | exact s_m | intro _ | (refine gp_take ?_; first | refine p_q ?_ | refine p_f ?_ | refine p_x ?_ | ((fail_if_success refine gp_lit rfl rfl rfl ?_); first | apply gp_guard_dec rfl rfl rfl | apply gp_guard rfl rfl rfl | fail) | refine p_p (awake) ?_ | refine p_p (read_nil _) ?_ | refine p_p (tick_nil) ?_ | refine p_p (merge_nil ⟨_, _, _⟩) ?_ | refine p_p (now_nil) ?_ | refine p_p (reading_nil) ?_)
    | (refine gp_one ?_; first | refine p_v ?_ | refine p_s ?_ | refine p_n (fun _ => ?_) | refine p_y ?_) | refine gp_done hd hk ?_ | intro _)
  exact g_ret () rfl (by (repeat (first | exact RVs.nil | apply RVs.tmp rfl | apply RVs.cellA rfl (by (repeat (first | exact Sel.here | apply Sel.there)); done) (by (repeat (first | exact Cut.zero | apply Cut.take | apply Cut.skip)); done) | apply RVs.cell1 rfl (by (repeat (first | exact Sel.here | apply Sel.there)); done) rfl)); done) (by (repeat (first | exact Take.nil | apply Take.cons | exact Sel.here | apply Sel.there)); done) (by simp [pack, S3.zero]) trivial
set_option maxHeartbeats 2000000 in
theorem drift (reading ahead : Int) : Does1 Try.prog 4 [int reading, int ahead] [] (.bool true) := by
  refine fn_intro Try.func4 rfl Try.ntmps4 rfl (by simp only [argFr, Nat.zero_add, Nat.reduceAdd]; rfl) (fun Γ => ?_)
  repeat (first
    | (refine g_ops ?_; first | refine s_q ?_ | refine s_v ?_ | refine s_s ?_ | refine s_n (fun _ => ?_) | refine s_x ?_ | refine s_y ?_ | ((fail_if_success refine g_lit rfl rfl rfl ?_); first | apply g_partM rfl rfl rfl | apply g_partMB rfl rfl rfl | fail) | refine s_p (awake) ?_)
    | apply g_regB (id := 1) 24 | apply g_regB (id := 4) 35 | (apply g_drawB (id := 11) 4 (.take 0 (.take 1 (.take 2 (.take 3 (.take 4 (.take 5 (.take 6 (.take 7 (.take 8 (.take 9 (.take 10 (.take 11 .done)))))))))))) (by kernel_rfl); intro k hd hk)
    | apply g_regB (id := 13) 4 | refine g_seq ?_ | refine g_region ?_ | refine g_nil ?_ | refine g_then_normal ?_ | refine g_block ?_ | refine g_in_normal ?_
    | refine g_retc ?_ | refine g_then_ret ?_ | refine g_in_ret ?_ | refine g_exit ?_ | refine g_then_exit ?_ | refine g_in_exit ?_ | refine g_in_other rfl ?_
    | refine g_skip ?_ | refine g_label ?_ | refine g_cond_true rfl ?_ | refine g_cond_false rfl ?_ | exact s_m | intro _ | (refine gp_take ?_; first | refine p_q ?_ | refine p_f ?_ | refine p_x ?_ | ((fail_if_success refine gp_lit rfl rfl rfl ?_); first | apply gp_guard_dec rfl rfl rfl | apply gp_guard rfl rfl rfl | fail) | refine p_p (awake) ?_)
    | (refine gp_one ?_; first | refine p_v ?_ | refine p_s ?_ | refine p_n (fun _ => ?_) | refine p_y ?_) | refine gp_done hd hk ?_ | intro _)
  refine g_cond rfl (fun h => ?_) (fun h => ?_)
  · repeat (first
      | (refine g_ops ?_; first | refine s_q ?_ | refine s_v ?_ | refine s_s ?_ | refine s_n (fun _ => ?_) | refine s_x ?_ | refine s_y ?_ | ((fail_if_success refine g_lit rfl rfl rfl ?_); first | apply g_partM rfl rfl rfl | apply g_partMB rfl rfl rfl | fail) | refine s_p (awake) ?_)
      | apply g_regB (id := 1) 24 | apply g_regB (id := 4) 35 | (apply g_drawB (id := 11) 4 (.take 0 (.take 1 (.take 2 (.take 3 (.take 4 (.take 5 (.take 6 (.take 7 (.take 8 (.take 9 (.take 10 (.take 11 .done)))))))))))) (by kernel_rfl); intro k hd hk)
      | apply g_regB (id := 13) 4 | refine g_seq ?_ | refine g_region ?_ | refine g_nil ?_ | refine g_then_normal ?_ | refine g_block ?_ | refine g_in_normal ?_
      | refine g_retc ?_ | refine g_then_ret ?_ | refine g_in_ret ?_ | refine g_exit ?_ | refine g_then_exit ?_ | refine g_in_exit ?_ | refine g_in_other rfl ?_
      | refine g_skip ?_ | refine g_label ?_ | refine g_cond_true rfl ?_ | refine g_cond_false rfl ?_ | exact s_m | intro _ | (refine gp_take ?_; first | refine p_q ?_ | refine p_f ?_ | refine p_x ?_ | ((fail_if_success refine gp_lit rfl rfl rfl ?_); first | apply gp_guard_dec rfl rfl rfl | apply gp_guard rfl rfl rfl | fail) | refine p_p (awake) ?_)
      | (refine gp_one ?_; first | refine p_v ?_ | refine p_s ?_ | refine p_n (fun _ => ?_) | refine p_y ?_) | refine gp_done hd hk ?_ | intro _)
    exact g_ret () rfl (by (repeat (first | exact RVs.nil | apply RVs.tmp rfl | apply RVs.cellA rfl (by (repeat (first | exact Sel.here | apply Sel.there)); done) (by (repeat (first | exact Cut.zero | apply Cut.take | apply Cut.skip)); done) | apply RVs.cell1 rfl (by (repeat (first | exact Sel.here | apply Sel.there)); done) rfl)); done) (by (repeat (first | exact Take.nil | apply Take.cons | exact Sel.here | apply Sel.there)); done) rfl trivial
  · have hb : 0 ≤ reading ∧ reading ≤ 1099511627776 ∧ 0 ≤ ahead ∧ ahead ≤ 5000 := by simp at h; omega
    have r1 : (Ck.mk 0 0 0 1).read reading = ⟨reading, 0, 0, 1⟩ := by
      simp only [Ck.read]
      split <;> simp_all; omega
    have e : (S3.mk (reading + ahead) 7 2).sound = true := by simp [S3.sound, soundB, inB]; omega
    have br : 0 ≤ (Ck.mk reading 0 0 1).r ∧ (Ck.mk reading 0 0 1).r ≤ 1125899906842624 := by show 0 ≤ reading ∧ reading ≤ 1125899906842624; omega
    by_cases h1 : 1000 < ahead
    · have h2 : 0 < reading + ahead ∧ 1000 < reading + ahead - reading := by omega
      have m1 : (Ck.mk reading 0 0 1).mergeE ⟨reading + ahead, 7, 2⟩ = 6 := by simp only [Ck.mergeE, e, Bool.true_eq_false, ↓reduceIte, if_pos h2]
      have m2 : (Ck.mk reading 0 0 1).merge ⟨reading + ahead, 7, 2⟩ = ⟨reading, 0, 0, 1⟩ := by simp only [Ck.merge, e, Bool.true_eq_false, ↓reduceIte, if_pos h2]
      repeat (first
        | (refine g_ops ?_; first | refine s_q ?_ | refine s_v ?_ | refine s_s ?_ | refine s_n (fun _ => ?_) | refine s_x ?_ | refine s_y ?_ | ((fail_if_success refine g_lit rfl rfl rfl ?_); first | apply g_partM rfl rfl rfl | apply g_partMB rfl rfl rfl | fail) | refine s_p (awake) ?_ | refine s_k (now _ ⟨reading, 0, 0, 1⟩ n1) ?_ | refine s_c (new_ok 1 0 (by simp [newOk])) (fun _ _ => ?_) | refine s_c (readAt ⟨0, 0, 0, 1⟩ reading _ n1 r1) (fun _ _ => ?_) | refine s_c (mergeAt ⟨reading, 0, 0, 1⟩ ⟨reading + ahead, 7, 2⟩ 6 _ n1 br m1 m2) (fun _ _ => ?_))
        | apply g_regB (id := 1) 24 | apply g_regB (id := 4) 35 | (apply g_drawB (id := 11) 4 (.take 0 (.take 1 (.take 2 (.take 3 (.take 4 (.take 5 (.take 6 (.take 7 (.take 8 (.take 9 (.take 10 (.take 11 .done)))))))))))) (by kernel_rfl); intro k hd hk)
        | apply g_regB (id := 13) 4 | refine g_seq ?_ | refine g_region ?_ | refine g_nil ?_ | refine g_then_normal ?_ | refine g_block ?_ | refine g_in_normal ?_
        | refine g_retc ?_ | refine g_then_ret ?_ | refine g_in_ret ?_ | refine g_exit ?_ | refine g_then_exit ?_ | refine g_in_exit ?_ | refine g_in_other rfl ?_
        | refine g_skip ?_ | refine g_label ?_ | refine g_cond_true rfl ?_ | refine g_cond_false rfl ?_ | exact s_m | intro _ | (refine gp_take ?_; first | refine p_q ?_ | refine p_f ?_ | refine p_x ?_ | ((fail_if_success refine gp_lit rfl rfl rfl ?_); first | apply gp_guard_dec rfl rfl rfl | apply gp_guard rfl rfl rfl | fail) | refine p_p (awake) ?_ | refine p_h (now _ ⟨reading, 0, 0, 1⟩ n1) hd hk ?_)
        | (refine gp_one ?_; first | refine p_v ?_ | refine p_s ?_ | refine p_n (fun _ => ?_) | refine p_y ?_ | refine p_k (now _ ⟨reading, 0, 0, 1⟩ n1) ?_ | refine p_c (new_ok 1 0 (by simp [newOk])) (fun _ _ => ?_) | refine p_c (readAt ⟨0, 0, 0, 1⟩ reading _ n1 r1) (fun _ _ => ?_) | refine p_c (mergeAt ⟨reading, 0, 0, 1⟩ ⟨reading + ahead, 7, 2⟩ 6 _ n1 br m1 m2) (fun _ _ => ?_))
        | refine gp_done hd hk ?_ | intro _)
      refine g_cond_dec rfl (fun h => ?_) (fun h => absurd h1 h)
      repeat (first
        | (refine g_ops ?_; first | refine s_q ?_ | refine s_v ?_ | refine s_s ?_ | refine s_n (fun _ => ?_) | refine s_x ?_ | refine s_y ?_ | ((fail_if_success refine g_lit rfl rfl rfl ?_); first | apply g_partM rfl rfl rfl | apply g_partMB rfl rfl rfl | fail) | refine s_p (awake) ?_ | refine s_k (now _ ⟨reading, 0, 0, 1⟩ n1) ?_)
        | apply g_regB (id := 1) 24 | apply g_regB (id := 4) 35 | (apply g_drawB (id := 11) 4 (.take 0 (.take 1 (.take 2 (.take 3 (.take 4 (.take 5 (.take 6 (.take 7 (.take 8 (.take 9 (.take 10 (.take 11 .done)))))))))))) (by kernel_rfl); intro k hd hk)
        | apply g_regB (id := 13) 4 | refine g_seq ?_ | refine g_region ?_ | refine g_nil ?_ | refine g_then_normal ?_ | refine g_block ?_ | refine g_in_normal ?_
        | refine g_retc ?_ | refine g_then_ret ?_ | refine g_in_ret ?_ | refine g_exit ?_ | refine g_then_exit ?_ | refine g_in_exit ?_ | refine g_in_other rfl ?_
        | refine g_skip ?_ | refine g_label ?_ | refine g_cond_true rfl ?_ | refine g_cond_false rfl ?_ | exact s_m | intro _ | (refine gp_take ?_; first | refine p_q ?_ | refine p_f ?_ | refine p_x ?_ | ((fail_if_success refine gp_lit rfl rfl rfl ?_); first | apply gp_guard_dec rfl rfl rfl | apply gp_guard rfl rfl rfl | fail) | refine p_p (awake) ?_ | refine p_h (now _ ⟨reading, 0, 0, 1⟩ n1) hd hk ?_)
        | (refine gp_one ?_; first | refine p_v ?_ | refine p_s ?_ | refine p_n (fun _ => ?_) | refine p_y ?_ | refine p_k (now _ ⟨reading, 0, 0, 1⟩ n1) ?_)
        | refine gp_done hd hk ?_ | intro _)

      exact g_ret () rfl (by (repeat (first | exact RVs.nil | apply RVs.tmp rfl | apply RVs.cellA rfl (by (repeat (first | exact Sel.here | apply Sel.there)); done) (by (repeat (first | exact Cut.zero | apply Cut.take | apply Cut.skip)); done) | apply RVs.cell1 rfl (by (repeat (first | exact Sel.here | apply Sel.there)); done) rfl)); done) (by (repeat (first | exact Take.nil | apply Take.cons | exact Sel.here | apply Sel.there)); done) (by simp [pack]) trivial
    · have h2 : ¬ (0 < reading + ahead ∧ 1000 < reading + ahead - reading) := by omega
      have m1 : (Ck.mk reading 0 0 1).mergeE ⟨reading + ahead, 7, 2⟩ = 0 := by simp only [Ck.mergeE, e, Bool.true_eq_false, ↓reduceIte, if_neg h2]
      have m2 : (Ck.mk reading 0 0 1).merge ⟨reading + ahead, 7, 2⟩ = ⟨reading, reading + ahead, 7, 1⟩ := by
        have f : ltS ⟨0, 0, 1⟩ ⟨reading + ahead, 7, 1⟩ := by simp [ltS]; omega
        simp only [Ck.merge, e, Bool.true_eq_false, ↓reduceIte, if_neg h2, Ck.last, maxS_eq, if_pos f]
      repeat (first
        | (refine g_ops ?_; first | refine s_q ?_ | refine s_v ?_ | refine s_s ?_ | refine s_n (fun _ => ?_) | refine s_x ?_ | refine s_y ?_ | ((fail_if_success refine g_lit rfl rfl rfl ?_); first | apply g_partM rfl rfl rfl | apply g_partMB rfl rfl rfl | fail) | refine s_p (awake) ?_ | refine s_k (now _ ⟨reading, 0, 0, 1⟩ n1) ?_ | refine s_c (new_ok 1 0 (by simp [newOk])) (fun _ _ => ?_) | refine s_c (readAt ⟨0, 0, 0, 1⟩ reading _ n1 r1) (fun _ _ => ?_) | refine s_c (mergeAt ⟨reading, 0, 0, 1⟩ ⟨reading + ahead, 7, 2⟩ 0 _ n1 br m1 m2) (fun _ _ => ?_))
        | apply g_regB (id := 1) 24 | apply g_regB (id := 4) 35 | (apply g_drawB (id := 11) 4 (.take 0 (.take 1 (.take 2 (.take 3 (.take 4 (.take 5 (.take 6 (.take 7 (.take 8 (.take 9 (.take 10 (.take 11 .done)))))))))))) (by kernel_rfl); intro k hd hk)
        | apply g_regB (id := 13) 4 | refine g_seq ?_ | refine g_region ?_ | refine g_nil ?_ | refine g_then_normal ?_ | refine g_block ?_ | refine g_in_normal ?_
        | refine g_retc ?_ | refine g_then_ret ?_ | refine g_in_ret ?_ | refine g_exit ?_ | refine g_then_exit ?_ | refine g_in_exit ?_ | refine g_in_other rfl ?_
        | refine g_skip ?_ | refine g_label ?_ | refine g_cond_true rfl ?_ | refine g_cond_false rfl ?_ | exact s_m | intro _ | (refine gp_take ?_; first | refine p_q ?_ | refine p_f ?_ | refine p_x ?_ | ((fail_if_success refine gp_lit rfl rfl rfl ?_); first | apply gp_guard_dec rfl rfl rfl | apply gp_guard rfl rfl rfl | fail) | refine p_p (awake) ?_ | refine p_h (now _ ⟨reading, 0, 0, 1⟩ n1) hd hk ?_)
        | (refine gp_one ?_; first | refine p_v ?_ | refine p_s ?_ | refine p_n (fun _ => ?_) | refine p_y ?_ | refine p_k (now _ ⟨reading, 0, 0, 1⟩ n1) ?_ | refine p_c (new_ok 1 0 (by simp [newOk])) (fun _ _ => ?_) | refine p_c (readAt ⟨0, 0, 0, 1⟩ reading _ n1 r1) (fun _ _ => ?_) | refine p_c (mergeAt ⟨reading, 0, 0, 1⟩ ⟨reading + ahead, 7, 2⟩ 0 _ n1 br m1 m2) (fun _ _ => ?_))
        | refine gp_done hd hk ?_ | intro _)
      refine g_cond_dec rfl (fun h => absurd h h1) (fun h => ?_)
      repeat (first
        | (refine g_ops ?_; first | refine s_q ?_ | refine s_v ?_ | refine s_s ?_ | refine s_n (fun _ => ?_) | refine s_x ?_ | refine s_y ?_ | ((fail_if_success refine g_lit rfl rfl rfl ?_); first | apply g_partM rfl rfl rfl | apply g_partMB rfl rfl rfl | fail) | refine s_p (awake) ?_ | refine s_k (now _ ⟨reading, reading + ahead, 7, 1⟩ n1) ?_)
        | apply g_regB (id := 1) 24 | apply g_regB (id := 4) 35 | (apply g_drawB (id := 11) 4 (.take 0 (.take 1 (.take 2 (.take 3 (.take 4 (.take 5 (.take 6 (.take 7 (.take 8 (.take 9 (.take 10 (.take 11 .done)))))))))))) (by kernel_rfl); intro k hd hk)
        | apply g_regB (id := 13) 4 | refine g_seq ?_ | refine g_region ?_ | refine g_nil ?_ | refine g_then_normal ?_ | refine g_block ?_ | refine g_in_normal ?_
        | refine g_retc ?_ | refine g_then_ret ?_ | refine g_in_ret ?_ | refine g_exit ?_ | refine g_then_exit ?_ | refine g_in_exit ?_ | refine g_in_other rfl ?_
        | refine g_skip ?_ | refine g_label ?_ | refine g_cond_true rfl ?_ | refine g_cond_false rfl ?_ | exact s_m | intro _ | (refine gp_take ?_; first | refine p_q ?_ | refine p_f ?_ | refine p_x ?_ | ((fail_if_success refine gp_lit rfl rfl rfl ?_); first | apply gp_guard_dec rfl rfl rfl | apply gp_guard rfl rfl rfl | fail) | refine p_p (awake) ?_ | refine p_h (now _ ⟨reading, reading + ahead, 7, 1⟩ n1) hd hk ?_)
        | (refine gp_one ?_; first | refine p_v ?_ | refine p_s ?_ | refine p_n (fun _ => ?_) | refine p_y ?_ | refine p_k (now _ ⟨reading, reading + ahead, 7, 1⟩ n1) ?_)
        | refine gp_done hd hk ?_ | intro _)
      exact g_ret () rfl (by (repeat (first | exact RVs.nil | apply RVs.tmp rfl | apply RVs.cellA rfl (by (repeat (first | exact Sel.here | apply Sel.there)); done) (by (repeat (first | exact Cut.zero | apply Cut.take | apply Cut.skip)); done) | apply RVs.cell1 rfl (by (repeat (first | exact Sel.here | apply Sel.there)); done) rfl)); done) (by (repeat (first | exact Take.nil | apply Take.cons | exact Sel.here | apply Sel.there)); done) (by simp [pack]) trivial
end Go.Proofs.Ytbgjcgaodchneaa
