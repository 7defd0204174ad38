/- The laws of the clock: over, drift, nothing: the walks. -/
import Derived.Test.YtbgjcgaodchneaaClkB
set_option linter.unusedSimpArgs false
set_option linter.unusedVariables false
namespace Go.Proofs.Ytbgjcgaodchneaa
open Go.Sl facts
attribute [local irreducible] Code.wp wpList Exit.then Exit.inBlock bodyPost Back MidQ G GP QStep VStep CStep SStep Does Post Reads
def ltS (a b : S3) : Prop := a.w < b.w ∨ a.w = b.w ∧ (a.l < b.l ∨ a.l = b.l ∧ a.n < b.n)
instance (a b : S3) : Decidable (ltS a b) := inferInstanceAs (Decidable (_ ∨ _ ∧ _))
theorem maxS_eq (a b : S3) : maxS a b = if ltS a b then b else a := by
  have h : (ordS b a * 1 > 0) ↔ ltS a b := by
    simp only [ordS, ordI, orI, cmpI, ltS]
    by_cases h1 : b.w < a.w <;> by_cases h2 : a.w < b.w <;> by_cases h3 : b.l < a.l <;> by_cases h4 : a.l < b.l <;> by_cases h5 : b.n < a.n <;> by_cases h6 : a.n < b.n <;> simp [h1, h2, h3, h4, h5, h6] <;> omega
  simp only [maxS, h]
theorem n1 : (1 : Int) ≠ 0 := by decide
set_option maxHeartbeats 2000000 in
theorem over (logic reading : Int) : Does1 Try.prog 3 [int logic, int reading] [] (.bool true) := by
  refine fn_intro Try.func3 rfl Try.ntmps3 rfl (by simp only [argFr, Nat.zero_add, Nat.reduceAdd]; rfl) (fun Γ => ?_)
  repeat (first
    | (refine g_ops ?_; first | refine s_q ?_ | refine s_v ?_ | refine s_s ?_ | refine s_n (fun _ => ?_) | refine s_x ?_ | refine s_y ?_ | ((fail_if_success refine g_lit rfl rfl rfl ?_); first | apply g_partM rfl rfl rfl | apply g_partMB rfl rfl rfl | fail) | refine s_k (awake) ?_)
    | apply g_regB (id := 1) 22 | apply g_regB (id := 4) 40 | apply g_regB (id := 9) 4 | apply g_regB (id := 11) 4 | apply g_regB (id := 12) 4 | refine g_seq ?_
    | refine g_region ?_ | refine g_nil ?_ | refine g_then_normal ?_ | refine g_block ?_ | refine g_in_normal ?_ | refine g_retc ?_ | refine g_then_ret ?_
    | refine g_in_ret ?_ | refine g_exit ?_ | refine g_then_exit ?_ | refine g_in_exit ?_ | refine g_in_other rfl ?_ | refine g_skip ?_ | refine g_label ?_
    | refine g_cond_true rfl ?_ | refine g_cond_false rfl ?_ | exact s_m | intro _ | (refine gp_take ?_; first | refine p_q ?_ | refine p_f ?_ | refine p_x ?_ | ((fail_if_success refine gp_lit rfl rfl rfl ?_); first | apply gp_guard_dec rfl rfl rfl | apply gp_guard rfl rfl rfl | fail) | refine p_h (awake) hd hk ?_)
    | (refine gp_one ?_; first | refine p_v ?_ | refine p_s ?_ | refine p_n (fun _ => ?_) | refine p_y ?_ | refine p_k (awake) ?_) | refine gp_done hd hk ?_
    | intro _)
  refine g_cond rfl (fun h => ?_) (fun h => ?_)
  · repeat (first
      | (refine g_ops ?_; first | refine s_q ?_ | refine s_v ?_ | refine s_s ?_ | refine s_n (fun _ => ?_) | refine s_x ?_ | refine s_y ?_ | ((fail_if_success refine g_lit rfl rfl rfl ?_); first | apply g_partM rfl rfl rfl | apply g_partMB rfl rfl rfl | fail) | refine s_k (awake) ?_)
      | apply g_regB (id := 1) 22 | apply g_regB (id := 4) 40 | apply g_regB (id := 9) 4 | apply g_regB (id := 11) 4 | apply g_regB (id := 12) 4 | refine g_seq ?_
      | refine g_region ?_ | refine g_nil ?_ | refine g_then_normal ?_ | refine g_block ?_ | refine g_in_normal ?_ | refine g_retc ?_ | refine g_then_ret ?_
      | refine g_in_ret ?_ | refine g_exit ?_ | refine g_then_exit ?_ | refine g_in_exit ?_ | refine g_in_other rfl ?_ | refine g_skip ?_ | refine g_label ?_
      | refine g_cond_true rfl ?_ | refine g_cond_false rfl ?_ | exact s_m | intro _ | (refine gp_take ?_; first | refine p_q ?_ | refine p_f ?_ | refine p_x ?_ | ((fail_if_success refine gp_lit rfl rfl rfl ?_); first | apply gp_guard_dec rfl rfl rfl | apply gp_guard rfl rfl rfl | fail) | refine p_h (awake) hd hk ?_)
      | (refine gp_one ?_; first | refine p_v ?_ | refine p_s ?_ | refine p_n (fun _ => ?_) | refine p_y ?_ | refine p_k (awake) ?_) | refine gp_done hd hk ?_
      | intro _)
    exact g_ret () rfl (by (repeat (first | exact RVs.nil | apply RVs.tmp rfl | apply RVs.cellA rfl (by (repeat (first | exact Sel.here | apply Sel.there)); first | done | fail) (by (repeat (first | exact Cut.zero | apply Cut.take | apply Cut.skip)); first | done | fail) | apply RVs.cell1 rfl (by (repeat (first | exact Sel.here | apply Sel.there)); first | done | fail) rfl)); first | done | fail) (by (repeat (first | exact Take.nil | apply Take.cons | exact Sel.here | apply Sel.there)); first | done | fail) rfl trivial
  · have hb : 0 ≤ logic ∧ logic ≤ 65535 ∧ 0 ≤ reading ∧ reading ≤ 1000 := by simp at h; omega
    have m1 : (Ck.mk 0 0 0 1).mergeE ⟨500, logic, 2⟩ = 0 := by simp [Ck.mergeE, S3.sound, soundB, inB]; omega
    have m2 : (Ck.mk 0 0 0 1).merge ⟨500, logic, 2⟩ = ⟨0, 500, logic, 1⟩ := by
      have e : (S3.mk 500 logic 2).sound = true := by simp [S3.sound, soundB, inB]; omega
      have f : ltS ⟨0, 0, 1⟩ ⟨500, logic, 1⟩ := .inl (by simp)
      simp [Ck.merge, e, maxS_eq, Ck.last, f]
    have r1 : (Ck.mk 0 500 logic 1).read reading = ⟨reading, 500, logic, 1⟩ := by
      simp only [Ck.read]
      split <;> simp_all; omega
    have bl : 0 ≤ (Ck.mk reading 500 logic 1).l ∧ (Ck.mk reading 500 logic 1).l ≤ 65536 := by show 0 ≤ logic ∧ logic ≤ 65536; omega
    by_cases h1 : 500 < reading
    · have t1 : (Ck.mk reading 500 logic 1).tickS = ⟨reading, 0, 1⟩ := by simp [Ck.tickS, Ck.logic, Ck.wall, h1]
      have t2 : (Ck.mk reading 500 logic 1).tickE = 0 := by simp [Ck.tickE, Ck.logic, h1]
      have t3 : (Ck.mk reading 500 logic 1).tick = ⟨reading, reading, 0, 1⟩ := by simp [Ck.tick, Ck.logic, Ck.wall, h1]
      repeat (first
        | (refine g_ops ?_; first | refine s_q ?_ | refine s_v ?_ | refine s_s ?_ | refine s_n (fun _ => ?_) | refine s_x ?_ | refine s_y ?_ | ((fail_if_success refine g_lit rfl rfl rfl ?_); first | apply g_partM rfl rfl rfl | apply g_partMB rfl rfl rfl | fail) | refine s_p (awake) ?_ | refine s_c (new_ok 1 0 (by simp [newOk])) (fun _ _ => ?_) | refine s_c (mergeAt ⟨0, 0, 0, 1⟩ ⟨500, logic, 2⟩ 0 _ (by decide) (by decide) m1 m2) (fun _ _ => ?_) | refine s_c (readAt ⟨0, 500, logic, 1⟩ reading _ n1 r1) (fun _ _ => ?_) | refine s_c (tickAt ⟨reading, 500, logic, 1⟩ ⟨reading, 0, 1⟩ 0 ⟨reading, reading, 0, 1⟩ n1 bl t1 t2 t3) (fun _ _ => ?_))
        | apply g_regB (id := 1) 22 | apply g_regB (id := 9) 4 | apply g_regB (id := 11) 4 | apply g_regB (id := 12) 4 | refine g_seq ?_ | refine g_region ?_
        | refine g_nil ?_ | refine g_then_normal ?_ | refine g_block ?_ | refine g_in_normal ?_ | refine g_retc ?_ | refine g_then_ret ?_ | refine g_in_ret ?_
        | refine g_exit ?_ | refine g_then_exit ?_ | refine g_in_exit ?_ | refine g_in_other rfl ?_ | refine g_skip ?_ | refine g_label ?_ | refine g_cond_true rfl ?_
        | refine g_cond_false rfl ?_ | exact s_m | intro _ | (refine gp_take ?_; first | refine p_q ?_ | refine p_f ?_ | refine p_x ?_ | ((fail_if_success refine gp_lit rfl rfl rfl ?_); first | apply gp_guard_dec rfl rfl rfl | apply gp_guard rfl rfl rfl | fail) | refine p_p (awake) ?_)
        | (refine gp_one ?_; first | refine p_v ?_ | refine p_s ?_ | refine p_n (fun _ => ?_) | refine p_y ?_ | refine p_c (new_ok 1 0 (by simp [newOk])) (fun _ _ => ?_) | refine p_c (mergeAt ⟨0, 0, 0, 1⟩ ⟨500, logic, 2⟩ 0 _ (by decide) (by decide) m1 m2) (fun _ _ => ?_) | refine p_c (readAt ⟨0, 500, logic, 1⟩ reading _ n1 r1) (fun _ _ => ?_) | refine p_c (tickAt ⟨reading, 500, logic, 1⟩ ⟨reading, 0, 1⟩ 0 ⟨reading, reading, 0, 1⟩ n1 bl t1 t2 t3) (fun _ _ => ?_))
        | refine gp_done hd hk ?_ | intro _)
      refine g_cond_dec rfl (fun h => ?_) (fun h => absurd h1 h)
      repeat (first
        | (refine g_ops ?_; first | refine s_q ?_ | refine s_v ?_ | refine s_s ?_ | refine s_n (fun _ => ?_) | refine s_x ?_ | refine s_y ?_ | ((fail_if_success refine g_lit rfl rfl rfl ?_); first | apply g_partM rfl rfl rfl | apply g_partMB rfl rfl rfl | fail) | refine s_p (awake) ?_)
        | apply g_regB (id := 1) 22 | apply g_regB (id := 4) 40 | apply g_regB (id := 9) 4 | apply g_regB (id := 11) 4 | apply g_regB (id := 12) 4 | refine g_seq ?_
        | refine g_region ?_ | refine g_nil ?_ | refine g_then_normal ?_ | refine g_block ?_ | refine g_in_normal ?_ | refine g_retc ?_ | refine g_then_ret ?_
        | refine g_in_ret ?_ | refine g_exit ?_ | refine g_then_exit ?_ | refine g_in_exit ?_ | refine g_in_other rfl ?_ | refine g_skip ?_ | refine g_label ?_
        | refine g_cond_true rfl ?_ | refine g_cond_false rfl ?_ | exact s_m | intro _ | (refine gp_take ?_; first | refine p_q ?_ | refine p_f ?_ | refine p_x ?_ | ((fail_if_success refine gp_lit rfl rfl rfl ?_); first | apply gp_guard_dec rfl rfl rfl | apply gp_guard rfl rfl rfl | fail) | refine p_p (awake) ?_)
        | (refine gp_one ?_; first | refine p_v ?_ | refine p_s ?_ | refine p_n (fun _ => ?_) | refine p_y ?_) | refine gp_done hd hk ?_ | intro _)
      exact g_ret () rfl (by (repeat (first | exact RVs.nil | apply RVs.tmp rfl | apply RVs.cellA rfl (by (repeat (first | exact Sel.here | apply Sel.there)); first | done | fail) (by (repeat (first | exact Cut.zero | apply Cut.take | apply Cut.skip)); first | done | fail) | apply RVs.cell1 rfl (by (repeat (first | exact Sel.here | apply Sel.there)); first | done | fail) rfl)); first | done | fail) (by (repeat (first | exact Take.nil | apply Take.cons | exact Sel.here | apply Sel.there)); first | done | fail) (by simp [pack, S3.zero]) trivial
    · by_cases h2 : logic = 65535
      · have t1 : (Ck.mk reading 500 logic 1).tickS = S3.zero := by simp [Ck.tickS, Ck.logic, Ck.wall, h1, h2]
        have t2 : (Ck.mk reading 500 logic 1).tickE = 7 := by simp [Ck.tickE, Ck.logic, h1, h2]
        have t3 : (Ck.mk reading 500 logic 1).tick = ⟨reading, 500, logic, 1⟩ := by simp [Ck.tick, Ck.logic, Ck.wall, h1, h2]
        repeat (first
          | (refine g_ops ?_; first | refine s_q ?_ | refine s_v ?_ | refine s_s ?_ | refine s_n (fun _ => ?_) | refine s_x ?_ | refine s_y ?_ | ((fail_if_success refine g_lit rfl rfl rfl ?_); first | apply g_partM rfl rfl rfl | apply g_partMB rfl rfl rfl | fail) | refine s_p (awake) ?_ | refine s_c (new_ok 1 0 (by simp [newOk])) (fun _ _ => ?_) | refine s_c (mergeAt ⟨0, 0, 0, 1⟩ ⟨500, logic, 2⟩ 0 _ (by decide) (by decide) m1 m2) (fun _ _ => ?_) | refine s_c (readAt ⟨0, 500, logic, 1⟩ reading _ n1 r1) (fun _ _ => ?_) | refine s_c (tickAt ⟨reading, 500, logic, 1⟩ S3.zero 7 ⟨reading, 500, logic, 1⟩ n1 bl t1 t2 t3) (fun _ _ => ?_))
          | apply g_regB (id := 1) 22 | apply g_regB (id := 9) 4 | apply g_regB (id := 11) 4 | apply g_regB (id := 12) 4 | refine g_seq ?_ | refine g_region ?_
          | refine g_nil ?_ | refine g_then_normal ?_ | refine g_block ?_ | refine g_in_normal ?_ | refine g_retc ?_ | refine g_then_ret ?_ | refine g_in_ret ?_
          | refine g_exit ?_ | refine g_then_exit ?_ | refine g_in_exit ?_ | refine g_in_other rfl ?_ | refine g_skip ?_ | refine g_label ?_ | refine g_cond_true rfl ?_
          | refine g_cond_false rfl ?_ | exact s_m | intro _ | (refine gp_take ?_; first | refine p_q ?_ | refine p_f ?_ | refine p_x ?_ | ((fail_if_success refine gp_lit rfl rfl rfl ?_); first | apply gp_guard_dec rfl rfl rfl | apply gp_guard rfl rfl rfl | fail) | refine p_p (awake) ?_)
          | (refine gp_one ?_; first | refine p_v ?_ | refine p_s ?_ | refine p_n (fun _ => ?_) | refine p_y ?_ | refine p_c (new_ok 1 0 (by simp [newOk])) (fun _ _ => ?_) | refine p_c (mergeAt ⟨0, 0, 0, 1⟩ ⟨500, logic, 2⟩ 0 _ (by decide) (by decide) m1 m2) (fun _ _ => ?_) | refine p_c (readAt ⟨0, 500, logic, 1⟩ reading _ n1 r1) (fun _ _ => ?_) | refine p_c (tickAt ⟨reading, 500, logic, 1⟩ S3.zero 7 ⟨reading, 500, logic, 1⟩ n1 bl t1 t2 t3) (fun _ _ => ?_))
          | refine gp_done hd hk ?_ | intro _)
        refine g_cond_dec rfl (fun h => absurd h h1) (fun h => ?_)
        repeat (first
          | (refine g_ops ?_; first | refine s_q ?_ | refine s_v ?_ | refine s_s ?_ | refine s_n (fun _ => ?_) | refine s_x ?_ | refine s_y ?_ | ((fail_if_success refine g_lit rfl rfl rfl ?_); first | apply g_partM rfl rfl rfl | apply g_partMB rfl rfl rfl | fail) | refine s_p (awake) ?_)
          | apply g_regB (id := 1) 22 | apply g_regB (id := 4) 40 | apply g_regB (id := 9) 4 | apply g_regB (id := 11) 4 | apply g_regB (id := 12) 4 | refine g_seq ?_
          | refine g_region ?_ | refine g_nil ?_ | refine g_then_normal ?_ | refine g_block ?_ | refine g_in_normal ?_ | refine g_retc ?_ | refine g_then_ret ?_
          | refine g_in_ret ?_ | refine g_exit ?_ | refine g_then_exit ?_ | refine g_in_exit ?_ | refine g_in_other rfl ?_ | refine g_skip ?_ | refine g_label ?_
          | refine g_cond_true rfl ?_ | refine g_cond_false rfl ?_ | exact s_m | intro _ | (refine gp_take ?_; first | refine p_q ?_ | refine p_f ?_ | refine p_x ?_ | ((fail_if_success refine gp_lit rfl rfl rfl ?_); first | apply gp_guard_dec rfl rfl rfl | apply gp_guard rfl rfl rfl | fail) | refine p_p (awake) ?_)
          | (refine gp_one ?_; first | refine p_v ?_ | refine p_s ?_ | refine p_n (fun _ => ?_) | refine p_y ?_) | refine gp_done hd hk ?_ | intro _)
        refine g_cond_dec rfl (fun h => ?_) (fun h => absurd h2 h)
        repeat (first
          | (refine g_ops ?_; first | refine s_q ?_ | refine s_v ?_ | refine s_s ?_ | refine s_n (fun _ => ?_) | refine s_x ?_ | refine s_y ?_ | ((fail_if_success refine g_lit rfl rfl rfl ?_); first | apply g_partM rfl rfl rfl | apply g_partMB rfl rfl rfl | fail) | refine s_p (awake) ?_)
          | apply g_regB (id := 1) 22 | apply g_regB (id := 4) 40 | apply g_regB (id := 9) 4 | apply g_regB (id := 11) 4 | apply g_regB (id := 12) 4 | refine g_seq ?_
          | refine g_region ?_ | refine g_nil ?_ | refine g_then_normal ?_ | refine g_block ?_ | refine g_in_normal ?_ | refine g_retc ?_ | refine g_then_ret ?_
          | refine g_in_ret ?_ | refine g_exit ?_ | refine g_then_exit ?_ | refine g_in_exit ?_ | refine g_in_other rfl ?_ | refine g_skip ?_ | refine g_label ?_
          | refine g_cond_true rfl ?_ | refine g_cond_false rfl ?_ | exact s_m | intro _ | (refine gp_take ?_; first | refine p_q ?_ | refine p_f ?_ | refine p_x ?_ | ((fail_if_success refine gp_lit rfl rfl rfl ?_); first | apply gp_guard_dec rfl rfl rfl | apply gp_guard rfl rfl rfl | fail) | refine p_p (awake) ?_)
          | (refine gp_one ?_; first | refine p_v ?_ | refine p_s ?_ | refine p_n (fun _ => ?_) | refine p_y ?_) | refine gp_done hd hk ?_ | intro _)
        exact g_ret () rfl (by (repeat (first | exact RVs.nil | apply RVs.tmp rfl | apply RVs.cellA rfl (by (repeat (first | exact Sel.here | apply Sel.there)); first | done | fail) (by (repeat (first | exact Cut.zero | apply Cut.take | apply Cut.skip)); first | done | fail) | apply RVs.cell1 rfl (by (repeat (first | exact Sel.here | apply Sel.there)); first | done | fail) rfl)); first | done | fail) (by (repeat (first | exact Take.nil | apply Take.cons | exact Sel.here | apply Sel.there)); first | done | fail) (by simp [pack, S3.zero]) trivial
      · have h3 : ¬ 65536 ≤ logic + 1 := by omega
        have t1 : (Ck.mk reading 500 logic 1).tickS = ⟨500, logic + 1, 1⟩ := by simp [Ck.tickS, Ck.logic, Ck.wall, h1, h3]
        have t2 : (Ck.mk reading 500 logic 1).tickE = 0 := by simp [Ck.tickE, Ck.logic, h1, h3]
        have t3 : (Ck.mk reading 500 logic 1).tick = ⟨reading, 500, logic + 1, 1⟩ := by simp [Ck.tick, Ck.logic, Ck.wall, h1, h3]
        repeat (first
          | (refine g_ops ?_; first | refine s_q ?_ | refine s_v ?_ | refine s_s ?_ | refine s_n (fun _ => ?_) | refine s_x ?_ | refine s_y ?_ | ((fail_if_success refine g_lit rfl rfl rfl ?_); first | apply g_partM rfl rfl rfl | apply g_partMB rfl rfl rfl | fail) | refine s_p (awake) ?_ | refine s_c (new_ok 1 0 (by simp [newOk])) (fun _ _ => ?_) | refine s_c (mergeAt ⟨0, 0, 0, 1⟩ ⟨500, logic, 2⟩ 0 _ (by decide) (by decide) m1 m2) (fun _ _ => ?_) | refine s_c (readAt ⟨0, 500, logic, 1⟩ reading _ n1 r1) (fun _ _ => ?_) | refine s_c (tickAt ⟨reading, 500, logic, 1⟩ ⟨500, logic + 1, 1⟩ 0 ⟨reading, 500, logic + 1, 1⟩ n1 bl t1 t2 t3) (fun _ _ => ?_))
          | apply g_regB (id := 1) 22 | apply g_regB (id := 9) 4 | apply g_regB (id := 11) 4 | apply g_regB (id := 12) 4 | refine g_seq ?_ | refine g_region ?_
          | refine g_nil ?_ | refine g_then_normal ?_ | refine g_block ?_ | refine g_in_normal ?_ | refine g_retc ?_ | refine g_then_ret ?_ | refine g_in_ret ?_
          | refine g_exit ?_ | refine g_then_exit ?_ | refine g_in_exit ?_ | refine g_in_other rfl ?_ | refine g_skip ?_ | refine g_label ?_ | refine g_cond_true rfl ?_
          | refine g_cond_false rfl ?_ | exact s_m | intro _ | (refine gp_take ?_; first | refine p_q ?_ | refine p_f ?_ | refine p_x ?_ | ((fail_if_success refine gp_lit rfl rfl rfl ?_); first | apply gp_guard_dec rfl rfl rfl | apply gp_guard rfl rfl rfl | fail) | refine p_p (awake) ?_)
          | (refine gp_one ?_; first | refine p_v ?_ | refine p_s ?_ | refine p_n (fun _ => ?_) | refine p_y ?_ | refine p_c (new_ok 1 0 (by simp [newOk])) (fun _ _ => ?_) | refine p_c (mergeAt ⟨0, 0, 0, 1⟩ ⟨500, logic, 2⟩ 0 _ (by decide) (by decide) m1 m2) (fun _ _ => ?_) | refine p_c (readAt ⟨0, 500, logic, 1⟩ reading _ n1 r1) (fun _ _ => ?_) | refine p_c (tickAt ⟨reading, 500, logic, 1⟩ ⟨500, logic + 1, 1⟩ 0 ⟨reading, 500, logic + 1, 1⟩ n1 bl t1 t2 t3) (fun _ _ => ?_))
          | refine gp_done hd hk ?_ | intro _)
        refine g_cond_dec rfl (fun h => absurd h h1) (fun h => ?_)
        repeat (first
          | (refine g_ops ?_; first | refine s_q ?_ | refine s_v ?_ | refine s_s ?_ | refine s_n (fun _ => ?_) | refine s_x ?_ | refine s_y ?_ | ((fail_if_success refine g_lit rfl rfl rfl ?_); first | apply g_partM rfl rfl rfl | apply g_partMB rfl rfl rfl | fail) | refine s_p (awake) ?_)
          | apply g_regB (id := 1) 22 | apply g_regB (id := 4) 40 | apply g_regB (id := 9) 4 | apply g_regB (id := 11) 4 | apply g_regB (id := 12) 4 | refine g_seq ?_
          | refine g_region ?_ | refine g_nil ?_ | refine g_then_normal ?_ | refine g_block ?_ | refine g_in_normal ?_ | refine g_retc ?_ | refine g_then_ret ?_
          | refine g_in_ret ?_ | refine g_exit ?_ | refine g_then_exit ?_ | refine g_in_exit ?_ | refine g_in_other rfl ?_ | refine g_skip ?_ | refine g_label ?_
          | refine g_cond_true rfl ?_ | refine g_cond_false rfl ?_ | exact s_m | intro _ | (refine gp_take ?_; first | refine p_q ?_ | refine p_f ?_ | refine p_x ?_ | ((fail_if_success refine gp_lit rfl rfl rfl ?_); first | apply gp_guard_dec rfl rfl rfl | apply gp_guard rfl rfl rfl | fail) | refine p_p (awake) ?_)
          | (refine gp_one ?_; first | refine p_v ?_ | refine p_s ?_ | refine p_n (fun _ => ?_) | refine p_y ?_) | refine gp_done hd hk ?_ | intro _)
        refine g_cond_dec rfl (fun h => absurd h h2) (fun h => ?_)
        repeat (first
          | (refine g_ops ?_; first | refine s_q ?_ | refine s_v ?_ | refine s_s ?_ | refine s_n (fun _ => ?_) | refine s_x ?_ | refine s_y ?_ | ((fail_if_success refine g_lit rfl rfl rfl ?_); first | apply g_partM rfl rfl rfl | apply g_partMB rfl rfl rfl | fail) | refine s_p (awake) ?_)
          | apply g_regB (id := 1) 22 | apply g_regB (id := 4) 40 | apply g_regB (id := 9) 4 | apply g_regB (id := 11) 4 | apply g_regB (id := 12) 4 | refine g_seq ?_
          | refine g_region ?_ | refine g_nil ?_ | refine g_then_normal ?_ | refine g_block ?_ | refine g_in_normal ?_ | refine g_retc ?_ | refine g_then_ret ?_
          | refine g_in_ret ?_ | refine g_exit ?_ | refine g_then_exit ?_ | refine g_in_exit ?_ | refine g_in_other rfl ?_ | refine g_skip ?_ | refine g_label ?_
          | refine g_cond_true rfl ?_ | refine g_cond_false rfl ?_ | exact s_m | intro _ | (refine gp_take ?_; first | refine p_q ?_ | refine p_f ?_ | refine p_x ?_ | ((fail_if_success refine gp_lit rfl rfl rfl ?_); first | apply gp_guard_dec rfl rfl rfl | apply gp_guard rfl rfl rfl | fail) | refine p_p (awake) ?_)
          | (refine gp_one ?_; first | refine p_v ?_ | refine p_s ?_ | refine p_n (fun _ => ?_) | refine p_y ?_) | refine gp_done hd hk ?_ | intro _)
        exact g_ret () rfl (by (repeat (first | exact RVs.nil | apply RVs.tmp rfl | apply RVs.cellA rfl (by (repeat (first | exact Sel.here | apply Sel.there)); first | done | fail) (by (repeat (first | exact Cut.zero | apply Cut.take | apply Cut.skip)); first | done | fail) | apply RVs.cell1 rfl (by (repeat (first | exact Sel.here | apply Sel.there)); first | done | fail) rfl)); first | done | fail) (by (repeat (first | exact Take.nil | apply Take.cons | exact Sel.here | apply Sel.there)); first | done | fail) (by simp [pack, S3.zero]) trivial
end Go.Proofs.Ytbgjcgaodchneaa
