/- The law of the clock that lives on: the walk; steps, read off an argument. -/
import Derived.Test.YtbgjcgaodchneaaClkF
set_option linter.unusedSimpArgs false
set_option linter.unusedVariables false
namespace Go.Proofs.Ytbgjcgaodchneaa
open Go.Sl facts
attribute [local irreducible] Code.wp wpList Exit.then Exit.inBlock bodyPost Back MidQ G GP QStep VStep CStep SStep Does Post Reads
theorem step_w (c : Ck) (x : Int) (s : S3) : c.w ≤ (c.read x).w ∧ c.w ≤ c.tick.w ∧ c.w ≤ (c.merge s).w := by
  refine ⟨by rw [(read_last c x).1]; exact Int.le_refl _, ?_, ?_⟩
  · rcases tick_cases c with ⟨_, _, e⟩ | ⟨_, _, e⟩ <;> rw [e]
    · exact Int.le_refl _
    · rcases wall_cases c with w | w <;> simp only [] <;> omega
  · rcases merge_cases c s with ⟨_, e⟩ | ⟨_, e⟩ | ⟨_, _, _, e⟩
    · rw [e]; exact Int.le_refl _
    · rw [e]; exact Int.le_refl _
    · have := e ⟨c.w, c.l, 0⟩ (.inr ⟨rfl, Int.le_refl _⟩)
      unfold leC at this; simp only [] at this; omega
theorem step_n (c : Ck) (x : Int) (s : S3) : (c.read x).n = c.n ∧ c.tick.n = c.n ∧ (c.merge s).n = c.n := by
  refine ⟨(read_last c x).2.2, ?_, ?_⟩
  · rcases tick_cases c with ⟨_, _, e⟩ | ⟨_, _, e⟩ <;> rw [e]
  · rcases merge_cases c s with ⟨_, e⟩ | ⟨_, e⟩ | ⟨_, e, _, _⟩
    · rw [e]
    · rw [e]
    · exact e
attribute [local irreducible] Ck.read Ck.tick Ck.tickS Ck.tickE Ck.merge Ck.mergeE Ck.wall Ck.logic maxS S3.sound soundB
structure LInv (len : Nat) (i : Nat) (c : Ck) (t : S3) : Prop where
  ok : c.ok
  n : c.n = 1
  le : t.w ≤ c.w
  lt : i ≤ len
structure MInv (len : Nat) (i : Nat) (c : Ck) (t : S3) : Prop where
  ok : c.ok
  n : c.n = 1
  le : t.w < c.w
  lt : i ≤ len
set_option maxHeartbeats 4000000 in
theorem lives (W : World) (p : Option Addr) (l : List St) (cap : Nat) (hs : StepsAt (Init W) p l) (p2 : Option Addr) (l2 : List St) (cap2 : Nat) (hs2 : StepsAt (Init W) p2 l2) : Does1 Try.prog 5 [.slice p l.length cap, .slice p2 l2.length cap2] [Init W] (.bool true) := by
  refine fn_intro Try.func5 rfl Try.ntmps5 rfl (by simp only [argFr, Nat.zero_add, Nat.reduceAdd]; rfl) (fun Γ => ?_)
  repeat (first
    | (refine g_ops ?_; first | refine s_q ?_ | refine s_v ?_ | refine s_s ?_ | refine s_n (fun _ => ?_) | refine s_x ?_ | refine s_y ?_ | ((fail_if_success refine g_lit rfl rfl rfl ?_); first | apply g_partM rfl rfl rfl | apply g_partMB rfl rfl rfl | fail) | refine s_p (awake) ?_)
    | apply g_regB (id := 1) 23 | apply g_regB (id := 4) 34 | apply g_regB (id := 22) 92 | apply g_regB (id := 32) 127 | refine g_seq ?_ | refine g_region ?_
    | refine g_nil ?_ | refine g_then_normal ?_ | refine g_block ?_ | refine g_in_normal ?_ | refine g_retc ?_ | refine g_then_ret ?_ | refine g_in_ret ?_
    | refine g_exit ?_ | refine g_then_exit ?_ | refine g_in_exit ?_ | refine g_in_other rfl ?_ | refine g_skip ?_ | refine g_label ?_ | refine g_cond_true rfl ?_
    | refine g_cond_false rfl ?_ | exact s_m | intro _ | (refine gp_take ?_; first | refine p_q ?_ | refine p_f ?_ | refine p_x ?_ | ((fail_if_success refine gp_lit rfl rfl rfl ?_); first | apply gp_guard_dec rfl rfl rfl | apply gp_guard rfl rfl rfl | fail) | refine p_p (awake) ?_)
    | (refine gp_one ?_; first | refine p_v ?_ | refine p_s ?_ | refine p_n (fun _ => ?_) | refine p_y ?_) | refine gp_done hd hk ?_ | intro _)
  refine g_cond rfl (fun h => ?_) (fun h => ?_)
  · repeat (first
      | (refine g_ops ?_; first | refine s_q ?_ | refine s_v ?_ | refine s_s ?_ | refine s_n (fun _ => ?_) | refine s_x ?_ | refine s_y ?_ | ((fail_if_success refine g_lit rfl rfl rfl ?_); first | apply g_partM rfl rfl rfl | apply g_partMB rfl rfl rfl | fail) | refine s_p (awake) ?_)
      | apply g_regB (id := 1) 23 | apply g_regB (id := 4) 34 | apply g_regB (id := 22) 92 | apply g_regB (id := 32) 127 | refine g_seq ?_ | refine g_region ?_
      | refine g_nil ?_ | refine g_then_normal ?_ | refine g_block ?_ | refine g_in_normal ?_ | refine g_retc ?_ | refine g_then_ret ?_ | refine g_in_ret ?_
      | refine g_exit ?_ | refine g_then_exit ?_ | refine g_in_exit ?_ | refine g_in_other rfl ?_ | refine g_skip ?_ | refine g_label ?_ | refine g_cond_true rfl ?_
      | refine g_cond_false rfl ?_ | exact s_m | intro _ | (refine gp_take ?_; first | refine p_q ?_ | refine p_f ?_ | refine p_x ?_ | ((fail_if_success refine gp_lit rfl rfl rfl ?_); first | apply gp_guard_dec rfl rfl rfl | apply gp_guard rfl rfl rfl | fail) | refine p_p (awake) ?_)
      | (refine gp_one ?_; first | refine p_v ?_ | refine p_s ?_ | refine p_n (fun _ => ?_) | refine p_y ?_) | refine gp_done hd hk ?_ | intro _)
    exact s_r ()
  · have hlen : (l.length : Int) ≤ 200 := by simp at h; omega
    have hlen2 : (l2.length : Int) ≤ 200 := by simp at h; omega
    repeat (first
      | (refine g_ops ?_; first | refine s_q ?_ | refine s_v ?_ | refine s_s ?_ | refine s_n (fun _ => ?_) | refine s_x ?_ | refine s_y ?_ | ((fail_if_success refine g_lit rfl rfl rfl ?_); first | apply g_partM rfl rfl rfl | apply g_partMB rfl rfl rfl | fail) | refine s_p (awake) ?_ | refine s_c (new_ok 1 0 (by simp [newOk])) (fun _ _ => ?_))
      | apply g_regB (id := 1) 23 | apply g_regB (id := 4) 34 | apply g_regB (id := 22) 92 | apply g_regB (id := 32) 127 | refine g_seq ?_ | refine g_region ?_
      | refine g_nil ?_ | refine g_then_normal ?_ | refine g_block ?_ | refine g_in_normal ?_ | refine g_retc ?_ | refine g_then_ret ?_ | refine g_in_ret ?_
      | refine g_exit ?_ | refine g_then_exit ?_ | refine g_in_exit ?_ | refine g_in_other rfl ?_ | refine g_skip ?_ | refine g_label ?_ | refine g_cond_true rfl ?_
      | refine g_cond_false rfl ?_ | exact s_m | intro _ | (refine gp_take ?_; first | refine p_q ?_ | refine p_f ?_ | refine p_x ?_ | ((fail_if_success refine gp_lit rfl rfl rfl ?_); first | apply gp_guard_dec rfl rfl rfl | apply gp_guard rfl rfl rfl | fail) | refine p_p (awake) ?_)
      | (refine gp_one ?_; first | refine p_v ?_ | refine p_s ?_ | refine p_n (fun _ => ?_) | refine p_y ?_ | refine p_c (new_ok 1 0 (by simp [newOk])) (fun _ _ => ?_))
      | refine gp_done hd hk ?_ | intro _)
    rename_i b _ tb
    have hc0 : (Ck.mk 0 0 0 1).ok := ⟨by simp, by simp, by simp, by simp⟩
    refine g_loop (X := Nat × Ck × S3) (fun x => [(8, .int .i64 x.1), (7, ptr tb), (5, ptr b), (4, .bool false), (0, .slice p l.length cap), (1, .slice p2 l2.length cap2)])
      (fun x => [srow tb x.2.2, clk b x.2.1, Init W]) (fun x => LInv l.length x.1 x.2.1 x.2.2) (fun x => l.length - x.1) (0, ⟨0, 0, 0, 1⟩, S3.zero) ⟨hc0, rfl, Int.le_refl _, Nat.zero_le _⟩ (by (repeat (first | exact FrSub.nil | refine FrSub.cons rfl ?_)); first | done | fail) (by (repeat (first | exact Take.nil | apply Take.cons | exact Sel.here | apply Sel.there)); first | done | fail) (fun x hx => ?_)
    obtain ⟨i, c, t⟩ := x
    obtain ⟨hc, hcn, hle, hi⟩ := hx
    have hc : c.ok := hc
    have hcn : c.n = 1 := hcn
    have hle : t.w ≤ c.w := hle
    have hi : i ≤ l.length := hi
    repeat (first
      | (refine g_ops ?_; first | refine s_q ?_ | refine s_v ?_ | refine s_s ?_ | refine s_n (fun _ => ?_) | refine s_x ?_ | refine s_y ?_ | ((fail_if_success refine g_lit rfl rfl rfl ?_); first | apply g_partM rfl rfl rfl | apply g_partMB rfl rfl rfl | fail))
      | refine g_seq ?_ | refine g_region ?_ | refine g_nil ?_ | refine g_then_normal ?_ | refine g_block ?_ | refine g_in_normal ?_ | refine g_retc ?_
      | refine g_then_ret ?_ | refine g_in_ret ?_ | refine g_exit ?_ | refine g_then_exit ?_ | refine g_in_exit ?_ | refine g_in_other rfl ?_ | refine g_skip ?_
      | refine g_label ?_ | refine g_cond_true rfl ?_ | refine g_cond_false rfl ?_ | exact s_m | intro _)
    refine g_cond_dec rfl (fun h1 => ?_) (fun h1 => ?_)
    · have hi' : i < l.length := by omega
      obtain ⟨x, lb, lo, hx, rfl, hcell⟩ := hs.get hi'
      have sw := step_w c x.n x.s
      have sn := step_n c x.n x.s
      repeat (first
        | (refine g_ops ?_; first | refine s_q ?_ | refine s_v ?_ | refine s_s ?_ | refine s_n (fun _ => ?_) | refine s_x ?_ | refine s_y ?_ | ((fail_if_success refine g_lit rfl rfl rfl ?_); first | apply g_partM rfl rfl rfl | apply g_partMB rfl rfl rfl | fail))
        | apply g_regB (id := 1) 23 | apply g_regB (id := 4) 34 | apply g_regB (id := 22) 92 | apply g_regB (id := 32) 127 | refine g_seq ?_ | refine g_region ?_
        | refine g_nil ?_ | refine g_then_normal ?_ | refine g_block ?_ | refine g_in_normal ?_ | refine g_retc ?_ | refine g_then_ret ?_ | refine g_in_ret ?_
        | refine g_exit ?_ | refine g_then_exit ?_ | refine g_in_exit ?_ | refine g_in_other rfl ?_ | refine g_skip ?_ | refine g_label ?_ | refine g_cond_true rfl ?_
        | refine g_cond_false rfl ?_ | exact s_m | intro _ | (refine gp_take ?_; first | refine p_q ?_ | refine p_f ?_ | refine p_x ?_ | ((fail_if_success refine gp_lit rfl rfl rfl ?_); first | apply gp_guard_dec rfl rfl rfl | apply gp_guard rfl rfl rfl | fail))
        | (refine gp_one ?_; first | refine p_v ?_ | refine p_s ?_ | refine p_n (fun _ => ?_) | refine p_y ?_) | refine gp_done hd hk ?_ | intro _)
      refine g_cond_dec rfl (fun h2 => ?_) (fun h2 => ?_)
      · have hc' := ok_read hc x.n
        repeat (first
          | (refine g_ops ?_; first | refine s_q ?_ | refine s_v ?_ | refine s_s ?_ | refine s_n (fun _ => ?_) | refine s_x ?_ | refine s_y ?_ | ((fail_if_success refine g_lit rfl rfl rfl ?_); first | apply g_partM rfl rfl rfl | apply g_partMB rfl rfl rfl | fail) | refine s_c (read _ c _ hc.ne) (fun _ _ => ?_))
          | apply g_regB (id := 1) 23 | apply g_regB (id := 4) 34 | apply g_regB (id := 22) 92 | apply g_regB (id := 32) 127 | refine g_seq ?_ | refine g_region ?_
          | refine g_nil ?_ | refine g_then_normal ?_ | refine g_block ?_ | refine g_in_normal ?_ | refine g_retc ?_ | refine g_then_ret ?_ | refine g_in_ret ?_
          | refine g_exit ?_ | refine g_then_exit ?_ | refine g_in_exit ?_ | refine g_in_other rfl ?_ | refine g_skip ?_ | refine g_label ?_ | refine g_cond_true rfl ?_
          | refine g_cond_false rfl ?_ | exact s_m | intro _ | (refine gp_take ?_; first | refine p_q ?_ | refine p_f ?_ | refine p_x ?_ | ((fail_if_success refine gp_lit rfl rfl rfl ?_); first | apply gp_guard_dec rfl rfl rfl | apply gp_guard rfl rfl rfl | fail))
          | (refine gp_one ?_; first | refine p_v ?_ | refine p_s ?_ | refine p_n (fun _ => ?_) | refine p_y ?_ | refine p_c (read _ c _ hc.ne) (fun _ _ => ?_))
          | refine gp_done hd hk ?_ | intro _)
        exact g_again (i + 1, c.read x.n, t) (by simp only []; omega) ⟨hc', by simp only []; omega, by simp only []; omega, hi'⟩ (by (repeat (first | exact FrSub.nil | refine FrSub.cons rfl ?_)); first | done | fail) (by (repeat (first | exact Take.nil | apply Take.cons | exact Sel.here | apply Sel.there)); first | done | fail)
      · repeat (first
          | (refine g_ops ?_; first | refine s_q ?_ | refine s_v ?_ | refine s_s ?_ | refine s_n (fun _ => ?_) | refine s_x ?_ | refine s_y ?_ | ((fail_if_success refine g_lit rfl rfl rfl ?_); first | apply g_partM rfl rfl rfl | apply g_partMB rfl rfl rfl | fail))
          | apply g_regB (id := 1) 23 | apply g_regB (id := 4) 34 | apply g_regB (id := 22) 92 | apply g_regB (id := 32) 127 | refine g_seq ?_ | refine g_region ?_
          | refine g_nil ?_ | refine g_then_normal ?_ | refine g_block ?_ | refine g_in_normal ?_ | refine g_retc ?_ | refine g_then_ret ?_ | refine g_in_ret ?_
          | refine g_exit ?_ | refine g_then_exit ?_ | refine g_in_exit ?_ | refine g_in_other rfl ?_ | refine g_skip ?_ | refine g_label ?_ | refine g_cond_true rfl ?_
          | refine g_cond_false rfl ?_ | exact s_m | intro _ | (refine gp_take ?_; first | refine p_q ?_ | refine p_f ?_ | refine p_x ?_ | ((fail_if_success refine gp_lit rfl rfl rfl ?_); first | apply gp_guard_dec rfl rfl rfl | apply gp_guard rfl rfl rfl | fail))
          | (refine gp_one ?_; first | refine p_v ?_ | refine p_s ?_ | refine p_n (fun _ => ?_) | refine p_y ?_) | refine gp_done hd hk ?_ | intro _)
        refine g_cond_dec rfl (fun h3 => ?_) (fun h3 => ?_)
        · have hc' := ok_tick hc
          rcases tick_cases c with ⟨e1, e2, e3⟩ | ⟨e1, e2, e3⟩
          · repeat (first
              | (refine g_ops ?_; first | refine s_q ?_ | refine s_v ?_ | refine s_s ?_ | refine s_n (fun _ => ?_) | refine s_x ?_ | refine s_y ?_ | ((fail_if_success refine g_lit rfl rfl rfl ?_); first | apply g_partM rfl rfl rfl | apply g_partMB rfl rfl rfl | fail) | refine s_c (tickAt c _ _ _ hc.ne hc.lt e2 e1 e3) (fun _ _ => ?_))
              | apply g_regB (id := 1) 23 | apply g_regB (id := 4) 34 | apply g_regB (id := 22) 92 | apply g_regB (id := 32) 127 | refine g_seq ?_ | refine g_region ?_
              | refine g_nil ?_ | refine g_then_normal ?_ | refine g_block ?_ | refine g_in_normal ?_ | refine g_retc ?_ | refine g_then_ret ?_ | refine g_in_ret ?_
              | refine g_exit ?_ | refine g_then_exit ?_ | refine g_in_exit ?_ | refine g_in_other rfl ?_ | refine g_skip ?_ | refine g_label ?_ | refine g_cond_true rfl ?_
              | refine g_cond_false rfl ?_ | exact s_m | intro _ | (refine gp_take ?_; first | refine p_q ?_ | refine p_f ?_ | refine p_x ?_ | ((fail_if_success refine gp_lit rfl rfl rfl ?_); first | apply gp_guard_dec rfl rfl rfl | apply gp_guard rfl rfl rfl | fail))
              | (refine gp_one ?_; first | refine p_v ?_ | refine p_s ?_ | refine p_n (fun _ => ?_) | refine p_y ?_ | refine p_c (tickAt c _ _ _ hc.ne hc.lt e2 e1 e3) (fun _ _ => ?_))
              | refine gp_done hd hk ?_ | intro _)
            exact g_again (i + 1, c, t) (by simp only []; omega) ⟨hc, hcn, hle, hi'⟩ (by (repeat (first | exact FrSub.nil | refine FrSub.cons rfl ?_)); first | done | fail) (by (repeat (first | exact Take.nil | apply Take.cons | exact Sel.here | apply Sel.there)); first | done | fail)
          · repeat (first
              | (refine g_ops ?_; first | refine s_q ?_ | refine s_v ?_ | refine s_s ?_ | refine s_n (fun _ => ?_) | refine s_x ?_ | refine s_y ?_ | ((fail_if_success refine g_lit rfl rfl rfl ?_); first | apply g_partM rfl rfl rfl | apply g_partMB rfl rfl rfl | fail) | refine s_c (tickAt c _ _ _ hc.ne hc.lt e2 e1 e3) (fun _ _ => ?_))
              | apply g_regB (id := 1) 23 | apply g_regB (id := 4) 34 | apply g_regB (id := 22) 92 | apply g_regB (id := 32) 127 | refine g_seq ?_ | refine g_region ?_
              | refine g_nil ?_ | refine g_then_normal ?_ | refine g_block ?_ | refine g_in_normal ?_ | refine g_retc ?_ | refine g_then_ret ?_ | refine g_in_ret ?_
              | refine g_exit ?_ | refine g_then_exit ?_ | refine g_in_exit ?_ | refine g_in_other rfl ?_ | refine g_skip ?_ | refine g_label ?_ | refine g_cond_true rfl ?_
              | refine g_cond_false rfl ?_ | exact s_m | intro _ | (refine gp_take ?_; first | refine p_q ?_ | refine p_f ?_ | refine p_x ?_ | ((fail_if_success refine gp_lit rfl rfl rfl ?_); first | apply gp_guard_dec rfl rfl rfl | apply gp_guard rfl rfl rfl | fail))
              | (refine gp_one ?_; first | refine p_v ?_ | refine p_s ?_ | refine p_n (fun _ => ?_) | refine p_y ?_ | refine p_c (tickAt c _ _ _ hc.ne hc.lt e2 e1 e3) (fun _ _ => ?_))
              | refine gp_done hd hk ?_ | intro _)
            exact g_again (i + 1, ⟨c.r, c.wall, c.logic, c.n⟩, ⟨c.wall, c.logic, c.n⟩) (by simp only []; omega) ⟨e3 ▸ hc', hcn, Int.le_refl _, hi'⟩ (by (repeat (first | exact FrSub.nil | refine FrSub.cons rfl ?_)); first | done | fail) (by (repeat (first | exact Take.nil | apply Take.cons | exact Sel.here | apply Sel.there)); first | done | fail)
        · repeat (first
            | (refine g_ops ?_; first | refine s_q ?_ | refine s_v ?_ | refine s_s ?_ | refine s_n (fun _ => ?_) | refine s_x ?_ | refine s_y ?_ | ((fail_if_success refine g_lit rfl rfl rfl ?_); first | apply g_partM rfl rfl rfl | apply g_partMB rfl rfl rfl | fail))
            | apply g_regB (id := 1) 23 | apply g_regB (id := 4) 34 | apply g_regB (id := 22) 92 | apply g_regB (id := 32) 127 | refine g_seq ?_ | refine g_region ?_
            | refine g_nil ?_ | refine g_then_normal ?_ | refine g_block ?_ | refine g_in_normal ?_ | refine g_retc ?_ | refine g_then_ret ?_ | refine g_in_ret ?_
            | refine g_exit ?_ | refine g_then_exit ?_ | refine g_in_exit ?_ | refine g_in_other rfl ?_ | refine g_skip ?_ | refine g_label ?_ | refine g_cond_true rfl ?_
            | refine g_cond_false rfl ?_ | exact s_m | intro _ | (refine gp_take ?_; first | refine p_q ?_ | refine p_f ?_ | refine p_x ?_ | ((fail_if_success refine gp_lit rfl rfl rfl ?_); first | apply gp_guard_dec rfl rfl rfl | apply gp_guard rfl rfl rfl | fail))
            | (refine gp_one ?_; first | refine p_v ?_ | refine p_s ?_ | refine p_n (fun _ => ?_) | refine p_y ?_) | refine gp_done hd hk ?_ | intro _)
          refine g_cond_dec rfl (fun h4 => ?_) (fun h4 => ?_)
          · have hc' := ok_merge hc x.s
            repeat (first
              | (refine g_ops ?_; first | refine s_q ?_ | refine s_v ?_ | refine s_s ?_ | refine s_n (fun _ => ?_) | refine s_x ?_ | refine s_y ?_ | ((fail_if_success refine g_lit rfl rfl rfl ?_); first | apply g_partM rfl rfl rfl | apply g_partMB rfl rfl rfl | fail) | refine s_c (merge _ c x.s hc.ne hc.r) (fun _ _ => ?_))
              | apply g_regB (id := 1) 23 | apply g_regB (id := 4) 34 | apply g_regB (id := 22) 92 | apply g_regB (id := 32) 127 | refine g_seq ?_ | refine g_region ?_
              | refine g_nil ?_ | refine g_then_normal ?_ | refine g_block ?_ | refine g_in_normal ?_ | refine g_retc ?_ | refine g_then_ret ?_ | refine g_in_ret ?_
              | refine g_exit ?_ | refine g_then_exit ?_ | refine g_in_exit ?_ | refine g_in_other rfl ?_ | refine g_skip ?_ | refine g_label ?_ | refine g_cond_true rfl ?_
              | refine g_cond_false rfl ?_ | exact s_m | intro _ | (refine gp_take ?_; first | refine p_q ?_ | refine p_f ?_ | refine p_x ?_ | ((fail_if_success refine gp_lit rfl rfl rfl ?_); first | apply gp_guard_dec rfl rfl rfl | apply gp_guard rfl rfl rfl | fail))
              | (refine gp_one ?_; first | refine p_v ?_ | refine p_s ?_ | refine p_n (fun _ => ?_) | refine p_y ?_ | refine p_c (merge _ c x.s hc.ne hc.r) (fun _ _ => ?_))
              | refine gp_done hd hk ?_ | intro _)
            exact g_again (i + 1, c.merge x.s, t) (by simp only []; omega) ⟨hc', by simp only []; omega, by simp only []; omega, hi'⟩ (by (repeat (first | exact FrSub.nil | refine FrSub.cons rfl ?_)); first | done | fail) (by (repeat (first | exact Take.nil | apply Take.cons | exact Sel.here | apply Sel.there)); first | done | fail)
          · repeat (first
              | (refine g_ops ?_; first | refine s_q ?_ | refine s_v ?_ | refine s_s ?_ | refine s_n (fun _ => ?_) | refine s_x ?_ | refine s_y ?_ | ((fail_if_success refine g_lit rfl rfl rfl ?_); first | apply g_partM rfl rfl rfl | apply g_partMB rfl rfl rfl | fail))
              | apply g_regB (id := 1) 23 | apply g_regB (id := 4) 34 | apply g_regB (id := 22) 92 | apply g_regB (id := 32) 127 | refine g_seq ?_ | refine g_region ?_
              | refine g_nil ?_ | refine g_then_normal ?_ | refine g_block ?_ | refine g_in_normal ?_ | refine g_retc ?_ | refine g_then_ret ?_ | refine g_in_ret ?_
              | refine g_exit ?_ | refine g_then_exit ?_ | refine g_in_exit ?_ | refine g_in_other rfl ?_ | refine g_skip ?_ | refine g_label ?_ | refine g_cond_true rfl ?_
              | refine g_cond_false rfl ?_ | exact s_m | intro _ | (refine gp_take ?_; first | refine p_q ?_ | refine p_f ?_ | refine p_x ?_ | ((fail_if_success refine gp_lit rfl rfl rfl ?_); first | apply gp_guard_dec rfl rfl rfl | apply gp_guard rfl rfl rfl | fail))
              | (refine gp_one ?_; first | refine p_v ?_ | refine p_s ?_ | refine p_n (fun _ => ?_) | refine p_y ?_) | refine gp_done hd hk ?_ | intro _)
            exact g_again (i + 1, c, t) (by simp only []; omega) ⟨hc, hcn, hle, hi'⟩ (by (repeat (first | exact FrSub.nil | refine FrSub.cons rfl ?_)); first | done | fail) (by (repeat (first | exact Take.nil | apply Take.cons | exact Sel.here | apply Sel.there)); first | done | fail)
    · have hw := hc.w
      repeat (first
        | (refine g_ops ?_; first | refine s_q ?_ | refine s_v ?_ | refine s_s ?_ | refine s_n (fun _ => ?_) | refine s_x ?_ | refine s_y ?_ | ((fail_if_success refine g_lit rfl rfl rfl ?_); first | apply g_partM rfl rfl rfl | apply g_partMB rfl rfl rfl | fail) | refine s_p (awake) ?_ | refine s_k (now _ _ hc.ne) ?_)
        | apply g_regB (id := 1) 23 | apply g_regB (id := 4) 34 | apply g_regB (id := 22) 92 | apply g_regB (id := 32) 127 | refine g_seq ?_ | refine g_region ?_
        | refine g_nil ?_ | refine g_then_normal ?_ | refine g_block ?_ | refine g_in_normal ?_ | refine g_retc ?_ | refine g_then_ret ?_ | refine g_in_ret ?_
        | refine g_exit ?_ | refine g_then_exit ?_ | refine g_in_exit ?_ | refine g_in_other rfl ?_ | refine g_skip ?_ | refine g_label ?_ | refine g_cond_true rfl ?_
        | refine g_cond_false rfl ?_ | exact s_m | intro _ | (refine gp_take ?_; first | refine p_q ?_ | refine p_f ?_ | refine p_x ?_ | ((fail_if_success refine gp_lit rfl rfl rfl ?_); first | apply gp_guard_dec rfl rfl rfl | apply gp_guard rfl rfl rfl | fail) | refine p_p (awake) ?_ | refine p_h (now _ _ hc.ne) hd hk ?_)
        | (refine gp_one ?_; first | refine p_v ?_ | refine p_s ?_ | refine p_n (fun _ => ?_) | refine p_y ?_ | refine p_k (now _ _ hc.ne) ?_) | refine gp_done hd hk ?_
        | intro _)
      refine g_cond_dec rfl (fun h5 => ?_) (fun h5 => ?_)
      · repeat (first
          | (refine g_ops ?_; first | refine s_q ?_ | refine s_v ?_ | refine s_s ?_ | refine s_n (fun _ => ?_) | refine s_x ?_ | refine s_y ?_ | ((fail_if_success refine g_lit rfl rfl rfl ?_); first | apply g_partM rfl rfl rfl | apply g_partMB rfl rfl rfl | fail) | refine s_p (awake) ?_)
          | apply g_regB (id := 1) 23 | apply g_regB (id := 4) 34 | apply g_regB (id := 22) 92 | apply g_regB (id := 32) 127 | refine g_seq ?_ | refine g_region ?_
          | refine g_nil ?_ | refine g_then_normal ?_ | refine g_block ?_ | refine g_in_normal ?_ | refine g_retc ?_ | refine g_then_ret ?_ | refine g_in_ret ?_
          | refine g_exit ?_ | refine g_then_exit ?_ | refine g_in_exit ?_ | refine g_in_other rfl ?_ | refine g_skip ?_ | refine g_label ?_ | refine g_cond_true rfl ?_
          | refine g_cond_false rfl ?_ | exact s_m | intro _ | (refine gp_take ?_; first | refine p_q ?_ | refine p_f ?_ | refine p_x ?_ | ((fail_if_success refine gp_lit rfl rfl rfl ?_); first | apply gp_guard_dec rfl rfl rfl | apply gp_guard rfl rfl rfl | fail) | refine p_p (awake) ?_)
          | (refine gp_one ?_; first | refine p_v ?_ | refine p_s ?_ | refine p_n (fun _ => ?_) | refine p_y ?_) | refine gp_done hd hk ?_ | intro _)
        exact s_r ()
      · have hb : c.w < 1125899906842624 := by have h6 : ¬ 1125899906842624 ≤ c.w := h5; omega
        have hn2 : newOk 1 (c.w + 1) := ⟨by omega, by omega, by omega, by omega⟩
        repeat (first
          | (refine g_ops ?_; first | refine s_q ?_ | refine s_v ?_ | refine s_s ?_ | refine s_n (fun _ => ?_) | refine s_x ?_ | refine s_y ?_ | ((fail_if_success refine g_lit rfl rfl rfl ?_); first | apply g_partM rfl rfl rfl | apply g_partMB rfl rfl rfl | fail) | refine s_p (awake) ?_ | refine s_k (now _ _ hc.ne) ?_ | refine s_c (new_ok _ _ hn2) (fun _ _ => ?_))
          | apply g_regB (id := 1) 23 | apply g_regB (id := 4) 34 | apply g_regB (id := 22) 92 | apply g_regB (id := 32) 127 | refine g_seq ?_ | refine g_region ?_
          | refine g_nil ?_ | refine g_then_normal ?_ | refine g_block ?_ | refine g_in_normal ?_ | refine g_retc ?_ | refine g_then_ret ?_ | refine g_in_ret ?_
          | refine g_exit ?_ | refine g_then_exit ?_ | refine g_in_exit ?_ | refine g_in_other rfl ?_ | refine g_skip ?_ | refine g_label ?_ | refine g_cond_true rfl ?_
          | refine g_cond_false rfl ?_ | exact s_m | intro _ | (refine gp_take ?_; first | refine p_q ?_ | refine p_f ?_ | refine p_x ?_ | ((fail_if_success refine gp_lit rfl rfl rfl ?_); first | apply gp_guard_dec rfl rfl rfl | apply gp_guard rfl rfl rfl | fail) | refine p_p (awake) ?_ | refine p_h (now _ _ hc.ne) hd hk ?_)
          | (refine gp_one ?_; first | refine p_v ?_ | refine p_s ?_ | refine p_n (fun _ => ?_) | refine p_y ?_ | refine p_k (now _ _ hc.ne) ?_ | refine p_c (new_ok _ _ hn2) (fun _ _ => ?_))
          | refine gp_done hd hk ?_ | intro _)
        rename_i b2 _
        have hd0 : (Ck.mk 0 (c.w + 1) 0 1).ok := ⟨by simp, by simp, ⟨by simp only []; omega, by simp only []; omega⟩, by simp⟩
        refine g_loop (X := Nat × Ck) (fun x => [(13, .int .i64 x.1), (11, ptr b2), (7, ptr tb), (4, .bool false), (1, .slice p2 l2.length cap2)])
          (fun x => [clk b2 x.2, srow tb t, Init W]) (fun x => MInv l2.length x.1 x.2 t) (fun x => l2.length - x.1) (0, ⟨0, c.w + 1, 0, 1⟩) ⟨hd0, rfl, by simp only []; omega, Nat.zero_le _⟩ (by (repeat (first | exact FrSub.nil | refine FrSub.cons rfl ?_)); first | done | fail) (by (repeat (first | exact Take.nil | apply Take.cons | exact Sel.here | apply Sel.there)); first | done | fail) (fun x hx => ?_)
        obtain ⟨i, d⟩ := x
        obtain ⟨hd', hdn, hlt, hi⟩ := hx
        have hdo : d.ok := hd'
        have hdn : d.n = 1 := hdn
        have hlt : t.w < d.w := hlt
        have hi : i ≤ l2.length := hi
        repeat (first
          | (refine g_ops ?_; first | refine s_q ?_ | refine s_v ?_ | refine s_s ?_ | refine s_n (fun _ => ?_) | refine s_x ?_ | refine s_y ?_ | ((fail_if_success refine g_lit rfl rfl rfl ?_); first | apply g_partM rfl rfl rfl | apply g_partMB rfl rfl rfl | fail))
          | refine g_seq ?_ | refine g_region ?_ | refine g_nil ?_ | refine g_then_normal ?_ | refine g_block ?_ | refine g_in_normal ?_ | refine g_retc ?_
          | refine g_then_ret ?_ | refine g_in_ret ?_ | refine g_exit ?_ | refine g_then_exit ?_ | refine g_in_exit ?_ | refine g_in_other rfl ?_ | refine g_skip ?_
          | refine g_label ?_ | refine g_cond_true rfl ?_ | refine g_cond_false rfl ?_ | exact s_m | intro _)
        refine g_cond_dec rfl (fun h1 => ?_) (fun h1 => ?_)
        · have hi' : i < l2.length := by omega
          obtain ⟨x, lb, lo, hx, rfl, hcell⟩ := hs2.get hi'
          have sw := step_w d x.n x.s
          have sn := step_n d x.n x.s
          repeat (first
            | (refine g_ops ?_; first | refine s_q ?_ | refine s_v ?_ | refine s_s ?_ | refine s_n (fun _ => ?_) | refine s_x ?_ | refine s_y ?_ | ((fail_if_success refine g_lit rfl rfl rfl ?_); first | apply g_partM rfl rfl rfl | apply g_partMB rfl rfl rfl | fail))
            | apply g_regB (id := 1) 23 | apply g_regB (id := 4) 34 | apply g_regB (id := 22) 92 | apply g_regB (id := 32) 127 | refine g_seq ?_ | refine g_region ?_
            | refine g_nil ?_ | refine g_then_normal ?_ | refine g_block ?_ | refine g_in_normal ?_ | refine g_retc ?_ | refine g_then_ret ?_ | refine g_in_ret ?_
            | refine g_exit ?_ | refine g_then_exit ?_ | refine g_in_exit ?_ | refine g_in_other rfl ?_ | refine g_skip ?_ | refine g_label ?_ | refine g_cond_true rfl ?_
            | refine g_cond_false rfl ?_ | exact s_m | intro _ | (refine gp_take ?_; first | refine p_q ?_ | refine p_f ?_ | refine p_x ?_ | ((fail_if_success refine gp_lit rfl rfl rfl ?_); first | apply gp_guard_dec rfl rfl rfl | apply gp_guard rfl rfl rfl | fail))
            | (refine gp_one ?_; first | refine p_v ?_ | refine p_s ?_ | refine p_n (fun _ => ?_) | refine p_y ?_) | refine gp_done hd hk ?_ | intro _)
          refine g_cond_dec rfl (fun h2 => ?_) (fun h2 => ?_)
          · have hc' := ok_read hdo x.n
            repeat (first
              | (refine g_ops ?_; first | refine s_q ?_ | refine s_v ?_ | refine s_s ?_ | refine s_n (fun _ => ?_) | refine s_x ?_ | refine s_y ?_ | ((fail_if_success refine g_lit rfl rfl rfl ?_); first | apply g_partM rfl rfl rfl | apply g_partMB rfl rfl rfl | fail) | refine s_c (read _ d _ hdo.ne) (fun _ _ => ?_))
              | apply g_regB (id := 1) 23 | apply g_regB (id := 4) 34 | apply g_regB (id := 22) 92 | apply g_regB (id := 32) 127 | refine g_seq ?_ | refine g_region ?_
              | refine g_nil ?_ | refine g_then_normal ?_ | refine g_block ?_ | refine g_in_normal ?_ | refine g_retc ?_ | refine g_then_ret ?_ | refine g_in_ret ?_
              | refine g_exit ?_ | refine g_then_exit ?_ | refine g_in_exit ?_ | refine g_in_other rfl ?_ | refine g_skip ?_ | refine g_label ?_ | refine g_cond_true rfl ?_
              | refine g_cond_false rfl ?_ | exact s_m | intro _ | (refine gp_take ?_; first | refine p_q ?_ | refine p_f ?_ | refine p_x ?_ | ((fail_if_success refine gp_lit rfl rfl rfl ?_); first | apply gp_guard_dec rfl rfl rfl | apply gp_guard rfl rfl rfl | fail))
              | (refine gp_one ?_; first | refine p_v ?_ | refine p_s ?_ | refine p_n (fun _ => ?_) | refine p_y ?_ | refine p_c (read _ d _ hdo.ne) (fun _ _ => ?_))
              | refine gp_done hd hk ?_ | intro _)
            exact g_again (i + 1, d.read x.n) (by simp only []; omega) ⟨hc', by simp only []; omega, by simp only []; omega, hi'⟩ (by (repeat (first | exact FrSub.nil | refine FrSub.cons rfl ?_)); first | done | fail) (by (repeat (first | exact Take.nil | apply Take.cons | exact Sel.here | apply Sel.there)); first | done | fail)
          · repeat (first
              | (refine g_ops ?_; first | refine s_q ?_ | refine s_v ?_ | refine s_s ?_ | refine s_n (fun _ => ?_) | refine s_x ?_ | refine s_y ?_ | ((fail_if_success refine g_lit rfl rfl rfl ?_); first | apply g_partM rfl rfl rfl | apply g_partMB rfl rfl rfl | fail))
              | apply g_regB (id := 1) 23 | apply g_regB (id := 4) 34 | apply g_regB (id := 22) 92 | apply g_regB (id := 32) 127 | refine g_seq ?_ | refine g_region ?_
              | refine g_nil ?_ | refine g_then_normal ?_ | refine g_block ?_ | refine g_in_normal ?_ | refine g_retc ?_ | refine g_then_ret ?_ | refine g_in_ret ?_
              | refine g_exit ?_ | refine g_then_exit ?_ | refine g_in_exit ?_ | refine g_in_other rfl ?_ | refine g_skip ?_ | refine g_label ?_ | refine g_cond_true rfl ?_
              | refine g_cond_false rfl ?_ | exact s_m | intro _ | (refine gp_take ?_; first | refine p_q ?_ | refine p_f ?_ | refine p_x ?_ | ((fail_if_success refine gp_lit rfl rfl rfl ?_); first | apply gp_guard_dec rfl rfl rfl | apply gp_guard rfl rfl rfl | fail))
              | (refine gp_one ?_; first | refine p_v ?_ | refine p_s ?_ | refine p_n (fun _ => ?_) | refine p_y ?_) | refine gp_done hd hk ?_ | intro _)
            refine g_cond_dec rfl (fun h3 => ?_) (fun h3 => ?_)
            · have hc' := ok_tick hdo
              rcases tick_cases d with ⟨e1, e2, e3⟩ | ⟨e1, e2, e3⟩
              · repeat (first
                  | (refine g_ops ?_; first | refine s_q ?_ | refine s_v ?_ | refine s_s ?_ | refine s_n (fun _ => ?_) | refine s_x ?_ | refine s_y ?_ | ((fail_if_success refine g_lit rfl rfl rfl ?_); first | apply g_partM rfl rfl rfl | apply g_partMB rfl rfl rfl | fail) | refine s_c (tickAt d _ _ _ hdo.ne hdo.lt e2 e1 e3) (fun _ _ => ?_))
                  | apply g_regB (id := 1) 23 | apply g_regB (id := 4) 34 | apply g_regB (id := 22) 92 | apply g_regB (id := 32) 127 | refine g_seq ?_
                  | refine g_region ?_ | refine g_nil ?_ | refine g_then_normal ?_ | refine g_block ?_ | refine g_in_normal ?_ | refine g_retc ?_ | refine g_then_ret ?_
                  | refine g_in_ret ?_ | refine g_exit ?_ | refine g_then_exit ?_ | refine g_in_exit ?_ | refine g_in_other rfl ?_ | refine g_skip ?_ | refine g_label ?_
                  | refine g_cond_true rfl ?_ | refine g_cond_false rfl ?_ | exact s_m | intro _ | (refine gp_take ?_; first | refine p_q ?_ | refine p_f ?_ | refine p_x ?_ | ((fail_if_success refine gp_lit rfl rfl rfl ?_); first | apply gp_guard_dec rfl rfl rfl | apply gp_guard rfl rfl rfl | fail))
                  | (refine gp_one ?_; first | refine p_v ?_ | refine p_s ?_ | refine p_n (fun _ => ?_) | refine p_y ?_ | refine p_c (tickAt d _ _ _ hdo.ne hdo.lt e2 e1 e3) (fun _ _ => ?_))
                  | refine gp_done hd hk ?_ | intro _)
                exact g_again (i + 1, d) (by simp only []; omega) ⟨hdo, hdn, hlt, hi'⟩ (by (repeat (first | exact FrSub.nil | refine FrSub.cons rfl ?_)); first | done | fail) (by (repeat (first | exact Take.nil | apply Take.cons | exact Sel.here | apply Sel.there)); first | done | fail)
              · repeat (first
                  | (refine g_ops ?_; first | refine s_q ?_ | refine s_v ?_ | refine s_s ?_ | refine s_n (fun _ => ?_) | refine s_x ?_ | refine s_y ?_ | ((fail_if_success refine g_lit rfl rfl rfl ?_); first | apply g_partM rfl rfl rfl | apply g_partMB rfl rfl rfl | fail) | refine s_p (rless t ⟨d.wall, d.logic, d.n⟩) ?_ | refine s_c (tickAt d _ _ _ hdo.ne hdo.lt e2 e1 e3) (fun _ _ => ?_))
                  | apply g_regB (id := 1) 23 | apply g_regB (id := 4) 34 | apply g_regB (id := 22) 92 | apply g_regB (id := 32) 127 | refine g_seq ?_
                  | refine g_region ?_ | refine g_nil ?_ | refine g_then_normal ?_ | refine g_block ?_ | refine g_in_normal ?_ | refine g_retc ?_ | refine g_then_ret ?_
                  | refine g_in_ret ?_ | refine g_exit ?_ | refine g_then_exit ?_ | refine g_in_exit ?_ | refine g_in_other rfl ?_ | refine g_skip ?_ | refine g_label ?_
                  | refine g_cond_true rfl ?_ | refine g_cond_false rfl ?_ | exact s_m | intro _ | (refine gp_take ?_; first | refine p_q ?_ | refine p_f ?_ | refine p_x ?_ | ((fail_if_success refine gp_lit rfl rfl rfl ?_); first | apply gp_guard_dec rfl rfl rfl | apply gp_guard rfl rfl rfl | fail) | refine p_p (rless t ⟨d.wall, d.logic, d.n⟩) ?_)
                  | (refine gp_one ?_; first | refine p_v ?_ | refine p_s ?_ | refine p_n (fun _ => ?_) | refine p_y ?_ | refine p_c (tickAt d _ _ _ hdo.ne hdo.lt e2 e1 e3) (fun _ _ => ?_))
                  | refine gp_done hd hk ?_ | intro _)
                refine g_cond rfl (fun h6 => ?_) (fun _ => ?_)
                · exfalso
                  have f : ltS t ⟨d.wall, d.logic, d.n⟩ := .inl (by rcases wall_cases d with w | w <;> simp only [] <;> omega)
                  simp [f] at h6
                · repeat (first
                    | (refine g_ops ?_; first | refine s_q ?_ | refine s_v ?_ | refine s_s ?_ | refine s_n (fun _ => ?_) | refine s_x ?_ | refine s_y ?_ | ((fail_if_success refine g_lit rfl rfl rfl ?_); first | apply g_partM rfl rfl rfl | apply g_partMB rfl rfl rfl | fail))
                    | apply g_regB (id := 1) 23 | apply g_regB (id := 4) 34 | apply g_regB (id := 22) 92 | apply g_regB (id := 32) 127 | refine g_seq ?_
                    | refine g_region ?_ | refine g_nil ?_ | refine g_then_normal ?_ | refine g_block ?_ | refine g_in_normal ?_ | refine g_retc ?_ | refine g_then_ret ?_
                    | refine g_in_ret ?_ | refine g_exit ?_ | refine g_then_exit ?_ | refine g_in_exit ?_ | refine g_in_other rfl ?_ | refine g_skip ?_
                    | refine g_label ?_ | refine g_cond_true rfl ?_ | refine g_cond_false rfl ?_ | exact s_m | intro _ | (refine gp_take ?_; first | refine p_q ?_ | refine p_f ?_ | refine p_x ?_ | ((fail_if_success refine gp_lit rfl rfl rfl ?_); first | apply gp_guard_dec rfl rfl rfl | apply gp_guard rfl rfl rfl | fail))
                    | (refine gp_one ?_; first | refine p_v ?_ | refine p_s ?_ | refine p_n (fun _ => ?_) | refine p_y ?_) | refine gp_done hd hk ?_ | intro _)
                  exact g_again (i + 1, ⟨d.r, d.wall, d.logic, d.n⟩) (by simp only []; omega) ⟨e3 ▸ hc', hdn, by rw [e3] at sw; simp only [] at *; omega, hi'⟩ (by (repeat (first | exact FrSub.nil | refine FrSub.cons rfl ?_)); first | done | fail) (by (repeat (first | exact Take.nil | apply Take.cons | exact Sel.here | apply Sel.there)); first | done | fail)
            · repeat (first
                | (refine g_ops ?_; first | refine s_q ?_ | refine s_v ?_ | refine s_s ?_ | refine s_n (fun _ => ?_) | refine s_x ?_ | refine s_y ?_ | ((fail_if_success refine g_lit rfl rfl rfl ?_); first | apply g_partM rfl rfl rfl | apply g_partMB rfl rfl rfl | fail))
                | apply g_regB (id := 1) 23 | apply g_regB (id := 4) 34 | apply g_regB (id := 22) 92 | apply g_regB (id := 32) 127 | refine g_seq ?_ | refine g_region ?_
                | refine g_nil ?_ | refine g_then_normal ?_ | refine g_block ?_ | refine g_in_normal ?_ | refine g_retc ?_ | refine g_then_ret ?_ | refine g_in_ret ?_
                | refine g_exit ?_ | refine g_then_exit ?_ | refine g_in_exit ?_ | refine g_in_other rfl ?_ | refine g_skip ?_ | refine g_label ?_ | refine g_cond_true rfl ?_
                | refine g_cond_false rfl ?_ | exact s_m | intro _ | (refine gp_take ?_; first | refine p_q ?_ | refine p_f ?_ | refine p_x ?_ | ((fail_if_success refine gp_lit rfl rfl rfl ?_); first | apply gp_guard_dec rfl rfl rfl | apply gp_guard rfl rfl rfl | fail))
                | (refine gp_one ?_; first | refine p_v ?_ | refine p_s ?_ | refine p_n (fun _ => ?_) | refine p_y ?_) | refine gp_done hd hk ?_ | intro _)
              refine g_cond_dec rfl (fun h4 => ?_) (fun h4 => ?_)
              · have hc' := ok_merge hdo x.s
                repeat (first
                  | (refine g_ops ?_; first | refine s_q ?_ | refine s_v ?_ | refine s_s ?_ | refine s_n (fun _ => ?_) | refine s_x ?_ | refine s_y ?_ | ((fail_if_success refine g_lit rfl rfl rfl ?_); first | apply g_partM rfl rfl rfl | apply g_partMB rfl rfl rfl | fail) | refine s_c (merge _ d x.s hdo.ne hdo.r) (fun _ _ => ?_))
                  | apply g_regB (id := 1) 23 | apply g_regB (id := 4) 34 | apply g_regB (id := 22) 92 | apply g_regB (id := 32) 127 | refine g_seq ?_
                  | refine g_region ?_ | refine g_nil ?_ | refine g_then_normal ?_ | refine g_block ?_ | refine g_in_normal ?_ | refine g_retc ?_ | refine g_then_ret ?_
                  | refine g_in_ret ?_ | refine g_exit ?_ | refine g_then_exit ?_ | refine g_in_exit ?_ | refine g_in_other rfl ?_ | refine g_skip ?_ | refine g_label ?_
                  | refine g_cond_true rfl ?_ | refine g_cond_false rfl ?_ | exact s_m | intro _ | (refine gp_take ?_; first | refine p_q ?_ | refine p_f ?_ | refine p_x ?_ | ((fail_if_success refine gp_lit rfl rfl rfl ?_); first | apply gp_guard_dec rfl rfl rfl | apply gp_guard rfl rfl rfl | fail))
                  | (refine gp_one ?_; first | refine p_v ?_ | refine p_s ?_ | refine p_n (fun _ => ?_) | refine p_y ?_ | refine p_c (merge _ d x.s hdo.ne hdo.r) (fun _ _ => ?_))
                  | refine gp_done hd hk ?_ | intro _)
                exact g_again (i + 1, d.merge x.s) (by simp only []; omega) ⟨hc', by simp only []; omega, by simp only []; omega, hi'⟩ (by (repeat (first | exact FrSub.nil | refine FrSub.cons rfl ?_)); first | done | fail) (by (repeat (first | exact Take.nil | apply Take.cons | exact Sel.here | apply Sel.there)); first | done | fail)
              · repeat (first
                  | (refine g_ops ?_; first | refine s_q ?_ | refine s_v ?_ | refine s_s ?_ | refine s_n (fun _ => ?_) | refine s_x ?_ | refine s_y ?_ | ((fail_if_success refine g_lit rfl rfl rfl ?_); first | apply g_partM rfl rfl rfl | apply g_partMB rfl rfl rfl | fail))
                  | apply g_regB (id := 1) 23 | apply g_regB (id := 4) 34 | apply g_regB (id := 22) 92 | apply g_regB (id := 32) 127 | refine g_seq ?_
                  | refine g_region ?_ | refine g_nil ?_ | refine g_then_normal ?_ | refine g_block ?_ | refine g_in_normal ?_ | refine g_retc ?_ | refine g_then_ret ?_
                  | refine g_in_ret ?_ | refine g_exit ?_ | refine g_then_exit ?_ | refine g_in_exit ?_ | refine g_in_other rfl ?_ | refine g_skip ?_ | refine g_label ?_
                  | refine g_cond_true rfl ?_ | refine g_cond_false rfl ?_ | exact s_m | intro _ | (refine gp_take ?_; first | refine p_q ?_ | refine p_f ?_ | refine p_x ?_ | ((fail_if_success refine gp_lit rfl rfl rfl ?_); first | apply gp_guard_dec rfl rfl rfl | apply gp_guard rfl rfl rfl | fail))
                  | (refine gp_one ?_; first | refine p_v ?_ | refine p_s ?_ | refine p_n (fun _ => ?_) | refine p_y ?_) | refine gp_done hd hk ?_ | intro _)
                exact g_again (i + 1, d) (by simp only []; omega) ⟨hdo, hdn, hlt, hi'⟩ (by (repeat (first | exact FrSub.nil | refine FrSub.cons rfl ?_)); first | done | fail) (by (repeat (first | exact Take.nil | apply Take.cons | exact Sel.here | apply Sel.there)); first | done | fail)
        · repeat (first
            | (refine g_ops ?_; first | refine s_q ?_ | refine s_v ?_ | refine s_s ?_ | refine s_n (fun _ => ?_) | refine s_x ?_ | refine s_y ?_ | ((fail_if_success refine g_lit rfl rfl rfl ?_); first | apply g_partM rfl rfl rfl | apply g_partMB rfl rfl rfl | fail) | refine s_p (awake) ?_)
            | apply g_regB (id := 1) 23 | apply g_regB (id := 4) 34 | apply g_regB (id := 22) 92 | apply g_regB (id := 32) 127 | refine g_seq ?_ | refine g_region ?_
            | refine g_nil ?_ | refine g_then_normal ?_ | refine g_block ?_ | refine g_in_normal ?_ | refine g_retc ?_ | refine g_then_ret ?_ | refine g_in_ret ?_
            | refine g_exit ?_ | refine g_then_exit ?_ | refine g_in_exit ?_ | refine g_in_other rfl ?_ | refine g_skip ?_ | refine g_label ?_ | refine g_cond_true rfl ?_
            | refine g_cond_false rfl ?_ | exact s_m | intro _ | (refine gp_take ?_; first | refine p_q ?_ | refine p_f ?_ | refine p_x ?_ | ((fail_if_success refine gp_lit rfl rfl rfl ?_); first | apply gp_guard_dec rfl rfl rfl | apply gp_guard rfl rfl rfl | fail) | refine p_p (awake) ?_)
            | (refine gp_one ?_; first | refine p_v ?_ | refine p_s ?_ | refine p_n (fun _ => ?_) | refine p_y ?_) | refine gp_done hd hk ?_ | intro _)
          exact s_r ()
abbrev StT := Int × Int × (Int × Int × Int × Unit) × Unit
def toSt (x : StT) : St := ⟨x.1, x.2.1, ⟨x.2.2.1.1, x.2.2.1.2.1, x.2.2.1.2.2.1⟩⟩
theorem steps_of {W : World} {x : SliceOf StT} (h : Opens.is (P := Try.prog) (t := 35) W x [x.val]) : StepsAt (Init W) x.place (x.xs.map toSt) := by
  intro i y hy
  simp only [List.getElem?_map, Option.map_eq_some_iff] at hy
  obtain ⟨z, hz, rfl⟩ := hy
  obtain ⟨b, o, c, e, hc, hl, g⟩ := h.2.2.2.2 i z hz
  refine ⟨b, o, e, fun j v hv => reads_init' (g j v ?_)⟩
  obtain ⟨hl, h0, h1, h2, _⟩ := hc
  match c, hl with
  | [c0, c1, c2, c3, c4], _ =>
    obtain ⟨_, i0, i1, i2, _⟩ := h2
    have e0 : [c0] = [Value.int .i64 z.1] := h0.1
    have e1 : [c1] = [Value.int .i64 z.2.1] := h1.1
    have e2 : [c2] = [Value.int .i64 z.2.2.1.1] := i0.1
    have e3 : [c3] = [Value.int .i64 z.2.2.1.2.1] := i1.1
    have e4 : [c4] = [Value.int .i64 z.2.2.1.2.2.1] := i2.1
    simp only [List.cons.injEq, and_true] at e0 e1 e2 e3 e4
    subst e0 e1 e2 e3 e4
    exact hv
theorem toSt_len (x : SliceOf StT) : (x.xs.map toSt).length = x.xs.length := by simp
end Go.Proofs.Ytbgjcgaodchneaa
