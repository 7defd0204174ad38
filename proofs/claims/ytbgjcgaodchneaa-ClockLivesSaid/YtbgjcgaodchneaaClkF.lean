/- The laws of the clock that play a list of steps: rises, lives: the walks. -/
import Derived.Test.YtbgjcgaodchneaaClkE
set_option linter.unusedSimpArgs false
set_option linter.unusedVariables false
namespace Go.Proofs.Ytbgjcgaodchneaa
open Go.Sl facts
attribute [local irreducible] Code.wp wpList Exit.then Exit.inBlock bodyPost Back MidQ G GP QStep VStep CStep SStep Does Post Reads
/-- A stamp that a clock is not behind. -/
def leC (t : S3) (c : Ck) : Prop := t.w < c.w ∨ t.w = c.w ∧ t.l ≤ c.l
theorem read_last (c : Ck) (x : Int) : (c.read x).w = c.w ∧ (c.read x).l = c.l ∧ (c.read x).n = c.n := by
  unfold Ck.read; split <;> exact ⟨rfl, rfl, rfl⟩
theorem leC_read {t : S3} {c : Ck} (h : leC t c) (x : Int) : leC t (c.read x) := by
  have := read_last c x
  unfold leC at *; omega
theorem tick_cases (c : Ck) : (c.tickE = 7 ∧ c.tickS = S3.zero ∧ c.tick = c) ∨ (c.tickE = 0 ∧ c.tickS = ⟨c.wall, c.logic, c.n⟩ ∧ c.tick = ⟨c.r, c.wall, c.logic, c.n⟩) := by
  by_cases h : 65536 ≤ c.logic
  · exact .inl ⟨by simp [Ck.tickE, h], by simp [Ck.tickS, h], by simp [Ck.tick, h]⟩
  · exact .inr ⟨by simp [Ck.tickE, h], by simp [Ck.tickS, h], by simp [Ck.tick, h]⟩
theorem wall_cases (c : Ck) : (c.w < c.r ∧ c.wall = c.r ∧ c.logic = 0) ∨ (c.r ≤ c.w ∧ c.wall = c.w ∧ c.logic = c.l + 1) := by
  unfold Ck.wall Ck.logic
  by_cases h : c.w < c.r
  · exact .inl ⟨h, by simp [h], by simp [h]⟩
  · exact .inr ⟨by omega, by simp [h], by simp [h]⟩
theorem merge_cases (c : Ck) (s : S3) : (c.mergeE s = 1 ∧ c.merge s = c) ∨ (c.mergeE s = 6 ∧ c.merge s = c) ∨ (c.mergeE s = 0 ∧ (c.merge s).n = c.n ∧ leC s (c.merge s) ∧ ∀ t, leC t c → leC t (c.merge s)) := by
  rw [merge_eq]
  unfold Ck.mergeE
  by_cases h1 : s.sound = false
  · exact .inl ⟨by rw [if_pos h1], by rw [if_pos h1]⟩
  · by_cases h2 : c.w < s.w ∧ 1000 < s.w - c.r
    · exact .inr (.inl ⟨by rw [if_neg h1, if_pos h2], by rw [if_neg h1, if_pos h2]⟩)
    · refine .inr (.inr ?_)
      rw [if_neg h1, if_neg h2, if_neg h1, if_neg h2]
      by_cases h3 : c.w < s.w ∨ c.w = s.w ∧ c.l < s.l
      · rw [if_pos h3]
        exact ⟨rfl, rfl, .inr ⟨rfl, Int.le_refl _⟩, fun t ht => by unfold leC at *; simp only []; omega⟩
      · rw [if_neg h3]
        exact ⟨rfl, rfl, by unfold leC; omega, fun t ht => ht⟩
attribute [local irreducible] Ck.read Ck.tick Ck.tickS Ck.tickE Ck.merge Ck.mergeE Ck.wall Ck.logic maxS S3.sound soundB
abbrev srow (b : Nat) (t : S3) : Chunk := .row b [.int .i64 t.w, .int .i64 t.l, .int .i64 t.n] 29
structure RInv (node : Int) (len : Nat) (i : Nat) (c : Ck) (t : S3) : Prop where
  ok : c.ok
  n : c.n = node
  le : leC t c
  lt : i ≤ len
set_option maxHeartbeats 4000000 in
theorem rises (W : World) (node floor : Int) (p : Option Addr) (l : List St) (cap : Nat) (hs : StepsAt (Init W) p l) : Does1 Try.prog 7 [int node, int floor, .slice p l.length cap] [Init W] (.bool true) := by
  refine fn_intro Try.func7 rfl Try.ntmps7 rfl (by simp only [argFr, Nat.zero_add, Nat.reduceAdd]; rfl) (fun Γ => ?_)
  repeat (first
    | (refine g_ops ?_; first | refine s_q ?_ | refine s_v ?_ | refine s_s ?_ | refine s_n (fun _ => ?_) | refine s_x ?_ | refine s_y ?_ | ((fail_if_success refine g_lit rfl rfl rfl ?_); first | apply g_partM rfl rfl rfl | apply g_partMB rfl rfl rfl | fail) | refine s_p (awake) ?_)
    | apply g_regB (id := 1) 31 | apply g_regB (id := 4) 44 | apply g_regB (id := 16) 83 | (apply g_drawB (id := 18) 121 (.take 0 (.take 1 (.take 2 (.take 3 (.take 4 (.take 5 (.take 6 (.take 7 (.take 8 (.take 9 (.take 10 (.take 11 (.take 12 (.take 13 (.take 14 (.take 15 (.take 16 (.take 17 (.take 18 (.take 19 (.take 20 (.take 21 (.take 22 (.take 23 (.take 24 (.take 25 (.take 26 (.take 27 (.take 28 (.take 29 (.take 30 (.take 31 (.take 32 (.take 33 (.take 34 (.take 35 (.take 36 (.take 37 .done)))))))))))))))))))))))))))))))))))))) (by kernel_rfl); intro k hd hk)
    | refine g_seq ?_ | refine g_region ?_ | refine g_nil ?_ | refine g_then_normal ?_ | refine g_block ?_ | refine g_in_normal ?_ | refine g_retc ?_ | refine g_then_ret ?_
    | refine g_in_ret ?_ | refine g_exit ?_ | refine g_then_exit ?_ | refine g_in_exit ?_ | refine g_in_other rfl ?_ | refine g_skip ?_ | refine g_label ?_
    | refine g_cond_true rfl ?_ | refine g_cond_false rfl ?_ | exact s_m | intro _ | (refine gp_take ?_; first | refine p_q ?_ | refine p_f ?_ | refine p_x ?_ | ((fail_if_success refine gp_lit rfl rfl rfl ?_); first | apply gp_guard_dec rfl rfl rfl | apply gp_guard rfl rfl rfl | fail) | refine p_p (awake) ?_)
    | (refine gp_one ?_; first | refine p_v ?_ | refine p_s ?_ | refine p_n (fun _ => ?_) | refine p_y ?_) | refine gp_done hd hk ?_ | intro _)
  refine g_cond rfl (fun h => ?_) (fun h => ?_)
  · repeat (first
      | (refine g_ops ?_; first | refine s_q ?_ | refine s_v ?_ | refine s_s ?_ | refine s_n (fun _ => ?_) | refine s_x ?_ | refine s_y ?_ | ((fail_if_success refine g_lit rfl rfl rfl ?_); first | apply g_partM rfl rfl rfl | apply g_partMB rfl rfl rfl | fail) | refine s_p (awake) ?_)
      | apply g_regB (id := 1) 31 | apply g_regB (id := 4) 44 | apply g_regB (id := 16) 83 | (apply g_drawB (id := 18) 121 (.take 0 (.take 1 (.take 2 (.take 3 (.take 4 (.take 5 (.take 6 (.take 7 (.take 8 (.take 9 (.take 10 (.take 11 (.take 12 (.take 13 (.take 14 (.take 15 (.take 16 (.take 17 (.take 18 (.take 19 (.take 20 (.take 21 (.take 22 (.take 23 (.take 24 (.take 25 (.take 26 (.take 27 (.take 28 (.take 29 (.take 30 (.take 31 (.take 32 (.take 33 (.take 34 (.take 35 (.take 36 (.take 37 .done)))))))))))))))))))))))))))))))))))))) (by kernel_rfl); intro k hd hk)
      | refine g_seq ?_ | refine g_region ?_ | refine g_nil ?_ | refine g_then_normal ?_ | refine g_block ?_ | refine g_in_normal ?_ | refine g_retc ?_
      | refine g_then_ret ?_ | refine g_in_ret ?_ | refine g_exit ?_ | refine g_then_exit ?_ | refine g_in_exit ?_ | refine g_in_other rfl ?_ | refine g_skip ?_
      | refine g_label ?_ | refine g_cond_true rfl ?_ | refine g_cond_false rfl ?_ | exact s_m | intro _ | (refine gp_take ?_; first | refine p_q ?_ | refine p_f ?_ | refine p_x ?_ | ((fail_if_success refine gp_lit rfl rfl rfl ?_); first | apply gp_guard_dec rfl rfl rfl | apply gp_guard rfl rfl rfl | fail) | refine p_p (awake) ?_)
      | (refine gp_one ?_; first | refine p_v ?_ | refine p_s ?_ | refine p_n (fun _ => ?_) | refine p_y ?_) | refine gp_done hd hk ?_ | intro _)
    exact s_r ()
  · have hn : newOk node floor := by simp at h; unfold newOk; omega
    have hlen : (l.length : Int) ≤ 300 := by simp at h; omega
    repeat (first
      | (refine g_ops ?_; first | refine s_q ?_ | refine s_v ?_ | refine s_s ?_ | refine s_n (fun _ => ?_) | refine s_x ?_ | refine s_y ?_ | ((fail_if_success refine g_lit rfl rfl rfl ?_); first | apply g_partM rfl rfl rfl | apply g_partMB rfl rfl rfl | fail) | refine s_p (awake) ?_ | refine s_c (new_ok _ _ hn) (fun _ _ => ?_))
      | apply g_regB (id := 1) 31 | apply g_regB (id := 4) 44 | apply g_regB (id := 16) 83 | (apply g_drawB (id := 18) 121 (.take 0 (.take 1 (.take 2 (.take 3 (.take 4 (.take 5 (.take 6 (.take 7 (.take 8 (.take 9 (.take 10 (.take 11 (.take 12 (.take 13 (.take 14 (.take 15 (.take 16 (.take 17 (.take 18 (.take 19 (.take 20 (.take 21 (.take 22 (.take 23 (.take 24 (.take 25 (.take 26 (.take 27 (.take 28 (.take 29 (.take 30 (.take 31 (.take 32 (.take 33 (.take 34 (.take 35 (.take 36 (.take 37 .done)))))))))))))))))))))))))))))))))))))) (by kernel_rfl); intro k hd hk)
      | refine g_seq ?_ | refine g_region ?_ | refine g_nil ?_ | refine g_then_normal ?_ | refine g_block ?_ | refine g_in_normal ?_ | refine g_retc ?_
      | refine g_then_ret ?_ | refine g_in_ret ?_ | refine g_exit ?_ | refine g_then_exit ?_ | refine g_in_exit ?_ | refine g_in_other rfl ?_ | refine g_skip ?_
      | refine g_label ?_ | refine g_cond_true rfl ?_ | refine g_cond_false rfl ?_ | exact s_m | intro _ | (refine gp_take ?_; first | refine p_q ?_ | refine p_f ?_ | refine p_x ?_ | ((fail_if_success refine gp_lit rfl rfl rfl ?_); first | apply gp_guard_dec rfl rfl rfl | apply gp_guard rfl rfl rfl | fail) | refine p_p (awake) ?_)
      | (refine gp_one ?_; first | refine p_v ?_ | refine p_s ?_ | refine p_n (fun _ => ?_) | refine p_y ?_ | refine p_c (new_ok _ _ hn) (fun _ _ => ?_))
      | refine gp_done hd hk ?_ | intro _)
    rename_i b _ tb
    have hc0 : (Ck.mk 0 floor 0 node).ok := by
      unfold newOk at hn
      exact ⟨⟨hn.1, hn.2.1⟩, ⟨by simp, by simp⟩, ⟨hn.2.2.1, hn.2.2.2⟩, ⟨by simp, by simp⟩⟩
    refine g_loop (X := Nat × Ck × S3) (fun x => [(10, .int .i64 x.1), (9, ptr tb), (7, ptr b), (6, .bool false), (2, .slice p l.length cap), (0, int node)])
      (fun x => [srow tb x.2.2, clk b x.2.1, Init W]) (fun x => RInv node l.length x.1 x.2.1 x.2.2) (fun x => l.length - x.1) (0, ⟨0, floor, 0, node⟩, ⟨floor, 0, node⟩) ⟨hc0, rfl, .inr ⟨rfl, Int.le_refl _⟩, Nat.zero_le _⟩ (by (repeat (first | exact FrSub.nil | refine FrSub.cons rfl ?_)); first | done | fail) (by (repeat (first | exact Take.nil | apply Take.cons | exact Sel.here | apply Sel.there)); first | done | fail) (fun x hx => ?_)
    obtain ⟨i, c, t⟩ := x
    obtain ⟨hc, hcn, hle, hi⟩ := hx
    have hc : c.ok := hc
    have hcn : c.n = node := hcn
    have hle : leC t c := hle
    have hi : i ≤ l.length := hi
    repeat (first
      | (refine g_ops ?_; first | refine s_q ?_ | refine s_v ?_ | refine s_s ?_ | refine s_n (fun _ => ?_) | refine s_x ?_ | refine s_y ?_ | ((fail_if_success refine g_lit rfl rfl rfl ?_); first | apply g_partM rfl rfl rfl | apply g_partMB rfl rfl rfl | fail))
      | refine g_seq ?_ | refine g_region ?_ | refine g_nil ?_ | refine g_then_normal ?_ | refine g_block ?_ | refine g_in_normal ?_ | refine g_retc ?_
      | refine g_then_ret ?_ | refine g_in_ret ?_ | refine g_exit ?_ | refine g_then_exit ?_ | refine g_in_exit ?_ | refine g_in_other rfl ?_ | refine g_skip ?_
      | refine g_label ?_ | refine g_cond_true rfl ?_ | refine g_cond_false rfl ?_ | exact s_m | intro _)
    refine g_cond_dec rfl (fun h1 => ?_) (fun h1 => ?_)
    · have hi' : i < l.length := by omega
      obtain ⟨x, lb, lo, hx, rfl, hcell⟩ := hs.get hi'
      repeat (first
        | (refine g_ops ?_; first | refine s_q ?_ | refine s_v ?_ | refine s_s ?_ | refine s_n (fun _ => ?_) | refine s_x ?_ | refine s_y ?_ | ((fail_if_success refine g_lit rfl rfl rfl ?_); first | apply g_partM rfl rfl rfl | apply g_partMB rfl rfl rfl | fail))
        | apply g_regB (id := 1) 31 | apply g_regB (id := 4) 44 | apply g_regB (id := 16) 83 | (apply g_drawB (id := 18) 121 (.take 0 (.take 1 (.take 2 (.take 3 (.take 4 (.take 5 (.take 6 (.take 7 (.take 8 (.take 9 (.take 10 (.take 11 (.take 12 (.take 13 (.take 14 (.take 15 (.take 16 (.take 17 (.take 18 (.take 19 (.take 20 (.take 21 (.take 22 (.take 23 (.take 24 (.take 25 (.take 26 (.take 27 (.take 28 (.take 29 (.take 30 (.take 31 (.take 32 (.take 33 (.take 34 (.take 35 (.take 36 (.take 37 .done)))))))))))))))))))))))))))))))))))))) (by kernel_rfl); intro k hd hk)
        | refine g_seq ?_ | refine g_region ?_ | refine g_nil ?_ | refine g_then_normal ?_ | refine g_block ?_ | refine g_in_normal ?_ | refine g_retc ?_
        | refine g_then_ret ?_ | refine g_in_ret ?_ | refine g_exit ?_ | refine g_then_exit ?_ | refine g_in_exit ?_ | refine g_in_other rfl ?_ | refine g_skip ?_
        | refine g_label ?_ | refine g_cond_true rfl ?_ | refine g_cond_false rfl ?_ | exact s_m | intro _ | (refine gp_take ?_; first | refine p_q ?_ | refine p_f ?_ | refine p_x ?_ | ((fail_if_success refine gp_lit rfl rfl rfl ?_); first | apply gp_guard_dec rfl rfl rfl | apply gp_guard rfl rfl rfl | fail))
        | (refine gp_one ?_; first | refine p_v ?_ | refine p_s ?_ | refine p_n (fun _ => ?_) | refine p_y ?_) | refine gp_done hd hk ?_ | intro _)
      refine g_cond_dec rfl (fun h2 => ?_) (fun h2 => ?_)
      · have hc' := ok_read hc x.n
        repeat (first
          | (refine g_ops ?_; first | refine s_q ?_ | refine s_v ?_ | refine s_s ?_ | refine s_n (fun _ => ?_) | refine s_x ?_ | refine s_y ?_ | ((fail_if_success refine g_lit rfl rfl rfl ?_); first | apply g_partM rfl rfl rfl | apply g_partMB rfl rfl rfl | fail) | refine s_c (read _ c _ hc.ne) (fun _ _ => ?_))
          | apply g_regB (id := 1) 31 | apply g_regB (id := 4) 44 | apply g_regB (id := 16) 83 | (apply g_drawB (id := 18) 121 (.take 0 (.take 1 (.take 2 (.take 3 (.take 4 (.take 5 (.take 6 (.take 7 (.take 8 (.take 9 (.take 10 (.take 11 (.take 12 (.take 13 (.take 14 (.take 15 (.take 16 (.take 17 (.take 18 (.take 19 (.take 20 (.take 21 (.take 22 (.take 23 (.take 24 (.take 25 (.take 26 (.take 27 (.take 28 (.take 29 (.take 30 (.take 31 (.take 32 (.take 33 (.take 34 (.take 35 (.take 36 (.take 37 .done)))))))))))))))))))))))))))))))))))))) (by kernel_rfl); intro k hd hk)
          | refine g_seq ?_ | refine g_region ?_ | refine g_nil ?_ | refine g_then_normal ?_ | refine g_block ?_ | refine g_in_normal ?_ | refine g_retc ?_
          | refine g_then_ret ?_ | refine g_in_ret ?_ | refine g_exit ?_ | refine g_then_exit ?_ | refine g_in_exit ?_ | refine g_in_other rfl ?_ | refine g_skip ?_
          | refine g_label ?_ | refine g_cond_true rfl ?_ | refine g_cond_false rfl ?_ | exact s_m | intro _ | (refine gp_take ?_; first | refine p_q ?_ | refine p_f ?_ | refine p_x ?_ | ((fail_if_success refine gp_lit rfl rfl rfl ?_); first | apply gp_guard_dec rfl rfl rfl | apply gp_guard rfl rfl rfl | fail))
          | (refine gp_one ?_; first | refine p_v ?_ | refine p_s ?_ | refine p_n (fun _ => ?_) | refine p_y ?_ | refine p_c (read _ c _ hc.ne) (fun _ _ => ?_))
          | refine gp_done hd hk ?_ | intro _)
        exact g_again (i + 1, c.read x.n, t) (by simp only []; omega) ⟨hc', by rw [← hcn]; exact (read_last c x.n).2.2, leC_read hle _, hi'⟩ (by (repeat (first | exact FrSub.nil | refine FrSub.cons rfl ?_)); first | done | fail) (by (repeat (first | exact Take.nil | apply Take.cons | exact Sel.here | apply Sel.there)); first | done | fail)
      · repeat (first
          | (refine g_ops ?_; first | refine s_q ?_ | refine s_v ?_ | refine s_s ?_ | refine s_n (fun _ => ?_) | refine s_x ?_ | refine s_y ?_ | ((fail_if_success refine g_lit rfl rfl rfl ?_); first | apply g_partM rfl rfl rfl | apply g_partMB rfl rfl rfl | fail))
          | apply g_regB (id := 1) 31 | apply g_regB (id := 4) 44 | apply g_regB (id := 16) 83 | (apply g_drawB (id := 18) 121 (.take 0 (.take 1 (.take 2 (.take 3 (.take 4 (.take 5 (.take 6 (.take 7 (.take 8 (.take 9 (.take 10 (.take 11 (.take 12 (.take 13 (.take 14 (.take 15 (.take 16 (.take 17 (.take 18 (.take 19 (.take 20 (.take 21 (.take 22 (.take 23 (.take 24 (.take 25 (.take 26 (.take 27 (.take 28 (.take 29 (.take 30 (.take 31 (.take 32 (.take 33 (.take 34 (.take 35 (.take 36 (.take 37 .done)))))))))))))))))))))))))))))))))))))) (by kernel_rfl); intro k hd hk)
          | refine g_seq ?_ | refine g_region ?_ | refine g_nil ?_ | refine g_then_normal ?_ | refine g_block ?_ | refine g_in_normal ?_ | refine g_retc ?_
          | refine g_then_ret ?_ | refine g_in_ret ?_ | refine g_exit ?_ | refine g_then_exit ?_ | refine g_in_exit ?_ | refine g_in_other rfl ?_ | refine g_skip ?_
          | refine g_label ?_ | refine g_cond_true rfl ?_ | refine g_cond_false rfl ?_ | exact s_m | intro _ | (refine gp_take ?_; first | refine p_q ?_ | refine p_f ?_ | refine p_x ?_ | ((fail_if_success refine gp_lit rfl rfl rfl ?_); first | apply gp_guard_dec rfl rfl rfl | apply gp_guard rfl rfl rfl | fail))
          | (refine gp_one ?_; first | refine p_v ?_ | refine p_s ?_ | refine p_n (fun _ => ?_) | refine p_y ?_) | refine gp_done hd hk ?_ | intro _)
        refine g_cond_dec rfl (fun h3 => ?_) (fun h3 => ?_)
        · have hc' := ok_tick hc
          rcases tick_cases c with ⟨e1, e2, e3⟩ | ⟨e1, e2, e3⟩
          · repeat (first
              | (refine g_ops ?_; first | refine s_q ?_ | refine s_v ?_ | refine s_s ?_ | refine s_n (fun _ => ?_) | refine s_x ?_ | refine s_y ?_ | ((fail_if_success refine g_lit rfl rfl rfl ?_); first | apply g_partM rfl rfl rfl | apply g_partMB rfl rfl rfl | fail) | refine s_c (tickAt c _ _ _ hc.ne hc.lt e2 e1 e3) (fun _ _ => ?_))
              | apply g_regB (id := 1) 31 | apply g_regB (id := 4) 44 | apply g_regB (id := 16) 83 | (apply g_drawB (id := 18) 121 (.take 0 (.take 1 (.take 2 (.take 3 (.take 4 (.take 5 (.take 6 (.take 7 (.take 8 (.take 9 (.take 10 (.take 11 (.take 12 (.take 13 (.take 14 (.take 15 (.take 16 (.take 17 (.take 18 (.take 19 (.take 20 (.take 21 (.take 22 (.take 23 (.take 24 (.take 25 (.take 26 (.take 27 (.take 28 (.take 29 (.take 30 (.take 31 (.take 32 (.take 33 (.take 34 (.take 35 (.take 36 (.take 37 .done)))))))))))))))))))))))))))))))))))))) (by kernel_rfl); intro k hd hk)
              | refine g_seq ?_ | refine g_region ?_ | refine g_nil ?_ | refine g_then_normal ?_ | refine g_block ?_ | refine g_in_normal ?_ | refine g_retc ?_
              | refine g_then_ret ?_ | refine g_in_ret ?_ | refine g_exit ?_ | refine g_then_exit ?_ | refine g_in_exit ?_ | refine g_in_other rfl ?_ | refine g_skip ?_
              | refine g_label ?_ | refine g_cond_true rfl ?_ | refine g_cond_false rfl ?_ | exact s_m | intro _ | (refine gp_take ?_; first | refine p_q ?_ | refine p_f ?_ | refine p_x ?_ | ((fail_if_success refine gp_lit rfl rfl rfl ?_); first | apply gp_guard_dec rfl rfl rfl | apply gp_guard rfl rfl rfl | fail))
              | (refine gp_one ?_; first | refine p_v ?_ | refine p_s ?_ | refine p_n (fun _ => ?_) | refine p_y ?_ | refine p_c (tickAt c _ _ _ hc.ne hc.lt e2 e1 e3) (fun _ _ => ?_))
              | refine gp_done hd hk ?_ | intro _)
            exact g_again (i + 1, c, t) (by simp only []; omega) ⟨hc, hcn, hle, hi'⟩ (by (repeat (first | exact FrSub.nil | refine FrSub.cons rfl ?_)); first | done | fail) (by (repeat (first | exact Take.nil | apply Take.cons | exact Sel.here | apply Sel.there)); first | done | fail)
          · repeat (first
              | (refine g_ops ?_; first | refine s_q ?_ | refine s_v ?_ | refine s_s ?_ | refine s_n (fun _ => ?_) | refine s_x ?_ | refine s_y ?_ | ((fail_if_success refine g_lit rfl rfl rfl ?_); first | apply g_partM rfl rfl rfl | apply g_partMB rfl rfl rfl | fail) | refine s_k (now _ ⟨c.r, c.wall, c.logic, c.n⟩ hc.ne) ?_ | refine s_k (reading _ ⟨c.r, c.wall, c.logic, c.n⟩ hc.ne) ?_ | refine s_c (tickAt c _ _ _ hc.ne hc.lt e2 e1 e3) (fun _ _ => ?_))
              | apply g_regB (id := 1) 31 | apply g_regB (id := 4) 44 | apply g_regB (id := 16) 83 | (apply g_drawB (id := 18) 121 (.take 0 (.take 1 (.take 2 (.take 3 (.take 4 (.take 5 (.take 6 (.take 7 (.take 8 (.take 9 (.take 10 (.take 11 (.take 12 (.take 13 (.take 14 (.take 15 (.take 16 (.take 17 (.take 18 (.take 19 (.take 20 (.take 21 (.take 22 (.take 23 (.take 24 (.take 25 (.take 26 (.take 27 (.take 28 (.take 29 (.take 30 (.take 31 (.take 32 (.take 33 (.take 34 (.take 35 (.take 36 (.take 37 .done)))))))))))))))))))))))))))))))))))))) (by kernel_rfl); intro k hd hk)
              | refine g_seq ?_ | refine g_region ?_ | refine g_nil ?_ | refine g_then_normal ?_ | refine g_block ?_ | refine g_in_normal ?_ | refine g_retc ?_
              | refine g_then_ret ?_ | refine g_in_ret ?_ | refine g_exit ?_ | refine g_then_exit ?_ | refine g_in_exit ?_ | refine g_in_other rfl ?_ | refine g_skip ?_
              | refine g_label ?_ | refine g_cond_true rfl ?_ | refine g_cond_false rfl ?_ | exact s_m | intro _ | (refine gp_take ?_; first | refine p_q ?_ | refine p_f ?_ | refine p_x ?_ | ((fail_if_success refine gp_lit rfl rfl rfl ?_); first | apply gp_guard_dec rfl rfl rfl | apply gp_guard rfl rfl rfl | fail) | refine p_h (now _ ⟨c.r, c.wall, c.logic, c.n⟩ hc.ne) hd hk ?_ | refine p_h (reading _ ⟨c.r, c.wall, c.logic, c.n⟩ hc.ne) hd hk ?_)
              | (refine gp_one ?_; first | refine p_v ?_ | refine p_s ?_ | refine p_n (fun _ => ?_) | refine p_y ?_ | refine p_k (now _ ⟨c.r, c.wall, c.logic, c.n⟩ hc.ne) ?_ | refine p_k (reading _ ⟨c.r, c.wall, c.logic, c.n⟩ hc.ne) ?_ | refine p_c (tickAt c _ _ _ hc.ne hc.lt e2 e1 e3) (fun _ _ => ?_))
              | refine gp_done hd hk ?_ | intro _)
            refine g_cond rfl (fun h => ?_) (fun _ => ?_)
            · exfalso
              have f1 : ¬ c.wall < t.w := by rcases wall_cases c with w | w <;> unfold leC at hle <;> omega
              have f2 : c.wall = t.w → ¬ c.logic ≤ t.l := by intro e; rcases wall_cases c with w | w <;> unfold leC at hle <;> omega
              have f3 : ¬ c.wall < c.r := by rcases wall_cases c with w | w <;> omega
              replace h : (decide (c.n ≠ node) || (decide (c.wall < t.w) || ((decide (c.wall = t.w) && decide (c.logic ≤ t.l)) || decide (c.wall < c.r)))) = true := by
                revert h
                simp only []
                cases decide (c.n ≠ node) <;> cases decide (c.wall < t.w) <;> cases decide (c.wall = t.w) <;> cases decide (c.logic ≤ t.l) <;> simp
              by_cases e : c.wall = t.w
              · simp [hcn, e, f2 e] at h
                omega
              · simp [hcn, f1, e, f3] at h
            · repeat (first
                | (refine g_ops ?_; first | refine s_q ?_ | refine s_v ?_ | refine s_s ?_ | refine s_n (fun _ => ?_) | refine s_x ?_ | refine s_y ?_ | ((fail_if_success refine g_lit rfl rfl rfl ?_); first | apply g_partM rfl rfl rfl | apply g_partMB rfl rfl rfl | fail))
                | apply g_regB (id := 1) 31 | apply g_regB (id := 4) 44 | apply g_regB (id := 16) 83 | (apply g_drawB (id := 18) 121 (.take 0 (.take 1 (.take 2 (.take 3 (.take 4 (.take 5 (.take 6 (.take 7 (.take 8 (.take 9 (.take 10 (.take 11 (.take 12 (.take 13 (.take 14 (.take 15 (.take 16 (.take 17 (.take 18 (.take 19 (.take 20 (.take 21 (.take 22 (.take 23 (.take 24 (.take 25 (.take 26 (.take 27 (.take 28 (.take 29 (.take 30 (.take 31 (.take 32 (.take 33 (.take 34 (.take 35 (.take 36 (.take 37 .done)))))))))))))))))))))))))))))))))))))) (by kernel_rfl); intro k hd hk)
                | refine g_seq ?_ | refine g_region ?_ | refine g_nil ?_ | refine g_then_normal ?_ | refine g_block ?_ | refine g_in_normal ?_ | refine g_retc ?_
                | refine g_then_ret ?_ | refine g_in_ret ?_ | refine g_exit ?_ | refine g_then_exit ?_ | refine g_in_exit ?_ | refine g_in_other rfl ?_
                | refine g_skip ?_ | refine g_label ?_ | refine g_cond_true rfl ?_ | refine g_cond_false rfl ?_ | exact s_m | intro _ | (refine gp_take ?_; first | refine p_q ?_ | refine p_f ?_ | refine p_x ?_ | ((fail_if_success refine gp_lit rfl rfl rfl ?_); first | apply gp_guard_dec rfl rfl rfl | apply gp_guard rfl rfl rfl | fail))
                | (refine gp_one ?_; first | refine p_v ?_ | refine p_s ?_ | refine p_n (fun _ => ?_) | refine p_y ?_) | refine gp_done hd hk ?_ | intro _)
              exact g_again (i + 1, ⟨c.r, c.wall, c.logic, c.n⟩, ⟨c.wall, c.logic, c.n⟩) (by simp only []; omega) ⟨e3 ▸ hc', hcn, .inr ⟨rfl, Int.le_refl _⟩, hi'⟩ (by (repeat (first | exact FrSub.nil | refine FrSub.cons rfl ?_)); first | done | fail) (by (repeat (first | exact Take.nil | apply Take.cons | exact Sel.here | apply Sel.there)); first | done | fail)
        · repeat (first
            | (refine g_ops ?_; first | refine s_q ?_ | refine s_v ?_ | refine s_s ?_ | refine s_n (fun _ => ?_) | refine s_x ?_ | refine s_y ?_ | ((fail_if_success refine g_lit rfl rfl rfl ?_); first | apply g_partM rfl rfl rfl | apply g_partMB rfl rfl rfl | fail))
            | apply g_regB (id := 1) 31 | apply g_regB (id := 4) 44 | apply g_regB (id := 16) 83 | (apply g_drawB (id := 18) 121 (.take 0 (.take 1 (.take 2 (.take 3 (.take 4 (.take 5 (.take 6 (.take 7 (.take 8 (.take 9 (.take 10 (.take 11 (.take 12 (.take 13 (.take 14 (.take 15 (.take 16 (.take 17 (.take 18 (.take 19 (.take 20 (.take 21 (.take 22 (.take 23 (.take 24 (.take 25 (.take 26 (.take 27 (.take 28 (.take 29 (.take 30 (.take 31 (.take 32 (.take 33 (.take 34 (.take 35 (.take 36 (.take 37 .done)))))))))))))))))))))))))))))))))))))) (by kernel_rfl); intro k hd hk)
            | refine g_seq ?_ | refine g_region ?_ | refine g_nil ?_ | refine g_then_normal ?_ | refine g_block ?_ | refine g_in_normal ?_ | refine g_retc ?_
            | refine g_then_ret ?_ | refine g_in_ret ?_ | refine g_exit ?_ | refine g_then_exit ?_ | refine g_in_exit ?_ | refine g_in_other rfl ?_ | refine g_skip ?_
            | refine g_label ?_ | refine g_cond_true rfl ?_ | refine g_cond_false rfl ?_ | exact s_m | intro _ | (refine gp_take ?_; first | refine p_q ?_ | refine p_f ?_ | refine p_x ?_ | ((fail_if_success refine gp_lit rfl rfl rfl ?_); first | apply gp_guard_dec rfl rfl rfl | apply gp_guard rfl rfl rfl | fail))
            | (refine gp_one ?_; first | refine p_v ?_ | refine p_s ?_ | refine p_n (fun _ => ?_) | refine p_y ?_) | refine gp_done hd hk ?_ | intro _)
          refine g_cond_dec rfl (fun h4 => ?_) (fun h4 => ?_)
          · have hc' := ok_merge hc x.s
            rcases merge_cases c x.s with ⟨e1, e2⟩ | ⟨e1, e2⟩ | ⟨e1, e2, e3, e4⟩
            · repeat (first
                | (refine g_ops ?_; first | refine s_q ?_ | refine s_v ?_ | refine s_s ?_ | refine s_n (fun _ => ?_) | refine s_x ?_ | refine s_y ?_ | ((fail_if_success refine g_lit rfl rfl rfl ?_); first | apply g_partM rfl rfl rfl | apply g_partMB rfl rfl rfl | fail) | refine s_c (mergeAt c x.s _ _ hc.ne hc.r e1 e2) (fun _ _ => ?_))
                | apply g_regB (id := 1) 31 | apply g_regB (id := 4) 44 | apply g_regB (id := 16) 83 | (apply g_drawB (id := 18) 121 (.take 0 (.take 1 (.take 2 (.take 3 (.take 4 (.take 5 (.take 6 (.take 7 (.take 8 (.take 9 (.take 10 (.take 11 (.take 12 (.take 13 (.take 14 (.take 15 (.take 16 (.take 17 (.take 18 (.take 19 (.take 20 (.take 21 (.take 22 (.take 23 (.take 24 (.take 25 (.take 26 (.take 27 (.take 28 (.take 29 (.take 30 (.take 31 (.take 32 (.take 33 (.take 34 (.take 35 (.take 36 (.take 37 .done)))))))))))))))))))))))))))))))))))))) (by kernel_rfl); intro k hd hk)
                | refine g_drawS (id := 22) 7 (.take 0 (.take 1 (.take 2 (.take 3 (.take 4 (.take 5 (.one 6 (.take 7 (.take 8 (.take 9 (.take 10 (.take 11 (.take 12 (.take 13 (.take 14 (.take 15 (.take 16 .done))))))))))))))))) (fun k hd hk => ?_)
                | refine g_seq ?_ | refine g_region ?_ | refine g_nil ?_ | refine g_then_normal ?_ | refine g_block ?_ | refine g_in_normal ?_ | refine g_retc ?_
                | refine g_then_ret ?_ | refine g_in_ret ?_ | refine g_exit ?_ | refine g_then_exit ?_ | refine g_in_exit ?_ | refine g_in_other rfl ?_
                | refine g_skip ?_ | refine g_label ?_ | refine g_cond_true rfl ?_ | refine g_cond_false rfl ?_ | exact s_m | intro _ | (refine gp_take ?_; first | refine p_q ?_ | refine p_f ?_ | refine p_x ?_ | ((fail_if_success refine gp_lit rfl rfl rfl ?_); first | apply gp_guard_dec rfl rfl rfl | apply gp_guard rfl rfl rfl | fail))
                | (refine gp_one ?_; first | refine p_v ?_ | refine p_s ?_ | refine p_n (fun _ => ?_) | refine p_y ?_ | refine p_c (mergeAt c x.s _ _ hc.ne hc.r e1 e2) (fun _ _ => ?_))
                | refine gp_done hd hk ?_ | intro _)
              exact g_again (i + 1, c, t) (by simp only []; omega) ⟨hc, hcn, hle, hi'⟩ (by (repeat (first | exact FrSub.nil | refine FrSub.cons rfl ?_)); first | done | fail) (by (repeat (first | exact Take.nil | apply Take.cons | exact Sel.here | apply Sel.there)); first | done | fail)
            · repeat (first
                | (refine g_ops ?_; first | refine s_q ?_ | refine s_v ?_ | refine s_s ?_ | refine s_n (fun _ => ?_) | refine s_x ?_ | refine s_y ?_ | ((fail_if_success refine g_lit rfl rfl rfl ?_); first | apply g_partM rfl rfl rfl | apply g_partMB rfl rfl rfl | fail) | refine s_c (mergeAt c x.s _ _ hc.ne hc.r e1 e2) (fun _ _ => ?_))
                | apply g_regB (id := 1) 31 | apply g_regB (id := 4) 44 | apply g_regB (id := 16) 83 | (apply g_drawB (id := 18) 121 (.take 0 (.take 1 (.take 2 (.take 3 (.take 4 (.take 5 (.take 6 (.take 7 (.take 8 (.take 9 (.take 10 (.take 11 (.take 12 (.take 13 (.take 14 (.take 15 (.take 16 (.take 17 (.take 18 (.take 19 (.take 20 (.take 21 (.take 22 (.take 23 (.take 24 (.take 25 (.take 26 (.take 27 (.take 28 (.take 29 (.take 30 (.take 31 (.take 32 (.take 33 (.take 34 (.take 35 (.take 36 (.take 37 .done)))))))))))))))))))))))))))))))))))))) (by kernel_rfl); intro k hd hk)
                | refine g_drawS (id := 22) 7 (.take 0 (.take 1 (.take 2 (.take 3 (.take 4 (.take 5 (.one 6 (.take 7 (.take 8 (.take 9 (.take 10 (.take 11 (.take 12 (.take 13 (.take 14 (.take 15 (.take 16 .done))))))))))))))))) (fun k hd hk => ?_)
                | refine g_seq ?_ | refine g_region ?_ | refine g_nil ?_ | refine g_then_normal ?_ | refine g_block ?_ | refine g_in_normal ?_ | refine g_retc ?_
                | refine g_then_ret ?_ | refine g_in_ret ?_ | refine g_exit ?_ | refine g_then_exit ?_ | refine g_in_exit ?_ | refine g_in_other rfl ?_
                | refine g_skip ?_ | refine g_label ?_ | refine g_cond_true rfl ?_ | refine g_cond_false rfl ?_ | exact s_m | intro _ | (refine gp_take ?_; first | refine p_q ?_ | refine p_f ?_ | refine p_x ?_ | ((fail_if_success refine gp_lit rfl rfl rfl ?_); first | apply gp_guard_dec rfl rfl rfl | apply gp_guard rfl rfl rfl | fail))
                | (refine gp_one ?_; first | refine p_v ?_ | refine p_s ?_ | refine p_n (fun _ => ?_) | refine p_y ?_ | refine p_c (mergeAt c x.s _ _ hc.ne hc.r e1 e2) (fun _ _ => ?_))
                | refine gp_done hd hk ?_ | intro _)
              exact g_again (i + 1, c, t) (by simp only []; omega) ⟨hc, hcn, hle, hi'⟩ (by (repeat (first | exact FrSub.nil | refine FrSub.cons rfl ?_)); first | done | fail) (by (repeat (first | exact Take.nil | apply Take.cons | exact Sel.here | apply Sel.there)); first | done | fail)
            · repeat (first
                | (refine g_ops ?_; first | refine s_q ?_ | refine s_v ?_ | refine s_s ?_ | refine s_n (fun _ => ?_) | refine s_x ?_ | refine s_y ?_ | ((fail_if_success refine g_lit rfl rfl rfl ?_); first | apply g_partM rfl rfl rfl | apply g_partMB rfl rfl rfl | fail) | refine s_p (rless t x.s) ?_ | refine s_c (mergeAt c x.s _ _ hc.ne hc.r e1 rfl) (fun _ _ => ?_))
                | apply g_regB (id := 1) 31 | apply g_regB (id := 4) 44 | apply g_regB (id := 16) 83 | (apply g_drawB (id := 18) 121 (.take 0 (.take 1 (.take 2 (.take 3 (.take 4 (.take 5 (.take 6 (.take 7 (.take 8 (.take 9 (.take 10 (.take 11 (.take 12 (.take 13 (.take 14 (.take 15 (.take 16 (.take 17 (.take 18 (.take 19 (.take 20 (.take 21 (.take 22 (.take 23 (.take 24 (.take 25 (.take 26 (.take 27 (.take 28 (.take 29 (.take 30 (.take 31 (.take 32 (.take 33 (.take 34 (.take 35 (.take 36 (.take 37 .done)))))))))))))))))))))))))))))))))))))) (by kernel_rfl); intro k hd hk)
                | refine g_drawS (id := 22) 7 (.take 0 (.take 1 (.take 2 (.take 3 (.take 4 (.take 5 (.one 6 (.take 7 (.take 8 (.take 9 (.take 10 (.take 11 (.take 12 (.take 13 (.take 14 (.take 15 (.take 16 .done))))))))))))))))) (fun k hd hk => ?_)
                | refine g_seq ?_ | refine g_region ?_ | refine g_nil ?_ | refine g_then_normal ?_ | refine g_block ?_ | refine g_in_normal ?_ | refine g_retc ?_
                | refine g_then_ret ?_ | refine g_in_ret ?_ | refine g_exit ?_ | refine g_then_exit ?_ | refine g_in_exit ?_ | refine g_in_other rfl ?_
                | refine g_skip ?_ | refine g_label ?_ | refine g_cond_true rfl ?_ | refine g_cond_false rfl ?_ | exact s_m | intro _ | (refine gp_take ?_; first | refine p_q ?_ | refine p_f ?_ | refine p_x ?_ | ((fail_if_success refine gp_lit rfl rfl rfl ?_); first | apply gp_guard_dec rfl rfl rfl | apply gp_guard rfl rfl rfl | fail) | refine p_p (rless t x.s) ?_)
                | (refine gp_one ?_; first | refine p_v ?_ | refine p_s ?_ | refine p_n (fun _ => ?_) | refine p_y ?_ | refine p_c (mergeAt c x.s _ _ hc.ne hc.r e1 rfl) (fun _ _ => ?_))
                | refine gp_done hd hk ?_ | intro _)
              refine g_cond_dec rfl (fun h5 => ?_) (fun h5 => ?_)
              · repeat (first
                  | (refine g_ops ?_; first | refine s_q ?_ | refine s_v ?_ | refine s_s ?_ | refine s_n (fun _ => ?_) | refine s_x ?_ | refine s_y ?_ | ((fail_if_success refine g_lit rfl rfl rfl ?_); first | apply g_partM rfl rfl rfl | apply g_partMB rfl rfl rfl | fail))
                  | apply g_regB (id := 1) 31 | apply g_regB (id := 4) 44 | apply g_regB (id := 16) 83 | (apply g_drawB (id := 18) 121 (.take 0 (.take 1 (.take 2 (.take 3 (.take 4 (.take 5 (.take 6 (.take 7 (.take 8 (.take 9 (.take 10 (.take 11 (.take 12 (.take 13 (.take 14 (.take 15 (.take 16 (.take 17 (.take 18 (.take 19 (.take 20 (.take 21 (.take 22 (.take 23 (.take 24 (.take 25 (.take 26 (.take 27 (.take 28 (.take 29 (.take 30 (.take 31 (.take 32 (.take 33 (.take 34 (.take 35 (.take 36 (.take 37 .done)))))))))))))))))))))))))))))))))))))) (by kernel_rfl); intro k hd hk)
                  | refine g_seq ?_ | refine g_region ?_ | refine g_nil ?_ | refine g_then_normal ?_ | refine g_block ?_ | refine g_in_normal ?_ | refine g_retc ?_
                  | refine g_then_ret ?_ | refine g_in_ret ?_ | refine g_exit ?_ | refine g_then_exit ?_ | refine g_in_exit ?_ | refine g_in_other rfl ?_
                  | refine g_skip ?_ | refine g_label ?_ | refine g_cond_true rfl ?_ | refine g_cond_false rfl ?_ | exact s_m | intro _ | (refine gp_take ?_; first | refine p_q ?_ | refine p_f ?_ | refine p_x ?_ | ((fail_if_success refine gp_lit rfl rfl rfl ?_); first | apply gp_guard_dec rfl rfl rfl | apply gp_guard rfl rfl rfl | fail))
                  | (refine gp_one ?_; first | refine p_v ?_ | refine p_s ?_ | refine p_n (fun _ => ?_) | refine p_y ?_) | refine gp_done hd hk ?_ | intro _)
                exact g_again (i + 1, c.merge x.s, x.s) (by simp only []; omega) ⟨hc', by rw [← hcn]; exact e2, e3, hi'⟩ (by (repeat (first | exact FrSub.nil | refine FrSub.cons rfl ?_)); first | done | fail) (by (repeat (first | exact Take.nil | apply Take.cons | exact Sel.here | apply Sel.there)); first | done | fail)
              · repeat (first
                  | (refine g_ops ?_; first | refine s_q ?_ | refine s_v ?_ | refine s_s ?_ | refine s_n (fun _ => ?_) | refine s_x ?_ | refine s_y ?_ | ((fail_if_success refine g_lit rfl rfl rfl ?_); first | apply g_partM rfl rfl rfl | apply g_partMB rfl rfl rfl | fail))
                  | apply g_regB (id := 1) 31 | apply g_regB (id := 4) 44 | apply g_regB (id := 16) 83 | (apply g_drawB (id := 18) 121 (.take 0 (.take 1 (.take 2 (.take 3 (.take 4 (.take 5 (.take 6 (.take 7 (.take 8 (.take 9 (.take 10 (.take 11 (.take 12 (.take 13 (.take 14 (.take 15 (.take 16 (.take 17 (.take 18 (.take 19 (.take 20 (.take 21 (.take 22 (.take 23 (.take 24 (.take 25 (.take 26 (.take 27 (.take 28 (.take 29 (.take 30 (.take 31 (.take 32 (.take 33 (.take 34 (.take 35 (.take 36 (.take 37 .done)))))))))))))))))))))))))))))))))))))) (by kernel_rfl); intro k hd hk)
                  | refine g_seq ?_ | refine g_region ?_ | refine g_nil ?_ | refine g_then_normal ?_ | refine g_block ?_ | refine g_in_normal ?_ | refine g_retc ?_
                  | refine g_then_ret ?_ | refine g_in_ret ?_ | refine g_exit ?_ | refine g_then_exit ?_ | refine g_in_exit ?_ | refine g_in_other rfl ?_
                  | refine g_skip ?_ | refine g_label ?_ | refine g_cond_true rfl ?_ | refine g_cond_false rfl ?_ | exact s_m | intro _ | (refine gp_take ?_; first | refine p_q ?_ | refine p_f ?_ | refine p_x ?_ | ((fail_if_success refine gp_lit rfl rfl rfl ?_); first | apply gp_guard_dec rfl rfl rfl | apply gp_guard rfl rfl rfl | fail))
                  | (refine gp_one ?_; first | refine p_v ?_ | refine p_s ?_ | refine p_n (fun _ => ?_) | refine p_y ?_) | refine gp_done hd hk ?_ | intro _)
                exact g_again (i + 1, c.merge x.s, t) (by simp only []; omega) ⟨hc', by rw [← hcn]; exact e2, e4 _ hle, hi'⟩ (by (repeat (first | exact FrSub.nil | refine FrSub.cons rfl ?_)); first | done | fail) (by (repeat (first | exact Take.nil | apply Take.cons | exact Sel.here | apply Sel.there)); first | done | fail)
          · repeat (first
              | (refine g_ops ?_; first | refine s_q ?_ | refine s_v ?_ | refine s_s ?_ | refine s_n (fun _ => ?_) | refine s_x ?_ | refine s_y ?_ | ((fail_if_success refine g_lit rfl rfl rfl ?_); first | apply g_partM rfl rfl rfl | apply g_partMB rfl rfl rfl | fail))
              | apply g_regB (id := 1) 31 | apply g_regB (id := 4) 44 | apply g_regB (id := 16) 83 | (apply g_drawB (id := 18) 121 (.take 0 (.take 1 (.take 2 (.take 3 (.take 4 (.take 5 (.take 6 (.take 7 (.take 8 (.take 9 (.take 10 (.take 11 (.take 12 (.take 13 (.take 14 (.take 15 (.take 16 (.take 17 (.take 18 (.take 19 (.take 20 (.take 21 (.take 22 (.take 23 (.take 24 (.take 25 (.take 26 (.take 27 (.take 28 (.take 29 (.take 30 (.take 31 (.take 32 (.take 33 (.take 34 (.take 35 (.take 36 (.take 37 .done)))))))))))))))))))))))))))))))))))))) (by kernel_rfl); intro k hd hk)
              | refine g_seq ?_ | refine g_region ?_ | refine g_nil ?_ | refine g_then_normal ?_ | refine g_block ?_ | refine g_in_normal ?_ | refine g_retc ?_
              | refine g_then_ret ?_ | refine g_in_ret ?_ | refine g_exit ?_ | refine g_then_exit ?_ | refine g_in_exit ?_ | refine g_in_other rfl ?_ | refine g_skip ?_
              | refine g_label ?_ | refine g_cond_true rfl ?_ | refine g_cond_false rfl ?_ | exact s_m | intro _ | (refine gp_take ?_; first | refine p_q ?_ | refine p_f ?_ | refine p_x ?_ | ((fail_if_success refine gp_lit rfl rfl rfl ?_); first | apply gp_guard_dec rfl rfl rfl | apply gp_guard rfl rfl rfl | fail))
              | (refine gp_one ?_; first | refine p_v ?_ | refine p_s ?_ | refine p_n (fun _ => ?_) | refine p_y ?_) | refine gp_done hd hk ?_ | intro _)
            exact g_again (i + 1, c, t) (by simp only []; omega) ⟨hc, hcn, hle, hi'⟩ (by (repeat (first | exact FrSub.nil | refine FrSub.cons rfl ?_)); first | done | fail) (by (repeat (first | exact Take.nil | apply Take.cons | exact Sel.here | apply Sel.there)); first | done | fail)
    · repeat (first
        | (refine g_ops ?_; first | refine s_q ?_ | refine s_v ?_ | refine s_s ?_ | refine s_n (fun _ => ?_) | refine s_x ?_ | refine s_y ?_ | ((fail_if_success refine g_lit rfl rfl rfl ?_); first | apply g_partM rfl rfl rfl | apply g_partMB rfl rfl rfl | fail) | refine s_p (awake) ?_)
        | apply g_regB (id := 1) 31 | apply g_regB (id := 4) 44 | apply g_regB (id := 16) 83 | (apply g_drawB (id := 18) 121 (.take 0 (.take 1 (.take 2 (.take 3 (.take 4 (.take 5 (.take 6 (.take 7 (.take 8 (.take 9 (.take 10 (.take 11 (.take 12 (.take 13 (.take 14 (.take 15 (.take 16 (.take 17 (.take 18 (.take 19 (.take 20 (.take 21 (.take 22 (.take 23 (.take 24 (.take 25 (.take 26 (.take 27 (.take 28 (.take 29 (.take 30 (.take 31 (.take 32 (.take 33 (.take 34 (.take 35 (.take 36 (.take 37 .done)))))))))))))))))))))))))))))))))))))) (by kernel_rfl); intro k hd hk)
        | refine g_seq ?_ | refine g_region ?_ | refine g_nil ?_ | refine g_then_normal ?_ | refine g_block ?_ | refine g_in_normal ?_ | refine g_retc ?_
        | refine g_then_ret ?_ | refine g_in_ret ?_ | refine g_exit ?_ | refine g_then_exit ?_ | refine g_in_exit ?_ | refine g_in_other rfl ?_ | refine g_skip ?_
        | refine g_label ?_ | refine g_cond_true rfl ?_ | refine g_cond_false rfl ?_ | exact s_m | intro _ | (refine gp_take ?_; first | refine p_q ?_ | refine p_f ?_ | refine p_x ?_ | ((fail_if_success refine gp_lit rfl rfl rfl ?_); first | apply gp_guard_dec rfl rfl rfl | apply gp_guard rfl rfl rfl | fail) | refine p_p (awake) ?_)
        | (refine gp_one ?_; first | refine p_v ?_ | refine p_s ?_ | refine p_n (fun _ => ?_) | refine p_y ?_) | refine gp_done hd hk ?_ | intro _)
      exact s_r ()
end Go.Proofs.Ytbgjcgaodchneaa
