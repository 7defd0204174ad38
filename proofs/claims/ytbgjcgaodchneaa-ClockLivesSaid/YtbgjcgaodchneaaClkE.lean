/- The laws of the clock that play a list of steps: the walks. -/
import Derived.Test.YtbgjcgaodchneaaClkR
import Derived.Test.YtbgjcgaodchneaaSlj
set_option linter.unusedSimpArgs false
set_option linter.unusedVariables false
namespace Go.Proofs.Ytbgjcgaodchneaa
open Go.Sl facts
attribute [local irreducible] Code.wp wpList Exit.then Exit.inBlock bodyPost Back MidQ G GP QStep VStep CStep SStep Does Post Reads
attribute [local irreducible] Ck.read Ck.tick Ck.tickS Ck.tickE Ck.merge Ck.mergeE maxS S3.sound soundB
structure St where
  k : Int
  n : Int
  s : S3
abbrev St.cells (x : St) : List Value := [.int .i64 x.k, .int .i64 x.n, .int .i64 x.s.w, .int .i64 x.s.l, .int .i64 x.s.n]
/-- The steps of a list, where they stand. -/
def StepsAt (C : Chunk) (p : Option Addr) (l : List St) : Prop := ∀ (i : Nat) (x : St), l[i]? = some x → ∃ b o, p = some ⟨b, o, none⟩ ∧ ∀ (j : Nat) (v : Value), [Value.int .i64 x.k, Value.int .i64 x.n, Value.int .i64 x.s.w, Value.int .i64 x.s.l, Value.int .i64 x.s.n][j]? = some v → Reads C ⟨b, o + i * 5 + j, none⟩ v
theorem StepsAt.get {C : Chunk} {p : Option Addr} {l : List St} (h : StepsAt C p l) {i : Nat} (hi : i < l.length) : ∃ (x : St) (b o : Nat), l[i]? = some x ∧ p = some ⟨b, o, none⟩ ∧ ∀ (j : Nat) (v : Value), [Value.int .i64 x.k, Value.int .i64 x.n, Value.int .i64 x.s.w, Value.int .i64 x.s.l, Value.int .i64 x.s.n][j]? = some v → Reads C ⟨b, o + i * 5 + j, none⟩ v := by
  obtain ⟨b, o, e, g⟩ := h i l[i] (by simp [hi])
  exact ⟨l[i], b, o, by simp [hi], e, g⟩
set_option maxHeartbeats 4000000 in
theorem plays (W : World) (node floor : Int) (p : Option Addr) (l : List St) (cap : Nat) (hs : StepsAt (Init W) p l) : Does1 Try.prog 6 [int node, int floor, .slice p l.length cap] [Init W] (.bool true) := by
  refine fn_intro Try.func6 rfl Try.ntmps6 rfl (by simp only [argFr, Nat.zero_add, Nat.reduceAdd]; rfl) (fun Γ => ?_)
  repeat (first
    | (refine g_ops ?_; first | refine s_q ?_ | refine s_v ?_ | refine s_s ?_ | refine s_n (fun _ => ?_) | refine s_x ?_ | refine s_y ?_ | ((fail_if_success refine g_lit rfl rfl rfl ?_); first | apply g_partM rfl rfl rfl | apply g_partMB rfl rfl rfl | fail) | refine s_p (awake) ?_)
    | apply g_regB (id := 5) 41 | apply g_regB (id := 19) 91 | refine g_drawS2 (id := 22) 7 9 (.take 0 (.take 1 (.take 2 (.take 3 (.take 4 (.take 5 (.take 7 (.take 8 (.take 9 (.take 10 (.take 11 (.take 12 (.one 6 (.one 13 (.take 14 .done))))))))))))))) (fun k hd hk => ?_)
    | (apply g_drawB (id := 24) 122 (.take 0 (.take 1 (.take 2 (.take 3 (.take 4 (.take 5 (.take 6 (.take 7 (.take 8 (.take 9 (.take 10 (.take 11 (.take 12 (.take 13 .done)))))))))))))) (by kernel_rfl); intro k hd hk)
    | refine g_seq ?_ | refine g_region ?_ | refine g_nil ?_ | refine g_then_normal ?_ | refine g_block ?_ | refine g_in_normal ?_ | refine g_retc ?_ | refine g_then_ret ?_
    | refine g_in_ret ?_ | refine g_exit ?_ | refine g_then_exit ?_ | refine g_in_exit ?_ | refine g_in_other rfl ?_ | refine g_skip ?_ | refine g_label ?_
    | refine g_cond_true rfl ?_ | refine g_cond_false rfl ?_ | exact s_m | intro _ | (refine gp_take ?_; first | refine p_q ?_ | refine p_f ?_ | refine p_x ?_ | ((fail_if_success refine gp_lit rfl rfl rfl ?_); first | apply gp_guard_dec rfl rfl rfl | apply gp_guard rfl rfl rfl | fail) | refine p_p (awake) ?_)
    | (refine gp_one ?_; first | refine p_v ?_ | refine p_s ?_ | refine p_n (fun _ => ?_) | refine p_y ?_) | refine gp_done hd hk ?_ | intro _)
  refine g_cond_dec rfl (fun h => ?_) (fun h => ?_)
  · repeat (first
      | (refine g_ops ?_; first | refine s_q ?_ | refine s_v ?_ | refine s_s ?_ | refine s_n (fun _ => ?_) | refine s_x ?_ | refine s_y ?_ | ((fail_if_success refine g_lit rfl rfl rfl ?_); first | apply g_partM rfl rfl rfl | apply g_partMB rfl rfl rfl | fail) | refine s_p (awake) ?_)
      | apply g_regB (id := 5) 41 | apply g_regB (id := 19) 91 | refine g_drawS2 (id := 22) 7 9 (.take 0 (.take 1 (.take 2 (.take 3 (.take 4 (.take 5 (.take 7 (.take 8 (.take 9 (.take 10 (.take 11 (.take 12 (.one 6 (.one 13 (.take 14 .done))))))))))))))) (fun k hd hk => ?_)
      | (apply g_drawB (id := 24) 122 (.take 0 (.take 1 (.take 2 (.take 3 (.take 4 (.take 5 (.take 6 (.take 7 (.take 8 (.take 9 (.take 10 (.take 11 (.take 12 (.take 13 .done)))))))))))))) (by kernel_rfl); intro k hd hk)
      | refine g_seq ?_ | refine g_region ?_ | refine g_nil ?_ | refine g_then_normal ?_ | refine g_block ?_ | refine g_in_normal ?_ | refine g_retc ?_
      | refine g_then_ret ?_ | refine g_in_ret ?_ | refine g_exit ?_ | refine g_then_exit ?_ | refine g_in_exit ?_ | refine g_in_other rfl ?_ | refine g_skip ?_
      | refine g_label ?_ | refine g_cond_true rfl ?_ | refine g_cond_false rfl ?_ | exact s_m | intro _ | (refine gp_take ?_; first | refine p_q ?_ | refine p_f ?_ | refine p_x ?_ | ((fail_if_success refine gp_lit rfl rfl rfl ?_); first | apply gp_guard_dec rfl rfl rfl | apply gp_guard rfl rfl rfl | fail) | refine p_p (awake) ?_)
      | (refine gp_one ?_; first | refine p_v ?_ | refine p_s ?_ | refine p_n (fun _ => ?_) | refine p_y ?_) | refine gp_done hd hk ?_ | intro _)
    exact s_r ()
  · by_cases hn : newOk node floor
    · repeat (first
        | (refine g_ops ?_; first | refine s_q ?_ | refine s_v ?_ | refine s_s ?_ | refine s_n (fun _ => ?_) | refine s_x ?_ | refine s_y ?_ | ((fail_if_success refine g_lit rfl rfl rfl ?_); first | apply g_partM rfl rfl rfl | apply g_partMB rfl rfl rfl | fail) | refine s_p (awake) ?_ | refine s_c (new_ok _ _ hn) (fun _ _ => ?_) | refine s_c (rnew_ok _ _ hn) (fun _ _ => ?_))
        | apply g_regB (id := 5) 41 | apply g_regB (id := 19) 91 | refine g_drawS2 (id := 22) 7 9 (.take 0 (.take 1 (.take 2 (.take 3 (.take 4 (.take 5 (.take 7 (.take 8 (.take 9 (.take 10 (.take 11 (.take 12 (.one 6 (.one 13 (.take 14 .done))))))))))))))) (fun k hd hk => ?_)
        | (apply g_drawB (id := 24) 122 (.take 0 (.take 1 (.take 2 (.take 3 (.take 4 (.take 5 (.take 6 (.take 7 (.take 8 (.take 9 (.take 10 (.take 11 (.take 12 (.take 13 .done)))))))))))))) (by kernel_rfl); intro k hd hk)
        | refine g_seq ?_ | refine g_region ?_ | refine g_nil ?_ | refine g_then_normal ?_ | refine g_block ?_ | refine g_in_normal ?_ | refine g_retc ?_
        | refine g_then_ret ?_ | refine g_in_ret ?_ | refine g_exit ?_ | refine g_then_exit ?_ | refine g_in_exit ?_ | refine g_in_other rfl ?_ | refine g_skip ?_
        | refine g_label ?_ | refine g_cond_true rfl ?_ | refine g_cond_false rfl ?_ | exact s_m | intro _ | (refine gp_take ?_; first | refine p_q ?_ | refine p_f ?_ | refine p_x ?_ | ((fail_if_success refine gp_lit rfl rfl rfl ?_); first | apply gp_guard_dec rfl rfl rfl | apply gp_guard rfl rfl rfl | fail) | refine p_p (awake) ?_)
        | (refine gp_one ?_; first | refine p_v ?_ | refine p_s ?_ | refine p_n (fun _ => ?_) | refine p_y ?_ | refine p_c (new_ok _ _ hn) (fun _ _ => ?_) | refine p_c (rnew_ok _ _ hn) (fun _ _ => ?_))
        | refine gp_done hd hk ?_ | intro _)
      rename_i b _ b' _
      have hc0 : (Ck.mk 0 floor 0 node).ok := by
        unfold newOk at hn
        exact ⟨⟨hn.1, hn.2.1⟩, ⟨by simp, by simp⟩, ⟨hn.2.2.1, hn.2.2.2⟩, ⟨by simp, by simp⟩⟩
      refine g_loop (X := Nat × Ck) (fun x => [(11, .int .i64 x.1), (9, ptr b'), (7, ptr b), (6, .bool false), (2, .slice p l.length cap)])
        (fun x => [rck b' x.2, clk b x.2, Init W]) (fun x => x.2.ok ∧ x.1 ≤ l.length) (fun x => l.length - x.1) (0, ⟨0, floor, 0, node⟩) ⟨hc0, Nat.zero_le _⟩ (by (repeat (first | exact FrSub.nil | refine FrSub.cons rfl ?_)); first | done | fail) (by (repeat (first | exact Take.nil | apply Take.cons | exact Sel.here | apply Sel.there)); first | done | fail) (fun x hx => ?_)
      obtain ⟨i, c⟩ := x
      obtain ⟨hc, hi⟩ := hx
      have hc : c.ok := hc
      have hi : i ≤ l.length := hi
      repeat (first
        | (refine g_ops ?_; first | refine s_q ?_ | refine s_v ?_ | refine s_s ?_ | refine s_n (fun _ => ?_) | refine s_x ?_ | refine s_y ?_ | ((fail_if_success refine g_lit rfl rfl rfl ?_); first | apply g_partM rfl rfl rfl | apply g_partMB rfl rfl rfl | fail))
        | refine g_seq ?_ | refine g_region ?_ | refine g_nil ?_ | refine g_then_normal ?_ | refine g_block ?_ | refine g_in_normal ?_ | refine g_retc ?_
        | refine g_then_ret ?_ | refine g_in_ret ?_ | refine g_exit ?_ | refine g_then_exit ?_ | refine g_in_exit ?_ | refine g_in_other rfl ?_ | refine g_skip ?_
        | refine g_label ?_ | refine g_cond_true rfl ?_ | refine g_cond_false rfl ?_ | exact s_m | intro _)
      refine g_cond_dec rfl (fun h1 => ?_) (fun h1 => ?_)
      · have hi' : i < l.length := by omega
        obtain ⟨x, lb, lo, hx, rfl, hcell⟩ := hs.get hi'
        repeat (first
          | (refine g_ops ?_; first | refine s_q ?_ | refine s_v ?_ | refine s_s ?_ | refine s_n (fun _ => ?_) | refine s_x ?_ | refine s_y ?_ | ((fail_if_success refine g_lit rfl rfl rfl ?_); first | apply g_partM rfl rfl rfl | apply g_partMB rfl rfl rfl | fail))
          | apply g_regB (id := 5) 41 | apply g_regB (id := 19) 91 | refine g_drawS2 (id := 22) 7 9 (.take 0 (.take 1 (.take 2 (.take 3 (.take 4 (.take 5 (.take 7 (.take 8 (.take 9 (.take 10 (.take 11 (.take 12 (.one 6 (.one 13 (.take 14 .done))))))))))))))) (fun k hd hk => ?_)
          | (apply g_drawB (id := 24) 122 (.take 0 (.take 1 (.take 2 (.take 3 (.take 4 (.take 5 (.take 6 (.take 7 (.take 8 (.take 9 (.take 10 (.take 11 (.take 12 (.take 13 .done)))))))))))))) (by kernel_rfl); intro k hd hk)
          | refine g_seq ?_ | refine g_region ?_ | refine g_nil ?_ | refine g_then_normal ?_ | refine g_block ?_ | refine g_in_normal ?_ | refine g_retc ?_
          | refine g_then_ret ?_ | refine g_in_ret ?_ | refine g_exit ?_ | refine g_then_exit ?_ | refine g_in_exit ?_ | refine g_in_other rfl ?_ | refine g_skip ?_
          | refine g_label ?_ | refine g_cond_true rfl ?_ | refine g_cond_false rfl ?_ | exact s_m | intro _ | (refine gp_take ?_; first | refine p_q ?_ | refine p_f ?_ | refine p_x ?_ | ((fail_if_success refine gp_lit rfl rfl rfl ?_); first | apply gp_guard_dec rfl rfl rfl | apply gp_guard rfl rfl rfl | fail))
          | (refine gp_one ?_; first | refine p_v ?_ | refine p_s ?_ | refine p_n (fun _ => ?_) | refine p_y ?_) | refine gp_done hd hk ?_ | intro _)
        refine g_cond_dec rfl (fun h2 => ?_) (fun h2 => ?_)
        · have hc' := ok_read hc x.n
          repeat (first
            | (refine g_ops ?_; first | refine s_q ?_ | refine s_v ?_ | refine s_s ?_ | refine s_n (fun _ => ?_) | refine s_x ?_ | refine s_y ?_ | ((fail_if_success refine g_lit rfl rfl rfl ?_); first | apply g_partM rfl rfl rfl | apply g_partMB rfl rfl rfl | fail) | refine s_k (now _ _ hc'.ne) ?_ | refine s_k (rnow _ _) ?_ | refine s_k (reading _ _ hc'.ne) ?_ | refine s_c (read _ c _ hc.ne) (fun _ _ => ?_) | refine s_c (rread _ c _) (fun _ _ => ?_))
            | apply g_regB (id := 5) 41 | apply g_regB (id := 19) 91 | refine g_drawS2 (id := 22) 7 9 (.take 0 (.take 1 (.take 2 (.take 3 (.take 4 (.take 5 (.take 7 (.take 8 (.take 9 (.take 10 (.take 11 (.take 12 (.one 6 (.one 13 (.take 14 .done))))))))))))))) (fun k hd hk => ?_)
            | (apply g_drawB (id := 24) 122 (.take 0 (.take 1 (.take 2 (.take 3 (.take 4 (.take 5 (.take 6 (.take 7 (.take 8 (.take 9 (.take 10 (.take 11 (.take 12 (.take 13 .done)))))))))))))) (by kernel_rfl); intro k hd hk)
            | refine g_seq ?_ | refine g_region ?_ | refine g_nil ?_ | refine g_then_normal ?_ | refine g_block ?_ | refine g_in_normal ?_ | refine g_retc ?_
            | refine g_then_ret ?_ | refine g_in_ret ?_ | refine g_exit ?_ | refine g_then_exit ?_ | refine g_in_exit ?_ | refine g_in_other rfl ?_ | refine g_skip ?_
            | refine g_label ?_ | refine g_cond_true rfl ?_ | refine g_cond_false rfl ?_ | exact s_m | intro _ | (refine gp_take ?_; first | refine p_q ?_ | refine p_f ?_ | refine p_x ?_ | ((fail_if_success refine gp_lit rfl rfl rfl ?_); first | apply gp_guard_dec rfl rfl rfl | apply gp_guard rfl rfl rfl | fail) | refine p_h (now _ _ hc'.ne) hd hk ?_ | refine p_h (rnow _ _) hd hk ?_ | refine p_h (reading _ _ hc'.ne) hd hk ?_)
            | (refine gp_one ?_; first | refine p_v ?_ | refine p_s ?_ | refine p_n (fun _ => ?_) | refine p_y ?_ | refine p_k (now _ _ hc'.ne) ?_ | refine p_k (rnow _ _) ?_ | refine p_k (reading _ _ hc'.ne) ?_ | refine p_c (read _ c _ hc.ne) (fun _ _ => ?_) | refine p_c (rread _ c _) (fun _ _ => ?_))
            | refine gp_done hd hk ?_ | intro _)
          refine g_cond rfl (fun h => by simp at h) (fun _ => ?_)
          repeat (first
            | (refine g_ops ?_; first | refine s_q ?_ | refine s_v ?_ | refine s_s ?_ | refine s_n (fun _ => ?_) | refine s_x ?_ | refine s_y ?_ | ((fail_if_success refine g_lit rfl rfl rfl ?_); first | apply g_partM rfl rfl rfl | apply g_partMB rfl rfl rfl | fail))
            | refine g_seq ?_ | refine g_region ?_ | refine g_nil ?_ | refine g_then_normal ?_ | refine g_block ?_ | refine g_in_normal ?_ | refine g_retc ?_
            | refine g_then_ret ?_ | refine g_in_ret ?_ | refine g_exit ?_ | refine g_then_exit ?_ | refine g_in_exit ?_ | refine g_in_other rfl ?_ | refine g_skip ?_
            | refine g_label ?_ | refine g_cond_true rfl ?_ | refine g_cond_false rfl ?_ | exact s_m | intro _)
          exact g_again (i + 1, c.read x.n) (by simp only []; omega) ⟨hc', hi'⟩ (by (repeat (first | exact FrSub.nil | refine FrSub.cons rfl ?_)); first | done | fail) (by (repeat (first | exact Take.nil | apply Take.cons | exact Sel.here | apply Sel.there)); first | done | fail)
        · repeat (first
            | (refine g_ops ?_; first | refine s_q ?_ | refine s_v ?_ | refine s_s ?_ | refine s_n (fun _ => ?_) | refine s_x ?_ | refine s_y ?_ | ((fail_if_success refine g_lit rfl rfl rfl ?_); first | apply g_partM rfl rfl rfl | apply g_partMB rfl rfl rfl | fail))
            | apply g_regB (id := 5) 41 | apply g_regB (id := 19) 91 | refine g_drawS2 (id := 22) 7 9 (.take 0 (.take 1 (.take 2 (.take 3 (.take 4 (.take 5 (.take 7 (.take 8 (.take 9 (.take 10 (.take 11 (.take 12 (.one 6 (.one 13 (.take 14 .done))))))))))))))) (fun k hd hk => ?_)
            | (apply g_drawB (id := 24) 122 (.take 0 (.take 1 (.take 2 (.take 3 (.take 4 (.take 5 (.take 6 (.take 7 (.take 8 (.take 9 (.take 10 (.take 11 (.take 12 (.take 13 .done)))))))))))))) (by kernel_rfl); intro k hd hk)
            | refine g_seq ?_ | refine g_region ?_ | refine g_nil ?_ | refine g_then_normal ?_ | refine g_block ?_ | refine g_in_normal ?_ | refine g_retc ?_
            | refine g_then_ret ?_ | refine g_in_ret ?_ | refine g_exit ?_ | refine g_then_exit ?_ | refine g_in_exit ?_ | refine g_in_other rfl ?_ | refine g_skip ?_
            | refine g_label ?_ | refine g_cond_true rfl ?_ | refine g_cond_false rfl ?_ | exact s_m | intro _ | (refine gp_take ?_; first | refine p_q ?_ | refine p_f ?_ | refine p_x ?_ | ((fail_if_success refine gp_lit rfl rfl rfl ?_); first | apply gp_guard_dec rfl rfl rfl | apply gp_guard rfl rfl rfl | fail))
            | (refine gp_one ?_; first | refine p_v ?_ | refine p_s ?_ | refine p_n (fun _ => ?_) | refine p_y ?_) | refine gp_done hd hk ?_ | intro _)
          refine g_cond_dec rfl (fun h3 => ?_) (fun h3 => ?_)
          · have hc' := ok_tick hc
            repeat (first
              | (refine g_ops ?_; first | refine s_q ?_ | refine s_v ?_ | refine s_s ?_ | refine s_n (fun _ => ?_) | refine s_x ?_ | refine s_y ?_ | ((fail_if_success refine g_lit rfl rfl rfl ?_); first | apply g_partM rfl rfl rfl | apply g_partMB rfl rfl rfl | fail) | refine s_c (tick _ c hc.ne hc.lt) (fun _ _ => ?_) | refine s_c (rtick _ c hc) (fun _ _ => ?_))
              | apply g_regB (id := 5) 41 | apply g_regB (id := 19) 91 | refine g_drawS2 (id := 22) 7 9 (.take 0 (.take 1 (.take 2 (.take 3 (.take 4 (.take 5 (.take 7 (.take 8 (.take 9 (.take 10 (.take 11 (.take 12 (.one 6 (.one 13 (.take 14 .done))))))))))))))) (fun k hd hk => ?_)
              | (apply g_drawB (id := 24) 122 (.take 0 (.take 1 (.take 2 (.take 3 (.take 4 (.take 5 (.take 6 (.take 7 (.take 8 (.take 9 (.take 10 (.take 11 (.take 12 (.take 13 .done)))))))))))))) (by kernel_rfl); intro k hd hk)
              | refine g_seq ?_ | refine g_region ?_ | refine g_nil ?_ | refine g_then_normal ?_ | refine g_block ?_ | refine g_in_normal ?_ | refine g_retc ?_
              | refine g_then_ret ?_ | refine g_in_ret ?_ | refine g_exit ?_ | refine g_then_exit ?_ | refine g_in_exit ?_ | refine g_in_other rfl ?_ | refine g_skip ?_
              | refine g_label ?_ | refine g_cond_true rfl ?_ | refine g_cond_false rfl ?_ | exact s_m | intro _ | (refine gp_take ?_; first | refine p_q ?_ | refine p_f ?_ | refine p_x ?_ | ((fail_if_success refine gp_lit rfl rfl rfl ?_); first | apply gp_guard_dec rfl rfl rfl | apply gp_guard rfl rfl rfl | fail))
              | (refine gp_one ?_; first | refine p_v ?_ | refine p_s ?_ | refine p_n (fun _ => ?_) | refine p_y ?_ | refine p_c (tick _ c hc.ne hc.lt) (fun _ _ => ?_) | refine p_c (rtick _ c hc) (fun _ _ => ?_))
              | refine gp_done hd hk ?_ | intro _)
            refine g_cond rfl (fun h => by simp at h) (fun _ => ?_)
            repeat (first
              | (refine g_ops ?_; first | refine s_q ?_ | refine s_v ?_ | refine s_s ?_ | refine s_n (fun _ => ?_) | refine s_x ?_ | refine s_y ?_ | ((fail_if_success refine g_lit rfl rfl rfl ?_); first | apply g_partM rfl rfl rfl | apply g_partMB rfl rfl rfl | fail) | refine s_k (now _ _ hc'.ne) ?_ | refine s_k (rnow _ _) ?_ | refine s_k (reading _ _ hc'.ne) ?_)
              | apply g_regB (id := 5) 41 | apply g_regB (id := 19) 91 | refine g_drawS2 (id := 22) 7 9 (.take 0 (.take 1 (.take 2 (.take 3 (.take 4 (.take 5 (.take 7 (.take 8 (.take 9 (.take 10 (.take 11 (.take 12 (.one 6 (.one 13 (.take 14 .done))))))))))))))) (fun k hd hk => ?_)
              | (apply g_drawB (id := 24) 122 (.take 0 (.take 1 (.take 2 (.take 3 (.take 4 (.take 5 (.take 6 (.take 7 (.take 8 (.take 9 (.take 10 (.take 11 (.take 12 (.take 13 .done)))))))))))))) (by kernel_rfl); intro k hd hk)
              | refine g_seq ?_ | refine g_region ?_ | refine g_nil ?_ | refine g_then_normal ?_ | refine g_block ?_ | refine g_in_normal ?_ | refine g_retc ?_
              | refine g_then_ret ?_ | refine g_in_ret ?_ | refine g_exit ?_ | refine g_then_exit ?_ | refine g_in_exit ?_ | refine g_in_other rfl ?_ | refine g_skip ?_
              | refine g_label ?_ | refine g_cond_true rfl ?_ | refine g_cond_false rfl ?_ | exact s_m | intro _ | (refine gp_take ?_; first | refine p_q ?_ | refine p_f ?_ | refine p_x ?_ | ((fail_if_success refine gp_lit rfl rfl rfl ?_); first | apply gp_guard_dec rfl rfl rfl | apply gp_guard rfl rfl rfl | fail) | refine p_h (now _ _ hc'.ne) hd hk ?_ | refine p_h (rnow _ _) hd hk ?_ | refine p_h (reading _ _ hc'.ne) hd hk ?_)
              | (refine gp_one ?_; first | refine p_v ?_ | refine p_s ?_ | refine p_n (fun _ => ?_) | refine p_y ?_ | refine p_k (now _ _ hc'.ne) ?_ | refine p_k (rnow _ _) ?_ | refine p_k (reading _ _ hc'.ne) ?_)
              | refine gp_done hd hk ?_ | intro _)
            refine g_cond rfl (fun h => by simp at h) (fun _ => ?_)
            repeat (first
              | (refine g_ops ?_; first | refine s_q ?_ | refine s_v ?_ | refine s_s ?_ | refine s_n (fun _ => ?_) | refine s_x ?_ | refine s_y ?_ | ((fail_if_success refine g_lit rfl rfl rfl ?_); first | apply g_partM rfl rfl rfl | apply g_partMB rfl rfl rfl | fail))
              | refine g_seq ?_ | refine g_region ?_ | refine g_nil ?_ | refine g_then_normal ?_ | refine g_block ?_ | refine g_in_normal ?_ | refine g_retc ?_
              | refine g_then_ret ?_ | refine g_in_ret ?_ | refine g_exit ?_ | refine g_then_exit ?_ | refine g_in_exit ?_ | refine g_in_other rfl ?_ | refine g_skip ?_
              | refine g_label ?_ | refine g_cond_true rfl ?_ | refine g_cond_false rfl ?_ | exact s_m | intro _)
            exact g_again (i + 1, c.tick) (by simp only []; omega) ⟨hc', hi'⟩ (by (repeat (first | exact FrSub.nil | refine FrSub.cons rfl ?_)); first | done | fail) (by (repeat (first | exact Take.nil | apply Take.cons | exact Sel.here | apply Sel.there)); first | done | fail)
          · repeat (first
              | (refine g_ops ?_; first | refine s_q ?_ | refine s_v ?_ | refine s_s ?_ | refine s_n (fun _ => ?_) | refine s_x ?_ | refine s_y ?_ | ((fail_if_success refine g_lit rfl rfl rfl ?_); first | apply g_partM rfl rfl rfl | apply g_partMB rfl rfl rfl | fail))
              | apply g_regB (id := 5) 41 | apply g_regB (id := 19) 91 | refine g_drawS2 (id := 22) 7 9 (.take 0 (.take 1 (.take 2 (.take 3 (.take 4 (.take 5 (.take 7 (.take 8 (.take 9 (.take 10 (.take 11 (.take 12 (.one 6 (.one 13 (.take 14 .done))))))))))))))) (fun k hd hk => ?_)
              | (apply g_drawB (id := 24) 122 (.take 0 (.take 1 (.take 2 (.take 3 (.take 4 (.take 5 (.take 6 (.take 7 (.take 8 (.take 9 (.take 10 (.take 11 (.take 12 (.take 13 .done)))))))))))))) (by kernel_rfl); intro k hd hk)
              | refine g_seq ?_ | refine g_region ?_ | refine g_nil ?_ | refine g_then_normal ?_ | refine g_block ?_ | refine g_in_normal ?_ | refine g_retc ?_
              | refine g_then_ret ?_ | refine g_in_ret ?_ | refine g_exit ?_ | refine g_then_exit ?_ | refine g_in_exit ?_ | refine g_in_other rfl ?_ | refine g_skip ?_
              | refine g_label ?_ | refine g_cond_true rfl ?_ | refine g_cond_false rfl ?_ | exact s_m | intro _ | (refine gp_take ?_; first | refine p_q ?_ | refine p_f ?_ | refine p_x ?_ | ((fail_if_success refine gp_lit rfl rfl rfl ?_); first | apply gp_guard_dec rfl rfl rfl | apply gp_guard rfl rfl rfl | fail))
              | (refine gp_one ?_; first | refine p_v ?_ | refine p_s ?_ | refine p_n (fun _ => ?_) | refine p_y ?_) | refine gp_done hd hk ?_ | intro _)
            refine g_cond_dec rfl (fun h4 => ?_) (fun h4 => ?_)
            · have hc' := ok_merge hc x.s
              repeat (first
                | (refine g_ops ?_; first | refine s_q ?_ | refine s_v ?_ | refine s_s ?_ | refine s_n (fun _ => ?_) | refine s_x ?_ | refine s_y ?_ | ((fail_if_success refine g_lit rfl rfl rfl ?_); first | apply g_partM rfl rfl rfl | apply g_partMB rfl rfl rfl | fail) | refine s_c (merge _ c x.s hc.ne hc.r) (fun _ _ => ?_) | refine s_c (rmerge _ c x.s hc) (fun _ _ => ?_))
                | apply g_regB (id := 5) 41 | apply g_regB (id := 19) 91 | refine g_drawS2 (id := 22) 7 9 (.take 0 (.take 1 (.take 2 (.take 3 (.take 4 (.take 5 (.take 7 (.take 8 (.take 9 (.take 10 (.take 11 (.take 12 (.one 6 (.one 13 (.take 14 .done))))))))))))))) (fun k hd hk => ?_)
                | (apply g_drawB (id := 24) 122 (.take 0 (.take 1 (.take 2 (.take 3 (.take 4 (.take 5 (.take 6 (.take 7 (.take 8 (.take 9 (.take 10 (.take 11 (.take 12 (.take 13 .done)))))))))))))) (by kernel_rfl); intro k hd hk)
                | refine g_seq ?_ | refine g_region ?_ | refine g_nil ?_ | refine g_then_normal ?_ | refine g_block ?_ | refine g_in_normal ?_ | refine g_retc ?_
                | refine g_then_ret ?_ | refine g_in_ret ?_ | refine g_exit ?_ | refine g_then_exit ?_ | refine g_in_exit ?_ | refine g_in_other rfl ?_
                | refine g_skip ?_ | refine g_label ?_ | refine g_cond_true rfl ?_ | refine g_cond_false rfl ?_ | exact s_m | intro _ | (refine gp_take ?_; first | refine p_q ?_ | refine p_f ?_ | refine p_x ?_ | ((fail_if_success refine gp_lit rfl rfl rfl ?_); first | apply gp_guard_dec rfl rfl rfl | apply gp_guard rfl rfl rfl | fail))
                | (refine gp_one ?_; first | refine p_v ?_ | refine p_s ?_ | refine p_n (fun _ => ?_) | refine p_y ?_ | refine p_c (merge _ c x.s hc.ne hc.r) (fun _ _ => ?_) | refine p_c (rmerge _ c x.s hc) (fun _ _ => ?_))
                | refine gp_done hd hk ?_ | intro _)
              refine g_cond rfl (fun h => by simp at h) (fun _ => ?_)
              repeat (first
                | (refine g_ops ?_; first | refine s_q ?_ | refine s_v ?_ | refine s_s ?_ | refine s_n (fun _ => ?_) | refine s_x ?_ | refine s_y ?_ | ((fail_if_success refine g_lit rfl rfl rfl ?_); first | apply g_partM rfl rfl rfl | apply g_partMB rfl rfl rfl | fail) | refine s_k (now _ _ hc'.ne) ?_ | refine s_k (rnow _ _) ?_ | refine s_k (reading _ _ hc'.ne) ?_)
                | apply g_regB (id := 5) 41 | apply g_regB (id := 19) 91 | refine g_drawS2 (id := 22) 7 9 (.take 0 (.take 1 (.take 2 (.take 3 (.take 4 (.take 5 (.take 7 (.take 8 (.take 9 (.take 10 (.take 11 (.take 12 (.one 6 (.one 13 (.take 14 .done))))))))))))))) (fun k hd hk => ?_)
                | (apply g_drawB (id := 24) 122 (.take 0 (.take 1 (.take 2 (.take 3 (.take 4 (.take 5 (.take 6 (.take 7 (.take 8 (.take 9 (.take 10 (.take 11 (.take 12 (.take 13 .done)))))))))))))) (by kernel_rfl); intro k hd hk)
                | refine g_seq ?_ | refine g_region ?_ | refine g_nil ?_ | refine g_then_normal ?_ | refine g_block ?_ | refine g_in_normal ?_ | refine g_retc ?_
                | refine g_then_ret ?_ | refine g_in_ret ?_ | refine g_exit ?_ | refine g_then_exit ?_ | refine g_in_exit ?_ | refine g_in_other rfl ?_
                | refine g_skip ?_ | refine g_label ?_ | refine g_cond_true rfl ?_ | refine g_cond_false rfl ?_ | exact s_m | intro _ | (refine gp_take ?_; first | refine p_q ?_ | refine p_f ?_ | refine p_x ?_ | ((fail_if_success refine gp_lit rfl rfl rfl ?_); first | apply gp_guard_dec rfl rfl rfl | apply gp_guard rfl rfl rfl | fail) | refine p_h (now _ _ hc'.ne) hd hk ?_ | refine p_h (rnow _ _) hd hk ?_ | refine p_h (reading _ _ hc'.ne) hd hk ?_)
                | (refine gp_one ?_; first | refine p_v ?_ | refine p_s ?_ | refine p_n (fun _ => ?_) | refine p_y ?_ | refine p_k (now _ _ hc'.ne) ?_ | refine p_k (rnow _ _) ?_ | refine p_k (reading _ _ hc'.ne) ?_)
                | refine gp_done hd hk ?_ | intro _)
              refine g_cond rfl (fun h => by simp at h) (fun _ => ?_)
              repeat (first
                | (refine g_ops ?_; first | refine s_q ?_ | refine s_v ?_ | refine s_s ?_ | refine s_n (fun _ => ?_) | refine s_x ?_ | refine s_y ?_ | ((fail_if_success refine g_lit rfl rfl rfl ?_); first | apply g_partM rfl rfl rfl | apply g_partMB rfl rfl rfl | fail))
                | refine g_seq ?_ | refine g_region ?_ | refine g_nil ?_ | refine g_then_normal ?_ | refine g_block ?_ | refine g_in_normal ?_ | refine g_retc ?_
                | refine g_then_ret ?_ | refine g_in_ret ?_ | refine g_exit ?_ | refine g_then_exit ?_ | refine g_in_exit ?_ | refine g_in_other rfl ?_
                | refine g_skip ?_ | refine g_label ?_ | refine g_cond_true rfl ?_ | refine g_cond_false rfl ?_ | exact s_m | intro _)
              exact g_again (i + 1, c.merge x.s) (by simp only []; omega) ⟨hc', hi'⟩ (by (repeat (first | exact FrSub.nil | refine FrSub.cons rfl ?_)); first | done | fail) (by (repeat (first | exact Take.nil | apply Take.cons | exact Sel.here | apply Sel.there)); first | done | fail)
            · repeat (first
                | (refine g_ops ?_; first | refine s_q ?_ | refine s_v ?_ | refine s_s ?_ | refine s_n (fun _ => ?_) | refine s_x ?_ | refine s_y ?_ | ((fail_if_success refine g_lit rfl rfl rfl ?_); first | apply g_partM rfl rfl rfl | apply g_partMB rfl rfl rfl | fail) | refine s_k (now _ _ hc.ne) ?_ | refine s_k (rnow _ _) ?_ | refine s_k (reading _ _ hc.ne) ?_)
                | apply g_regB (id := 5) 41 | apply g_regB (id := 19) 91 | refine g_drawS2 (id := 22) 7 9 (.take 0 (.take 1 (.take 2 (.take 3 (.take 4 (.take 5 (.take 7 (.take 8 (.take 9 (.take 10 (.take 11 (.take 12 (.one 6 (.one 13 (.take 14 .done))))))))))))))) (fun k hd hk => ?_)
                | (apply g_drawB (id := 24) 122 (.take 0 (.take 1 (.take 2 (.take 3 (.take 4 (.take 5 (.take 6 (.take 7 (.take 8 (.take 9 (.take 10 (.take 11 (.take 12 (.take 13 .done)))))))))))))) (by kernel_rfl); intro k hd hk)
                | refine g_seq ?_ | refine g_region ?_ | refine g_nil ?_ | refine g_then_normal ?_ | refine g_block ?_ | refine g_in_normal ?_ | refine g_retc ?_
                | refine g_then_ret ?_ | refine g_in_ret ?_ | refine g_exit ?_ | refine g_then_exit ?_ | refine g_in_exit ?_ | refine g_in_other rfl ?_
                | refine g_skip ?_ | refine g_label ?_ | refine g_cond_true rfl ?_ | refine g_cond_false rfl ?_ | exact s_m | intro _ | (refine gp_take ?_; first | refine p_q ?_ | refine p_f ?_ | refine p_x ?_ | ((fail_if_success refine gp_lit rfl rfl rfl ?_); first | apply gp_guard_dec rfl rfl rfl | apply gp_guard rfl rfl rfl | fail) | refine p_h (now _ _ hc.ne) hd hk ?_ | refine p_h (rnow _ _) hd hk ?_ | refine p_h (reading _ _ hc.ne) hd hk ?_)
                | (refine gp_one ?_; first | refine p_v ?_ | refine p_s ?_ | refine p_n (fun _ => ?_) | refine p_y ?_ | refine p_k (now _ _ hc.ne) ?_ | refine p_k (rnow _ _) ?_ | refine p_k (reading _ _ hc.ne) ?_)
                | refine gp_done hd hk ?_ | intro _)
              refine g_cond rfl (fun h => by simp at h) (fun _ => ?_)
              repeat (first
                | (refine g_ops ?_; first | refine s_q ?_ | refine s_v ?_ | refine s_s ?_ | refine s_n (fun _ => ?_) | refine s_x ?_ | refine s_y ?_ | ((fail_if_success refine g_lit rfl rfl rfl ?_); first | apply g_partM rfl rfl rfl | apply g_partMB rfl rfl rfl | fail))
                | refine g_seq ?_ | refine g_region ?_ | refine g_nil ?_ | refine g_then_normal ?_ | refine g_block ?_ | refine g_in_normal ?_ | refine g_retc ?_
                | refine g_then_ret ?_ | refine g_in_ret ?_ | refine g_exit ?_ | refine g_then_exit ?_ | refine g_in_exit ?_ | refine g_in_other rfl ?_
                | refine g_skip ?_ | refine g_label ?_ | refine g_cond_true rfl ?_ | refine g_cond_false rfl ?_ | exact s_m | intro _)
              exact g_again (i + 1, c) (by simp only []; omega) ⟨hc, hi'⟩ (by (repeat (first | exact FrSub.nil | refine FrSub.cons rfl ?_)); first | done | fail) (by (repeat (first | exact Take.nil | apply Take.cons | exact Sel.here | apply Sel.there)); first | done | fail)
      · repeat (first
          | (refine g_ops ?_; first | refine s_q ?_ | refine s_v ?_ | refine s_s ?_ | refine s_n (fun _ => ?_) | refine s_x ?_ | refine s_y ?_ | ((fail_if_success refine g_lit rfl rfl rfl ?_); first | apply g_partM rfl rfl rfl | apply g_partMB rfl rfl rfl | fail) | refine s_p (awake) ?_)
          | apply g_regB (id := 5) 41 | apply g_regB (id := 19) 91 | refine g_drawS2 (id := 22) 7 9 (.take 0 (.take 1 (.take 2 (.take 3 (.take 4 (.take 5 (.take 7 (.take 8 (.take 9 (.take 10 (.take 11 (.take 12 (.one 6 (.one 13 (.take 14 .done))))))))))))))) (fun k hd hk => ?_)
          | (apply g_drawB (id := 24) 122 (.take 0 (.take 1 (.take 2 (.take 3 (.take 4 (.take 5 (.take 6 (.take 7 (.take 8 (.take 9 (.take 10 (.take 11 (.take 12 (.take 13 .done)))))))))))))) (by kernel_rfl); intro k hd hk)
          | refine g_seq ?_ | refine g_region ?_ | refine g_nil ?_ | refine g_then_normal ?_ | refine g_block ?_ | refine g_in_normal ?_ | refine g_retc ?_
          | refine g_then_ret ?_ | refine g_in_ret ?_ | refine g_exit ?_ | refine g_then_exit ?_ | refine g_in_exit ?_ | refine g_in_other rfl ?_ | refine g_skip ?_
          | refine g_label ?_ | refine g_cond_true rfl ?_ | refine g_cond_false rfl ?_ | exact s_m | intro _ | (refine gp_take ?_; first | refine p_q ?_ | refine p_f ?_ | refine p_x ?_ | ((fail_if_success refine gp_lit rfl rfl rfl ?_); first | apply gp_guard_dec rfl rfl rfl | apply gp_guard rfl rfl rfl | fail) | refine p_p (awake) ?_)
          | (refine gp_one ?_; first | refine p_v ?_ | refine p_s ?_ | refine p_n (fun _ => ?_) | refine p_y ?_) | refine gp_done hd hk ?_ | intro _)
        exact s_r ()
    · repeat (first
        | (refine g_ops ?_; first | refine s_q ?_ | refine s_v ?_ | refine s_s ?_ | refine s_n (fun _ => ?_) | refine s_x ?_ | refine s_y ?_ | ((fail_if_success refine g_lit rfl rfl rfl ?_); first | apply g_partM rfl rfl rfl | apply g_partMB rfl rfl rfl | fail) | refine s_p (awake) ?_ | refine s_p (new_no _ _ hn) ?_ | refine s_p (rnew_no _ _ hn) ?_)
        | apply g_regB (id := 5) 41 | apply g_regB (id := 19) 91 | refine g_drawS2 (id := 22) 7 9 (.take 0 (.take 1 (.take 2 (.take 3 (.take 4 (.take 5 (.take 7 (.take 8 (.take 9 (.take 10 (.take 11 (.take 12 (.one 6 (.one 13 (.take 14 .done))))))))))))))) (fun k hd hk => ?_)
        | (apply g_drawB (id := 24) 122 (.take 0 (.take 1 (.take 2 (.take 3 (.take 4 (.take 5 (.take 6 (.take 7 (.take 8 (.take 9 (.take 10 (.take 11 (.take 12 (.take 13 .done)))))))))))))) (by kernel_rfl); intro k hd hk)
        | refine g_seq ?_ | refine g_region ?_ | refine g_nil ?_ | refine g_then_normal ?_ | refine g_block ?_ | refine g_in_normal ?_ | refine g_retc ?_
        | refine g_then_ret ?_ | refine g_in_ret ?_ | refine g_exit ?_ | refine g_then_exit ?_ | refine g_in_exit ?_ | refine g_in_other rfl ?_ | refine g_skip ?_
        | refine g_label ?_ | refine g_cond_true rfl ?_ | refine g_cond_false rfl ?_ | exact s_m | intro _ | (refine gp_take ?_; first | refine p_q ?_ | refine p_f ?_ | refine p_x ?_ | ((fail_if_success refine gp_lit rfl rfl rfl ?_); first | apply gp_guard_dec rfl rfl rfl | apply gp_guard rfl rfl rfl | fail) | refine p_p (awake) ?_ | refine p_p (new_no _ _ hn) ?_ | refine p_p (rnew_no _ _ hn) ?_)
        | (refine gp_one ?_; first | refine p_v ?_ | refine p_s ?_ | refine p_n (fun _ => ?_) | refine p_y ?_) | refine gp_done hd hk ?_ | intro _)
      exact s_r ()
end Go.Proofs.Ytbgjcgaodchneaa
