/- Contracts: the document's own bytes of a stamp; reading a number off bytes. -/
import Derived.Test.YtfgdpnmcpafkeaaDoorStmW
set_option linter.unusedSimpArgs false
set_option linter.unusedVariables false
namespace Go.Proofs.YtfgdpnmcpafkeaaDoor
open Go.Sl facts
attribute [local irreducible] Code.wp wpList Exit.then Exit.inBlock bodyPost Back MidQ G GP QStep VStep CStep SStep Does Post Reads
theorem rnum (q : Option Addr) (c : Nat) (bs : List UInt8) (n : Int) (h0 : 0 ≤ n) (h1 : n ≤ 1125899906842624) (hb : bs.length ≤ 1000) :
    Does Tryd.prog 44 [.slice q bs.length c, .int .i64 n] [.own q bs.length c 1 (cells8 bs) 5] (X := OA) (fun x => .slice x.1 (bs ++ vb n.toNat).length x.2) (fun x => [.own x.1 (bs ++ vb n.toNat).length x.2 1 (cells8 (bs ++ vb n.toNat)) 5]) (fun _ => True) := by
  have hv8 := vb_len8 n.toNat (by omega)
  refine fn_intro Tryd.func44 rfl Tryd.ntmps44 rfl (by simp only [argFr, Nat.zero_add, Nat.reduceAdd]; rfl) (fun Γ => ?_)
  repeat (first
    | (refine g_ops ?_; first | refine s_q ?_ | refine s_v ?_ | refine s_s ?_ | refine s_n (fun _ => ?_) | refine s_x ?_ | refine s_y ?_ | refine s_mq ?_ | refine s_app (fun _ _ => ?_) | refine s_mv ?_ | refine s_ms ?_ | refine s_b0 (fun _ => ?_) | ((fail_if_success refine g_lit rfl rfl rfl ?_); first | apply g_partM rfl rfl rfl | apply g_partMB rfl rfl rfl | fail))
    | refine g_seq ?_ | refine g_region ?_ | refine g_nil ?_ | refine g_then_normal ?_ | refine g_block ?_ | refine g_in_normal ?_ | refine g_retc ?_ | refine g_then_ret ?_
    | refine g_in_ret ?_ | refine g_exit ?_ | refine g_then_exit ?_ | refine g_in_exit ?_ | refine g_in_other rfl ?_ | refine g_skip ?_ | refine g_label ?_
    | refine g_cond_true rfl ?_ | refine g_cond_false rfl ?_ | exact s_m | intro _)
  refine s_q (q := by exact qs_convInt rfl) ?_
  refine g_as 7 (v' := .int .u64 ((n.toNat : Nat) : Int)) rfl (congrArg (Value.int .u64) (by rw [u64_mod]; omega)) ?_
  repeat (first
    | (refine g_ops ?_; first | refine s_q ?_ | refine s_v ?_ | refine s_s ?_ | refine s_n (fun _ => ?_) | refine s_x ?_ | refine s_y ?_ | refine s_mq ?_ | refine s_app (fun _ _ => ?_) | refine s_mv ?_ | refine s_ms ?_ | refine s_b0 (fun _ => ?_) | ((fail_if_success refine g_lit rfl rfl rfl ?_); first | apply g_partM rfl rfl rfl | apply g_partMB rfl rfl rfl | fail) | refine s_c (rvarint n.toNat (by omega)) (fun _ _ => ?_))
    | refine g_seq ?_ | refine g_region ?_ | refine g_nil ?_ | refine g_then_normal ?_ | refine g_block ?_ | refine g_in_normal ?_ | refine g_retc ?_ | refine g_then_ret ?_
    | refine g_in_ret ?_ | refine g_exit ?_ | refine g_then_exit ?_ | refine g_in_exit ?_ | refine g_in_other rfl ?_ | refine g_skip ?_ | refine g_label ?_
    | refine g_cond_true rfl ?_ | refine g_cond_false rfl ?_ | exact s_m | intro _ | (refine gp_take ?_; first | refine p_q ?_ | refine p_x ?_ | refine p_mq ?_ | ((fail_if_success refine gp_lit rfl rfl rfl rfl ?_); first | apply gp_guard_dec rfl rfl rfl rfl | apply gp_guard rfl rfl rfl rfl | fail))
    | (refine gp_see ?_; first | refine p_f ?_ | refine p_sx ?_ | ((fail_if_success refine gp_lit rfl rfl rfl rfl ?_); first | apply gp_guard_dec rfl rfl rfl rfl | apply gp_guard rfl rfl rfl rfl | fail) | refine p_sq ?_)
    | (refine gp_one ?_; first | refine p_v ?_ | refine p_s ?_ | refine p_n (fun _ => ?_) | refine p_y ?_ | refine p_app (fun _ _ => ?_) | refine p_mv ?_ | refine p_ms ?_ | refine p_b0 (fun _ => ?_) | ((fail_if_success refine gp_lit rfl rfl rfl rfl ?_); first | apply gp_guard_dec rfl rfl rfl rfl | apply gp_guard rfl rfl rfl rfl | fail) | refine p_c (rvarint n.toNat (by omega)) (fun _ _ => ?_))
    | refine gp_two ?_ ?_ | refine gp_done hd hk ?_ | intro _ | refine p_ta hd hk (fun _ _ _ hd hk => ?_) | refine p_ts hd hk (fun _ hd hk => ?_))
  rename_i q' c'
  rw [cells8_append, show bs.length + (vb n.toNat).length = (bs ++ vb n.toNat).length by simp]
  exact g_ret (q', c') rfl (by (repeat (first | exact RVs.nil | apply RVs.tmp rfl | apply RVs.cellA rfl (by (repeat (first | exact Sel.here | apply Sel.there)); first | done | fail) (by (repeat (first | exact Cut.zero | apply Cut.take | apply Cut.skip)); first | done | fail) | apply RVs.cell1 rfl (by (repeat (first | exact Sel.here | apply Sel.there)); first | done | fail) rfl)); first | done | fail) (by (repeat (first | exact Take.nil | apply Take.cons | exact Sel.here | apply Sel.there)); first | done | fail) rfl trivial
theorem rencode (a : S3) : Does Tryd.prog 31 [a.v] [] (X := OA) (fun x => .slice x.1 a.enc.length x.2) (fun x => [.own x.1 a.enc.length x.2 1 (cells8 a.enc) 5]) (fun _ => True) := by
  refine fn_intro Tryd.func31 rfl Tryd.ntmps31 rfl (by simp only [argFr, Nat.zero_add, Nat.reduceAdd]; rfl) (fun Γ => ?_)
  repeat (first
    | (refine g_ops ?_; first | refine s_q ?_ | refine s_v ?_ | refine s_s ?_ | refine s_n (fun _ => ?_) | refine s_x ?_ | refine s_y ?_ | refine s_mq ?_ | refine s_app (fun _ _ => ?_) | refine s_mv ?_ | refine s_ms ?_ | refine s_b0 (fun _ => ?_) | ((fail_if_success refine g_lit rfl rfl rfl ?_); first | apply g_partM rfl rfl rfl | apply g_partMB rfl rfl rfl | fail) | refine s_p (rsound a.w a.l a.n) ?_)
    | refine g_seq ?_ | refine g_region ?_ | refine g_nil ?_ | refine g_then_normal ?_ | refine g_block ?_ | refine g_in_normal ?_ | refine g_retc ?_ | refine g_then_ret ?_
    | refine g_in_ret ?_ | refine g_exit ?_ | refine g_then_exit ?_ | refine g_in_exit ?_ | refine g_in_other rfl ?_ | refine g_skip ?_ | refine g_label ?_
    | refine g_cond_true rfl ?_ | refine g_cond_false rfl ?_ | exact s_m | intro _ | (refine gp_take ?_; first | refine p_q ?_ | refine p_x ?_ | refine p_mq ?_ | ((fail_if_success refine gp_lit rfl rfl rfl rfl ?_); first | apply gp_guard_dec rfl rfl rfl rfl | apply gp_guard rfl rfl rfl rfl | fail) | refine p_p (rsound a.w a.l a.n) ?_)
    | (refine gp_see ?_; first | refine p_f ?_ | refine p_sx ?_ | ((fail_if_success refine gp_lit rfl rfl rfl rfl ?_); first | apply gp_guard_dec rfl rfl rfl rfl | apply gp_guard rfl rfl rfl rfl | fail) | refine p_sp (rsound a.w a.l a.n) ?_ | refine p_sq ?_)
    | (refine gp_one ?_; first | refine p_v ?_ | refine p_s ?_ | refine p_n (fun _ => ?_) | refine p_y ?_ | refine p_app (fun _ _ => ?_) | refine p_mv ?_ | refine p_ms ?_ | refine p_b0 (fun _ => ?_) | ((fail_if_success refine gp_lit rfl rfl rfl rfl ?_); first | apply gp_guard_dec rfl rfl rfl rfl | apply gp_guard rfl rfl rfl rfl | fail))
    | refine gp_two ?_ ?_ | refine gp_done hd hk ?_ | intro _ | refine p_ta hd hk (fun _ _ _ hd hk => ?_) | refine p_ts hd hk (fun _ hd hk => ?_))
  refine g_cond rfl (fun h => ?_) (fun h => ?_)
  · have e : a.enc = [] := by unfold S3.enc; rw [if_neg]; intro hs; rw [show soundB a.w a.l a.n = a.sound from rfl, hs] at h; cases h
    rw [e]
    repeat (first
      | (refine g_ops ?_; first | refine s_q ?_ | refine s_v ?_ | refine s_s ?_ | refine s_n (fun _ => ?_) | refine s_x ?_ | refine s_y ?_ | refine s_mq ?_ | refine s_app (fun _ _ => ?_) | refine s_mv ?_ | refine s_ms ?_ | refine s_b0 (fun _ => ?_) | ((fail_if_success refine g_lit rfl rfl rfl ?_); first | apply g_partM rfl rfl rfl | apply g_partMB rfl rfl rfl | fail))
      | refine g_seq ?_ | refine g_region ?_ | refine g_nil ?_ | refine g_then_normal ?_ | refine g_block ?_ | refine g_in_normal ?_ | refine g_retc ?_
      | refine g_then_ret ?_ | refine g_in_ret ?_ | refine g_exit ?_ | refine g_then_exit ?_ | refine g_in_exit ?_ | refine g_in_other rfl ?_ | refine g_skip ?_
      | refine g_label ?_ | refine g_cond_true rfl ?_ | refine g_cond_false rfl ?_ | exact s_m | intro _)
    refine g_own_nil none 1 5 ?_
    exact g_ret (none, 0) rfl (by (repeat (first | exact RVs.nil | apply RVs.tmp rfl | apply RVs.cellA rfl (by (repeat (first | exact Sel.here | apply Sel.there)); first | done | fail) (by (repeat (first | exact Cut.zero | apply Cut.take | apply Cut.skip)); first | done | fail) | apply RVs.cell1 rfl (by (repeat (first | exact Sel.here | apply Sel.there)); first | done | fail) rfl)); first | done | fail) (by (repeat (first | exact Take.nil | apply Take.cons | exact Sel.here | apply Sel.there)); first | done | fail) rfl trivial
  · have hs : soundB a.w a.l a.n = true := by simpa using h
    have hb := (soundB_iff _ _ _).1 hs
    have e : a.enc = ([] ++ vb a.w.toNat ++ vb a.l.toNat) ++ vb a.n.toNat := by unfold S3.enc encL; rw [if_pos (show a.sound = true from hs)]; simp
    rw [e]
    have l0 := vb_len8 a.w.toNat (by omega)
    have l1 := vb_len8 a.l.toNat (by omega)
    have l2 := vb_len8 a.n.toNat (by omega)
    repeat (first
      | (refine g_ops ?_; first | refine s_q ?_ | refine s_v ?_ | refine s_s ?_ | refine s_n (fun _ => ?_) | refine s_x ?_ | refine s_y ?_ | refine s_mq ?_ | refine s_app (fun _ _ => ?_) | refine s_mv ?_ | refine s_ms ?_ | refine s_b0 (fun _ => ?_) | ((fail_if_success refine g_lit rfl rfl rfl ?_); first | apply g_partM rfl rfl rfl | apply g_partMB rfl rfl rfl | fail))
      | refine g_seq ?_ | refine g_region ?_ | refine g_nil ?_ | refine g_then_normal ?_ | refine g_block ?_ | refine g_in_normal ?_ | refine g_retc ?_
      | refine g_then_ret ?_ | refine g_in_ret ?_ | refine g_exit ?_ | refine g_then_exit ?_ | refine g_in_exit ?_ | refine g_in_other rfl ?_ | refine g_skip ?_
      | refine g_label ?_ | refine g_cond_true rfl ?_ | refine g_cond_false rfl ?_ | exact s_m | intro _ | (refine gp_take ?_; first | refine p_q ?_ | refine p_x ?_ | refine p_mq ?_ | ((fail_if_success refine gp_lit rfl rfl rfl rfl ?_); first | apply gp_guard_dec rfl rfl rfl rfl | apply gp_guard rfl rfl rfl rfl | fail))
      | (refine gp_see ?_; first | refine p_f ?_ | refine p_sx ?_ | ((fail_if_success refine gp_lit rfl rfl rfl rfl ?_); first | apply gp_guard_dec rfl rfl rfl rfl | apply gp_guard rfl rfl rfl rfl | fail) | refine p_sq ?_)
      | (refine gp_one ?_; first | refine p_v ?_ | refine p_s ?_ | refine p_n (fun _ => ?_) | refine p_y ?_ | refine p_app (fun _ _ => ?_) | refine p_mv ?_ | refine p_ms ?_ | refine p_b0 (fun _ => ?_) | ((fail_if_success refine gp_lit rfl rfl rfl rfl ?_); first | apply gp_guard_dec rfl rfl rfl rfl | apply gp_guard rfl rfl rfl rfl | fail))
      | refine gp_two ?_ ?_ | refine gp_done hd hk ?_ | intro _ | refine p_ta hd hk (fun _ _ _ hd hk => ?_) | refine p_ts hd hk (fun _ hd hk => ?_))
    refine g_own_nil none 1 5 ?_
    refine g_drawO (.take 0 (.see 1 [] (.take 3 (.see 4 [] (.take 6 (.see 7 [] (.one 2 (.one 5 (.one 8 (.take 9 .done)))))))))) .here (fun k hd hk => ?_)
    repeat (first
      | (refine gp_take ?_; first | refine p_q ?_ | refine p_x ?_ | refine p_mq ?_ | ((fail_if_success refine gp_lit rfl rfl rfl rfl ?_); first | apply gp_guard_dec rfl rfl rfl rfl | apply gp_guard rfl rfl rfl rfl | fail))
      | (refine gp_see ?_; first | refine p_f ?_ | refine p_sx ?_ | ((fail_if_success refine gp_lit rfl rfl rfl rfl ?_); first | apply gp_guard_dec rfl rfl rfl rfl | apply gp_guard rfl rfl rfl rfl | fail) | refine p_sq ?_)
      | (refine gp_one ?_; first | refine p_v ?_ | refine p_s ?_ | refine p_n (fun _ => ?_) | refine p_y ?_ | refine p_app (fun _ _ => ?_) | refine p_mv ?_ | refine p_ms ?_ | refine p_b0 (fun _ => ?_) | ((fail_if_success refine gp_lit rfl rfl rfl rfl ?_); first | apply gp_guard_dec rfl rfl rfl rfl | apply gp_guard rfl rfl rfl rfl | fail) | refine p_c (rnum none 0 [] a.w (by omega) (by omega) (by decide)) (fun _ _ => ?_))
      | refine gp_two ?_ ?_ | refine gp_done hd hk ?_ | intro _ | refine p_ta hd hk (fun _ _ _ hd hk => ?_) | refine p_ts hd hk (fun _ hd hk => ?_))
    rename_i x1 _
    obtain ⟨q1, c1⟩ := x1
    dsimp only
    repeat (first
      | (refine gp_take ?_; first | refine p_q ?_ | refine p_x ?_ | refine p_mq ?_ | ((fail_if_success refine gp_lit rfl rfl rfl rfl ?_); first | apply gp_guard_dec rfl rfl rfl rfl | apply gp_guard rfl rfl rfl rfl | fail))
      | (refine gp_see ?_; first | refine p_f ?_ | refine p_sx ?_ | ((fail_if_success refine gp_lit rfl rfl rfl rfl ?_); first | apply gp_guard_dec rfl rfl rfl rfl | apply gp_guard rfl rfl rfl rfl | fail) | refine p_sq ?_)
      | (refine gp_one ?_; first | refine p_v ?_ | refine p_s ?_ | refine p_n (fun _ => ?_) | refine p_y ?_ | refine p_app (fun _ _ => ?_) | refine p_mv ?_ | refine p_ms ?_ | refine p_b0 (fun _ => ?_) | ((fail_if_success refine gp_lit rfl rfl rfl rfl ?_); first | apply gp_guard_dec rfl rfl rfl rfl | apply gp_guard rfl rfl rfl rfl | fail) | refine p_c (rnum q1 c1 ([] ++ vb a.w.toNat) a.l (by omega) (by omega) (by simp; omega)) (fun _ _ => ?_))
      | refine gp_two ?_ ?_ | refine gp_done hd hk ?_ | intro _ | refine p_ta hd hk (fun _ _ _ hd hk => ?_) | refine p_ts hd hk (fun _ hd hk => ?_))
    rename_i x2 _
    obtain ⟨q2, c2⟩ := x2
    dsimp only
    repeat (first
      | (refine gp_take ?_; first | refine p_q ?_ | refine p_x ?_ | refine p_mq ?_ | ((fail_if_success refine gp_lit rfl rfl rfl rfl ?_); first | apply gp_guard_dec rfl rfl rfl rfl | apply gp_guard rfl rfl rfl rfl | fail))
      | (refine gp_see ?_; first | refine p_f ?_ | refine p_sx ?_ | ((fail_if_success refine gp_lit rfl rfl rfl rfl ?_); first | apply gp_guard_dec rfl rfl rfl rfl | apply gp_guard rfl rfl rfl rfl | fail) | refine p_sq ?_)
      | (refine gp_one ?_; first | refine p_v ?_ | refine p_s ?_ | refine p_n (fun _ => ?_) | refine p_y ?_ | refine p_app (fun _ _ => ?_) | refine p_mv ?_ | refine p_ms ?_ | refine p_b0 (fun _ => ?_) | ((fail_if_success refine gp_lit rfl rfl rfl rfl ?_); first | apply gp_guard_dec rfl rfl rfl rfl | apply gp_guard rfl rfl rfl rfl | fail) | refine p_c (rnum q2 c2 ([] ++ vb a.w.toNat ++ vb a.l.toNat) a.n (by omega) (by omega) (by simp; omega)) (fun _ _ => ?_))
      | refine gp_two ?_ ?_ | refine gp_done hd hk ?_ | intro _ | refine p_ta hd hk (fun _ _ _ hd hk => ?_) | refine p_ts hd hk (fun _ hd hk => ?_))
    repeat (first
      | (refine g_ops ?_; first | refine s_q ?_ | refine s_v ?_ | refine s_s ?_ | refine s_n (fun _ => ?_) | refine s_x ?_ | refine s_y ?_ | refine s_mq ?_ | refine s_app (fun _ _ => ?_) | refine s_mv ?_ | refine s_ms ?_ | refine s_b0 (fun _ => ?_) | ((fail_if_success refine g_lit rfl rfl rfl ?_); first | apply g_partM rfl rfl rfl | apply g_partMB rfl rfl rfl | fail))
      | refine g_seq ?_ | refine g_region ?_ | refine g_nil ?_ | refine g_then_normal ?_ | refine g_block ?_ | refine g_in_normal ?_ | refine g_retc ?_
      | refine g_then_ret ?_ | refine g_in_ret ?_ | refine g_exit ?_ | refine g_then_exit ?_ | refine g_in_exit ?_ | refine g_in_other rfl ?_ | refine g_skip ?_
      | refine g_label ?_ | refine g_cond_true rfl ?_ | refine g_cond_false rfl ?_ | exact s_m | intro _)
    rename_i x3 _
    exact g_ret x3 rfl (by (repeat (first | exact RVs.nil | apply RVs.tmp rfl | apply RVs.cellA rfl (by (repeat (first | exact Sel.here | apply Sel.there)); first | done | fail) (by (repeat (first | exact Cut.zero | apply Cut.take | apply Cut.skip)); first | done | fail) | apply RVs.cell1 rfl (by (repeat (first | exact Sel.here | apply Sel.there)); first | done | fail) rfl)); first | done | fail) (by (repeat (first | exact Take.nil | apply Take.cons | exact Sel.here | apply Sel.there)); first | done | fail) rfl trivial
end Go.Proofs.YtfgdpnmcpafkeaaDoor
