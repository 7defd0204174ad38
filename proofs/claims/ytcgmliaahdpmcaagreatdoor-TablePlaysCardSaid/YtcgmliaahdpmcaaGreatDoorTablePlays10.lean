/- Contracts and laws that the proof stands on. -/
import Derived.Test.YtcgmliaahdpmcaaGreatDoorTablePlays9
set_option linter.unusedSimpArgs false
set_option linter.unusedVariables false
namespace Go.Proofs.YtcgmliaahdpmcaaGreatDoor
open Go.Sl facts
attribute [local irreducible] Code.wp wpList Exit.then Exit.inBlock bodyPost Back MidQ G GP QStep VStep CStep SStep Does Post Reads
theorem within (n m : Int) : Does1 Tryz.prog 82 [.int .i64 n, .int .i64 m] [] (.bool (inB n m)) := by
  refine fn_intro Tryz.func82 rfl Tryz.ntmps82 rfl (by simp only [argFr, Nat.zero_add, Nat.reduceAdd]; rfl) (fun Γ => ?_)
  repeat (first
    | (refine g_ops ?_; first | refine s_q ?_ | refine s_v ?_ | refine s_s ?_ | refine s_n (fun _ => ?_) | refine s_x ?_ | refine s_y ?_ | refine s_mq ?_ | refine s_app (fun _ _ => ?_) | refine s_mv ?_ | refine s_ms ?_ | refine s_b0 (fun _ => ?_) | ((fail_if_success refine g_lit rfl rfl rfl ?_); first | apply g_partM rfl rfl rfl | apply g_partMB rfl rfl rfl | fail))
    | apply g_regB (id := 1) 4 | refine g_seq ?_ | refine g_region ?_ | refine g_nil ?_ | refine g_then_normal ?_ | refine g_block ?_ | refine g_in_normal ?_
    | refine g_retc ?_ | refine g_then_ret ?_ | refine g_in_ret ?_ | refine g_exit ?_ | refine g_then_exit ?_ | refine g_in_exit ?_ | refine g_in_other rfl ?_
    | refine g_skip ?_ | refine g_label ?_ | refine g_cond_true rfl ?_ | refine g_cond_false rfl ?_ | exact s_m | intro _ | (refine gp_take ?_; first | refine p_q ?_ | refine p_x ?_ | refine p_mq ?_ | ((fail_if_success refine gp_lit rfl rfl rfl rfl ?_); first | apply gp_guard_dec rfl rfl rfl rfl | apply gp_guard rfl rfl rfl rfl | fail))
    | (refine gp_see ?_; first | refine p_f ?_ | refine p_sx ?_ | ((fail_if_success refine gp_lit rfl rfl rfl rfl ?_); first | apply gp_guard_dec rfl rfl rfl rfl | apply gp_guard rfl rfl rfl rfl | fail) | refine p_sq ?_)
    | (refine gp_one ?_; first | refine p_v ?_ | refine p_s ?_ | refine p_n (fun _ => ?_) | refine p_y ?_ | refine p_app (fun _ _ => ?_) | refine p_mv ?_ | refine p_ms ?_ | refine p_b0 (fun _ => ?_) | ((fail_if_success refine gp_lit rfl rfl rfl rfl ?_); first | apply gp_guard_dec rfl rfl rfl rfl | apply gp_guard rfl rfl rfl rfl | fail))
    | refine gp_two ?_ ?_ | refine gp_done hd hk ?_ | intro _ | refine p_ta hd hk (fun _ _ _ hd hk => ?_) | refine p_ts hd hk (fun _ hd hk => ?_))
  exact g_ret () rfl (by (repeat (first | exact RVs.nil | apply RVs.tmp rfl | apply RVs.cellA rfl (by (repeat (first | exact Sel.here | apply Sel.there)); first | done | fail) (by (repeat (first | exact Cut.zero | apply Cut.take | apply Cut.skip)); first | done | fail) | apply RVs.cell1 rfl (by (repeat (first | exact Sel.here | apply Sel.there)); first | done | fail) rfl)); first | done | fail) (by (repeat (first | exact Take.nil | apply Take.cons | exact Sel.here | apply Sel.there)); first | done | fail) (by simp [pack, inB]) trivial
theorem sound (w l n : Int) : Does1 Tryz.prog 68 [.agg [.int .i64 w, .int .i64 l, .int .i64 n].toArray] [] (.bool (soundB w l n)) := by
  refine fn_intro Tryz.func68 rfl Tryz.ntmps68 rfl (by simp only [argFr, Nat.zero_add, Nat.reduceAdd]; rfl) (fun Γ => ?_)
  repeat (first
    | (refine g_ops ?_; first | refine s_q ?_ | refine s_v ?_ | refine s_s ?_ | refine s_n (fun _ => ?_) | refine s_x ?_ | refine s_y ?_ | refine s_mq ?_ | refine s_app (fun _ _ => ?_) | refine s_mv ?_ | refine s_ms ?_ | refine s_b0 (fun _ => ?_) | ((fail_if_success refine g_lit rfl rfl rfl ?_); first | apply g_partM rfl rfl rfl | apply g_partMB rfl rfl rfl | fail) | refine s_p (within _ _) ?_)
    | apply g_regB (id := 1) 2 | refine g_seq ?_ | refine g_region ?_ | refine g_nil ?_ | refine g_then_normal ?_ | refine g_block ?_ | refine g_in_normal ?_
    | refine g_retc ?_ | refine g_then_ret ?_ | refine g_in_ret ?_ | refine g_exit ?_ | refine g_then_exit ?_ | refine g_in_exit ?_ | refine g_in_other rfl ?_
    | refine g_skip ?_ | refine g_label ?_ | refine g_cond_true rfl ?_ | refine g_cond_false rfl ?_ | exact s_m | intro _ | (refine gp_take ?_; first | refine p_q ?_ | refine p_x ?_ | refine p_mq ?_ | ((fail_if_success refine gp_lit rfl rfl rfl rfl ?_); first | apply gp_guard_dec rfl rfl rfl rfl | apply gp_guard rfl rfl rfl rfl | fail) | refine p_p (within _ _) ?_)
    | (refine gp_see ?_; first | refine p_f ?_ | refine p_sx ?_ | ((fail_if_success refine gp_lit rfl rfl rfl rfl ?_); first | apply gp_guard_dec rfl rfl rfl rfl | apply gp_guard rfl rfl rfl rfl | fail) | refine p_sp (within _ _) ?_ | refine p_sq ?_)
    | (refine gp_one ?_; first | refine p_v ?_ | refine p_s ?_ | refine p_n (fun _ => ?_) | refine p_y ?_ | refine p_app (fun _ _ => ?_) | refine p_mv ?_ | refine p_ms ?_ | refine p_b0 (fun _ => ?_) | ((fail_if_success refine gp_lit rfl rfl rfl rfl ?_); first | apply gp_guard_dec rfl rfl rfl rfl | apply gp_guard rfl rfl rfl rfl | fail))
    | refine gp_two ?_ ?_ | refine gp_done hd hk ?_ | intro _ | refine p_ta hd hk (fun _ _ _ hd hk => ?_) | refine p_ts hd hk (fun _ hd hk => ?_))
  exact g_ret () rfl (by (repeat (first | exact RVs.nil | apply RVs.tmp rfl | apply RVs.cellA rfl (by (repeat (first | exact Sel.here | apply Sel.there)); first | done | fail) (by (repeat (first | exact Cut.zero | apply Cut.take | apply Cut.skip)); first | done | fail) | apply RVs.cell1 rfl (by (repeat (first | exact Sel.here | apply Sel.there)); first | done | fail) rfl)); first | done | fail) (by (repeat (first | exact Take.nil | apply Take.cons | exact Sel.here | apply Sel.there)); first | done | fail) (by simp [pack, soundB, inB, Bool.cond_eq_ite, Bool.and_assoc]) trivial
theorem or128_fin : ∀ x : Fin 256, x.val ||| 128 = x.val % 128 + 128 := by decide +kernel
theorem or128 (x : Nat) (h : x < 256) : x ||| 128 = x % 128 + 128 := or128_fin ⟨x, h⟩
theorem and127 (x : Nat) : x &&& 127 = x % 128 := Nat.and_two_pow_sub_one_eq_mod x 7
theorem varint (v : Nat) (hv : v < 18446744073709551616) : Does Tryz.prog 84 [.int .u64 v] [] (X := Option Addr × Nat) (fun x => .slice x.1 (vb v).length x.2) (fun x => [.own x.1 (vb v).length x.2 1 (cells8 (vb v)) 5]) (fun _ => True) := by
  refine fn_intro Tryz.func84 rfl Tryz.ntmps84 rfl (by simp only [argFr, Nat.zero_add, Nat.reduceAdd]; rfl) (fun Γ => ?_)
  repeat (first
    | (refine g_ops ?_; first | refine s_q ?_ | refine s_v ?_ | refine s_s ?_ | refine s_n (fun _ => ?_) | refine s_x ?_ | refine s_y ?_ | refine s_mq ?_ | refine s_app (fun _ _ => ?_) | refine s_mv ?_ | refine s_ms ?_ | refine s_b0 (fun _ => ?_) | ((fail_if_success refine g_lit rfl rfl rfl ?_); first | apply g_partM rfl rfl rfl | apply g_partMB rfl rfl rfl | fail))
    | refine g_seq ?_ | refine g_region ?_ | refine g_nil ?_ | refine g_then_normal ?_ | refine g_block ?_ | refine g_in_normal ?_ | refine g_retc ?_ | refine g_then_ret ?_
    | refine g_in_ret ?_ | refine g_exit ?_ | refine g_then_exit ?_ | refine g_in_exit ?_ | refine g_in_other rfl ?_ | refine g_skip ?_ | refine g_label ?_
    | refine g_cond_true rfl ?_ | refine g_cond_false rfl ?_ | exact s_m | intro _)
  refine g_own_nil none 1 5 ?_
  refine g_loop (X := DecX) (fun x => [(0, .int .u64 x.u), (2, .slice x.q x.bs.length x.c)]) (fun x => [.own x.q x.bs.length x.c 1 (cells8 x.bs) 5]) (fun x => x.u < 18446744073709551616 ∧ vb v = x.bs ++ vb x.u) (fun x => x.u)
    ⟨v, [], none, 0⟩ ⟨hv, rfl⟩ (by (repeat (first | exact FrSub.nil | refine FrSub.cons rfl ?_)); first | done | fail) (by (repeat (first | exact Take.nil | apply Take.cons | exact Sel.here | apply Sel.there)); first | done | fail) (fun x hx => ?_)
  obtain ⟨u, bs, q, c⟩ := x
  obtain ⟨hle, hinv⟩ := hx
  simp only at hle hinv
  have hbl : bs.length ≤ 10 := by have := vb_len10 v hv; rw [hinv, List.length_append] at this; omega
  dsimp only
  repeat (first
    | (refine g_ops ?_; first | refine s_q ?_ | refine s_v ?_ | refine s_s ?_ | refine s_n (fun _ => ?_) | refine s_x ?_ | refine s_y ?_ | refine s_mq ?_ | refine s_app (fun _ _ => ?_) | refine s_mv ?_ | refine s_ms ?_ | refine s_b0 (fun _ => ?_) | ((fail_if_success refine g_lit rfl rfl rfl ?_); first | apply g_partM rfl rfl rfl | apply g_partMB rfl rfl rfl | fail))
    | refine g_seq ?_ | refine g_region ?_ | refine g_nil ?_ | refine g_then_normal ?_ | refine g_block ?_ | refine g_in_normal ?_ | refine g_retc ?_ | refine g_then_ret ?_
    | refine g_in_ret ?_ | refine g_exit ?_ | refine g_then_exit ?_ | refine g_in_exit ?_ | refine g_in_other rfl ?_ | refine g_skip ?_ | refine g_label ?_
    | refine g_cond_true rfl ?_ | refine g_cond_false rfl ?_ | exact s_m | intro _)
  refine g_cond_dec rfl (fun h => ?_) (fun h => ?_)
  · have hu : ¬ u < 128 := by omega
    rw [vb_big hu] at hinv
    repeat (first
      | (refine g_ops ?_; first | refine s_q ?_ | refine s_v ?_ | refine s_s ?_ | refine s_n (fun _ => ?_) | refine s_x ?_ | refine s_y ?_ | refine s_mq ?_ | refine s_app (fun _ _ => ?_) | refine s_mv ?_ | refine s_ms ?_ | refine s_b0 (fun _ => ?_) | ((fail_if_success refine g_lit rfl rfl rfl ?_); first | apply g_partM rfl rfl rfl | apply g_partMB rfl rfl rfl | fail))
      | refine g_seq ?_ | refine g_region ?_ | refine g_nil ?_ | refine g_then_normal ?_ | refine g_block ?_ | refine g_in_normal ?_ | refine g_retc ?_
      | refine g_then_ret ?_ | refine g_in_ret ?_ | refine g_exit ?_ | refine g_then_exit ?_ | refine g_in_exit ?_ | refine g_in_other rfl ?_ | refine g_skip ?_
      | refine g_label ?_ | refine g_cond_true rfl ?_ | refine g_cond_false rfl ?_ | exact s_m | intro _)
    refine s_q (q := by exact qs_convInt rfl) ?_
    refine g_as 7 (v' := .int .u8 ((u % 256 : Nat) : Int)) rfl (congrArg (Value.int .u8) (by rw [u8_mod]; omega)) ?_
    refine s_q (q := by exact qs_or8 (b := 128) rfl rfl (Nat.mod_lt _ (by decide)) (by decide)) ?_
    refine g_as 8 (v' := .int .u8 ((UInt8.ofNat (u % 128 + 128)).toNat : Int)) rfl (congrArg (Value.int .u8) (by rw [or128 _ (Nat.mod_lt _ (by decide)), byte_of _ (by omega)]; omega)) ?_
    generalize hbb : UInt8.ofNat (u % 128 + 128) = bb at hinv ⊢
    repeat (first
      | (refine g_ops ?_; first | refine s_q ?_ | refine s_v ?_ | refine s_s ?_ | refine s_n (fun _ => ?_) | refine s_x ?_ | refine s_y ?_ | refine s_mq ?_ | refine s_app (fun _ _ => ?_) | refine s_mv ?_ | refine s_ms ?_ | refine s_b0 (fun _ => ?_) | ((fail_if_success refine g_lit rfl rfl rfl ?_); first | apply g_partM rfl rfl rfl | apply g_partMB rfl rfl rfl | fail))
      | refine g_seq ?_ | refine g_region ?_ | refine g_nil ?_ | refine g_then_normal ?_ | refine g_block ?_ | refine g_in_normal ?_ | refine g_retc ?_
      | refine g_then_ret ?_ | refine g_in_ret ?_ | refine g_exit ?_ | refine g_then_exit ?_ | refine g_in_exit ?_ | refine g_in_other rfl ?_ | refine g_skip ?_
      | refine g_label ?_ | refine g_cond_true rfl ?_ | refine g_cond_false rfl ?_ | exact s_m | intro _)
    refine s_q (q := by exact qs_shr64 (n := 7) rfl rfl (by decide)) ?_
    refine g_as 12 (v' := .int .u64 ((u / 128 : Nat) : Int)) rfl rfl ?_
    repeat (first
      | (refine g_ops ?_; first | refine s_q ?_ | refine s_v ?_ | refine s_s ?_ | refine s_n (fun _ => ?_) | refine s_x ?_ | refine s_y ?_ | refine s_mq ?_ | refine s_app (fun _ _ => ?_) | refine s_mv ?_ | refine s_ms ?_ | refine s_b0 (fun _ => ?_) | ((fail_if_success refine g_lit rfl rfl rfl ?_); first | apply g_partM rfl rfl rfl | apply g_partMB rfl rfl rfl | fail))
      | refine g_seq ?_ | refine g_region ?_ | refine g_nil ?_ | refine g_then_normal ?_ | refine g_block ?_ | refine g_in_normal ?_ | refine g_retc ?_
      | refine g_then_ret ?_ | refine g_in_ret ?_ | refine g_exit ?_ | refine g_then_exit ?_ | refine g_in_exit ?_ | refine g_in_other rfl ?_ | refine g_skip ?_
      | refine g_label ?_ | refine g_cond_true rfl ?_ | refine g_cond_false rfl ?_ | exact s_m | intro _)
    rename_i q' c'
    rw [cells8_snoc, show bs.length + 1 = (bs ++ [bb]).length by simp]
    exact g_again ⟨u / 128, bs ++ [bb], q', c'⟩ (by simp only; omega) ⟨by simp only; omega, by simp [hinv]⟩ (by (repeat (first | exact FrSub.nil | refine FrSub.cons rfl ?_)); first | done | fail) (by (repeat (first | exact Take.nil | apply Take.cons | exact Sel.here | apply Sel.there)); first | done | fail)
  · have hu : u < 128 := by omega
    rw [vb_small hu] at hinv
    repeat (first
      | (refine g_ops ?_; first | refine s_q ?_ | refine s_v ?_ | refine s_s ?_ | refine s_n (fun _ => ?_) | refine s_x ?_ | refine s_y ?_ | refine s_mq ?_ | refine s_app (fun _ _ => ?_) | refine s_mv ?_ | refine s_ms ?_ | refine s_b0 (fun _ => ?_) | ((fail_if_success refine g_lit rfl rfl rfl ?_); first | apply g_partM rfl rfl rfl | apply g_partMB rfl rfl rfl | fail))
      | refine g_seq ?_ | refine g_region ?_ | refine g_nil ?_ | refine g_then_normal ?_ | refine g_block ?_ | refine g_in_normal ?_ | refine g_retc ?_
      | refine g_then_ret ?_ | refine g_in_ret ?_ | refine g_exit ?_ | refine g_then_exit ?_ | refine g_in_exit ?_ | refine g_in_other rfl ?_ | refine g_skip ?_
      | refine g_label ?_ | refine g_cond_true rfl ?_ | refine g_cond_false rfl ?_ | exact s_m | intro _)
    refine s_q (q := by exact qs_convInt rfl) ?_
    refine g_as 15 (v' := .int .u8 ((UInt8.ofNat u).toNat : Int)) rfl (congrArg (Value.int .u8) (by rw [u8_mod, byte_of _ (by omega)]; omega)) ?_
    generalize hbb : UInt8.ofNat u = bb at hinv ⊢
    repeat (first
      | (refine g_ops ?_; first | refine s_q ?_ | refine s_v ?_ | refine s_s ?_ | refine s_n (fun _ => ?_) | refine s_x ?_ | refine s_y ?_ | refine s_mq ?_ | refine s_app (fun _ _ => ?_) | refine s_mv ?_ | refine s_ms ?_ | refine s_b0 (fun _ => ?_) | ((fail_if_success refine g_lit rfl rfl rfl ?_); first | apply g_partM rfl rfl rfl | apply g_partMB rfl rfl rfl | fail))
      | refine g_seq ?_ | refine g_region ?_ | refine g_nil ?_ | refine g_then_normal ?_ | refine g_block ?_ | refine g_in_normal ?_ | refine g_retc ?_
      | refine g_then_ret ?_ | refine g_in_ret ?_ | refine g_exit ?_ | refine g_then_exit ?_ | refine g_in_exit ?_ | refine g_in_other rfl ?_ | refine g_skip ?_
      | refine g_label ?_ | refine g_cond_true rfl ?_ | refine g_cond_false rfl ?_ | exact s_m | intro _)
    rename_i q' c'
    rw [cells8_snoc, show bs.length + 1 = (bs ++ [bb]).length by simp, ← hinv]
    exact g_ret (q', c') rfl (by (repeat (first | exact RVs.nil | apply RVs.tmp rfl | apply RVs.cellA rfl (by (repeat (first | exact Sel.here | apply Sel.there)); first | done | fail) (by (repeat (first | exact Cut.zero | apply Cut.take | apply Cut.skip)); first | done | fail) | apply RVs.cell1 rfl (by (repeat (first | exact Sel.here | apply Sel.there)); first | done | fail) rfl)); first | done | fail) (by (repeat (first | exact Take.nil | apply Take.cons | exact Sel.here | apply Sel.there)); first | done | fail) rfl trivial
abbrev OA := Option Addr × Nat
theorem encode (a : S3) : Does Tryz.prog 71 [a.v] [] (X := OA) (fun x => .slice x.1 a.enc.length x.2) (fun x => [.own x.1 a.enc.length x.2 1 (cells8 a.enc) 5]) (fun _ => True) := by
  refine fn_intro Tryz.func71 rfl Tryz.ntmps71 rfl (by simp only [argFr, Nat.zero_add, Nat.reduceAdd]; rfl) (fun Γ => ?_)
  repeat (first
    | (refine g_ops ?_; first | refine s_q ?_ | refine s_v ?_ | refine s_s ?_ | refine s_n (fun _ => ?_) | refine s_x ?_ | refine s_y ?_ | refine s_mq ?_ | refine s_app (fun _ _ => ?_) | refine s_mv ?_ | refine s_ms ?_ | refine s_b0 (fun _ => ?_) | ((fail_if_success refine g_lit rfl rfl rfl ?_); first | apply g_partM rfl rfl rfl | apply g_partMB rfl rfl rfl | fail) | refine s_p (sound a.w a.l a.n) ?_)
    | refine g_seq ?_ | refine g_region ?_ | refine g_nil ?_ | refine g_then_normal ?_ | refine g_block ?_ | refine g_in_normal ?_ | refine g_retc ?_ | refine g_then_ret ?_
    | refine g_in_ret ?_ | refine g_exit ?_ | refine g_then_exit ?_ | refine g_in_exit ?_ | refine g_in_other rfl ?_ | refine g_skip ?_ | refine g_label ?_
    | refine g_cond_true rfl ?_ | refine g_cond_false rfl ?_ | exact s_m | intro _ | (refine gp_take ?_; first | refine p_q ?_ | refine p_x ?_ | refine p_mq ?_ | ((fail_if_success refine gp_lit rfl rfl rfl rfl ?_); first | apply gp_guard_dec rfl rfl rfl rfl | apply gp_guard rfl rfl rfl rfl | fail) | refine p_p (sound a.w a.l a.n) ?_)
    | (refine gp_see ?_; first | refine p_f ?_ | refine p_sx ?_ | ((fail_if_success refine gp_lit rfl rfl rfl rfl ?_); first | apply gp_guard_dec rfl rfl rfl rfl | apply gp_guard rfl rfl rfl rfl | fail) | refine p_sp (sound a.w a.l a.n) ?_ | refine p_sq ?_)
    | (refine gp_one ?_; first | refine p_v ?_ | refine p_s ?_ | refine p_n (fun _ => ?_) | refine p_y ?_ | refine p_app (fun _ _ => ?_) | refine p_mv ?_ | refine p_ms ?_ | refine p_b0 (fun _ => ?_) | ((fail_if_success refine gp_lit rfl rfl rfl rfl ?_); first | apply gp_guard_dec rfl rfl rfl rfl | apply gp_guard rfl rfl rfl rfl | fail))
    | refine gp_two ?_ ?_ | refine gp_done hd hk ?_ | intro _ | refine p_ta hd hk (fun _ _ _ hd hk => ?_) | refine p_ts hd hk (fun _ hd hk => ?_))
  refine g_cond rfl (fun h => ?_) (fun h => ?_)
  · have e : a.enc = [] := by unfold S3.enc; rw [if_neg]; intro hs; rw [show soundB a.w a.l a.n = a.sound from rfl, hs] at h; cases h
    rw [e]
    repeat (first
      | (refine g_ops ?_; first | refine s_q ?_ | refine s_v ?_ | refine s_s ?_ | refine s_n (fun _ => ?_) | refine s_x ?_ | refine s_y ?_ | refine s_mq ?_ | refine s_app (fun _ _ => ?_) | refine s_mv ?_ | refine s_ms ?_ | refine s_b0 (fun _ => ?_) | ((fail_if_success refine g_lit rfl rfl rfl ?_); first | apply g_partM rfl rfl rfl | apply g_partMB rfl rfl rfl | fail))
      | refine g_seq ?_ | refine g_region ?_ | refine g_nil ?_ | refine g_then_normal ?_ | refine g_block ?_ | refine g_in_normal ?_ | refine g_retc ?_
      | refine g_then_ret ?_ | refine g_in_ret ?_ | refine g_exit ?_ | refine g_then_exit ?_ | refine g_in_exit ?_ | refine g_in_other rfl ?_ | refine g_skip ?_
      | refine g_label ?_ | refine g_cond_true rfl ?_ | refine g_cond_false rfl ?_ | exact s_m | intro _)
    refine g_own_nil none 1 5 ?_
    exact g_ret (none, 0) rfl (by (repeat (first | exact RVs.nil | apply RVs.tmp rfl | apply RVs.cellA rfl (by (repeat (first | exact Sel.here | apply Sel.there)); first | done | fail) (by (repeat (first | exact Cut.zero | apply Cut.take | apply Cut.skip)); first | done | fail) | apply RVs.cell1 rfl (by (repeat (first | exact Sel.here | apply Sel.there)); first | done | fail) rfl)); first | done | fail) (by (repeat (first | exact Take.nil | apply Take.cons | exact Sel.here | apply Sel.there)); first | done | fail) rfl trivial
  · have hs : soundB a.w a.l a.n = true := by simpa using h
    have hb := (soundB_iff _ _ _).1 hs
    have e : a.enc = vb a.w.toNat ++ (vb a.l.toNat ++ vb a.n.toNat) := by unfold S3.enc encL; rw [if_pos (show a.sound = true from hs)]
    rw [e]
    have l0 := vb_len8 a.w.toNat (by omega)
    have l1 := vb_len8 a.l.toNat (by omega)
    have l2 := vb_len8 a.n.toNat (by omega)
    repeat (first
      | (refine g_ops ?_; first | refine s_q ?_ | refine s_v ?_ | refine s_s ?_ | refine s_n (fun _ => ?_) | refine s_x ?_ | refine s_y ?_ | refine s_mq ?_ | refine s_app (fun _ _ => ?_) | refine s_mv ?_ | refine s_ms ?_ | refine s_b0 (fun _ => ?_) | ((fail_if_success refine g_lit rfl rfl rfl ?_); first | apply g_partM rfl rfl rfl | apply g_partMB rfl rfl rfl | fail))
      | refine g_seq ?_ | refine g_region ?_ | refine g_nil ?_ | refine g_then_normal ?_ | refine g_block ?_ | refine g_in_normal ?_ | refine g_retc ?_
      | refine g_then_ret ?_ | refine g_in_ret ?_ | refine g_exit ?_ | refine g_then_exit ?_ | refine g_in_exit ?_ | refine g_in_other rfl ?_ | refine g_skip ?_
      | refine g_label ?_ | refine g_cond_true rfl ?_ | refine g_cond_false rfl ?_ | exact s_m | intro _)
    refine s_q (q := by exact qs_buildArr inferInstance inferInstance inferInstance (by (repeat (first | exact Parts.nil | apply Parts.cons rfl (by first | exact CellsOf.agg | exact CellsOf.one rfl) rfl | exact App.nil | apply App.cons)); first | done | fail) (by rfl)) ?_
    repeat (first
      | (refine g_ops ?_; first | refine s_q ?_ | refine s_v ?_ | refine s_s ?_ | refine s_n (fun _ => ?_) | refine s_x ?_ | refine s_y ?_ | refine s_mq ?_ | refine s_app (fun _ _ => ?_) | refine s_mv ?_ | refine s_ms ?_ | refine s_b0 (fun _ => ?_) | ((fail_if_success refine g_lit rfl rfl rfl ?_); first | apply g_partM rfl rfl rfl | apply g_partMB rfl rfl rfl | fail))
      | refine g_seq ?_ | refine g_region ?_ | refine g_nil ?_ | refine g_then_normal ?_ | refine g_block ?_ | refine g_in_normal ?_ | refine g_retc ?_
      | refine g_then_ret ?_ | refine g_in_ret ?_ | refine g_exit ?_ | refine g_then_exit ?_ | refine g_in_exit ?_ | refine g_in_other rfl ?_ | refine g_skip ?_
      | refine g_label ?_ | refine g_cond_true rfl ?_ | refine g_cond_false rfl ?_ | exact s_m | intro _)
    refine g_own_nil none 1 5 ?_
    have hx : ∀ k, k < 3 → [Value.int .i64 a.w, Value.int .i64 a.l, Value.int .i64 a.n][k]? = some (.int .i64 (([a.w.toNat, a.l.toNat, a.n.toNat].getD k 0 : Nat) : Int)) := fun k hk => by
      match k, hk with
      | 0, _ => simp; omega
      | 1, _ => simp; omega
      | 2, _ => simp; omega
    have hm : ∀ k, k < 3 → [a.w.toNat, a.l.toNat, a.n.toNat].getD k 0 ≤ 1125899906842624 := fun k hk => by
      match k, hk with
      | 0, _ => simp; omega
      | 1, _ => simp; omega
      | 2, _ => simp; omega
    have hall : vb a.w.toNat ++ (vb a.l.toNat ++ vb a.n.toNat) = ([a.w.toNat, a.l.toNat, a.n.toNat].take 3).flatMap vb := by simp
    rw [hall]
    have hn3 : [a.w.toNat, a.l.toNat, a.n.toNat].length = 3 := rfl
    generalize [a.w.toNat, a.l.toNat, a.n.toNat] = nums at hx hm hn3 ⊢
    generalize [Value.int .i64 a.w, Value.int .i64 a.l, Value.int .i64 a.n] = ar at hx ⊢
    refine g_loop (X := DecX) (fun x => [(15, .int .i64 x.u), (14, .agg ar.toArray), (2, .slice x.q x.bs.length x.c)]) (fun x => [.own x.q x.bs.length x.c 1 (cells8 x.bs) 5]) (fun x => x.u ≤ 3 ∧ x.bs = (nums.take x.u).flatMap vb ∧ x.bs.length ≤ 8 * x.u) (fun x => 3 - x.u)
      ⟨0, [], none, 0⟩ ⟨by decide, by simp, by simp⟩ (by (repeat (first | exact FrSub.nil | refine FrSub.cons rfl ?_)); first | done | fail) (by (repeat (first | exact Take.nil | apply Take.cons | exact Sel.here | apply Sel.there)); first | done | fail) (fun x hx' => ?_)
    obtain ⟨k, bs, q, c⟩ := x
    obtain ⟨hk, hbs, hbl⟩ := hx'
    simp only at hk hbs hbl
    dsimp only
    repeat (first
      | (refine g_ops ?_; first | refine s_q ?_ | refine s_v ?_ | refine s_s ?_ | refine s_n (fun _ => ?_) | refine s_x ?_ | refine s_y ?_ | refine s_mq ?_ | refine s_app (fun _ _ => ?_) | refine s_mv ?_ | refine s_ms ?_ | refine s_b0 (fun _ => ?_) | ((fail_if_success refine g_lit rfl rfl rfl ?_); first | apply g_partM rfl rfl rfl | apply g_partMB rfl rfl rfl | fail))
      | refine g_seq ?_ | refine g_region ?_ | refine g_nil ?_ | refine g_then_normal ?_ | refine g_block ?_ | refine g_in_normal ?_ | refine g_retc ?_
      | refine g_then_ret ?_ | refine g_in_ret ?_ | refine g_exit ?_ | refine g_then_exit ?_ | refine g_in_exit ?_ | refine g_in_other rfl ?_ | refine g_skip ?_
      | refine g_label ?_ | refine g_cond_true rfl ?_ | refine g_cond_false rfl ?_ | exact s_m | intro _)
    refine g_cond_dec rfl (fun h2 => ?_) (fun h2 => ?_)
    · have hk' : k < 3 := by omega
      have hx1 := hx k hk'
      have hm1 := hm k hk'
      have hbs' : (nums.take (k + 1)).flatMap vb = bs ++ vb (nums.getD k 0) := by rw [take_snoc nums k 0 (by omega), List.flatMap_append, ← hbs]; simp
      generalize nums.getD k 0 = m at hx1 hm1 hbs'
      have hv8 := vb_len8 m hm1
      repeat (first
        | (refine g_ops ?_; first | refine s_q ?_ | refine s_v ?_ | refine s_s ?_ | refine s_n (fun _ => ?_) | refine s_x ?_ | refine s_y ?_ | refine s_mq ?_ | refine s_app (fun _ _ => ?_) | refine s_mv ?_ | refine s_ms ?_ | refine s_b0 (fun _ => ?_) | ((fail_if_success refine g_lit rfl rfl rfl ?_); first | apply g_partM rfl rfl rfl | apply g_partMB rfl rfl rfl | fail))
        | refine g_seq ?_ | refine g_region ?_ | refine g_nil ?_ | refine g_then_normal ?_ | refine g_block ?_ | refine g_in_normal ?_ | refine g_retc ?_
        | refine g_then_ret ?_ | refine g_in_ret ?_ | refine g_exit ?_ | refine g_then_exit ?_ | refine g_in_exit ?_ | refine g_in_other rfl ?_ | refine g_skip ?_
        | refine g_label ?_ | refine g_cond_true rfl ?_ | refine g_cond_false rfl ?_ | exact s_m | intro _)
      refine s_q (q := by exact qs_indexAgg inferInstance inferInstance rfl rfl hk' hx1) ?_
      repeat (first
        | (refine g_ops ?_; first | refine s_q ?_ | refine s_v ?_ | refine s_s ?_ | refine s_n (fun _ => ?_) | refine s_x ?_ | refine s_y ?_ | refine s_mq ?_ | refine s_app (fun _ _ => ?_) | refine s_mv ?_ | refine s_ms ?_ | refine s_b0 (fun _ => ?_) | ((fail_if_success refine g_lit rfl rfl rfl ?_); first | apply g_partM rfl rfl rfl | apply g_partMB rfl rfl rfl | fail))
        | refine g_seq ?_ | refine g_region ?_ | refine g_nil ?_ | refine g_then_normal ?_ | refine g_block ?_ | refine g_in_normal ?_ | refine g_retc ?_
        | refine g_then_ret ?_ | refine g_in_ret ?_ | refine g_exit ?_ | refine g_then_exit ?_ | refine g_in_exit ?_ | refine g_in_other rfl ?_ | refine g_skip ?_
        | refine g_label ?_ | refine g_cond_true rfl ?_ | refine g_cond_false rfl ?_ | exact s_m | intro _)
      refine s_q (q := by exact qs_convInt rfl) ?_
      refine g_as 20 (v' := .int .u64 (m : Int)) rfl (congrArg (Value.int .u64) (by rw [u64_mod]; omega)) ?_
      repeat (first
        | (refine g_ops ?_; first | refine s_q ?_ | refine s_v ?_ | refine s_s ?_ | refine s_n (fun _ => ?_) | refine s_x ?_ | refine s_y ?_ | refine s_mq ?_ | refine s_app (fun _ _ => ?_) | refine s_mv ?_ | refine s_ms ?_ | refine s_b0 (fun _ => ?_) | ((fail_if_success refine g_lit rfl rfl rfl ?_); first | apply g_partM rfl rfl rfl | apply g_partMB rfl rfl rfl | fail) | refine s_c (varint m (by omega)) (fun _ _ => ?_))
        | refine g_seq ?_ | refine g_region ?_ | refine g_nil ?_ | refine g_then_normal ?_ | refine g_block ?_ | refine g_in_normal ?_ | refine g_retc ?_
        | refine g_then_ret ?_ | refine g_in_ret ?_ | refine g_exit ?_ | refine g_then_exit ?_ | refine g_in_exit ?_ | refine g_in_other rfl ?_ | refine g_skip ?_
        | refine g_label ?_ | refine g_cond_true rfl ?_ | refine g_cond_false rfl ?_ | exact s_m | intro _ | (refine gp_take ?_; first | refine p_q ?_ | refine p_x ?_ | refine p_mq ?_ | ((fail_if_success refine gp_lit rfl rfl rfl rfl ?_); first | apply gp_guard_dec rfl rfl rfl rfl | apply gp_guard rfl rfl rfl rfl | fail))
        | (refine gp_see ?_; first | refine p_f ?_ | refine p_sx ?_ | ((fail_if_success refine gp_lit rfl rfl rfl rfl ?_); first | apply gp_guard_dec rfl rfl rfl rfl | apply gp_guard rfl rfl rfl rfl | fail) | refine p_sq ?_)
        | (refine gp_one ?_; first | refine p_v ?_ | refine p_s ?_ | refine p_n (fun _ => ?_) | refine p_y ?_ | refine p_app (fun _ _ => ?_) | refine p_mv ?_ | refine p_ms ?_ | refine p_b0 (fun _ => ?_) | ((fail_if_success refine gp_lit rfl rfl rfl rfl ?_); first | apply gp_guard_dec rfl rfl rfl rfl | apply gp_guard rfl rfl rfl rfl | fail) | refine p_c (varint m (by omega)) (fun _ _ => ?_))
        | refine gp_two ?_ ?_ | refine gp_done hd hk ?_ | intro _ | refine p_ta hd hk (fun _ _ _ hd hk => ?_) | refine p_ts hd hk (fun _ hd hk => ?_))
      rename_i q' c'
      rw [cells8_append, show bs.length + (vb m).length = (bs ++ vb m).length by simp]
      exact g_again ⟨k + 1, bs ++ vb m, q', c'⟩ (by simp only; omega) ⟨by simp only; omega, hbs'.symm, by simp; omega⟩ (by (repeat (first | exact FrSub.nil | refine FrSub.cons rfl ?_)); first | done | fail) (by (repeat (first | exact Take.nil | apply Take.cons | exact Sel.here | apply Sel.there)); first | done | fail)
    · obtain rfl : k = 3 := by omega
      repeat (first
        | (refine g_ops ?_; first | refine s_q ?_ | refine s_v ?_ | refine s_s ?_ | refine s_n (fun _ => ?_) | refine s_x ?_ | refine s_y ?_ | refine s_mq ?_ | refine s_app (fun _ _ => ?_) | refine s_mv ?_ | refine s_ms ?_ | refine s_b0 (fun _ => ?_) | ((fail_if_success refine g_lit rfl rfl rfl ?_); first | apply g_partM rfl rfl rfl | apply g_partMB rfl rfl rfl | fail))
        | refine g_seq ?_ | refine g_region ?_ | refine g_nil ?_ | refine g_then_normal ?_ | refine g_block ?_ | refine g_in_normal ?_ | refine g_retc ?_
        | refine g_then_ret ?_ | refine g_in_ret ?_ | refine g_exit ?_ | refine g_then_exit ?_ | refine g_in_exit ?_ | refine g_in_other rfl ?_ | refine g_skip ?_
        | refine g_label ?_ | refine g_cond_true rfl ?_ | refine g_cond_false rfl ?_ | exact s_m | intro _)
      rw [← hbs]
      exact g_ret (q, c) rfl (by (repeat (first | exact RVs.nil | apply RVs.tmp rfl | apply RVs.cellA rfl (by (repeat (first | exact Sel.here | apply Sel.there)); first | done | fail) (by (repeat (first | exact Cut.zero | apply Cut.take | apply Cut.skip)); first | done | fail) | apply RVs.cell1 rfl (by (repeat (first | exact Sel.here | apply Sel.there)); first | done | fail) rfl)); first | done | fail) (by (repeat (first | exact Take.nil | apply Take.cons | exact Sel.here | apply Sel.there)); first | done | fail) rfl trivial
theorem cloneB (q : Option Addr) (c : Nat) (bs : List UInt8) (hb : bs.length ≤ 1000000000) : Does Tryz.prog 83 [.slice q bs.length c] [.own q bs.length c 1 (cells8 bs) 5] (X := OA) (fun x => .slice x.1 bs.length x.2) (fun x => [.own x.1 bs.length x.2 1 (cells8 bs) 5]) (fun _ => True) := by
  refine fn_intro Tryz.func83 rfl Tryz.ntmps83 rfl (by simp only [argFr, Nat.zero_add, Nat.reduceAdd]; rfl) (fun Γ => ?_)
  cases q with
  | none =>
    refine g_ownNone .here (fun h1 h2 h3 => ?_)
    subst h2
    obtain rfl : bs = [] := List.eq_nil_of_length_eq_zero h1
    repeat (first
      | (refine g_ops ?_; first | refine s_q ?_ | refine s_v ?_ | refine s_s ?_ | refine s_n (fun _ => ?_) | refine s_x ?_ | refine s_y ?_ | refine s_mq ?_ | refine s_app (fun _ _ => ?_) | refine s_mv ?_ | refine s_ms ?_ | refine s_b0 (fun _ => ?_) | ((fail_if_success refine g_lit rfl rfl rfl ?_); first | apply g_partM rfl rfl rfl | apply g_partMB rfl rfl rfl | fail))
      | refine g_seq ?_ | refine g_region ?_ | refine g_nil ?_ | refine g_then_normal ?_ | refine g_block ?_ | refine g_in_normal ?_ | refine g_retc ?_
      | refine g_then_ret ?_ | refine g_in_ret ?_ | refine g_exit ?_ | refine g_then_exit ?_ | refine g_in_exit ?_ | refine g_in_other rfl ?_ | refine g_skip ?_
      | refine g_label ?_ | refine g_cond_true rfl ?_ | refine g_cond_false rfl ?_ | exact s_m | intro _)
    exact g_ret (none, 0) rfl (by (repeat (first | exact RVs.nil | apply RVs.tmp rfl | apply RVs.cellA rfl (by (repeat (first | exact Sel.here | apply Sel.there)); first | done | fail) (by (repeat (first | exact Cut.zero | apply Cut.take | apply Cut.skip)); first | done | fail) | apply RVs.cell1 rfl (by (repeat (first | exact Sel.here | apply Sel.there)); first | done | fail) rfl)); first | done | fail) (by (repeat (first | exact Take.nil | apply Take.cons | exact Sel.here | apply Sel.there)); first | done | fail) rfl trivial
  | some p =>
    repeat (first
      | (refine g_ops ?_; first | refine s_q ?_ | refine s_v ?_ | refine s_s ?_ | refine s_n (fun _ => ?_) | refine s_x ?_ | refine s_y ?_ | refine s_mq ?_ | refine s_app (fun _ _ => ?_) | refine s_mv ?_ | refine s_ms ?_ | refine s_b0 (fun _ => ?_) | ((fail_if_success refine g_lit rfl rfl rfl ?_); first | apply g_partM rfl rfl rfl | apply g_partMB rfl rfl rfl | fail))
      | refine g_seq ?_ | refine g_region ?_ | refine g_nil ?_ | refine g_then_normal ?_ | refine g_block ?_ | refine g_in_normal ?_ | refine g_retc ?_
      | refine g_then_ret ?_ | refine g_in_ret ?_ | refine g_exit ?_ | refine g_then_exit ?_ | refine g_in_exit ?_ | refine g_in_other rfl ?_ | refine g_skip ?_
      | refine g_label ?_ | refine g_cond_true rfl ?_ | refine g_cond_false rfl ?_ | exact s_m | intro _)
    rw [Nat.zero_add, List.nil_append]
    rename_i q' c'
    exact g_ret (q', c') rfl (by (repeat (first | exact RVs.nil | apply RVs.tmp rfl | apply RVs.cellA rfl (by (repeat (first | exact Sel.here | apply Sel.there)); first | done | fail) (by (repeat (first | exact Cut.zero | apply Cut.take | apply Cut.skip)); first | done | fail) | apply RVs.cell1 rfl (by (repeat (first | exact Sel.here | apply Sel.there)); first | done | fail) rfl)); first | done | fail) (by (repeat (first | exact Take.nil | apply Take.cons | exact Sel.here | apply Sel.there)); first | done | fail) rfl trivial
theorem btext (q : Option Addr) (c : Nat) (bs : List UInt8) (s : ByteArray) (hb : bs.length ≤ 100000000) (hs : s.size ≤ 100000000) : Does Tryz.prog 69 [.slice q bs.length c, .string s] [.own q bs.length c 1 (cells8 bs) 5] (X := OA) (fun x => .slice x.1 (bs ++ txE s).length x.2) (fun x => [.own x.1 (bs ++ txE s).length x.2 1 (cells8 (bs ++ txE s)) 5]) (fun _ => True) := by
  have hv := vb_len10 s.size (by omega)
  have e1 : cells8 bs ++ cells8 (vb s.size) ++ byteCells s = cells8 (bs ++ txE s) := by
    rw [cells8_append, txE, ← List.append_assoc]
    simp [cells8, byteCells]
  have e2 : bs.length + (vb s.size).length + s.size = (bs ++ txE s).length := by simp [txE]; omega
  refine fn_intro Tryz.func69 rfl Tryz.ntmps69 rfl (by simp only [argFr, Nat.zero_add, Nat.reduceAdd]; rfl) (fun Γ => ?_)
  repeat ((fail_if_success refine s_at 9 ?_); first
    | (refine g_ops ?_; first | refine s_q ?_ | refine s_v ?_ | refine s_s ?_ | refine s_n (fun _ => ?_) | refine s_x ?_ | refine s_y ?_ | refine s_mq ?_ | refine s_app (fun _ _ => ?_) | refine s_mv ?_ | refine s_ms ?_ | refine s_b0 (fun _ => ?_) | ((fail_if_success refine g_lit rfl rfl rfl ?_); first | apply g_partM rfl rfl rfl | apply g_partMB rfl rfl rfl | fail) | refine s_c (cloneB q c bs (by omega)) (fun _ _ => ?_))
    | refine g_seq ?_ | refine g_region ?_ | refine g_nil ?_ | refine g_then_normal ?_ | refine g_block ?_ | refine g_in_normal ?_ | refine g_retc ?_ | refine g_then_ret ?_
    | refine g_in_ret ?_ | refine g_exit ?_ | refine g_then_exit ?_ | refine g_in_exit ?_ | refine g_in_other rfl ?_ | refine g_skip ?_ | refine g_label ?_
    | refine g_cond_true rfl ?_ | refine g_cond_false rfl ?_ | exact s_m | intro _)
  refine s_q (q := by exact qs_convInt rfl) ?_
  refine g_as 9 (v' := .int .u64 ((s.size : Nat) : Int)) rfl (congrArg (Value.int .u64) (by rw [u64_mod]; omega)) ?_
  repeat (first
    | (refine g_ops ?_; first | refine s_q ?_ | refine s_v ?_ | refine s_s ?_ | refine s_n (fun _ => ?_) | refine s_x ?_ | refine s_y ?_ | refine s_mq ?_ | refine s_app (fun _ _ => ?_) | refine s_mv ?_ | refine s_ms ?_ | refine s_b0 (fun _ => ?_) | ((fail_if_success refine g_lit rfl rfl rfl ?_); first | apply g_partM rfl rfl rfl | apply g_partMB rfl rfl rfl | fail) | refine s_c (varint s.size (by omega)) (fun _ _ => ?_))
    | refine g_seq ?_ | refine g_region ?_ | refine g_nil ?_ | refine g_then_normal ?_ | refine g_block ?_ | refine g_in_normal ?_ | refine g_retc ?_ | refine g_then_ret ?_
    | refine g_in_ret ?_ | refine g_exit ?_ | refine g_then_exit ?_ | refine g_in_exit ?_ | refine g_in_other rfl ?_ | refine g_skip ?_ | refine g_label ?_
    | refine g_cond_true rfl ?_ | refine g_cond_false rfl ?_ | exact s_m | intro _)
  rename_i q' c'
  rw [e1, e2]
  exact g_ret (q', c') rfl (by (repeat (first | exact RVs.nil | apply RVs.tmp rfl | apply RVs.cellA rfl (by (repeat (first | exact Sel.here | apply Sel.there)); first | done | fail) (by (repeat (first | exact Cut.zero | apply Cut.take | apply Cut.skip)); first | done | fail) | apply RVs.cell1 rfl (by (repeat (first | exact Sel.here | apply Sel.there)); first | done | fail) rfl)); first | done | fail) (by (repeat (first | exact Take.nil | apply Take.cons | exact Sel.here | apply Sel.there)); first | done | fail) rfl trivial
theorem nums {C : Chunk} (q : Option Addr) (c : Nat) (bs : List UInt8) (p : Option Addr) (cp : Nat) (ns : List Nat) (hS : SlAt C 1 p ns.length (ns.map fun n => .int .u64 ((n : Nat) : Int))) (hn : ∀ n ∈ ns, n < 18446744073709551616) (hl : ns.length ≤ 1000) (hb : bs.length ≤ 100000000) :
    Does Tryz.prog 70 [.slice q bs.length c, .slice p ns.length cp] [.own q bs.length c 1 (cells8 bs) 5, C] (X := OA) (fun x => .slice x.1 (bs ++ ns.flatMap vb).length x.2) (fun x => [.own x.1 (bs ++ ns.flatMap vb).length x.2 1 (cells8 (bs ++ ns.flatMap vb)) 5, C]) (fun _ => True) := by
  refine fn_intro Tryz.func70 rfl Tryz.ntmps70 rfl (by simp only [argFr, Nat.zero_add, Nat.reduceAdd]; rfl) (fun Γ => ?_)
  repeat (first
    | (refine g_ops ?_; first | refine s_q ?_ | refine s_v ?_ | refine s_s ?_ | refine s_n (fun _ => ?_) | refine s_x ?_ | refine s_y ?_ | refine s_mq ?_ | refine s_app (fun _ _ => ?_) | refine s_mv ?_ | refine s_ms ?_ | refine s_b0 (fun _ => ?_) | ((fail_if_success refine g_lit rfl rfl rfl ?_); first | apply g_partM rfl rfl rfl | apply g_partMB rfl rfl rfl | fail))
    | refine g_seq ?_ | refine g_region ?_ | refine g_nil ?_ | refine g_then_normal ?_ | refine g_block ?_ | refine g_in_normal ?_ | refine g_retc ?_ | refine g_then_ret ?_
    | refine g_in_ret ?_ | refine g_exit ?_ | refine g_then_exit ?_ | refine g_in_exit ?_ | refine g_in_other rfl ?_ | refine g_skip ?_ | refine g_label ?_
    | refine g_cond_true rfl ?_ | refine g_cond_false rfl ?_ | exact s_m | intro _)
  refine g_loop (X := DecX) (fun x => [(0, .slice x.q x.bs.length x.c), (4, .slice none 0 0), (7, .slice p ns.length cp), (8, int ns.length), (9, int x.u)]) (fun x => [.own x.q x.bs.length x.c 1 (cells8 x.bs) 5, C]) (fun x => x.u ≤ ns.length ∧ x.bs = bs ++ (ns.take x.u).flatMap vb ∧ x.bs.length ≤ bs.length + 10 * x.u) (fun x => ns.length - x.u)
    ⟨0, bs, q, c⟩ ⟨Nat.zero_le _, by simp, by simp⟩ (by (repeat (first | exact FrSub.nil | refine FrSub.cons rfl ?_)); first | done | fail) (by (repeat (first | exact Take.nil | apply Take.cons | exact Sel.here | apply Sel.there)); first | done | fail) (fun x hx => ?_)
  obtain ⟨i, b2, q2, c2⟩ := x
  obtain ⟨hi, hbs, hbl⟩ := hx
  dsimp only at hi hbs hbl ⊢
  repeat (first
    | (refine g_ops ?_; first | refine s_q ?_ | refine s_v ?_ | refine s_s ?_ | refine s_n (fun _ => ?_) | refine s_x ?_ | refine s_y ?_ | refine s_mq ?_ | refine s_app (fun _ _ => ?_) | refine s_mv ?_ | refine s_ms ?_ | refine s_b0 (fun _ => ?_) | ((fail_if_success refine g_lit rfl rfl rfl ?_); first | apply g_partM rfl rfl rfl | apply g_partMB rfl rfl rfl | fail))
    | refine g_seq ?_ | refine g_region ?_ | refine g_nil ?_ | refine g_then_normal ?_ | refine g_block ?_ | refine g_in_normal ?_ | refine g_retc ?_ | refine g_then_ret ?_
    | refine g_in_ret ?_ | refine g_exit ?_ | refine g_then_exit ?_ | refine g_in_exit ?_ | refine g_in_other rfl ?_ | refine g_skip ?_ | refine g_label ?_
    | refine g_cond_true rfl ?_ | refine g_cond_false rfl ?_ | exact s_m | intro _)
  refine g_cond_dec rfl (fun h => ?_) (fun h => ?_)
  · have hi2 : i < ns.length := by omega
    have hm : ns[i] < 18446744073709551616 := hn _ (by simp)
    have hv := vb_len10 ns[i] hm
    obtain ⟨b, o, rfl, hr0⟩ := slAt_cell hS (i := i) (v := .int .u64 ((ns[i] : Nat) : Int)) (by simp [hi2])
    have hbs' : (ns.take (i + 1)).flatMap vb = (ns.take i).flatMap vb ++ vb ns[i] := by rw [List.take_succ_eq_append_getElem hi2, List.flatMap_append]; simp
    generalize ns[i] = m at hm hv hr0 hbs'
    have hr : ∀ j, j = i → Reads C ⟨b, o + j, none⟩ (.int .u64 ((m : Nat) : Int)) := fun j e => by subst e; exact hr0
    repeat (first
      | (refine g_ops ?_; first | refine s_q ?_ | refine s_v ?_ | refine s_s ?_ | refine s_n (fun _ => ?_) | refine s_x ?_ | refine s_y ?_ | refine s_mq ?_ | refine s_app (fun _ _ => ?_) | refine s_mv ?_ | refine s_ms ?_ | refine s_b0 (fun _ => ?_) | ((fail_if_success refine g_lit rfl rfl rfl ?_); first | apply g_partM rfl rfl rfl | apply g_partMB rfl rfl rfl | fail) | refine s_c (varint m hm) (fun _ _ => ?_))
      | refine g_seq ?_ | refine g_region ?_ | refine g_nil ?_ | refine g_then_normal ?_ | refine g_block ?_ | refine g_in_normal ?_ | refine g_retc ?_
      | refine g_then_ret ?_ | refine g_in_ret ?_ | refine g_exit ?_ | refine g_then_exit ?_ | refine g_in_exit ?_ | refine g_in_other rfl ?_ | refine g_skip ?_
      | refine g_label ?_ | refine g_cond_true rfl ?_ | refine g_cond_false rfl ?_ | exact s_m | intro _)
    rename_i q' c'
    rw [cells8_append, show b2.length + (vb m).length = (b2 ++ vb m).length by simp]
    exact g_again ⟨i + 1, b2 ++ vb m, q', c'⟩ (by simp only; omega) ⟨hi2, by dsimp only; rw [hbs', hbs, List.append_assoc], by simp only [List.length_append]; omega⟩ (by (repeat (first | exact FrSub.nil | refine FrSub.cons rfl ?_)); first | done | fail) (by (repeat (first | exact Take.nil | apply Take.cons | exact Sel.here | apply Sel.there)); first | done | fail)
  · obtain rfl : i = ns.length := by omega
    rw [List.take_length] at hbs
    subst hbs
    repeat (first
      | (refine g_ops ?_; first | refine s_q ?_ | refine s_v ?_ | refine s_s ?_ | refine s_n (fun _ => ?_) | refine s_x ?_ | refine s_y ?_ | refine s_mq ?_ | refine s_app (fun _ _ => ?_) | refine s_mv ?_ | refine s_ms ?_ | refine s_b0 (fun _ => ?_) | ((fail_if_success refine g_lit rfl rfl rfl ?_); first | apply g_partM rfl rfl rfl | apply g_partMB rfl rfl rfl | fail))
      | refine g_seq ?_ | refine g_region ?_ | refine g_nil ?_ | refine g_then_normal ?_ | refine g_block ?_ | refine g_in_normal ?_ | refine g_retc ?_
      | refine g_then_ret ?_ | refine g_in_ret ?_ | refine g_exit ?_ | refine g_then_exit ?_ | refine g_in_exit ?_ | refine g_in_other rfl ?_ | refine g_skip ?_
      | refine g_label ?_ | refine g_cond_true rfl ?_ | refine g_cond_false rfl ?_ | exact s_m | intro _)
    exact g_ret (q2, c2) rfl (by (repeat (first | exact RVs.nil | apply RVs.tmp rfl | apply RVs.cellA rfl (by (repeat (first | exact Sel.here | apply Sel.there)); first | done | fail) (by (repeat (first | exact Cut.zero | apply Cut.take | apply Cut.skip)); first | done | fail) | apply RVs.cell1 rfl (by (repeat (first | exact Sel.here | apply Sel.there)); first | done | fail) rfl)); first | done | fail) (by (repeat (first | exact Take.nil | apply Take.cons | exact Sel.here | apply Sel.there)); first | done | fail) rfl trivial
theorem slAt_row1 (b : Nat) (v : Value) (e : TypeId) (fz : Nat × Nat) (h : v.oneCell' = true) : SlAt (.row b [v] e fz) 1 (some ⟨b, 0, none⟩) 1 [v] :=
  ⟨rfl, by simp [h], (fun h => by cases h), fun j u hu => ⟨b, 0, rfl, by rw [Nat.zero_add]; exact reads_row hu⟩⟩
theorem nums1 (q : Option Addr) (c : Nat) (bs : List UInt8) (b cp : Nat) (e : TypeId) (n : Nat) (hn : n < 18446744073709551616) (hb : bs.length ≤ 100000000) :
    Does Tryz.prog 70 [.slice q bs.length c, .slice (some ⟨b, 0, none⟩) 1 cp] [.own q bs.length c 1 (cells8 bs) 5, .row b [.int .u64 ((n : Nat) : Int)] e] (X := OA) (fun x => .slice x.1 (bs ++ vb n).length x.2) (fun x => [.own x.1 (bs ++ vb n).length x.2 1 (cells8 (bs ++ vb n)) 5, .row b [.int .u64 ((n : Nat) : Int)] e]) (fun _ => True) := by
  have := nums q c bs (some ⟨b, 0, none⟩) cp [n] (slAt_row1 b _ e (0, 0) rfl) (by simpa using hn) (by simp) hb
  simpa using this
theorem encodeEvent {H : HP} (hV : VStr H) (x : Ev) (h1 : x.st.size ≤ 9223372036854775807) (h2 : x.data.size ≤ 9223372036854775807) : Does Tryz.prog 45 [x.v] [Pile H] (X := OA) (fun y => .slice y.1 x.enc.length y.2) (fun y => [.own y.1 x.enc.length y.2 1 (cells8 x.enc) 5, Pile H]) (fun _ => True) := by
  refine fn_intro Tryz.func45 rfl Tryz.ntmps45 rfl (by simp only [argFr, Nat.zero_add, Nat.reduceAdd]; rfl) (fun Γ => ?_)
  repeat (first
    | (refine g_ops ?_; first | refine s_q ?_ | refine s_v ?_ | refine s_s ?_ | refine s_n (fun _ => ?_) | refine s_x ?_ | refine s_y ?_ | refine s_mq ?_ | refine s_appB (fun _ _ => ?_) | refine s_app (fun _ _ => ?_) | refine s_mv ?_ | refine s_ms ?_ | refine s_b0 (fun _ => ?_) | ((fail_if_success refine g_lit rfl rfl rfl ?_); first | apply g_partM rfl rfl rfl | apply g_partMB rfl rfl rfl | fail) | refine s_p (sound x.s.w x.s.l x.s.n) ?_ | refine s_k (name hV x.st h1) ?_ | refine s_k (valid hV x.data h2) ?_)
    | apply g_regB (id := 1) 45 | refine g_seq ?_ | refine g_region ?_ | refine g_nil ?_ | refine g_then_normal ?_ | refine g_block ?_ | refine g_in_normal ?_
    | refine g_retc ?_ | refine g_then_ret ?_ | refine g_in_ret ?_ | refine g_exit ?_ | refine g_then_exit ?_ | refine g_in_exit ?_ | refine g_in_other rfl ?_
    | refine g_skip ?_ | refine g_label ?_ | refine g_cond_true rfl ?_ | refine g_cond_false rfl ?_ | exact s_m | intro _ | (refine gp_take ?_; first | refine p_q ?_ | refine p_x ?_ | refine p_mq ?_ | ((fail_if_success refine gp_lit rfl rfl rfl rfl ?_); first | apply gp_guard_dec rfl rfl rfl rfl | apply gp_guard rfl rfl rfl rfl | fail) | refine p_p (sound x.s.w x.s.l x.s.n) ?_)
    | (refine gp_see ?_; first | refine p_f ?_ | refine p_sx ?_ | ((fail_if_success refine gp_lit rfl rfl rfl rfl ?_); first | apply gp_guard_dec rfl rfl rfl rfl | apply gp_guard rfl rfl rfl rfl | fail) | refine p_sp (sound x.s.w x.s.l x.s.n) ?_ | refine p_h (name hV x.st h1) hd hk ?_ | refine p_h (valid hV x.data h2) hd hk ?_ | refine p_sq ?_)
    | (refine gp_one ?_; first | refine p_v ?_ | refine p_s ?_ | refine p_n (fun _ => ?_) | refine p_y ?_ | refine p_appB (fun _ _ => ?_) | refine p_app (fun _ _ => ?_) | refine p_mv ?_ | refine p_ms ?_ | refine p_b0 (fun _ => ?_) | ((fail_if_success refine gp_lit rfl rfl rfl rfl ?_); first | apply gp_guard_dec rfl rfl rfl rfl | apply gp_guard rfl rfl rfl rfl | fail) | refine p_k (name hV x.st h1) ?_ | refine p_k (valid hV x.data h2) ?_)
    | refine gp_two ?_ ?_ | refine gp_done hd hk ?_ | intro _ | refine p_ta hd hk (fun _ _ _ hd hk => ?_) | refine p_ts hd hk (fun _ hd hk => ?_))
  refine g_as 45 (v' := .bool (!x.ok)) rfl (congrArg Value.bool ?_) ?_
  · simp only [Bool.cond_true_left, Ev.ok, nameB, S3.sound]
    generalize decide (x.st ≠ ByteArray.empty) = b1
    generalize everyB namedB 40 x.st = b2
    generalize Lib.validD x.st.data.toList = b3
    generalize Lib.validD x.data.data.toList = b4
    generalize soundB x.s.w x.s.l x.s.n = b5
    rw [Bool.eq_iff_iff]
    cases b1 <;> cases b2 <;> cases b3 <;> cases b4 <;> cases b5 <;> simp <;> omega
  refine g_cond rfl (fun h => ?_) (fun h => ?_)
  · have hk : x.ok = false := by simpa using h
    repeat (first
      | (refine g_ops ?_; first | refine s_q ?_ | refine s_v ?_ | refine s_s ?_ | refine s_n (fun _ => ?_) | refine s_x ?_ | refine s_y ?_ | refine s_mq ?_ | refine s_appB (fun _ _ => ?_) | refine s_app (fun _ _ => ?_) | refine s_mv ?_ | refine s_ms ?_ | refine s_b0 (fun _ => ?_) | ((fail_if_success refine g_lit rfl rfl rfl ?_); first | apply g_partM rfl rfl rfl | apply g_partMB rfl rfl rfl | fail))
      | refine g_seq ?_ | refine g_region ?_ | refine g_nil ?_ | refine g_then_normal ?_ | refine g_block ?_ | refine g_in_normal ?_ | refine g_retc ?_
      | refine g_then_ret ?_ | refine g_in_ret ?_ | refine g_exit ?_ | refine g_then_exit ?_ | refine g_in_exit ?_ | refine g_in_other rfl ?_ | refine g_skip ?_
      | refine g_label ?_ | refine g_cond_true rfl ?_ | refine g_cond_false rfl ?_ | exact s_m | intro _)
    have e : x.enc = [] := by unfold Ev.enc; rw [if_neg (by simp [hk])]
    rw [e]
    refine g_own_nil none 1 5 ?_
    exact g_ret (none, 0) rfl (by (repeat (first | exact RVs.nil | apply RVs.tmp rfl | apply RVs.cellA rfl (by (repeat (first | exact Sel.here | apply Sel.there)); first | done | fail) (by (repeat (first | exact Cut.zero | apply Cut.take | apply Cut.skip)); first | done | fail) | apply RVs.cell1 rfl (by (repeat (first | exact Sel.here | apply Sel.there)); first | done | fail) rfl)); first | done | fail) (by (repeat (first | exact Take.nil | apply Take.cons | exact Sel.here | apply Sel.there)); first | done | fail) rfl trivial
  · have hk : x.ok = true := by simpa using h
    obtain ⟨k1, k2, k3, k4, k5, k6⟩ := (Ev.ok_iff x).1 hk
    have n1 := name_size k1
    have v1 := vb_len10 x.st.size (by omega)
    have v2 := vb_len10 x.ver.toNat (by omega)
    have v3 := vb_len10 x.data.size (by omega)
    have hl : (txE x.st).length ≤ 170 := by simp only [txE, List.length_append]; rw [show x.st.data.toList.length = x.st.size from by simp]; omega
    have hl3 : (txE x.data).length ≤ 1010 := by simp only [txE, List.length_append]; rw [show x.data.data.toList.length = x.data.size from by simp]; omega
    have hl2 := x.s.enc_len
    have e : x.enc = txE x.st ++ vb x.ver.toNat ++ txE x.data ++ x.s.enc ++ vb x.idx.toNat := by unfold Ev.enc; rw [if_pos hk]
    rw [e]
    have hB1 : ([] ++ txE x.st ++ vb x.ver.toNat).length ≤ 1000 := by simp only [List.length_append, List.length_nil]; omega
    have hB3 : ([] ++ txE x.st ++ vb x.ver.toNat ++ txE x.data).length ≤ 3000 := by simp only [List.length_append, List.length_nil] at hB1 ⊢; omega
    have hB4 : ([] ++ txE x.st ++ vb x.ver.toNat ++ txE x.data ++ x.s.enc).length ≤ 4000 := by simp only [List.length_append, List.length_nil] at hB3 ⊢; omega
    have hB0 : ([] ++ txE x.st).length ≤ 1000 := by simp only [List.length_append, List.length_nil]; omega
    have hE : txE x.st ++ vb x.ver.toNat ++ txE x.data ++ x.s.enc ++ vb x.idx.toNat = [] ++ txE x.st ++ vb x.ver.toNat ++ txE x.data ++ x.s.enc ++ vb x.idx.toNat := by simp
    rw [hE]
    clear hE e
    obtain ⟨B3, hB⟩ : ∃ B3, B3 = [] ++ txE x.st ++ vb x.ver.toNat ++ txE x.data := ⟨_, rfl⟩
    rw [← hB] at hB3 hB4 ⊢
    repeat (first
      | (refine g_ops ?_; first | refine s_q ?_ | refine s_v ?_ | refine s_s ?_ | refine s_n (fun _ => ?_) | refine s_x ?_ | refine s_y ?_ | refine s_mq ?_ | refine s_appB (fun _ _ => ?_) | refine s_app (fun _ _ => ?_) | refine s_mv ?_ | refine s_ms ?_ | refine s_b0 (fun _ => ?_) | ((fail_if_success refine g_lit rfl rfl rfl ?_); first | apply g_partM rfl rfl rfl | apply g_partMB rfl rfl rfl | fail))
      | refine g_seq ?_ | refine g_region ?_ | refine g_nil ?_ | refine g_then_normal ?_ | refine g_block ?_ | refine g_in_normal ?_ | refine g_retc ?_
      | refine g_then_ret ?_ | refine g_in_ret ?_ | refine g_exit ?_ | refine g_then_exit ?_ | refine g_in_exit ?_ | refine g_in_other rfl ?_ | refine g_skip ?_
      | refine g_label ?_ | refine g_cond_true rfl ?_ | refine g_cond_false rfl ?_ | exact s_m | intro _)
    rename_i bx
    refine g_cutX (X := OA) (fun y => [(1, ptr bx), (2, .slice none 0 0), (3, .slice y.1 B3.length y.2)]) (fun y => [.own y.1 B3.length y.2 1 (cells8 B3) 5, .row bx x.cells 68, Pile H]) (fun _ => True) ?_ (fun y _ => ?_)
    · rw [hB]
      refine g_own_nil none 1 5 ?_
      refine g_draw (.take 0 (.see 1 [] (.take 3 (.see 4 [] (.take 5 (.take 8 (.see 9 [] (.two 2 (.one 6 (.one 7 (.one 10 (.take 11 .done)))) 6 (.one 2 (.one 7 (.one 10 (.take 11 .done)))))))))))) (by kernel_rfl) (C := [.row bx x.cells 68, Pile H]) (by (repeat (first | exact Take.nil | apply Take.cons | exact Sel.here | apply Sel.there)); first | done | fail) (fun k hd hk => ?_)
      repeat (first
        | (refine gp_take ?_; first | refine p_q ?_ | refine p_x ?_ | refine p_mq ?_ | ((fail_if_success refine gp_lit rfl rfl rfl rfl ?_); first | apply gp_guard_dec rfl rfl rfl rfl | apply gp_guard rfl rfl rfl rfl | fail))
        | (refine gp_see ?_; first | refine p_f ?_ | refine p_sx ?_ | ((fail_if_success refine gp_lit rfl rfl rfl rfl ?_); first | apply gp_guard_dec rfl rfl rfl rfl | apply gp_guard rfl rfl rfl rfl | fail) | refine p_sq ?_)
        | (refine gp_one ?_; first | refine p_v ?_ | refine p_s ?_ | refine p_n (fun _ => ?_) | refine p_y ?_ | refine p_appB (fun _ _ => ?_) | refine p_app (fun _ _ => ?_) | refine p_mv ?_ | refine p_ms ?_ | refine p_b0 (fun _ => ?_) | ((fail_if_success refine gp_lit rfl rfl rfl rfl ?_); first | apply gp_guard_dec rfl rfl rfl rfl | apply gp_guard rfl rfl rfl rfl | fail))
        | refine gp_two ?_ ?_ | refine gp_done hd hk ?_ | intro _ | refine p_ta hd hk (fun _ _ _ hd hk => ?_) | refine p_ts hd hk (fun _ hd hk => ?_))
      refine p_q (q := by intro Δ; exact qs_convInt rfl) ?_
      refine gp_as 51 (v' := .int .u64 ((x.ver.toNat : Nat) : Int)) rfl (congrArg (Value.int .u64) (by rw [u64_mod]; omega)) ?_
      first
        | (refine gp_take ?_; first | refine p_q ?_ | refine p_x ?_ | refine p_mq ?_ | ((fail_if_success refine gp_lit rfl rfl rfl rfl ?_); first | apply gp_guard_dec rfl rfl rfl rfl | apply gp_guard rfl rfl rfl rfl | fail))
        | (refine gp_see ?_; first | refine p_f ?_ | refine p_sx ?_ | ((fail_if_success refine gp_lit rfl rfl rfl rfl ?_); first | apply gp_guard_dec rfl rfl rfl rfl | apply gp_guard rfl rfl rfl rfl | fail) | refine p_sq ?_)
        | (refine gp_one ?_; first | refine p_v ?_ | refine p_s ?_ | refine p_n (fun _ => ?_) | refine p_y ?_ | refine p_appB (fun _ _ => ?_) | refine p_app (fun _ _ => ?_) | refine p_mv ?_ | refine p_ms ?_ | refine p_b0 (fun _ => ?_) | ((fail_if_success refine gp_lit rfl rfl rfl rfl ?_); first | apply gp_guard_dec rfl rfl rfl rfl | apply gp_guard rfl rfl rfl rfl | fail))
        | refine gp_two ?_ ?_ | refine gp_done hd hk ?_ | intro _ | refine p_ta hd hk (fun _ _ _ hd hk => ?_) | refine p_ts hd hk (fun _ hd hk => ?_)
      first
        | (refine gp_take ?_; first | refine p_q ?_ | refine p_x ?_ | refine p_mq ?_ | ((fail_if_success refine gp_lit rfl rfl rfl rfl ?_); first | apply gp_guard_dec rfl rfl rfl rfl | apply gp_guard rfl rfl rfl rfl | fail))
        | (refine gp_see ?_; first | refine p_f ?_ | refine p_sx ?_ | ((fail_if_success refine gp_lit rfl rfl rfl rfl ?_); first | apply gp_guard_dec rfl rfl rfl rfl | apply gp_guard rfl rfl rfl rfl | fail) | refine p_sq ?_)
        | (refine gp_one ?_; first | refine p_v ?_ | refine p_s ?_ | refine p_n (fun _ => ?_) | refine p_y ?_ | refine p_appB (fun _ _ => ?_) | refine p_app (fun _ _ => ?_) | refine p_mv ?_ | refine p_ms ?_ | refine p_b0 (fun _ => ?_) | ((fail_if_success refine gp_lit rfl rfl rfl rfl ?_); first | apply gp_guard_dec rfl rfl rfl rfl | apply gp_guard rfl rfl rfl rfl | fail))
        | refine gp_two ?_ ?_ | refine gp_done hd hk ?_ | intro _ | refine p_ta hd hk (fun _ _ _ hd hk => ?_) | refine p_ts hd hk (fun _ hd hk => ?_)
      refine gp_two ?_ ?_
      all_goals
        repeat (first
          | (refine gp_take ?_; first | refine p_q ?_ | refine p_x ?_ | refine p_mq ?_ | ((fail_if_success refine gp_lit rfl rfl rfl rfl ?_); first | apply gp_guard_dec rfl rfl rfl rfl | apply gp_guard rfl rfl rfl rfl | fail))
          | (refine gp_see ?_; first | refine p_f ?_ | refine p_sx ?_ | ((fail_if_success refine gp_lit rfl rfl rfl rfl ?_); first | apply gp_guard_dec rfl rfl rfl rfl | apply gp_guard rfl rfl rfl rfl | fail) | refine p_sq ?_)
          | (refine gp_one ?_; first | refine p_v ?_ | refine p_s ?_ | refine p_n (fun _ => ?_) | refine p_y ?_ | refine p_appB (fun _ _ => ?_) | refine p_app (fun _ _ => ?_) | refine p_mv ?_ | refine p_ms ?_ | refine p_b0 (fun _ => ?_) | ((fail_if_success refine gp_lit rfl rfl rfl rfl ?_); first | apply gp_guard_dec rfl rfl rfl rfl | apply gp_guard rfl rfl rfl rfl | fail) | refine p_c (btext none 0 [] x.st (by decide) (by omega)) (fun _ _ => ?_) | refine p_c (nums1 _ _ ([] ++ txE x.st) _ _ _ x.ver.toNat (by omega) (by omega)) (fun _ _ => ?_) | refine p_c (btext _ _ ([] ++ txE x.st ++ vb x.ver.toNat) x.data (by omega) (by omega)) (fun _ _ => ?_))
          | refine gp_two ?_ ?_ | refine gp_done hd hk ?_ | intro _ | refine p_ta hd hk (fun _ _ _ hd hk => ?_) | refine p_ts hd hk (fun _ hd hk => ?_))
        exact g_midX (⟨_, _⟩ : OA) trivial (by (repeat (first | exact FrSub.nil | refine FrSub.cons rfl ?_)); first | done | fail) (by (repeat (first | exact Take.nil | apply Take.cons | exact Sel.here | apply Sel.there)); first | done | fail)
    · obtain ⟨q3, c3⟩ := y
      dsimp only
      repeat (first
        | (refine g_ops ?_; first | refine s_q ?_ | refine s_v ?_ | refine s_s ?_ | refine s_n (fun _ => ?_) | refine s_x ?_ | refine s_y ?_ | refine s_mq ?_ | refine s_appB (fun _ _ => ?_) | refine s_app (fun _ _ => ?_) | refine s_mv ?_ | refine s_ms ?_ | refine s_b0 (fun _ => ?_) | ((fail_if_success refine g_lit rfl rfl rfl ?_); first | apply g_partM rfl rfl rfl | apply g_partMB rfl rfl rfl | fail))
        | refine g_seq ?_ | refine g_region ?_ | refine g_nil ?_ | refine g_then_normal ?_ | refine g_block ?_ | refine g_in_normal ?_ | refine g_retc ?_
        | refine g_then_ret ?_ | refine g_in_ret ?_ | refine g_exit ?_ | refine g_then_exit ?_ | refine g_in_exit ?_ | refine g_in_other rfl ?_ | refine g_skip ?_
        | refine g_label ?_ | refine g_cond_true rfl ?_ | refine g_cond_false rfl ?_ | exact s_m | intro _)
      refine g_draw (.take 0 (.take 1 (.see 2 [] (.take 5 (.see 6 [] (.take 7 (.two 3 (.two 4 (.one 8 (.one 9 (.take 10 .done))) 8 (.one 4 (.one 9 (.take 10 .done)))) 8 (.one 3 (.one 4 (.one 9 (.take 10 .done))))))))))) (by kernel_rfl) (C := [.row bx x.cells 68, Pile H]) (by (repeat (first | exact Take.nil | apply Take.cons | exact Sel.here | apply Sel.there)); first | done | fail) (fun k hd hk => ?_)
      repeat (first
        | (refine gp_take ?_; first | refine p_q ?_ | refine p_x ?_ | refine p_mq ?_ | ((fail_if_success refine gp_lit rfl rfl rfl rfl ?_); first | apply gp_guard_dec rfl rfl rfl rfl | apply gp_guard rfl rfl rfl rfl | fail))
        | (refine gp_see ?_; first | refine p_f ?_ | refine p_sx ?_ | ((fail_if_success refine gp_lit rfl rfl rfl rfl ?_); first | apply gp_guard_dec rfl rfl rfl rfl | apply gp_guard rfl rfl rfl rfl | fail) | refine p_sq ?_)
        | (refine gp_one ?_; first | refine p_v ?_ | refine p_s ?_ | refine p_n (fun _ => ?_) | refine p_y ?_ | refine p_appB (fun _ _ => ?_) | refine p_app (fun _ _ => ?_) | refine p_mv ?_ | refine p_ms ?_ | refine p_b0 (fun _ => ?_) | ((fail_if_success refine gp_lit rfl rfl rfl rfl ?_); first | apply gp_guard_dec rfl rfl rfl rfl | apply gp_guard rfl rfl rfl rfl | fail))
        | refine gp_two ?_ ?_ | refine gp_done hd hk ?_ | intro _ | refine p_ta hd hk (fun _ _ _ hd hk => ?_) | refine p_ts hd hk (fun _ hd hk => ?_))
      refine p_q (q := by intro Δ; exact qs_convInt rfl) ?_
      refine gp_as 64 (v' := .int .u64 ((x.idx.toNat : Nat) : Int)) rfl (congrArg (Value.int .u64) (by rw [u64_mod]; omega)) ?_
      refine gp_two ?_ ?_
      · refine gp_one ?_
        refine p_c (encode x.s) (fun _ _ => ?_)
        refine gp_two ?_ ?_
        all_goals
          repeat (first
            | (refine gp_take ?_; first | refine p_q ?_ | refine p_x ?_ | refine p_mq ?_ | ((fail_if_success refine gp_lit rfl rfl rfl rfl ?_); first | apply gp_guard_dec rfl rfl rfl rfl | apply gp_guard rfl rfl rfl rfl | fail))
            | (refine gp_see ?_; first | refine p_f ?_ | refine p_sx ?_ | ((fail_if_success refine gp_lit rfl rfl rfl rfl ?_); first | apply gp_guard_dec rfl rfl rfl rfl | apply gp_guard rfl rfl rfl rfl | fail) | refine p_sq ?_)
            | (refine gp_one ?_; first | refine p_v ?_ | refine p_s ?_ | refine p_n (fun _ => ?_) | refine p_y ?_ | refine p_appB (fun _ _ => ?_) | refine p_app (fun _ _ => ?_) | refine p_mv ?_ | refine p_ms ?_ | refine p_b0 (fun _ => ?_) | ((fail_if_success refine gp_lit rfl rfl rfl rfl ?_); first | apply gp_guard_dec rfl rfl rfl rfl | apply gp_guard rfl rfl rfl rfl | fail) | refine p_c (nums1 _ _ (B3 ++ x.s.enc) _ _ _ x.idx.toNat (by omega) (by omega)) (fun _ _ => ?_))
            | refine gp_two ?_ ?_ | refine gp_done hd hk ?_ | intro _ | refine p_ta hd hk (fun _ _ _ hd hk => ?_) | refine p_ts hd hk (fun _ hd hk => ?_))
          repeat (first
            | (refine g_ops ?_; first | refine s_q ?_ | refine s_v ?_ | refine s_s ?_ | refine s_n (fun _ => ?_) | refine s_x ?_ | refine s_y ?_ | refine s_mq ?_ | refine s_appB (fun _ _ => ?_) | refine s_app (fun _ _ => ?_) | refine s_mv ?_ | refine s_ms ?_ | refine s_b0 (fun _ => ?_) | ((fail_if_success refine g_lit rfl rfl rfl ?_); first | apply g_partM rfl rfl rfl | apply g_partMB rfl rfl rfl | fail))
            | refine g_seq ?_ | refine g_region ?_ | refine g_nil ?_ | refine g_then_normal ?_ | refine g_block ?_ | refine g_in_normal ?_ | refine g_retc ?_
            | refine g_then_ret ?_ | refine g_in_ret ?_ | refine g_exit ?_ | refine g_then_exit ?_ | refine g_in_exit ?_ | refine g_in_other rfl ?_ | refine g_skip ?_
            | refine g_label ?_ | refine g_cond_true rfl ?_ | refine g_cond_false rfl ?_ | exact s_m | intro _)
          exact g_ret (⟨_, _⟩ : OA) rfl (by (repeat (first | exact RVs.nil | apply RVs.tmp rfl | apply RVs.cellA rfl (by (repeat (first | exact Sel.here | apply Sel.there)); first | done | fail) (by (repeat (first | exact Cut.zero | apply Cut.take | apply Cut.skip)); first | done | fail) | apply RVs.cell1 rfl (by (repeat (first | exact Sel.here | apply Sel.there)); first | done | fail) rfl)); first | done | fail) (by (repeat (first | exact Take.nil | apply Take.cons | exact Sel.here | apply Sel.there)); first | done | fail) rfl trivial
      · repeat (first
          | (refine gp_take ?_; first | refine p_q ?_ | refine p_x ?_ | refine p_mq ?_ | ((fail_if_success refine gp_lit rfl rfl rfl rfl ?_); first | apply gp_guard_dec rfl rfl rfl rfl | apply gp_guard rfl rfl rfl rfl | fail))
          | (refine gp_see ?_; first | refine p_f ?_ | refine p_sx ?_ | ((fail_if_success refine gp_lit rfl rfl rfl rfl ?_); first | apply gp_guard_dec rfl rfl rfl rfl | apply gp_guard rfl rfl rfl rfl | fail) | refine p_sq ?_)
          | (refine gp_one ?_; first | refine p_v ?_ | refine p_s ?_ | refine p_n (fun _ => ?_) | refine p_y ?_ | refine p_appB (fun _ _ => ?_) | refine p_app (fun _ _ => ?_) | refine p_mv ?_ | refine p_ms ?_ | refine p_b0 (fun _ => ?_) | ((fail_if_success refine gp_lit rfl rfl rfl rfl ?_); first | apply gp_guard_dec rfl rfl rfl rfl | apply gp_guard rfl rfl rfl rfl | fail) | refine p_c (encode x.s) (fun _ _ => ?_) | refine p_c (nums1 _ _ (B3 ++ x.s.enc) _ _ _ x.idx.toNat (by omega) (by omega)) (fun _ _ => ?_))
          | refine gp_two ?_ ?_ | refine gp_done hd hk ?_ | intro _ | refine p_ta hd hk (fun _ _ _ hd hk => ?_) | refine p_ts hd hk (fun _ hd hk => ?_))
        repeat (first
          | (refine g_ops ?_; first | refine s_q ?_ | refine s_v ?_ | refine s_s ?_ | refine s_n (fun _ => ?_) | refine s_x ?_ | refine s_y ?_ | refine s_mq ?_ | refine s_appB (fun _ _ => ?_) | refine s_app (fun _ _ => ?_) | refine s_mv ?_ | refine s_ms ?_ | refine s_b0 (fun _ => ?_) | ((fail_if_success refine g_lit rfl rfl rfl ?_); first | apply g_partM rfl rfl rfl | apply g_partMB rfl rfl rfl | fail))
          | refine g_seq ?_ | refine g_region ?_ | refine g_nil ?_ | refine g_then_normal ?_ | refine g_block ?_ | refine g_in_normal ?_ | refine g_retc ?_
          | refine g_then_ret ?_ | refine g_in_ret ?_ | refine g_exit ?_ | refine g_then_exit ?_ | refine g_in_exit ?_ | refine g_in_other rfl ?_ | refine g_skip ?_
          | refine g_label ?_ | refine g_cond_true rfl ?_ | refine g_cond_false rfl ?_ | exact s_m | intro _)
        exact g_ret (⟨_, _⟩ : OA) rfl (by (repeat (first | exact RVs.nil | apply RVs.tmp rfl | apply RVs.cellA rfl (by (repeat (first | exact Sel.here | apply Sel.there)); first | done | fail) (by (repeat (first | exact Cut.zero | apply Cut.take | apply Cut.skip)); first | done | fail) | apply RVs.cell1 rfl (by (repeat (first | exact Sel.here | apply Sel.there)); first | done | fail) rfl)); first | done | fail) (by (repeat (first | exact Take.nil | apply Take.cons | exact Sel.here | apply Sel.there)); first | done | fail) rfl trivial
end Go.Proofs.YtcgmliaahdpmcaaGreatDoor
