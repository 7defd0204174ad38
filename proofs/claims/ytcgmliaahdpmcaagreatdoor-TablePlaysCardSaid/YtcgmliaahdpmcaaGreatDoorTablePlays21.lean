/- Contracts and laws that the proof stands on. -/
import Derived.Test.YtcgmliaahdpmcaaGreatDoorTablePlays20
set_option linter.unusedSimpArgs false
set_option linter.unusedVariables false
namespace Go.Proofs.YtcgmliaahdpmcaaGreatDoor
open Go.Sl facts
attribute [local irreducible] Code.wp wpList Exit.then Exit.inBlock bodyPost Back MidQ G GP QStep VStep CStep SStep Does Post Reads
theorem sameEvents {H : HP} (p p' : Option Addr) (c c' : Nat) (evs : List Ev) (hS : SlAt (Pile H) 7 p evs.length (evs.flatMap Ev.cells)) (hS' : SlAt (Pile H) 7 p' evs.length (evs.flatMap Ev.cells)) (hl : evs.length ≤ 1000000000) :
    Does1 Tryz.prog 23 [.slice p evs.length c, .slice p' evs.length c'] [Pile H] (.bool true) := by
  refine fn_intro Tryz.func23 rfl Tryz.ntmps23 rfl (by simp only [argFr, Nat.zero_add, Nat.reduceAdd]; rfl) (fun Γ => ?_)
  repeat (first
    | (refine g_ops ?_; first | refine s_q ?_ | refine s_v ?_ | refine s_s ?_ | refine s_n (fun _ => ?_) | refine s_x ?_ | refine s_y ?_ | refine s_mq ?_ | refine s_appB (fun _ _ => ?_) | refine s_app (fun _ _ => ?_) | refine s_mv ?_ | refine s_ms ?_ | refine s_b0 (fun _ => ?_) | ((fail_if_success refine g_lit rfl rfl rfl ?_); first | apply g_partM rfl rfl rfl | apply g_partMB rfl rfl rfl | fail))
    | refine g_seq ?_ | refine g_region ?_ | refine g_nil ?_ | refine g_then_normal ?_ | refine g_block ?_ | refine g_in_normal ?_ | refine g_retc ?_ | refine g_then_ret ?_
    | refine g_in_ret ?_ | refine g_exit ?_ | refine g_then_exit ?_ | refine g_in_exit ?_ | refine g_in_other rfl ?_ | refine g_skip ?_ | refine g_label ?_
    | refine g_cond_true rfl ?_ | refine g_cond_false rfl ?_ | exact s_m | intro _)
  refine g_cond_dec rfl (fun h => absurd rfl h) (fun _ => ?_)
  repeat (first
    | (refine g_ops ?_; first | refine s_q ?_ | refine s_v ?_ | refine s_s ?_ | refine s_n (fun _ => ?_) | refine s_x ?_ | refine s_y ?_ | refine s_mq ?_ | refine s_appB (fun _ _ => ?_) | refine s_app (fun _ _ => ?_) | refine s_mv ?_ | refine s_ms ?_ | refine s_b0 (fun _ => ?_) | ((fail_if_success refine g_lit rfl rfl rfl ?_); first | apply g_partM rfl rfl rfl | apply g_partMB rfl rfl rfl | fail))
    | refine g_seq ?_ | refine g_region ?_ | refine g_nil ?_ | refine g_then_normal ?_ | refine g_block ?_ | refine g_in_normal ?_ | refine g_retc ?_ | refine g_then_ret ?_
    | refine g_in_ret ?_ | refine g_exit ?_ | refine g_then_exit ?_ | refine g_in_exit ?_ | refine g_in_other rfl ?_ | refine g_skip ?_ | refine g_label ?_
    | refine g_cond_true rfl ?_ | refine g_cond_false rfl ?_ | exact s_m | intro _)
  refine g_loop (X := Nat) (fun i => [(0, .slice p evs.length c), (1, .slice p' evs.length c'), (5, int i)]) (fun _ => [Pile H]) (fun i => i ≤ evs.length) (fun i => evs.length - i) 0 (Nat.zero_le _) (by (repeat (first | exact FrSub.nil | refine FrSub.cons rfl ?_)); first | done | fail) (by (repeat (first | exact Take.nil | apply Take.cons | exact Sel.here | apply Sel.there)); first | done | fail) (fun i hi => ?_)
  repeat (first
    | (refine g_ops ?_; first | refine s_q ?_ | refine s_v ?_ | refine s_s ?_ | refine s_n (fun _ => ?_) | refine s_x ?_ | refine s_y ?_ | refine s_mq ?_ | refine s_appB (fun _ _ => ?_) | refine s_app (fun _ _ => ?_) | refine s_mv ?_ | refine s_ms ?_ | refine s_b0 (fun _ => ?_) | ((fail_if_success refine g_lit rfl rfl rfl ?_); first | apply g_partM rfl rfl rfl | apply g_partMB rfl rfl rfl | fail))
    | refine g_seq ?_ | refine g_region ?_ | refine g_nil ?_ | refine g_then_normal ?_ | refine g_block ?_ | refine g_in_normal ?_ | refine g_retc ?_ | refine g_then_ret ?_
    | refine g_in_ret ?_ | refine g_exit ?_ | refine g_then_exit ?_ | refine g_in_exit ?_ | refine g_in_other rfl ?_ | refine g_skip ?_ | refine g_label ?_
    | refine g_cond_true rfl ?_ | refine g_cond_false rfl ?_ | exact s_m | intro _)
  refine g_cond_dec rfl (fun h => ?_) (fun h => ?_)
  · have hi' : i < evs.length := by omega
    obtain ⟨b, o, rfl, hrow⟩ := slAt_elem hS ev_len (by decide) (i := i) (a := evs[i]) (by simp [hi'])
    obtain ⟨b', o', rfl, hrow2⟩ := slAt_elem hS' ev_len (by decide) (i := i) (a := evs[i]) (by simp [hi'])
    generalize evs[i] = x at hrow hrow2
    repeat (first
      | (refine g_ops ?_; first | refine s_q ?_ | refine s_v ?_ | refine s_s ?_ | refine s_n (fun _ => ?_) | refine s_x ?_ | refine s_y ?_ | refine s_mq ?_ | refine s_appB (fun _ _ => ?_) | refine s_app (fun _ _ => ?_) | refine s_mv ?_ | refine s_ms ?_ | refine s_b0 (fun _ => ?_) | ((fail_if_success refine g_lit rfl rfl rfl ?_); first | apply g_partM rfl rfl rfl | apply g_partMB rfl rfl rfl | fail))
      | refine g_draw (id := 6) (.take 0 (.take 1 (.take 2 (.see 3 [] (.take 4 (.take 5 (.take 6 (.see 7 [] (.take 8 .done))))))))) (by kernel_rfl) (take_all _) (fun k hd hk => ?_)
      | refine g_seq ?_ | refine g_region ?_ | refine g_nil ?_ | refine g_then_normal ?_ | refine g_block ?_ | refine g_in_normal ?_ | refine g_retc ?_
      | refine g_then_ret ?_ | refine g_in_ret ?_ | refine g_exit ?_ | refine g_then_exit ?_ | refine g_in_exit ?_ | refine g_in_other rfl ?_ | refine g_skip ?_
      | refine g_label ?_ | refine g_cond_true rfl ?_ | refine g_cond_false rfl ?_ | exact s_m | intro _ | (refine gp_take ?_; first | refine p_q ?_ | refine p_x ?_ | refine p_mq ?_ | ((fail_if_success refine gp_lit rfl rfl rfl rfl ?_); first | apply gp_guard_dec rfl rfl rfl rfl | apply gp_guard rfl rfl rfl rfl | fail))
      | (refine gp_see ?_; first | refine p_f ?_ | refine p_sx ?_ | ((fail_if_success refine gp_lit rfl rfl rfl rfl ?_); first | apply gp_guard_dec rfl rfl rfl rfl | apply gp_guard rfl rfl rfl rfl | fail) | refine p_sq ?_)
      | (refine gp_one ?_; first | refine p_v ?_ | refine p_s ?_ | refine p_n (fun _ => ?_) | refine p_y ?_ | refine p_appB (fun _ _ => ?_) | refine p_app (fun _ _ => ?_) | refine p_mv ?_ | refine p_ms ?_ | refine p_b0 (fun _ => ?_) | ((fail_if_success refine gp_lit rfl rfl rfl rfl ?_); first | apply gp_guard_dec rfl rfl rfl rfl | apply gp_guard rfl rfl rfl rfl | fail))
      | refine gp_two ?_ ?_ | refine gp_done hd hk ?_ | intro _ | refine p_ta hd hk (fun _ _ _ hd hk => ?_) | refine p_ts hd hk (fun _ hd hk => ?_))
    refine g_as 25 (v' := .bool false) rfl (congrArg Value.bool (by simp)) ?_
    repeat (first
      | (refine g_ops ?_; first | refine s_q ?_ | refine s_v ?_ | refine s_s ?_ | refine s_n (fun _ => ?_) | refine s_x ?_ | refine s_y ?_ | refine s_mq ?_ | refine s_appB (fun _ _ => ?_) | refine s_app (fun _ _ => ?_) | refine s_mv ?_ | refine s_ms ?_ | refine s_b0 (fun _ => ?_) | ((fail_if_success refine g_lit rfl rfl rfl ?_); first | apply g_partM rfl rfl rfl | apply g_partMB rfl rfl rfl | fail))
      | refine g_seq ?_ | refine g_region ?_ | refine g_nil ?_ | refine g_then_normal ?_ | refine g_block ?_ | refine g_in_normal ?_ | refine g_retc ?_
      | refine g_then_ret ?_ | refine g_in_ret ?_ | refine g_exit ?_ | refine g_then_exit ?_ | refine g_in_exit ?_ | refine g_in_other rfl ?_ | refine g_skip ?_
      | refine g_label ?_ | refine g_cond_true rfl ?_ | refine g_cond_false rfl ?_ | exact s_m | intro _)
    refine g_as 5 (v' := int ((i + 1 : Nat) : Int)) rfl (congrArg (Value.int .i64) (by push_cast; rfl)) ?_
    exact g_again (i + 1) (by omega) hi' (by (repeat (first | exact FrSub.nil | refine FrSub.cons rfl ?_)); first | done | fail) (by (repeat (first | exact Take.nil | apply Take.cons | exact Sel.here | apply Sel.there)); first | done | fail)
  · repeat (first
      | (refine g_ops ?_; first | refine s_q ?_ | refine s_v ?_ | refine s_s ?_ | refine s_n (fun _ => ?_) | refine s_x ?_ | refine s_y ?_ | refine s_mq ?_ | refine s_appB (fun _ _ => ?_) | refine s_app (fun _ _ => ?_) | refine s_mv ?_ | refine s_ms ?_ | refine s_b0 (fun _ => ?_) | ((fail_if_success refine g_lit rfl rfl rfl ?_); first | apply g_partM rfl rfl rfl | apply g_partMB rfl rfl rfl | fail))
      | refine g_seq ?_ | refine g_region ?_ | refine g_nil ?_ | refine g_then_normal ?_ | refine g_block ?_ | refine g_in_normal ?_ | refine g_retc ?_
      | refine g_then_ret ?_ | refine g_in_ret ?_ | refine g_exit ?_ | refine g_then_exit ?_ | refine g_in_exit ?_ | refine g_in_other rfl ?_ | refine g_skip ?_
      | refine g_label ?_ | refine g_cond_true rfl ?_ | refine g_cond_false rfl ?_ | exact s_m | intro _)
    exact g_ret () rfl (by (repeat (first | exact RVs.nil | apply RVs.tmp rfl | apply RVs.cellA rfl (by (repeat (first | exact Sel.here | apply Sel.there)); first | done | fail) (by (repeat (first | exact Cut.zero | apply Cut.take | apply Cut.skip)); first | done | fail) | apply RVs.cell1 rfl (by (repeat (first | exact Sel.here | apply Sel.there)); first | done | fail) rfl)); first | done | fail) (by (repeat (first | exact Take.nil | apply Take.cons | exact Sel.here | apply Sel.there)); first | done | fail) rfl trivial
set_option maxHeartbeats 4000000 in
theorem sameStreams {H : HP} (p p' : Option Addr) (c c' : Nat) (xs ys : List StrV) (hS : SlAt (Pile H) 3 p xs.length (xs.flatMap StrV.cells)) (hA : ∀ y ∈ xs, StrAt (Pile H) y) (hS' : SlAt (Pile H) 3 p' ys.length (ys.flatMap StrV.cells)) (hA' : ∀ y ∈ ys, StrAt (Pile H) y)
    (he : xs.map StrV.d = ys.map StrV.d) (hl : xs.length ≤ 1000000000) (hsz : ∀ y ∈ xs, y.evs.length ≤ 1000000000 ∧ y.ks.length ≤ 1000000000) :
    Does1 Tryz.prog 16 [.slice p xs.length c, .slice p' ys.length c'] [Pile H] (.bool true) := by
  have hlen : ys.length = xs.length := by simpa using (congrArg List.length he).symm
  rw [hlen] at hS' ⊢
  refine fn_intro Tryz.func16 rfl Tryz.ntmps16 rfl (by simp only [argFr, Nat.zero_add, Nat.reduceAdd]; rfl) (fun Γ => ?_)
  repeat (first
    | (refine g_ops ?_; first | refine s_q ?_ | refine s_v ?_ | refine s_s ?_ | refine s_n (fun _ => ?_) | refine s_x ?_ | refine s_y ?_ | refine s_mq ?_ | refine s_appB (fun _ _ => ?_) | refine s_app (fun _ _ => ?_) | refine s_mv ?_ | refine s_ms ?_ | refine s_b0 (fun _ => ?_) | ((fail_if_success refine g_lit rfl rfl rfl ?_); first | apply g_partM rfl rfl rfl | apply g_partMB rfl rfl rfl | fail))
    | refine g_seq ?_ | refine g_region ?_ | refine g_nil ?_ | refine g_then_normal ?_ | refine g_block ?_ | refine g_in_normal ?_ | refine g_retc ?_ | refine g_then_ret ?_
    | refine g_in_ret ?_ | refine g_exit ?_ | refine g_then_exit ?_ | refine g_in_exit ?_ | refine g_in_other rfl ?_ | refine g_skip ?_ | refine g_label ?_
    | refine g_cond_true rfl ?_ | refine g_cond_false rfl ?_ | exact s_m | intro _)
  refine g_cond_dec rfl (fun h => absurd rfl h) (fun _ => ?_)
  repeat (first
    | (refine g_ops ?_; first | refine s_q ?_ | refine s_v ?_ | refine s_s ?_ | refine s_n (fun _ => ?_) | refine s_x ?_ | refine s_y ?_ | refine s_mq ?_ | refine s_appB (fun _ _ => ?_) | refine s_app (fun _ _ => ?_) | refine s_mv ?_ | refine s_ms ?_ | refine s_b0 (fun _ => ?_) | ((fail_if_success refine g_lit rfl rfl rfl ?_); first | apply g_partM rfl rfl rfl | apply g_partMB rfl rfl rfl | fail))
    | refine g_seq ?_ | refine g_region ?_ | refine g_nil ?_ | refine g_then_normal ?_ | refine g_block ?_ | refine g_in_normal ?_ | refine g_retc ?_ | refine g_then_ret ?_
    | refine g_in_ret ?_ | refine g_exit ?_ | refine g_then_exit ?_ | refine g_in_exit ?_ | refine g_in_other rfl ?_ | refine g_skip ?_ | refine g_label ?_
    | refine g_cond_true rfl ?_ | refine g_cond_false rfl ?_ | exact s_m | intro _)
  refine g_loop (X := Nat) (fun i => [(0, .slice p xs.length c), (1, .slice p' xs.length c'), (5, int i)]) (fun _ => [Pile H]) (fun i => i ≤ xs.length) (fun i => xs.length - i) 0 (Nat.zero_le _) (by (repeat (first | exact FrSub.nil | refine FrSub.cons rfl ?_)); first | done | fail) (by (repeat (first | exact Take.nil | apply Take.cons | exact Sel.here | apply Sel.there)); first | done | fail) (fun i hi => ?_)
  repeat (first
    | (refine g_ops ?_; first | refine s_q ?_ | refine s_v ?_ | refine s_s ?_ | refine s_n (fun _ => ?_) | refine s_x ?_ | refine s_y ?_ | refine s_mq ?_ | refine s_appB (fun _ _ => ?_) | refine s_app (fun _ _ => ?_) | refine s_mv ?_ | refine s_ms ?_ | refine s_b0 (fun _ => ?_) | ((fail_if_success refine g_lit rfl rfl rfl ?_); first | apply g_partM rfl rfl rfl | apply g_partMB rfl rfl rfl | fail))
    | refine g_seq ?_ | refine g_region ?_ | refine g_nil ?_ | refine g_then_normal ?_ | refine g_block ?_ | refine g_in_normal ?_ | refine g_retc ?_ | refine g_then_ret ?_
    | refine g_in_ret ?_ | refine g_exit ?_ | refine g_then_exit ?_ | refine g_in_exit ?_ | refine g_in_other rfl ?_ | refine g_skip ?_ | refine g_label ?_
    | refine g_cond_true rfl ?_ | refine g_cond_false rfl ?_ | exact s_m | intro _)
  refine g_cond_dec rfl (fun h => ?_) (fun h => ?_)
  · have hi' : i < xs.length := by omega
    have hi2 : i < ys.length := by omega
    have hd : xs[i].d = ys[i].d := by
      have := congrArg (·[i]?) he
      simpa [hi', hi2] using this
    obtain ⟨b, o, rfl, hcell⟩ := slAt_elem hS str_len (by decide) (i := i) (a := xs[i]) (by simp [hi'])
    obtain ⟨b', o', rfl, hcell2⟩ := slAt_elem hS' str_len (by decide) (i := i) (a := ys[i]) (by simp [hi2])
    have hx := hA xs[i] (List.getElem_mem _)
    have hy := hA' ys[i] (List.getElem_mem _)
    have hz := hsz xs[i] (List.getElem_mem _)
    generalize xs[i] = x at hcell hx hz hd
    generalize ys[i] = y at hcell2 hy hd
    obtain ⟨nm, ep, ec, evs, kp, kc, ks⟩ := x
    obtain ⟨nm', ep', ec', evs', kp', kc', ks'⟩ := y
    simp only [StrV.d, Prod.mk.injEq] at hd
    obtain ⟨rfl, rfl, rfl⟩ := hd
    obtain ⟨a1, a2, a3, a4, a5, a6, a7⟩ := hx
    obtain ⟨e1, e2, _, _, _, _, _⟩ := hy
    dsimp only at a1 a2 a3 a4 a5 a6 a7 e1 e2 hz
    have hr2 : ∀ j, j < 3 → Reads (Pile H) ⟨b', o' + i * 3 + j, none⟩ (match j with | 0 => .string nm | 1 => .slice ep' evs.length ec' | _ => .slice kp' ks.length kc') := fun j hj => by
      match j, hj with
      | 0, _ => exact hcell2 0 _ rfl
      | 1, _ => exact hcell2 1 _ rfl
      | 2, _ => exact hcell2 2 _ rfl
    have hse := sameEvents ep ep' ec ec' evs a1 e1 hz.1
    repeat (first
      | (refine g_ops ?_; first | refine s_q ?_ | refine s_v ?_ | refine s_s ?_ | refine s_n (fun _ => ?_) | refine s_x ?_ | refine s_y ?_ | refine s_mq ?_ | refine s_appB (fun _ _ => ?_) | refine s_app (fun _ _ => ?_) | refine s_mv ?_ | refine s_ms ?_ | refine s_b0 (fun _ => ?_) | ((fail_if_success refine g_lit rfl rfl rfl ?_); first | apply g_partM rfl rfl rfl | apply g_partMB rfl rfl rfl | fail))
      | refine g_seq ?_ | refine g_region ?_ | refine g_nil ?_ | refine g_then_normal ?_ | refine g_block ?_ | refine g_in_normal ?_ | refine g_retc ?_
      | refine g_then_ret ?_ | refine g_in_ret ?_ | refine g_exit ?_ | refine g_then_exit ?_ | refine g_in_exit ?_ | refine g_in_other rfl ?_ | refine g_skip ?_
      | refine g_label ?_ | refine g_cond_true rfl ?_ | refine g_cond_false rfl ?_ | exact s_m | intro _)
    refine g_draw (.take 0 (.take 1 (.take 2 (.take 3 (.see 4 [] (.take 5 (.take 6 (.take 7 (.take 8 (.see 9 [] (.take 10 (.take 11 (.take 12 (.take 13 (.take 14 (.take 15 (.see 16 [] (.take 17 (.take 18 (.take 19 (.take 20 (.see 21 [] (.one 22 (.take 23 (.take 24 (.take 25 (.take 26 (.take 27 (.take 28 (.take 29 (.see 30 [] (.take 31 (.take 32 (.take 33 (.take 34 (.take 35 (.see 36 [] (.take 37 (.take 38 (.take 39 .done)))))))))))))))))))))))))))))))))))))))) (by kernel_rfl) (take_all _) (fun k hd hk => ?_)
    repeat (first
      | (refine gp_take ?_; first | refine p_q ?_ | refine p_x ?_ | refine p_mq ?_ | ((fail_if_success refine gp_lit rfl rfl rfl rfl ?_); first | apply gp_guard_dec rfl rfl rfl rfl | apply gp_guard rfl rfl rfl rfl | fail))
      | (refine gp_see ?_; first | refine p_f ?_ | refine p_sx ?_ | ((fail_if_success refine gp_lit rfl rfl rfl rfl ?_); first | apply gp_guard_dec rfl rfl rfl rfl | apply gp_guard rfl rfl rfl rfl | fail) | refine p_sq ?_)
      | (refine gp_one ?_; first | refine p_v ?_ | refine p_s ?_ | refine p_n (fun _ => ?_) | refine p_y ?_ | refine p_appB (fun _ _ => ?_) | refine p_app (fun _ _ => ?_) | refine p_mv ?_ | refine p_ms ?_ | refine p_b0 (fun _ => ?_) | ((fail_if_success refine gp_lit rfl rfl rfl rfl ?_); first | apply gp_guard_dec rfl rfl rfl rfl | apply gp_guard rfl rfl rfl rfl | fail))
      | refine gp_two ?_ ?_ | refine gp_done hd hk ?_ | intro _ | refine p_ta hd hk (fun _ _ _ hd hk => ?_) | refine p_ts hd hk (fun _ hd hk => ?_))
    refine gp_as 29 (v' := .bool false) rfl (congrArg Value.bool (by simp)) ?_
    repeat (first
      | (refine gp_take ?_; first | refine p_q ?_ | refine p_x ?_ | refine p_mq ?_ | ((fail_if_success refine gp_lit rfl rfl rfl rfl ?_); first | apply gp_guard_dec rfl rfl rfl rfl | apply gp_guard rfl rfl rfl rfl | fail))
      | (refine gp_see ?_; first | refine p_f ?_ | refine p_sx ?_ | ((fail_if_success refine gp_lit rfl rfl rfl rfl ?_); first | apply gp_guard_dec rfl rfl rfl rfl | apply gp_guard rfl rfl rfl rfl | fail) | refine p_sq ?_)
      | (refine gp_one ?_; first | refine p_v ?_ | refine p_s ?_ | refine p_n (fun _ => ?_) | refine p_y ?_ | refine p_appB (fun _ _ => ?_) | refine p_app (fun _ _ => ?_) | refine p_mv ?_ | refine p_ms ?_ | refine p_b0 (fun _ => ?_) | ((fail_if_success refine gp_lit rfl rfl rfl rfl ?_); first | apply gp_guard_dec rfl rfl rfl rfl | apply gp_guard rfl rfl rfl rfl | fail) | refine p_cP (hse) hd hk (fun _ _ => ?_))
      | refine gp_two ?_ ?_ | refine gp_done hd hk ?_ | intro _ | refine p_ta hd hk (fun _ _ _ hd hk => ?_) | refine p_ts hd hk (fun _ hd hk => ?_))
    dsimp only [List.cons_append, List.nil_append]
    repeat (first
      | (refine g_ops ?_; first | refine s_q ?_ | refine s_v ?_ | refine s_s ?_ | refine s_n (fun _ => ?_) | refine s_x ?_ | refine s_y ?_ | refine s_mq ?_ | refine s_appB (fun _ _ => ?_) | refine s_app (fun _ _ => ?_) | refine s_mv ?_ | refine s_ms ?_ | refine s_b0 (fun _ => ?_) | ((fail_if_success refine g_lit rfl rfl rfl ?_); first | apply g_partM rfl rfl rfl | apply g_partMB rfl rfl rfl | fail))
      | refine g_seq ?_ | refine g_region ?_ | refine g_nil ?_ | refine g_then_normal ?_ | refine g_block ?_ | refine g_in_normal ?_ | refine g_retc ?_
      | refine g_then_ret ?_ | refine g_in_ret ?_ | refine g_exit ?_ | refine g_then_exit ?_ | refine g_in_exit ?_ | refine g_in_other rfl ?_ | refine g_skip ?_
      | refine g_label ?_ | refine g_cond_true rfl ?_ | refine g_cond_false rfl ?_ | exact s_m | intro _)
    refine g_as 57 (v' := .bool false) rfl (congrArg Value.bool (by simp)) ?_
    repeat (first
      | (refine g_ops ?_; first | refine s_q ?_ | refine s_v ?_ | refine s_s ?_ | refine s_n (fun _ => ?_) | refine s_x ?_ | refine s_y ?_ | refine s_mq ?_ | refine s_appB (fun _ _ => ?_) | refine s_app (fun _ _ => ?_) | refine s_mv ?_ | refine s_ms ?_ | refine s_b0 (fun _ => ?_) | ((fail_if_success refine g_lit rfl rfl rfl ?_); first | apply g_partM rfl rfl rfl | apply g_partMB rfl rfl rfl | fail))
      | refine g_seq ?_ | refine g_region ?_ | refine g_nil ?_ | refine g_then_normal ?_ | refine g_block ?_ | refine g_in_normal ?_ | refine g_retc ?_
      | refine g_then_ret ?_ | refine g_in_ret ?_ | refine g_exit ?_ | refine g_then_exit ?_ | refine g_in_exit ?_ | refine g_in_other rfl ?_ | refine g_skip ?_
      | refine g_label ?_ | refine g_cond_true rfl ?_ | refine g_cond_false rfl ?_ | exact s_m | intro _)
    refine g_loop (X := Nat) (fun j => [(0, .slice (some ⟨b, o, none⟩) xs.length c), (1, .slice (some ⟨b', o', none⟩) xs.length c'), (5, int i), (6, int j)]) (fun _ => [Pile H]) (fun j => j ≤ ks.length) (fun j => ks.length - j) 0 (Nat.zero_le _) (by (repeat (first | exact FrSub.nil | refine FrSub.cons rfl ?_)); first | done | fail) (by (repeat (first | exact Take.nil | apply Take.cons | exact Sel.here | apply Sel.there)); first | done | fail) (fun j hj => ?_)
    repeat (first
      | (refine g_ops ?_; first | refine s_q ?_ | refine s_v ?_ | refine s_s ?_ | refine s_n (fun _ => ?_) | refine s_x ?_ | refine s_y ?_ | refine s_mq ?_ | refine s_appB (fun _ _ => ?_) | refine s_app (fun _ _ => ?_) | refine s_mv ?_ | refine s_ms ?_ | refine s_b0 (fun _ => ?_) | ((fail_if_success refine g_lit rfl rfl rfl ?_); first | apply g_partM rfl rfl rfl | apply g_partMB rfl rfl rfl | fail))
      | refine g_seq ?_ | refine g_region ?_ | refine g_nil ?_ | refine g_then_normal ?_ | refine g_block ?_ | refine g_in_normal ?_ | refine g_retc ?_
      | refine g_then_ret ?_ | refine g_in_ret ?_ | refine g_exit ?_ | refine g_then_exit ?_ | refine g_in_exit ?_ | refine g_in_other rfl ?_ | refine g_skip ?_
      | refine g_label ?_ | refine g_cond_true rfl ?_ | refine g_cond_false rfl ?_ | exact s_m | intro _)
    refine g_cond_dec rfl (fun h5 => ?_) (fun h5 => ?_)
    · have hj' : j < ks.length := by have h5' : (j : Int) < ks.length := h5; omega
      obtain ⟨kb, ko, rfl, hrow⟩ := slAt_elem a2 kn_len (by decide) (i := j) (a := ks[j]) (by simp [hj'])
      obtain ⟨kb', ko', rfl, hrow2⟩ := slAt_elem e2 kn_len (by decide) (i := j) (a := ks[j]) (by simp [hj'])
      generalize ks[j] = k at hrow hrow2
      repeat (first
        | (refine g_ops ?_; first | refine s_q ?_ | refine s_v ?_ | refine s_s ?_ | refine s_n (fun _ => ?_) | refine s_x ?_ | refine s_y ?_ | refine s_mq ?_ | refine s_appB (fun _ _ => ?_) | refine s_app (fun _ _ => ?_) | refine s_mv ?_ | refine s_ms ?_ | refine s_b0 (fun _ => ?_) | ((fail_if_success refine g_lit rfl rfl rfl ?_); first | apply g_partM rfl rfl rfl | apply g_partMB rfl rfl rfl | fail))
        | refine g_draw (id := 11) (.take 0 (.take 1 (.take 2 (.take 3 (.see 4 [] (.take 5 (.take 6 (.see 7 [] (.take 8 (.take 9 (.take 10 (.take 11 (.see 12 [] (.take 13 (.take 14 (.see 15 [] (.take 16 .done))))))))))))))))) (by kernel_rfl) (take_all _) (fun k hd hk => ?_)
        | refine g_seq ?_ | refine g_region ?_ | refine g_nil ?_ | refine g_then_normal ?_ | refine g_block ?_ | refine g_in_normal ?_ | refine g_retc ?_
        | refine g_then_ret ?_ | refine g_in_ret ?_ | refine g_exit ?_ | refine g_then_exit ?_ | refine g_in_exit ?_ | refine g_in_other rfl ?_ | refine g_skip ?_
        | refine g_label ?_ | refine g_cond_true rfl ?_ | refine g_cond_false rfl ?_ | exact s_m | intro _ | (refine gp_take ?_; first | refine p_q ?_ | refine p_x ?_ | refine p_mq ?_ | ((fail_if_success refine gp_lit rfl rfl rfl rfl ?_); first | apply gp_guard_dec rfl rfl rfl rfl | apply gp_guard rfl rfl rfl rfl | fail))
        | (refine gp_see ?_; first | refine p_f ?_ | refine p_sx ?_ | ((fail_if_success refine gp_lit rfl rfl rfl rfl ?_); first | apply gp_guard_dec rfl rfl rfl rfl | apply gp_guard rfl rfl rfl rfl | fail) | refine p_sq ?_)
        | (refine gp_one ?_; first | refine p_v ?_ | refine p_s ?_ | refine p_n (fun _ => ?_) | refine p_y ?_ | refine p_appB (fun _ _ => ?_) | refine p_app (fun _ _ => ?_) | refine p_mv ?_ | refine p_ms ?_ | refine p_b0 (fun _ => ?_) | ((fail_if_success refine gp_lit rfl rfl rfl rfl ?_); first | apply gp_guard_dec rfl rfl rfl rfl | apply gp_guard rfl rfl rfl rfl | fail))
        | refine gp_two ?_ ?_ | refine gp_done hd hk ?_ | intro _ | refine p_ta hd hk (fun _ _ _ hd hk => ?_) | refine p_ts hd hk (fun _ hd hk => ?_))
      refine g_as 84 (v' := .bool false) rfl (congrArg Value.bool (by simp)) ?_
      repeat (first
        | (refine g_ops ?_; first | refine s_q ?_ | refine s_v ?_ | refine s_s ?_ | refine s_n (fun _ => ?_) | refine s_x ?_ | refine s_y ?_ | refine s_mq ?_ | refine s_appB (fun _ _ => ?_) | refine s_app (fun _ _ => ?_) | refine s_mv ?_ | refine s_ms ?_ | refine s_b0 (fun _ => ?_) | ((fail_if_success refine g_lit rfl rfl rfl ?_); first | apply g_partM rfl rfl rfl | apply g_partMB rfl rfl rfl | fail))
        | refine g_seq ?_ | refine g_region ?_ | refine g_nil ?_ | refine g_then_normal ?_ | refine g_block ?_ | refine g_in_normal ?_ | refine g_retc ?_
        | refine g_then_ret ?_ | refine g_in_ret ?_ | refine g_exit ?_ | refine g_then_exit ?_ | refine g_in_exit ?_ | refine g_in_other rfl ?_ | refine g_skip ?_
        | refine g_label ?_ | refine g_cond_true rfl ?_ | refine g_cond_false rfl ?_ | exact s_m | intro _)
      refine g_as 6 (v' := int ((j + 1 : Nat) : Int)) rfl (congrArg (Value.int .i64) (by push_cast; rfl)) ?_
      exact g_again (j + 1) (by omega) hj' (by (repeat (first | exact FrSub.nil | refine FrSub.cons rfl ?_)); first | done | fail) (by (repeat (first | exact Take.nil | apply Take.cons | exact Sel.here | apply Sel.there)); first | done | fail)
    · repeat (first
        | (refine g_ops ?_; first | refine s_q ?_ | refine s_v ?_ | refine s_s ?_ | refine s_n (fun _ => ?_) | refine s_x ?_ | refine s_y ?_ | refine s_mq ?_ | refine s_appB (fun _ _ => ?_) | refine s_app (fun _ _ => ?_) | refine s_mv ?_ | refine s_ms ?_ | refine s_b0 (fun _ => ?_) | ((fail_if_success refine g_lit rfl rfl rfl ?_); first | apply g_partM rfl rfl rfl | apply g_partMB rfl rfl rfl | fail))
        | refine g_seq ?_ | refine g_region ?_ | refine g_nil ?_ | refine g_then_normal ?_ | refine g_block ?_ | refine g_in_normal ?_ | refine g_retc ?_
        | refine g_then_ret ?_ | refine g_in_ret ?_ | refine g_exit ?_ | refine g_then_exit ?_ | refine g_in_exit ?_ | refine g_in_other rfl ?_ | refine g_skip ?_
        | refine g_label ?_ | refine g_cond_true rfl ?_ | refine g_cond_false rfl ?_ | exact s_m | intro _)
      refine g_as 5 (v' := int ((i + 1 : Nat) : Int)) rfl (congrArg (Value.int .i64) (by push_cast; rfl)) ?_
      exact g_again (i + 1) (by omega) hi' (by (repeat (first | exact FrSub.nil | refine FrSub.cons rfl ?_)); first | done | fail) (by (repeat (first | exact Take.nil | apply Take.cons | exact Sel.here | apply Sel.there)); first | done | fail)
  · repeat (first
      | (refine g_ops ?_; first | refine s_q ?_ | refine s_v ?_ | refine s_s ?_ | refine s_n (fun _ => ?_) | refine s_x ?_ | refine s_y ?_ | refine s_mq ?_ | refine s_appB (fun _ _ => ?_) | refine s_app (fun _ _ => ?_) | refine s_mv ?_ | refine s_ms ?_ | refine s_b0 (fun _ => ?_) | ((fail_if_success refine g_lit rfl rfl rfl ?_); first | apply g_partM rfl rfl rfl | apply g_partMB rfl rfl rfl | fail))
      | refine g_seq ?_ | refine g_region ?_ | refine g_nil ?_ | refine g_then_normal ?_ | refine g_block ?_ | refine g_in_normal ?_ | refine g_retc ?_
      | refine g_then_ret ?_ | refine g_in_ret ?_ | refine g_exit ?_ | refine g_then_exit ?_ | refine g_in_exit ?_ | refine g_in_other rfl ?_ | refine g_skip ?_
      | refine g_label ?_ | refine g_cond_true rfl ?_ | refine g_cond_false rfl ?_ | exact s_m | intro _)
    exact g_ret () rfl (by (repeat (first | exact RVs.nil | apply RVs.tmp rfl | apply RVs.cellA rfl (by (repeat (first | exact Sel.here | apply Sel.there)); first | done | fail) (by (repeat (first | exact Cut.zero | apply Cut.take | apply Cut.skip)); first | done | fail) | apply RVs.cell1 rfl (by (repeat (first | exact Sel.here | apply Sel.there)); first | done | fail) rfl)); first | done | fail) (by (repeat (first | exact Take.nil | apply Take.cons | exact Sel.here | apply Sel.there)); first | done | fail) rfl trivial
theorem hashR (s : ByteArray) (hs : s.size ≤ 9223372036854775807) : Does1 Tryz.prog 61 [.string s] [] (int (hashN s)) := by
  refine fn_intro Tryz.func61 rfl Tryz.ntmps61 rfl (by simp only [argFr, Nat.zero_add, Nat.reduceAdd]; rfl) (fun Γ => ?_)
  repeat (first
    | (refine g_ops ?_; first | refine s_q ?_ | refine s_v ?_ | refine s_s ?_ | refine s_n (fun _ => ?_) | refine s_x ?_ | refine s_y ?_ | refine s_mq ?_ | refine s_appB (fun _ _ => ?_) | refine s_app (fun _ _ => ?_) | refine s_mv ?_ | refine s_ms ?_ | refine s_b0 (fun _ => ?_) | ((fail_if_success refine g_lit rfl rfl rfl ?_); first | apply g_partM rfl rfl rfl | apply g_partMB rfl rfl rfl | fail))
    | refine g_seq ?_ | refine g_region ?_ | refine g_nil ?_ | refine g_then_normal ?_ | refine g_block ?_ | refine g_in_normal ?_ | refine g_retc ?_ | refine g_then_ret ?_
    | refine g_in_ret ?_ | refine g_exit ?_ | refine g_then_exit ?_ | refine g_in_exit ?_ | refine g_in_other rfl ?_ | refine g_skip ?_ | refine g_label ?_
    | refine g_cond_true rfl ?_ | refine g_cond_false rfl ?_ | exact s_m | intro _)
  refine g_as 3 (v' := .int .u32 (hashF hash0 (s.data.toList.take 0))) rfl (congrArg (Value.int .u32) (by rw [List.take_zero, hashF, List.foldl_nil, hash0_eq]; rfl)) ?_
  refine g_loop (X := Nat) (fun i => [(0, .string s), (3, .int .u32 (hashF hash0 (s.data.toList.take i))), (4, int i)]) (fun _ => []) (fun i => i ≤ s.size) (fun i => s.size - i) 0 (Nat.zero_le _) (by (repeat (first | exact FrSub.nil | refine FrSub.cons rfl ?_)); first | done | fail) (by (repeat (first | exact Take.nil | apply Take.cons | exact Sel.here | apply Sel.there)); first | done | fail) (fun i hi => ?_)
  repeat (first
    | (refine g_ops ?_; first | refine s_q ?_ | refine s_v ?_ | refine s_s ?_ | refine s_n (fun _ => ?_) | refine s_x ?_ | refine s_y ?_ | refine s_mq ?_ | refine s_appB (fun _ _ => ?_) | refine s_app (fun _ _ => ?_) | refine s_mv ?_ | refine s_ms ?_ | refine s_b0 (fun _ => ?_) | ((fail_if_success refine g_lit rfl rfl rfl ?_); first | apply g_partM rfl rfl rfl | apply g_partMB rfl rfl rfl | fail))
    | refine g_seq ?_ | refine g_region ?_ | refine g_nil ?_ | refine g_then_normal ?_ | refine g_block ?_ | refine g_in_normal ?_ | refine g_retc ?_ | refine g_then_ret ?_
    | refine g_in_ret ?_ | refine g_exit ?_ | refine g_then_exit ?_ | refine g_in_exit ?_ | refine g_in_other rfl ?_ | refine g_skip ?_ | refine g_label ?_
    | refine g_cond_true rfl ?_ | refine g_cond_false rfl ?_ | exact s_m | intro _)
  refine g_cond_dec rfl (fun h => ?_) (fun h => ?_)
  · have hi' : i < s.size := by omega
    have hst := hash_step s i hi' hash0
    have hlt := hash_lt (s.data.toList.take i) hash0 (by rw [hash0_eq]; decide)
    generalize hashF hash0 (s.data.toList.take i) = h0 at hst hlt
    have hb := (at8 s i).toNat_lt
    repeat (first
      | (refine g_ops ?_; first | refine s_q ?_ | refine s_v ?_ | refine s_s ?_ | refine s_n (fun _ => ?_) | refine s_x ?_ | refine s_y ?_ | refine s_mq ?_ | refine s_appB (fun _ _ => ?_) | refine s_app (fun _ _ => ?_) | refine s_mv ?_ | refine s_ms ?_ | refine s_b0 (fun _ => ?_) | ((fail_if_success refine g_lit rfl rfl rfl ?_); first | apply g_partM rfl rfl rfl | apply g_partMB rfl rfl rfl | fail))
      | refine g_seq ?_ | refine g_region ?_ | refine g_nil ?_ | refine g_then_normal ?_ | refine g_block ?_ | refine g_in_normal ?_ | refine g_retc ?_
      | refine g_then_ret ?_ | refine g_in_ret ?_ | refine g_exit ?_ | refine g_then_exit ?_ | refine g_in_exit ?_ | refine g_in_other rfl ?_ | refine g_skip ?_
      | refine g_label ?_ | refine g_cond_true rfl ?_ | refine g_cond_false rfl ?_ | exact s_m | intro _)
    refine s_q (q := by exact qs_indexStr inferInstance rfl rfl hi') ?_
    refine s_q (q := by exact qs_convInt rfl) ?_
    refine g_as 15 (v' := .int .u32 (((at8 s i).toNat : Nat) : Int)) rfl (congrArg (Value.int .u32) (by rw [u32_mod]; omega)) ?_
    refine s_q (q := by exact qs_xor32 rfl rfl hlt (by omega)) ?_
    repeat (first
      | (refine g_ops ?_; first | refine s_q ?_ | refine s_v ?_ | refine s_s ?_ | refine s_n (fun _ => ?_) | refine s_x ?_ | refine s_y ?_ | refine s_mq ?_ | refine s_appB (fun _ _ => ?_) | refine s_app (fun _ _ => ?_) | refine s_mv ?_ | refine s_ms ?_ | refine s_b0 (fun _ => ?_) | ((fail_if_success refine g_lit rfl rfl rfl ?_); first | apply g_partM rfl rfl rfl | apply g_partMB rfl rfl rfl | fail))
      | refine g_seq ?_ | refine g_region ?_ | refine g_nil ?_ | refine g_then_normal ?_ | refine g_block ?_ | refine g_in_normal ?_ | refine g_retc ?_
      | refine g_then_ret ?_ | refine g_in_ret ?_ | refine g_exit ?_ | refine g_then_exit ?_ | refine g_in_exit ?_ | refine g_in_other rfl ?_ | refine g_skip ?_
      | refine g_label ?_ | refine g_cond_true rfl ?_ | refine g_cond_false rfl ?_ | exact s_m | intro _)
    refine s_q (q := by exact qs_mul rfl rfl) ?_
    refine g_as 18 (v' := .int .u32 ((((h0 ^^^ (at8 s i).toNat) * 16777619) % 4294967296 : Nat) : Int)) rfl (congrArg (Value.int .u32) (by rw [u32_mod]; generalize h0 ^^^ (at8 s i).toNat = q; omega)) ?_
    rw [← hashStep_eq, ← hst]
    repeat (first
      | (refine g_ops ?_; first | refine s_q ?_ | refine s_v ?_ | refine s_s ?_ | refine s_n (fun _ => ?_) | refine s_x ?_ | refine s_y ?_ | refine s_mq ?_ | refine s_appB (fun _ _ => ?_) | refine s_app (fun _ _ => ?_) | refine s_mv ?_ | refine s_ms ?_ | refine s_b0 (fun _ => ?_) | ((fail_if_success refine g_lit rfl rfl rfl ?_); first | apply g_partM rfl rfl rfl | apply g_partMB rfl rfl rfl | fail))
      | refine g_seq ?_ | refine g_region ?_ | refine g_nil ?_ | refine g_then_normal ?_ | refine g_block ?_ | refine g_in_normal ?_ | refine g_retc ?_
      | refine g_then_ret ?_ | refine g_in_ret ?_ | refine g_exit ?_ | refine g_then_exit ?_ | refine g_in_exit ?_ | refine g_in_other rfl ?_ | refine g_skip ?_
      | refine g_label ?_ | refine g_cond_true rfl ?_ | refine g_cond_false rfl ?_ | exact s_m | intro _)
    refine g_as 4 (v' := int ((i + 1 : Nat) : Int)) rfl (congrArg (Value.int .i64) (by push_cast; rfl)) ?_
    exact g_again (i + 1) (by omega) hi' (by (repeat (first | exact FrSub.nil | refine FrSub.cons rfl ?_)); first | done | fail) (by (repeat (first | exact Take.nil | apply Take.cons | exact Sel.here | apply Sel.there)); first | done | fail)
  · have e : i = s.size := by omega
    have hlt := hash_lt (s.data.toList.take i) hash0 (by rw [hash0_eq]; decide)
    have hf : hashF hash0 (s.data.toList.take i) = hashN s := by rw [e, show s.size = s.data.toList.length by simp, List.take_length]; rfl
    rw [hf] at hlt ⊢
    repeat (first
      | (refine g_ops ?_; first | refine s_q ?_ | refine s_v ?_ | refine s_s ?_ | refine s_n (fun _ => ?_) | refine s_x ?_ | refine s_y ?_ | refine s_mq ?_ | refine s_appB (fun _ _ => ?_) | refine s_app (fun _ _ => ?_) | refine s_mv ?_ | refine s_ms ?_ | refine s_b0 (fun _ => ?_) | ((fail_if_success refine g_lit rfl rfl rfl ?_); first | apply g_partM rfl rfl rfl | apply g_partMB rfl rfl rfl | fail))
      | refine g_seq ?_ | refine g_region ?_ | refine g_nil ?_ | refine g_then_normal ?_ | refine g_block ?_ | refine g_in_normal ?_ | refine g_retc ?_
      | refine g_then_ret ?_ | refine g_in_ret ?_ | refine g_exit ?_ | refine g_then_exit ?_ | refine g_in_exit ?_ | refine g_in_other rfl ?_ | refine g_skip ?_
      | refine g_label ?_ | refine g_cond_true rfl ?_ | refine g_cond_false rfl ?_ | exact s_m | intro _)
    refine s_q (q := by exact qs_convInt rfl) ?_
    refine g_as 20 (v' := int (hashN s)) rfl (congrArg (Value.int .i64) (wrap_in ⟨by omega, by omega⟩)) ?_
    repeat (first
      | (refine g_ops ?_; first | refine s_q ?_ | refine s_v ?_ | refine s_s ?_ | refine s_n (fun _ => ?_) | refine s_x ?_ | refine s_y ?_ | refine s_mq ?_ | refine s_appB (fun _ _ => ?_) | refine s_app (fun _ _ => ?_) | refine s_mv ?_ | refine s_ms ?_ | refine s_b0 (fun _ => ?_) | ((fail_if_success refine g_lit rfl rfl rfl ?_); first | apply g_partM rfl rfl rfl | apply g_partMB rfl rfl rfl | fail))
      | refine g_seq ?_ | refine g_region ?_ | refine g_nil ?_ | refine g_then_normal ?_ | refine g_block ?_ | refine g_in_normal ?_ | refine g_retc ?_
      | refine g_then_ret ?_ | refine g_in_ret ?_ | refine g_exit ?_ | refine g_then_exit ?_ | refine g_in_exit ?_ | refine g_in_other rfl ?_ | refine g_skip ?_
      | refine g_label ?_ | refine g_cond_true rfl ?_ | refine g_cond_false rfl ?_ | exact s_m | intro _)
    exact g_ret () rfl (by (repeat (first | exact RVs.nil | apply RVs.tmp rfl | apply RVs.cellA rfl (by (repeat (first | exact Sel.here | apply Sel.there)); first | done | fail) (by (repeat (first | exact Cut.zero | apply Cut.take | apply Cut.skip)); first | done | fail) | apply RVs.cell1 rfl (by (repeat (first | exact Sel.here | apply Sel.there)); first | done | fail) rfl)); first | done | fail) (by (repeat (first | exact Take.nil | apply Take.cons | exact Sel.here | apply Sel.there)); first | done | fail) rfl trivial
def Rg.all : Rg := ⟨0, 4294967295, 0, 0⟩
theorem all_has (s : ByteArray) : Rg.all.has s = true := by
  have := hashN_lt s
  have h1 : (0 : Int) ≤ (hashN s : Int) := by omega
  have h2 : (hashN s : Int) ≤ 4294967295 := by omega
  show (decide ((0 : Int) ≤ (hashN s : Int)) && decide ((hashN s : Int) ≤ 4294967295)) = true
  rw [decide_eq_true h1, decide_eq_true h2]; rfl
theorem allF : Does1 Tryz.prog 42 [] [] Rg.all.v := by
  refine fn_intro Tryz.func42 rfl Tryz.ntmps42 rfl (by simp only [argFr, Nat.zero_add, Nat.reduceAdd]; rfl) (fun Γ => ?_)
  repeat (first
    | (refine g_ops ?_; first | refine s_q ?_ | refine s_v ?_ | refine s_s ?_ | refine s_n (fun _ => ?_) | refine s_x ?_ | refine s_y ?_ | refine s_mq ?_ | refine s_appB (fun _ _ => ?_) | refine s_app (fun _ _ => ?_) | refine s_mv ?_ | refine s_ms ?_ | refine s_b0 (fun _ => ?_) | ((fail_if_success refine g_lit rfl rfl rfl ?_); first | apply g_partM rfl rfl rfl | apply g_partMB rfl rfl rfl | fail))
    | refine g_seq ?_ | refine g_region ?_ | refine g_nil ?_ | refine g_then_normal ?_ | refine g_block ?_ | refine g_in_normal ?_ | refine g_retc ?_ | refine g_then_ret ?_
    | refine g_in_ret ?_ | refine g_exit ?_ | refine g_then_exit ?_ | refine g_in_exit ?_ | refine g_in_other rfl ?_ | refine g_skip ?_ | refine g_label ?_
    | refine g_cond_true rfl ?_ | refine g_cond_false rfl ?_ | exact s_m | intro _)
  exact g_ret () rfl (by (repeat (first | exact RVs.nil | apply RVs.tmp rfl | apply RVs.cellA rfl (by (repeat (first | exact Sel.here | apply Sel.there)); first | done | fail) (by (repeat (first | exact Cut.zero | apply Cut.take | apply Cut.skip)); first | done | fail) | apply RVs.cell1 rfl (by (repeat (first | exact Sel.here | apply Sel.there)); first | done | fail) rfl)); first | done | fail) (by (repeat (first | exact Take.nil | apply Take.cons | exact Sel.here | apply Sel.there)); first | done | fail) rfl trivial
end Go.Proofs.YtcgmliaahdpmcaaGreatDoor

namespace Go.Proofs.YtcgmliaahdpmcaaGreatDoor
open Go.Sl facts
theorem sumF_eq : ∀ (l : List Int) (n : Int), (∀ x ∈ l, 0 ≤ x) → 0 ≤ n → n ≤ most → sumF n l < most → sumF n l = n + l.sum
  | [], n, _, _, _, h => by simp [sumF] at h ⊢
  | y :: l, n, hl, h0, hm, hs => by
    simp only [sumF] at hs ⊢
    split
    · rename_i h; rw [if_pos h] at hs; omega
    · rename_i h
      rw [if_neg h] at hs
      have hy := hl y (List.mem_cons_self ..)
      rw [sumF_eq l (n + y) (fun z hz => hl z (List.mem_cons_of_mem _ hz)) (by omega) (by omega) hs, List.sum_cons]
      omega
attribute [local irreducible] Code.wp wpList Exit.then Exit.inBlock bodyPost Back MidQ G GP QStep VStep CStep SStep Does Post Reads
attribute [local irreducible] sumF
theorem whole_iff (x : StrV) : wholeB x = true ↔ nameB x.nm = true ∧ (∀ e ∈ x.evs, e.ok = true ∧ e.st = x.nm) ∧ (∀ k ∈ x.ks, k.ok = true) ∧ x.evs ≠ [] ∧ goesB x.evs 0 = true ∧ (x.ks.map Kn.key).Nodup ∧ ∀ k ∈ x.ks, keyAt x.evs k = true := by
  simp only [wholeB, strOk, Bool.and_eq_true, List.all_eq_true, decide_eq_true_eq]
  constructor
  · rintro ⟨⟨h1, h2, h3⟩, h4, h5, h6, h7⟩
    exact ⟨h1, h2, h3, h4, h5, h6, h7⟩
  · rintro ⟨h1, h2, h3, h4, h5, h6, h7⟩
    exact ⟨⟨h1, h2, h3⟩, h4, h5, h6, h7⟩
def Sm.str (s : Sm) : StrV := ⟨s.nm, none, 0, s.evs, none, 0, s.ks⟩
theorem whole_d {x y : StrV} (h : x.d = y.d) : wholeB x = wholeB y := by
  obtain ⟨nm, ep, ec, evs, kp, kc, ks⟩ := x
  obtain ⟨nm', ep', ec', evs', kp', kc', ks'⟩ := y
  simp only [StrV.d, Prod.mk.injEq] at h
  obtain ⟨rfl, rfl, rfl⟩ := h
  rfl
structure TW (T : List Sm) (n k : Nat) : Prop where
  nd : (T.map Sm.nm).Nodup
  len : T.length ≤ n
  str : ∀ s ∈ T, wholeB s.str = true ∧ s.evs.length ≤ k ∧ s.ks.length ≤ n
theorem TW.nil (n k : Nat) : TW [] n k := ⟨.nil, Nat.zero_le _, by simp⟩
theorem TW.mono {T : List Sm} {n n' k k' : Nat} (h : TW T n k) (hn : n ≤ n') (hk : k ≤ k') : TW T n' k' := ⟨h.nd, Nat.le_trans h.len hn, fun s hs => ⟨(h.str s hs).1, Nat.le_trans (h.str s hs).2.1 hk, Nat.le_trans (h.str s hs).2.2 hn⟩⟩
theorem TW.big {T : List Sm} {n k : Nat} (h : TW T n k) (hn : n ≤ 1000000000) (hk : k ≤ 1000000000) : TBig T := by
  have hw := fun s hs => (whole_iff (Sm.str s)).1 (h.str s hs).1
  refine ⟨h.nd, Nat.le_trans h.len hn, fun s hs => ?_, fun s hs => Nat.le_trans (h.str s hs).2.1 hk, fun s hs => ⟨fun e he => ?_, fun e he => ?_⟩, fun s hs => Nat.le_trans (h.str s hs).2.2 hn, fun s hs k hk => ?_, fun s hs => (hw s hs).2.2.2.2.2.1⟩
  · have := (name_size (hw s hs).1).2
    simp only [Sm.str] at this; omega
  · have h1 := ((hw s hs).2.1 e he).1
    have := (name_size ((Ev.ok_iff e).1 h1).1).2
    omega
  · have h1 := ((hw s hs).2.1 e he).1
    have := ((Ev.ok_iff e).1 h1).2.2.1
    omega
  · have h1 := (hw s hs).2.2.1 k hk
    simp only [Kn.ok, Bool.and_eq_true] at h1
    have := key_size h1.2.1
    omega
theorem stampAt_append {a b : List Ev} {k : Kn} (h : keyAt a k = true) (h1 : 1 ≤ k.first) : keyAt (a ++ b) k = true := by
  simp only [keyAt, Bool.and_eq_true, decide_eq_true_eq] at h ⊢
  refine ⟨by rw [List.length_append]; omega, ?_⟩
  have h2 := h.2
  unfold stampAt at h2 ⊢
  rw [List.getElem?_append_left (by omega)]
  exact h2
theorem TW.put {T : List Sm} {n k : Nat} (h : TW T n k) {evs : List Ev} {key : ByteArray} {e0 : Ev} {l : List Ev} (he : evs = e0 :: l) (hm : mayB evs key = true) (hg : goesB evs (verOf T e0.st) = true) {x : Sm} (h1 : x.nm = e0.st) (h2 : x.evs = oldE T e0.st ++ evs) (h3 : x.ks = newK (oldK T e0.st) key e0.ver e0.s) : TW (tput T x) (n + 1) (k + evs.length) := by
  obtain ⟨ha, hkey⟩ := may_all he hm
  have ha0 := ha e0 (by rw [he]; exact List.mem_cons_self ..)
  have hok0 := (Ev.ok_iff e0).1 ha0.2.2
  have hold : goesB (oldE T e0.st) 0 = true ∧ (oldE T e0.st).length = verOf T e0.st ∧ (oldE T e0.st).length ≤ k ∧ (oldK T e0.st).length ≤ n ∧ (∀ e ∈ oldE T e0.st, e.ok = true ∧ e.st = e0.st) ∧ (∀ k ∈ oldK T e0.st, k.ok = true ∧ keyAt (oldE T e0.st) k = true) ∧ ((oldK T e0.st).map Kn.key).Nodup := by
    cases hf : fnd T e0.st with
    | none => simp [oldE, oldK, verOf, hf, goesB]
    | some s =>
      obtain ⟨g1, A, B, e, _⟩ := fnd_split hf
      have hs := h.str s (by rw [e]; simp)
      obtain ⟨w1, w2, w3, w4, w5, w6, w7⟩ := (whole_iff s.str).1 hs.1
      simp only [Sm.str] at w1 w2 w3 w4 w5 w6 w7
      simp only [oldE, oldK, verOf, hf]
      exact ⟨w5, trivial, hs.2.1, hs.2.2, fun e he => ⟨(w2 e he).1, by rw [(w2 e he).2, g1]⟩, fun k hk => ⟨w3 k hk, w7 k hk⟩, w6⟩
  obtain ⟨o1, o2, o3, o4, o5, o6, o7⟩ := hold
  refine ⟨tput_nodup h.nd, Nat.le_trans tput_len (Nat.succ_le_succ h.len), fun y hy => ?_⟩
  rcases tput_mem hy with rfl | hy
  · have hkn : y.ks.length ≤ n + 1 := by
      rw [h3]; unfold newK; split
      · simp; omega
      · omega
    refine ⟨(whole_iff _).2 ⟨?_, ?_, ?_, ?_, ?_, ?_, ?_⟩, by rw [h2, List.length_append]; omega, hkn⟩
    · simp only [Sm.str]; rw [h1]; exact hok0.1
    · simp only [Sm.str]; rw [h1, h2]
      intro e he'
      rcases List.mem_append.1 he' with hh | hh
      · exact o5 e hh
      · exact ⟨(ha e hh).2.2, (ha e hh).1⟩
    · simp only [Sm.str]; rw [h3]; unfold newK
      split
      · rename_i hc
        intro q hq
        rcases List.mem_append.1 hq with hq | hq
        · exact (o6 q hq).1
        · rw [List.mem_singleton.1 hq]
          simp only [Kn.ok, Bool.and_eq_true, decide_eq_true_eq]
          exact ⟨hc.2, hkey, hok0.2.1, hok0.2.2.2.2.1⟩
      · exact fun q hq => (o6 q hq).1
    · simp only [Sm.str]; rw [h2, he]; simp
    · simp only [Sm.str]; rw [h2, goes_append, o1, Bool.true_and, o2, Int.zero_add]; exact hg
    · simp only [Sm.str]; rw [h3]; unfold newK
      split
      · rename_i hc
        rw [List.map_append, List.nodup_append]
        refine ⟨o7, by simp, fun a ha' b hb e => ?_⟩
        obtain rfl : b = key := by simpa using hb
        obtain ⟨q, hq, rfl⟩ := List.mem_map.1 ha'
        have : ∀ (ks : List Kn), q ∈ ks → fkn ks q.key ≠ none := fun ks => by
          induction ks with
          | nil => intro h; cases h
          | cons z ks ih =>
            intro hq
            simp only [fkn]
            split
            · simp
            · rcases List.mem_cons.1 hq with rfl | hq
              · contradiction
              · exact ih hq
        exact this _ hq (by rw [e]; exact hc.1)
      · exact o7
    · simp only [Sm.str]; rw [h2, h3]; unfold newK
      have hO : ∀ q ∈ oldK T e0.st, keyAt (oldE T e0.st ++ evs) q = true := fun q hq => by
        have h5 := (o6 q hq).1
        simp only [Kn.ok, Bool.and_eq_true, decide_eq_true_eq] at h5
        exact stampAt_append (o6 q hq).2 h5.2.2.1.1
      split
      · intro q hq
        rcases List.mem_append.1 hq with hq | hq
        · exact hO q hq
        · rw [List.mem_singleton.1 hq]
          have hv : e0.ver = (verOf T e0.st : Int) + 1 := by
            have := (goes_all evs _).1 hg 0 (by rw [he]; simp)
            simp only [he, List.getElem_cons_zero] at this
            omega
          simp only [keyAt, Bool.and_eq_true, decide_eq_true_eq]
          refine ⟨by rw [List.length_append, he, List.length_cons]; omega, ?_⟩
          unfold stampAt
          rw [show (e0.ver - 1).toNat = (oldE T e0.st).length by omega, List.getElem?_append_right (Nat.le_refl _), Nat.sub_self, he]
          simp
      · exact hO
  · have := h.str y hy
    exact ⟨this.1, by omega, by omega⟩
end Go.Proofs.YtcgmliaahdpmcaaGreatDoor
namespace Go.Proofs.YtcgmliaahdpmcaaGreatDoor
open Go.Sl
theorem less_asymm : ∀ x y : List UInt8, Op.bytesLess x y = true → Op.bytesLess y x = true → False
  | [], [], h, _ => by simp [Op.bytesLess] at h
  | [], _ :: _, _, h => by simp [Op.bytesLess] at h
  | _ :: _, [], h, _ => by simp [Op.bytesLess] at h
  | a :: x, b :: y, h1, h2 => by
    simp only [Op.bytesLess, Bool.or_eq_true, Bool.and_eq_true, decide_eq_true_eq, beq_iff_eq] at h1 h2
    rcases h1 with h1 | ⟨rfl, h1⟩ <;> rcases h2 with h2 | ⟨e, h2⟩
    · exact absurd (UInt8.lt_trans h1 h2) (UInt8.lt_irrefl _)
    · subst e; exact absurd h1 (UInt8.lt_irrefl _)
    · exact absurd h2 (UInt8.lt_irrefl _)
    · exact less_asymm x y h1 h2
theorem ltB_asymm {a b : ByteArray} (h1 : ltB a b = true) (h2 : ltB b a = true) : False := less_asymm _ _ h1 h2
theorem ltB_nodup {l : List ByteArray} (h : l.Pairwise fun a b => ltB a b = true) : l.Nodup := h.imp fun {a b} hab e => by
  subst e; exact ltB_asymm hab hab
structure Taken (T : List Sm) (xs : List StrV) : Prop where
  sort : (xs.map StrV.nm).Pairwise fun a b => ltB a b = true
  perm : (xs.map StrV.nm).Perm (T.map Sm.nm)
  each : ∀ y ∈ xs, ∃ s ∈ T, TakeOf s y
theorem keys_eq {a b : List Kn} (hp : a.Perm b) (h1 : (a.map Kn.key).Pairwise fun a b => ltB a b = true) (h2 : (b.map Kn.key).Pairwise fun a b => ltB a b = true) : a = b :=
  List.Perm.eq_of_pairwise (le := fun x y => ltB x.key y.key = true) (fun x y _ _ h h' => (ltB_asymm h h').elim) (List.pairwise_map.1 h1) (List.pairwise_map.1 h2) hp
theorem nm_inj {T : List Sm} (hn : (T.map Sm.nm).Nodup) {a b : Sm} (ha : a ∈ T) (hb : b ∈ T) (h : a.nm = b.nm) : a = b := by
  have h1 := fnd_of_mem hn ha
  have h2 := fnd_of_mem hn hb
  rw [h, h2] at h1
  exact (Option.some.inj h1).symm
theorem Taken.uniq {T : List Sm} (hn : (T.map Sm.nm).Nodup) {xs ys : List StrV} (hx : Taken T xs) (hy : Taken T ys) : xs.map StrV.d = ys.map StrV.d := by
  have hnm : xs.map StrV.nm = ys.map StrV.nm := List.Perm.eq_of_pairwise (le := fun a b => ltB a b = true) (fun a b _ _ h h' => (ltB_asymm h h').elim) hx.sort hy.sort (hx.perm.trans hy.perm.symm)
  have hlen : xs.length = ys.length := by simpa using congrArg List.length hnm
  apply List.ext_getElem?
  intro i
  by_cases hi : i < xs.length
  · have hi2 : i < ys.length := by omega
    have hni : xs[i].nm = ys[i].nm := by
      have := congrArg (·[i]?) hnm
      simpa [hi, hi2] using this
    obtain ⟨s, hs, t1⟩ := hx.each xs[i] (List.getElem_mem _)
    obtain ⟨s', hs', t2⟩ := hy.each ys[i] (List.getElem_mem _)
    obtain rfl : s = s' := nm_inj hn hs hs' (by rw [← t1.nm, ← t2.nm, hni])
    have hk := keys_eq (t1.perm.trans t2.perm.symm) t1.sort t2.sort
    have : xs[i].d = ys[i].d := by
      simp only [StrV.d, Prod.mk.injEq]
      exact ⟨hni, by rw [t1.evs, t2.evs], hk⟩
    simp [hi, hi2, this]
  · simp [List.getElem?_eq_none (show (xs.map StrV.d).length ≤ i by simp; omega), List.getElem?_eq_none (show (ys.map StrV.d).length ≤ i by simp; omega)]
theorem taken_of {T : List Sm} {r : Rg} {xs : List StrV} (h1 : ∀ y ∈ xs, ∃ s ∈ T, TakeOf s y) (h2 : ∃ ys : List ByteArray, ys.Perm (T.map Sm.nm) ∧ ys.Pairwise (fun a b => ltB a b = true) ∧ xs.map StrV.nm = ys.filter r.has) : Taken (T.filter fun s => r.has s.nm) xs := by
  obtain ⟨ys, hp, hs, he⟩ := h2
  refine ⟨by rw [he]; exact hs.filter _, ?_, fun y hy => ?_⟩
  · rw [he]
    refine (hp.filter _).trans ?_
    rw [List.filter_map]
    exact List.Perm.refl _
  · obtain ⟨s, hs, ht⟩ := h1 y hy
    refine ⟨s, List.mem_filter.2 ⟨hs, ?_⟩, ht⟩
    have hm : y.nm ∈ xs.map StrV.nm := List.mem_map.2 ⟨y, hy, rfl⟩
    rw [he] at hm
    rw [← ht.nm]
    exact (List.mem_filter.1 hm).2
theorem all_filter (T : List Sm) : (T.filter fun s => Rg.all.has s.nm) = T := List.filter_eq_self.2 fun s _ => all_has s.nm
theorem whole_perm {x y : StrV} (hn : y.nm = x.nm) (he : y.evs = x.evs) (hk : y.ks.Perm x.ks) (h : wholeB x = true) : wholeB y = true := by
  rw [whole_iff] at h ⊢
  obtain ⟨h1, h2, h3, h4, h5, h6, h7⟩ := h
  rw [hn, he]
  exact ⟨h1, h2, fun k hk' => h3 k (hk.mem_iff.1 hk'), h4, h5, ((hk.map Kn.key).nodup_iff).2 h6, fun k hk' => h7 k (hk.mem_iff.1 hk')⟩
theorem Taken.put {T : List Sm} {n k : Nat} {xs : List StrV} (hT : ∀ s ∈ T, wholeB s.str = true ∧ s.evs.length ≤ k ∧ s.ks.length ≤ n) (h : Taken T xs) : putB xs = true ∧ ∀ y ∈ xs, y.evs.length ≤ k ∧ y.ks.length ≤ n ∧ wholeB y = true := by
  have hw : ∀ y ∈ xs, y.evs.length ≤ k ∧ y.ks.length ≤ n ∧ wholeB y = true := fun y hy => by
    obtain ⟨s, hs, t⟩ := h.each y hy
    obtain ⟨w1, w2, w3⟩ := hT s hs
    exact ⟨by rw [t.evs]; exact w2, by rw [t.perm.length_eq]; exact w3, whole_perm (x := s.str) t.nm t.evs t.perm w1⟩
  exact ⟨by unfold putB; rw [decide_eq_true (ltB_nodup h.sort), List.all_eq_true.2 fun y hy => (hw y hy).2.2]; rfl, hw⟩
theorem TW.filter {T : List Sm} {n k : Nat} (h : TW T n k) (p : Sm → Bool) : TW (T.filter p) n k :=
  ⟨h.nd.sublist (List.filter_sublist.map _), Nat.le_trans (List.length_filter_le _ _) h.len, fun s hs => h.str s (List.mem_filter.1 hs).1⟩
end Go.Proofs.YtcgmliaahdpmcaaGreatDoor
