/- The walk of TableMoves. -/
import Derived.Test.YtcgmliaahdpmcaaDoorTabW
set_option linter.unusedSimpArgs false
set_option linter.unusedVariables false
namespace Go.Proofs.YtcgmliaahdpmcaaDoor
open Go.Sl facts
attribute [local irreducible] Code.wp wpList Exit.then Exit.inBlock bodyPost Back MidQ G GP QStep VStep CStep SStep Does Post Reads
theorem append_w {H : HP} (hU : UtH H) (p : Option Addr) (c : Nat) (evs : List Ev) (hS : SlAt (Pile H) 7 p evs.length (evs.flatMap Ev.cells)) (hO : EvsOk evs) (hl : evs.length ≤ 20000) (t : Nat) (mp : Option Nat) (T : List Sm) (key : ByteArray) (hk : key.size ≤ 9223372036854775807) {n k : Nat} (hT : TW T n k) (hk2 : k ≤ 90000000) :
    Does Tryd.prog 9 [ptr t, .string key, .slice p evs.length c] (tabL t mp T ++ [Pile H]) (X := Int × GX) (fun x => int x.1) (fun y => tabL t y.2.mp y.2.T ++ [Pile H]) (fun y => TW y.2.T (n + 1) (k + evs.length)) := by
  have hver : ∀ nm, verOf T nm ≤ k := fun nm => by
    unfold verOf
    cases hf : fnd T nm with
    | none => simp
    | some x =>
      obtain ⟨_, A, B, e, _⟩ := fnd_split hf
      exact (hT.str x (by rw [e]; simp)).2.1
  by_cases hm : mayB evs key = true
  · obtain ⟨e0, l, he⟩ : ∃ e0 l, evs = e0 :: l := by
      cases evs with
      | nil => simp [mayB] at hm
      | cons e l => exact ⟨e, l, rfl⟩
    have hfs : firstSt evs = e0.st := by rw [he]; rfl
    have ho := hver e0.st
    by_cases hg : goesB evs (verOf T e0.st) = true
    · have hT2 : ∀ x ∈ T, x.evs.length ≤ 100000000 := fun x hx => by have := (hT.str x hx).2.1; omega
      exact does_weak (append_yes hU p c evs hS hO (by omega) t mp T key hk e0 ⟨l, he⟩ hm hg hT2) (fun y => (0, ⟨0, some y.m, tput T y.x⟩)) (fun y => rfl) (fun y _ h => h) (fun y hy => hT.put he hm hg hy.1 hy.2.1 hy.2.2)
    · exact does_weak (append_ver hU p c evs hS hO (by omega) t mp T key hk hm (by rw [hfs]; simpa using hg) (by rw [hfs]; omega)) (fun _ => (5, ⟨0, mp, T⟩)) (fun y => rfl) (fun y _ h => h) (fun y hy => hT.mono (by omega) (by omega))
  · exact does_weak (append_no hU p c evs hS hO (by omega) t mp T key hk (by simpa using hm)) (fun _ => (1, ⟨0, mp, T⟩)) (fun y => rfl) (fun y _ h => h) (fun y hy => hT.mono (by omega) (by omega))
theorem sumL_append (a b : List StV) : sumL (a ++ b) = sumL a + sumL b := by unfold sumL; rw [List.map_append, List.sum_append]
theorem sumL_take (l : List StV) (i : Nat) : sumL (l.take i) ≤ sumL l := by
  have h := sumL_append (l.take i) (l.drop i)
  rw [List.take_append_drop] at h
  omega
theorem sumL_get (l : List StV) (i : Nat) (h : i < l.length) : sumL (l.take (i + 1)) = sumL (l.take i) + l[i].L.length := by
  rw [List.take_succ_eq_append_getElem h, sumL_append]; simp [sumL]
set_option maxHeartbeats 16000000 in
theorem moves {H : HP} (hU : UtH H) (p : Option Addr) (cap : Nat) (l : List StV) (hS : StepsAt (Pile H) p l) (hlen : l.length ≤ 9223372036854775807) (r : Rg) : Does1 Tryd.prog 6 [.slice p l.length cap, r.v] [Pile H] (.bool true) := by
  refine fn_intro Tryd.func6 rfl Tryd.ntmps6 rfl (by simp only [argFr, Nat.zero_add, Nat.reduceAdd]; rfl) (fun Γ => ?_)
  repeat (first
    | (refine g_ops ?_; first | refine s_q ?_ | refine s_v ?_ | refine s_s ?_ | refine s_n (fun _ => ?_) | refine s_x ?_ | refine s_y ?_ | refine s_mq ?_ | refine s_appB (fun _ _ => ?_) | refine s_app (fun _ _ => ?_) | refine s_mv ?_ | refine s_ms ?_ | refine s_b0 (fun _ => ?_) | ((fail_if_success refine g_lit rfl rfl rfl ?_); first | apply g_partM rfl rfl rfl | apply g_partMB rfl rfl rfl | fail) | refine s_c (small2 p cap l hS hlen) (fun _ _ => ?_))
    | refine g_seq ?_ | refine g_region ?_ | refine g_nil ?_ | refine g_then_normal ?_ | refine g_block ?_ | refine g_in_normal ?_ | refine g_retc ?_ | refine g_then_ret ?_
    | refine g_in_ret ?_ | refine g_exit ?_ | refine g_then_exit ?_ | refine g_in_exit ?_ | refine g_in_other rfl ?_ | refine g_skip ?_ | refine g_label ?_
    | refine g_cond_true rfl ?_ | refine g_cond_false rfl ?_ | exact s_m | intro _)
  rename_i rb sb hsb
  dsimp only [List.cons_append, List.nil_append]
  refine g_cond rfl (fun h => ?_) (fun h => ?_)
  · repeat (first
      | (refine g_ops ?_; first | refine s_q ?_ | refine s_v ?_ | refine s_s ?_ | refine s_n (fun _ => ?_) | refine s_x ?_ | refine s_y ?_ | refine s_mq ?_ | refine s_appB (fun _ _ => ?_) | refine s_app (fun _ _ => ?_) | refine s_mv ?_ | refine s_ms ?_ | refine s_b0 (fun _ => ?_) | ((fail_if_success refine g_lit rfl rfl rfl ?_); first | apply g_partM rfl rfl rfl | apply g_partMB rfl rfl rfl | fail) | refine s_k (awake hU) ?_)
      | refine g_seq ?_ | refine g_region ?_ | refine g_nil ?_ | refine g_then_normal ?_ | refine g_block ?_ | refine g_in_normal ?_ | refine g_retc ?_
      | refine g_then_ret ?_ | refine g_in_ret ?_ | refine g_exit ?_ | refine g_then_exit ?_ | refine g_in_exit ?_ | refine g_in_other rfl ?_ | refine g_skip ?_
      | refine g_label ?_ | refine g_cond_true rfl ?_ | refine g_cond_false rfl ?_ | exact s_m | intro _)
    exact g_ret () rfl (by (repeat (first | exact RVs.nil | apply RVs.tmp rfl | apply RVs.cellA rfl (by (repeat (first | exact Sel.here | apply Sel.there)); first | done | fail) (by (repeat (first | exact Cut.zero | apply Cut.take | apply Cut.skip)); first | done | fail) | apply RVs.cell1 rfl (by (repeat (first | exact Sel.here | apply Sel.there)); first | done | fail) rfl)); first | done | fail) (by (repeat (first | exact Take.nil | apply Take.cons | exact Sel.here | apply Sel.there)); first | done | fail) rfl trivial
  · obtain ⟨hl80, hsz⟩ := hsb (by simpa using h)
    repeat (first
      | (refine g_ops ?_; first | refine s_q ?_ | refine s_v ?_ | refine s_s ?_ | refine s_n (fun _ => ?_) | refine s_x ?_ | refine s_y ?_ | refine s_mq ?_ | refine s_appB (fun _ _ => ?_) | refine s_app (fun _ _ => ?_) | refine s_mv ?_ | refine s_ms ?_ | refine s_b0 (fun _ => ?_) | ((fail_if_success refine g_lit rfl rfl rfl ?_); first | apply g_partM rfl rfl rfl | apply g_partMB rfl rfl rfl | fail) | refine s_c (new) (fun _ _ => ?_))
      | refine g_seq ?_ | refine g_region ?_ | refine g_nil ?_ | refine g_then_normal ?_ | refine g_block ?_ | refine g_in_normal ?_ | refine g_retc ?_
      | refine g_then_ret ?_ | refine g_in_ret ?_ | refine g_exit ?_ | refine g_then_exit ?_ | refine g_in_exit ?_ | refine g_in_other rfl ?_ | refine g_skip ?_
      | refine g_label ?_ | refine g_cond_true rfl ?_ | refine g_cond_false rfl ?_ | exact s_m | intro _)
    rename_i t _
    dsimp only [List.cons_append, List.nil_append]
    refine g_loop (X := GX) (fun x => [(0, .slice p l.length cap), (3, ptr rb), (4, .bool false), (5, ptr t), (6, int x.i)]) (fun x => tabL t x.mp x.T ++ [rrow rb r, Pile H]) (fun x => x.i ≤ l.length ∧ TW x.T x.i (sumL (l.take x.i))) (fun x => l.length - x.i) ⟨0, none, []⟩ ⟨Nat.zero_le _, TW.nil _ _⟩ (by (repeat (first | exact FrSub.nil | refine FrSub.cons rfl ?_)); first | done | fail) (by (repeat (first | exact Take.nil | apply Take.cons | exact Sel.here | apply Sel.there)); first | done | fail) (fun x hx => ?_)
    obtain ⟨i, mp, T⟩ := x
    obtain ⟨hi, hT⟩ := hx
    dsimp only [List.cons_append, List.nil_append] at hi hT ⊢
    have hsl := sumL_take l i
    repeat (first
      | (refine g_ops ?_; first | refine s_q ?_ | refine s_v ?_ | refine s_s ?_ | refine s_n (fun _ => ?_) | refine s_x ?_ | refine s_y ?_ | refine s_mq ?_ | refine s_appB (fun _ _ => ?_) | refine s_app (fun _ _ => ?_) | refine s_mv ?_ | refine s_ms ?_ | refine s_b0 (fun _ => ?_) | ((fail_if_success refine g_lit rfl rfl rfl ?_); first | apply g_partM rfl rfl rfl | apply g_partMB rfl rfl rfl | fail))
      | refine g_seq ?_ | refine g_region ?_ | refine g_nil ?_ | refine g_then_normal ?_ | refine g_block ?_ | refine g_in_normal ?_ | refine g_retc ?_
      | refine g_then_ret ?_ | refine g_in_ret ?_ | refine g_exit ?_ | refine g_then_exit ?_ | refine g_in_exit ?_ | refine g_in_other rfl ?_ | refine g_skip ?_
      | refine g_label ?_ | refine g_cond_true rfl ?_ | refine g_cond_false rfl ?_ | exact s_m | intro _)
    refine g_cond_dec rfl (fun h2 => ?_) (fun h2 => ?_)
    · have hi' : i < l.length := by omega
      obtain ⟨b, o, rfl, hcell⟩ := slAt_elem hS.sl stv_len (by decide) (i := i) (a := l[i]) (by simp [hi'])
      have hAi := hS.at_ l[i] (List.getElem_mem _)
      have hsi := sumL_get l i hi'
      have hsl2 := sumL_take l (i + 1)
      generalize hx : l[i] = x at hcell hAi hsi
      repeat (first
        | (refine g_ops ?_; first | refine s_q ?_ | refine s_v ?_ | refine s_s ?_ | refine s_n (fun _ => ?_) | refine s_x ?_ | refine s_y ?_ | refine s_mq ?_ | refine s_appB (fun _ _ => ?_) | refine s_app (fun _ _ => ?_) | refine s_mv ?_ | refine s_ms ?_ | refine s_b0 (fun _ => ?_) | ((fail_if_success refine g_lit rfl rfl rfl ?_); first | apply g_partM rfl rfl rfl | apply g_partMB rfl rfl rfl | fail))
        | refine g_seq ?_ | refine g_region ?_ | refine g_nil ?_ | refine g_then_normal ?_ | refine g_block ?_ | refine g_in_normal ?_ | refine g_retc ?_
        | refine g_then_ret ?_ | refine g_in_ret ?_ | refine g_exit ?_ | refine g_then_exit ?_ | refine g_in_exit ?_ | refine g_in_other rfl ?_ | refine g_skip ?_
        | refine g_label ?_ | refine g_cond_true rfl ?_ | refine g_cond_false rfl ?_ | exact s_m | intro _)
      refine g_cond_dec rfl (fun h3 => ?_) (fun h3 => ?_)
      · repeat (first
          | (refine g_ops ?_; first | refine s_q ?_ | refine s_v ?_ | refine s_s ?_ | refine s_n (fun _ => ?_) | refine s_x ?_ | refine s_y ?_ | refine s_mq ?_ | refine s_appB (fun _ _ => ?_) | refine s_app (fun _ _ => ?_) | refine s_mv ?_ | refine s_ms ?_ | refine s_b0 (fun _ => ?_) | ((fail_if_success refine g_lit rfl rfl rfl ?_); first | apply g_partM rfl rfl rfl | apply g_partMB rfl rfl rfl | fail))
          | refine g_seq ?_ | refine g_region ?_ | refine g_nil ?_ | refine g_then_normal ?_ | refine g_block ?_ | refine g_in_normal ?_ | refine g_retc ?_
          | refine g_then_ret ?_ | refine g_in_ret ?_ | refine g_exit ?_ | refine g_then_exit ?_ | refine g_in_exit ?_ | refine g_in_other rfl ?_ | refine g_skip ?_
          | refine g_label ?_ | refine g_cond_true rfl ?_ | refine g_cond_false rfl ?_ | exact s_m | intro _)
        refine g_draw (.take 0 (.take 1 (.take 2 (.take 3 (.take 4 (.see 5 [11] (.take 6 (.take 7 (.take 8 (.take 9 (.see 10 [11] (.thaw 11 .done)))))))))))) (by kernel_rfl) (C := [Pile H]) (by (repeat (first | exact Take.nil | apply Take.cons | exact Sel.here | apply Sel.there)); first | done | fail) (fun k hd hk => ?_)
        repeat (first
          | (refine gp_take ?_; first | refine p_q ?_ | refine p_x ?_ | refine p_mq ?_ | ((fail_if_success refine gp_lit rfl rfl rfl rfl ?_); first | apply gp_guard_dec rfl rfl rfl rfl | apply gp_guard rfl rfl rfl rfl | fail))
          | (refine gp_see ?_; first | refine p_f ?_ | refine p_sx ?_ | ((fail_if_success refine gp_lit rfl rfl rfl rfl ?_); first | apply gp_guard_dec rfl rfl rfl rfl | apply gp_guard rfl rfl rfl rfl | fail) | refine p_sq ?_)
          | (refine gp_one ?_; first | refine p_v ?_ | refine p_s ?_ | refine p_n (fun _ => ?_) | refine p_y ?_ | refine p_appB (fun _ _ => ?_) | refine p_app (fun _ _ => ?_) | refine p_mv ?_ | refine p_ms ?_ | refine p_b0 (fun _ => ?_) | ((fail_if_success refine gp_lit rfl rfl rfl rfl ?_); first | apply gp_guard_dec rfl rfl rfl rfl | apply gp_guard rfl rfl rfl rfl | fail))
          | refine gp_two ?_ ?_ | refine gp_done hd hk ?_ | intro _ | refine p_ta hd hk (fun _ _ _ hd hk => ?_) | refine p_ts hd hk (fun _ hd hk => ?_))
        refine p_tcA (append_w hU x.lp x.lc x.L hAi.l hAi.lo (by omega) t mp T x.key hAi.kl hT (by omega)) hd hk (fun y m' hy hd hk => ?_)
        obtain ⟨ec, i2, mp2, T2⟩ := y
        dsimp only at hy ⊢
        repeat (first
          | (refine gp_take ?_; first | refine p_q ?_ | refine p_x ?_ | refine p_mq ?_ | ((fail_if_success refine gp_lit rfl rfl rfl rfl ?_); first | apply gp_guard_dec rfl rfl rfl rfl | apply gp_guard rfl rfl rfl rfl | fail))
          | (refine gp_see ?_; first | refine p_f ?_ | refine p_sx ?_ | ((fail_if_success refine gp_lit rfl rfl rfl rfl ?_); first | apply gp_guard_dec rfl rfl rfl rfl | apply gp_guard rfl rfl rfl rfl | fail) | refine p_sq ?_)
          | (refine gp_one ?_; first | refine p_v ?_ | refine p_s ?_ | refine p_n (fun _ => ?_) | refine p_y ?_ | refine p_appB (fun _ _ => ?_) | refine p_app (fun _ _ => ?_) | refine p_mv ?_ | refine p_ms ?_ | refine p_b0 (fun _ => ?_) | ((fail_if_success refine gp_lit rfl rfl rfl rfl ?_); first | apply gp_guard_dec rfl rfl rfl rfl | apply gp_guard rfl rfl rfl rfl | fail))
          | refine gp_two ?_ ?_ | refine gp_done hd hk ?_ | intro _ | refine p_ta hd hk (fun _ _ _ hd hk => ?_) | refine p_ts hd hk (fun _ hd hk => ?_))
        repeat (first
          | (refine g_ops ?_; first | refine s_q ?_ | refine s_v ?_ | refine s_s ?_ | refine s_n (fun _ => ?_) | refine s_x ?_ | refine s_y ?_ | refine s_mq ?_ | refine s_appB (fun _ _ => ?_) | refine s_app (fun _ _ => ?_) | refine s_mv ?_ | refine s_ms ?_ | refine s_b0 (fun _ => ?_) | ((fail_if_success refine g_lit rfl rfl rfl ?_); first | apply g_partM rfl rfl rfl | apply g_partMB rfl rfl rfl | fail))
          | refine g_seq ?_ | refine g_region ?_ | refine g_nil ?_ | refine g_then_normal ?_ | refine g_block ?_ | refine g_in_normal ?_ | refine g_retc ?_
          | refine g_then_ret ?_ | refine g_in_ret ?_ | refine g_exit ?_ | refine g_then_exit ?_ | refine g_in_exit ?_ | refine g_in_other rfl ?_ | refine g_skip ?_
          | refine g_label ?_ | refine g_cond_true rfl ?_ | refine g_cond_false rfl ?_ | exact s_m | intro _)
        refine g_as 6 (v' := int ((i + 1 : Nat) : Int)) rfl (congrArg (Value.int .i64) (by push_cast; rfl)) ?_
        exact g_again ⟨i + 1, mp2, T2⟩ (by simp only; omega) ⟨hi', by simp only; rw [hsi]; exact hy⟩ (by (repeat (first | exact FrSub.nil | refine FrSub.cons rfl ?_)); first | done | fail) (by (repeat (first | exact Take.nil | apply Take.cons | exact Sel.here | apply Sel.there)); first | done | fail)
      · repeat (first
          | (refine g_ops ?_; first | refine s_q ?_ | refine s_v ?_ | refine s_s ?_ | refine s_n (fun _ => ?_) | refine s_x ?_ | refine s_y ?_ | refine s_mq ?_ | refine s_appB (fun _ _ => ?_) | refine s_app (fun _ _ => ?_) | refine s_mv ?_ | refine s_ms ?_ | refine s_b0 (fun _ => ?_) | ((fail_if_success refine g_lit rfl rfl rfl ?_); first | apply g_partM rfl rfl rfl | apply g_partMB rfl rfl rfl | fail))
          | refine g_seq ?_ | refine g_region ?_ | refine g_nil ?_ | refine g_then_normal ?_ | refine g_block ?_ | refine g_in_normal ?_ | refine g_retc ?_
          | refine g_then_ret ?_ | refine g_in_ret ?_ | refine g_exit ?_ | refine g_then_exit ?_ | refine g_in_exit ?_ | refine g_in_other rfl ?_ | refine g_skip ?_
          | refine g_label ?_ | refine g_cond_true rfl ?_ | refine g_cond_false rfl ?_ | exact s_m | intro _)
        refine g_as 6 (v' := int ((i + 1 : Nat) : Int)) rfl (congrArg (Value.int .i64) (by push_cast; rfl)) ?_
        exact g_again ⟨i + 1, mp, T⟩ (by simp only; omega) ⟨hi', hT.mono (by simp only; omega) (by simp only; omega)⟩ (by (repeat (first | exact FrSub.nil | refine FrSub.cons rfl ?_)); first | done | fail) (by (repeat (first | exact Take.nil | apply Take.cons | exact Sel.here | apply Sel.there)); first | done | fail)
    · obtain rfl : i = l.length := by omega
      have hTW : TW T 80 20000 := hT.mono hl80 (by omega)
      clear hT
      have hTB := hTW.big (by decide) (by decide)
      repeat (first
        | (refine g_ops ?_; first | refine s_q ?_ | refine s_v ?_ | refine s_s ?_ | refine s_n (fun _ => ?_) | refine s_x ?_ | refine s_y ?_ | refine s_mq ?_ | refine s_appB (fun _ _ => ?_) | refine s_app (fun _ _ => ?_) | refine s_mv ?_ | refine s_ms ?_ | refine s_b0 (fun _ => ?_) | ((fail_if_success refine g_lit rfl rfl rfl ?_); first | apply g_partM rfl rfl rfl | apply g_partMB rfl rfl rfl | fail) | refine s_k (allF) ?_ | refine s_c (take t mp T Rg.all hTB) (fun _ _ => ?_))
        | refine g_seq ?_ | refine g_region ?_ | refine g_nil ?_ | refine g_then_normal ?_ | refine g_block ?_ | refine g_in_normal ?_ | refine g_retc ?_
        | refine g_then_ret ?_ | refine g_in_ret ?_ | refine g_exit ?_ | refine g_then_exit ?_ | refine g_in_exit ?_ | refine g_in_other rfl ?_ | refine g_skip ?_
        | refine g_label ?_ | refine g_cond_true rfl ?_ | refine g_cond_false rfl ?_ | exact s_m | intro _)
      rename_i y1 hy1
      obtain ⟨wp, wc, ws, H1⟩ := y1
      obtain ⟨sb1, wat, weach, wnames⟩ := hy1
      dsimp only [List.cons_append, List.nil_append] at sb1 wat weach wnames ⊢
      have hTkW := taken_of weach wnames
      rw [all_filter] at hTkW
      refine g_pile (p := wp) (m := ws.length) (c := wc) (n := 3) (xs := ws.flatMap StrV.cells) (e := 60) (by (repeat (first | exact Sel.here | apply Sel.there)); first | done | fail) (by (repeat (first | exact Sel.here | apply Sel.there)); first | done | fail) (fun H2 sb2 hSw => ?_)
      repeat (first
        | (refine g_ops ?_; first | refine s_q ?_ | refine s_v ?_ | refine s_s ?_ | refine s_n (fun _ => ?_) | refine s_x ?_ | refine s_y ?_ | refine s_mq ?_ | refine s_appB (fun _ _ => ?_) | refine s_app (fun _ _ => ?_) | refine s_mv ?_ | refine s_ms ?_ | refine s_b0 (fun _ => ?_) | ((fail_if_success refine g_lit rfl rfl rfl ?_); first | apply g_partM rfl rfl rfl | apply g_partMB rfl rfl rfl | fail) | refine s_c (take t mp T r hTB) (fun _ _ => ?_))
        | refine g_seq ?_ | refine g_region ?_ | refine g_nil ?_ | refine g_then_normal ?_ | refine g_block ?_ | refine g_in_normal ?_ | refine g_retc ?_
        | refine g_then_ret ?_ | refine g_in_ret ?_ | refine g_exit ?_ | refine g_then_exit ?_ | refine g_in_exit ?_ | refine g_in_other rfl ?_ | refine g_skip ?_
        | refine g_label ?_ | refine g_cond_true rfl ?_ | refine g_cond_false rfl ?_ | exact s_m | intro _)
      rename_i y2 hy2
      obtain ⟨sp, sc, ss, H3⟩ := y2
      obtain ⟨sb3, sat, seach, snames⟩ := hy2
      dsimp only [List.cons_append, List.nil_append] at sb3 sat seach snames ⊢
      have hTkS := taken_of seach snames
      refine g_pile (p := sp) (m := ss.length) (c := sc) (n := 3) (xs := ss.flatMap StrV.cells) (e := 60) (by (repeat (first | exact Sel.here | apply Sel.there)); first | done | fail) (by (repeat (first | exact Sel.here | apply Sel.there)); first | done | fail) (fun H4 sb4 hSs => ?_)
      have sat4 : ∀ y ∈ ss, StrAt (Pile H4) y := fun y hy => (sat y hy).grow sb4
      have hU4 : UtH H4 := hU.grow (sb1.trans (sb2.trans (sb3.trans sb4)))
      obtain ⟨hpb, hsw⟩ := hTkS.put (n := 80) (k := 20000) (hTW.filter _).str
      have hsl80 : ss.length ≤ 80 := by
        have h1 : ss.length = (T.filter fun s => r.has s.nm).length := by simpa using hTkS.perm.length_eq
        have h2 := List.length_filter_le (fun s => r.has s.nm) T
        have := hTW.len; omega
      have hput := put (vstr hU4) sp sc ss hSs sat4 (fun y hy => ⟨by have := (hsw y hy).1; omega, by have := (hsw y hy).2.1; omega⟩) (by omega)
      rw [hpb] at hput
      simp only [if_true] at hput
      repeat (first
        | (refine g_ops ?_; first | refine s_q ?_ | refine s_v ?_ | refine s_s ?_ | refine s_n (fun _ => ?_) | refine s_x ?_ | refine s_y ?_ | refine s_mq ?_ | refine s_appB (fun _ _ => ?_) | refine s_app (fun _ _ => ?_) | refine s_mv ?_ | refine s_ms ?_ | refine s_b0 (fun _ => ?_) | ((fail_if_success refine g_lit rfl rfl rfl ?_); first | apply g_partM rfl rfl rfl | apply g_partMB rfl rfl rfl | fail) | refine s_c (new) (fun _ _ => ?_))
        | refine g_seq ?_ | refine g_region ?_ | refine g_nil ?_ | refine g_then_normal ?_ | refine g_block ?_ | refine g_in_normal ?_ | refine g_retc ?_
        | refine g_then_ret ?_ | refine g_in_ret ?_ | refine g_exit ?_ | refine g_then_exit ?_ | refine g_in_exit ?_ | refine g_in_other rfl ?_ | refine g_skip ?_
        | refine g_label ?_ | refine g_cond_true rfl ?_ | refine g_cond_false rfl ?_ | exact s_m | intro _)
      rename_i u _
      dsimp only [List.cons_append, List.nil_append]
      repeat (first
        | (refine g_ops ?_; first | refine s_q ?_ | refine s_v ?_ | refine s_s ?_ | refine s_n (fun _ => ?_) | refine s_x ?_ | refine s_y ?_ | refine s_mq ?_ | refine s_appB (fun _ _ => ?_) | refine s_app (fun _ _ => ?_) | refine s_mv ?_ | refine s_ms ?_ | refine s_b0 (fun _ => ?_) | ((fail_if_success refine g_lit rfl rfl rfl ?_); first | apply g_partM rfl rfl rfl | apply g_partMB rfl rfl rfl | fail) | refine s_c (hput u none []) (fun _ _ => ?_))
        | refine g_seq ?_ | refine g_region ?_ | refine g_nil ?_ | refine g_then_normal ?_ | refine g_block ?_ | refine g_in_normal ?_ | refine g_retc ?_
        | refine g_then_ret ?_ | refine g_in_ret ?_ | refine g_exit ?_ | refine g_then_exit ?_ | refine g_in_exit ?_ | refine g_in_other rfl ?_ | refine g_skip ?_
        | refine g_label ?_ | refine g_cond_true rfl ?_ | refine g_cond_false rfl ?_ | exact s_m | intro _)
      rename_i y3 hy3
      obtain ⟨mpu, us⟩ := y3
      dsimp only at hy3 ⊢
      have hUW : TW us 80 20000 := (hTW.filter _).of_taken hTkS hy3
      have hUB := hUW.big (by decide) (by decide)
      rw [fold_put us [] (by simpa using hUW.nd), List.nil_append]
      dsimp only [List.cons_append, List.nil_append]
      repeat (first
        | (refine g_ops ?_; first | refine s_q ?_ | refine s_v ?_ | refine s_s ?_ | refine s_n (fun _ => ?_) | refine s_x ?_ | refine s_y ?_ | refine s_mq ?_ | refine s_appB (fun _ _ => ?_) | refine s_app (fun _ _ => ?_) | refine s_mv ?_ | refine s_ms ?_ | refine s_b0 (fun _ => ?_) | ((fail_if_success refine g_lit rfl rfl rfl ?_); first | apply g_partM rfl rfl rfl | apply g_partMB rfl rfl rfl | fail) | refine s_k (allF) ?_ | refine s_c (take u mpu us Rg.all hUB) (fun _ _ => ?_))
        | refine g_seq ?_ | refine g_region ?_ | refine g_nil ?_ | refine g_then_normal ?_ | refine g_block ?_ | refine g_in_normal ?_ | refine g_retc ?_
        | refine g_then_ret ?_ | refine g_in_ret ?_ | refine g_exit ?_ | refine g_then_exit ?_ | refine g_in_exit ?_ | refine g_in_other rfl ?_ | refine g_skip ?_
        | refine g_label ?_ | refine g_cond_true rfl ?_ | refine g_cond_false rfl ?_ | exact s_m | intro _)
      rename_i y4 hy4
      obtain ⟨up, uc, xu, H5⟩ := y4
      obtain ⟨sb5, uat, ueach, unames⟩ := hy4
      dsimp only [List.cons_append, List.nil_append] at sb5 uat ueach unames ⊢
      have hTkU := taken_of ueach unames
      rw [all_filter] at hTkU
      have hsame := (hTkS.chase hy3 hTkU).uniq (hTW.filter _).nd hTkS
      have hxul : xu.length = ss.length := by simpa using congrArg List.length hsame
      refine g_pile (p := up) (m := xu.length) (c := uc) (n := 3) (xs := xu.flatMap StrV.cells) (e := 60) (by (repeat (first | exact Sel.here | apply Sel.there)); first | done | fail) (by (repeat (first | exact Sel.here | apply Sel.there)); first | done | fail) (fun H6 sb6 hSu => ?_)
      have hss1 := sameStreams up sp uc sc xu ss hSu (fun y hy => (uat y hy).grow sb6) (hSs.grow (sb5.trans sb6)) (fun y hy => (sat4 y hy).grow (sb5.trans sb6)) hsame (by omega) (fun y hy => by
        obtain ⟨z, hz, t⟩ := hTkU.each y hy
        have := (hUW.str z hz).2
        exact ⟨by rw [t.evs]; omega, by rw [t.perm.length_eq]; omega⟩)
      repeat (first
        | (refine g_ops ?_; first | refine s_q ?_ | refine s_v ?_ | refine s_s ?_ | refine s_n (fun _ => ?_) | refine s_x ?_ | refine s_y ?_ | refine s_mq ?_ | refine s_appB (fun _ _ => ?_) | refine s_app (fun _ _ => ?_) | refine s_mv ?_ | refine s_ms ?_ | refine s_b0 (fun _ => ?_) | ((fail_if_success refine g_lit rfl rfl rfl ?_); first | apply g_partM rfl rfl rfl | apply g_partMB rfl rfl rfl | fail) | refine s_k (hss1) ?_ | refine s_c (drop t mp T r hTB) (fun _ _ => ?_))
        | refine g_seq ?_ | refine g_region ?_ | refine g_nil ?_ | refine g_then_normal ?_ | refine g_block ?_ | refine g_in_normal ?_ | refine g_retc ?_
        | refine g_then_ret ?_ | refine g_in_ret ?_ | refine g_exit ?_ | refine g_then_exit ?_ | refine g_in_exit ?_ | refine g_in_other rfl ?_ | refine g_skip ?_
        | refine g_label ?_ | refine g_cond_true rfl ?_ | refine g_cond_false rfl ?_ | exact s_m | intro _)
      dsimp only [List.cons_append, List.nil_append]
      have hcnt : ss.length = (T.filter fun s => r.has s.nm).length := by simpa using hTkS.perm.length_eq
      have hD := hTW.filter fun s => !r.has s.nm
      have hDB := hD.big (by decide) (by decide)
      refine g_as 68 (v' := .bool false) rfl (congrArg Value.bool (by rw [← hcnt]; simp)) ?_
      repeat (first
        | (refine g_ops ?_; first | refine s_q ?_ | refine s_v ?_ | refine s_s ?_ | refine s_n (fun _ => ?_) | refine s_x ?_ | refine s_y ?_ | refine s_mq ?_ | refine s_appB (fun _ _ => ?_) | refine s_app (fun _ _ => ?_) | refine s_mv ?_ | refine s_ms ?_ | refine s_b0 (fun _ => ?_) | ((fail_if_success refine g_lit rfl rfl rfl ?_); first | apply g_partM rfl rfl rfl | apply g_partMB rfl rfl rfl | fail) | refine s_c (take t mp (T.filter fun s => !r.has s.nm) r hDB) (fun _ _ => ?_))
        | refine g_seq ?_ | refine g_region ?_ | refine g_nil ?_ | refine g_then_normal ?_ | refine g_block ?_ | refine g_in_normal ?_ | refine g_retc ?_
        | refine g_then_ret ?_ | refine g_in_ret ?_ | refine g_exit ?_ | refine g_then_exit ?_ | refine g_in_exit ?_ | refine g_in_other rfl ?_ | refine g_skip ?_
        | refine g_label ?_ | refine g_cond_true rfl ?_ | refine g_cond_false rfl ?_ | exact s_m | intro _)
      rename_i y5 hy5
      obtain ⟨p5, c5, x5, H7⟩ := y5
      obtain ⟨sb7, _, each5, names5⟩ := hy5
      dsimp only [List.cons_append, List.nil_append] at sb7 each5 names5 ⊢
      have h5l : x5.length = 0 := by
        have h1 : x5.length = ((T.filter fun s => !r.has s.nm).filter fun s => r.has s.nm).length := by simpa using (taken_of each5 names5).perm.length_eq
        rw [h1, List.filter_filter]
        simp
      refine g_as 75 (v' := .bool false) rfl (congrArg Value.bool (by rw [h5l]; rfl)) ?_
      repeat (first
        | (refine g_ops ?_; first | refine s_q ?_ | refine s_v ?_ | refine s_s ?_ | refine s_n (fun _ => ?_) | refine s_x ?_ | refine s_y ?_ | refine s_mq ?_ | refine s_appB (fun _ _ => ?_) | refine s_app (fun _ _ => ?_) | refine s_mv ?_ | refine s_ms ?_ | refine s_b0 (fun _ => ?_) | ((fail_if_success refine g_lit rfl rfl rfl ?_); first | apply g_partM rfl rfl rfl | apply g_partMB rfl rfl rfl | fail) | refine s_k (allF) ?_ | refine s_c (take t mp (T.filter fun s => !r.has s.nm) Rg.all hDB) (fun _ _ => ?_))
        | refine g_seq ?_ | refine g_region ?_ | refine g_nil ?_ | refine g_then_normal ?_ | refine g_block ?_ | refine g_in_normal ?_ | refine g_retc ?_
        | refine g_then_ret ?_ | refine g_in_ret ?_ | refine g_exit ?_ | refine g_then_exit ?_ | refine g_in_exit ?_ | refine g_in_other rfl ?_ | refine g_skip ?_
        | refine g_label ?_ | refine g_cond_true rfl ?_ | refine g_cond_false rfl ?_ | exact s_m | intro _)
      rename_i y6 hy6
      obtain ⟨p6, c6, x6, H8⟩ := y6
      obtain ⟨sb8, _, each6, names6⟩ := hy6
      dsimp only [List.cons_append, List.nil_append] at sb8 each6 names6 ⊢
      have h6l : x6.length + ss.length = ws.length := by
        have h1 := taken_of each6 names6
        rw [all_filter] at h1
        have h2 : x6.length = (T.filter fun s => !r.has s.nm).length := by simpa using h1.perm.length_eq
        have h3 : ws.length = T.length := by simpa using hTkW.perm.length_eq
        have h4 := (List.filter_append_perm (fun s => r.has s.nm) T).length_eq
        rw [List.length_append] at h4
        omega
      have hws80 : ws.length ≤ 80 := by
        have h3 : ws.length = T.length := by simpa using hTkW.perm.length_eq
        have := hTW.len; omega
      repeat (first
        | (refine g_ops ?_; first | refine s_q ?_ | refine s_v ?_ | refine s_s ?_ | refine s_n (fun _ => ?_) | refine s_x ?_ | refine s_y ?_ | refine s_mq ?_ | refine s_appB (fun _ _ => ?_) | refine s_app (fun _ _ => ?_) | refine s_mv ?_ | refine s_ms ?_ | refine s_b0 (fun _ => ?_) | ((fail_if_success refine g_lit rfl rfl rfl ?_); first | apply g_partM rfl rfl rfl | apply g_partMB rfl rfl rfl | fail))
        | refine g_seq ?_ | refine g_region ?_ | refine g_nil ?_ | refine g_then_normal ?_ | refine g_block ?_ | refine g_in_normal ?_ | refine g_retc ?_
        | refine g_then_ret ?_ | refine g_in_ret ?_ | refine g_exit ?_ | refine g_then_exit ?_ | refine g_in_exit ?_ | refine g_in_other rfl ?_ | refine g_skip ?_
        | refine g_label ?_ | refine g_cond_true rfl ?_ | refine g_cond_false rfl ?_ | exact s_m | intro _)
      refine g_as 86 (v' := .bool false) rfl (congrArg Value.bool (decide_eq_false (by omega))) ?_
      repeat (first
        | (refine g_ops ?_; first | refine s_q ?_ | refine s_v ?_ | refine s_s ?_ | refine s_n (fun _ => ?_) | refine s_x ?_ | refine s_y ?_ | refine s_mq ?_ | refine s_appB (fun _ _ => ?_) | refine s_app (fun _ _ => ?_) | refine s_mv ?_ | refine s_ms ?_ | refine s_b0 (fun _ => ?_) | ((fail_if_success refine g_lit rfl rfl rfl ?_); first | apply g_partM rfl rfl rfl | apply g_partMB rfl rfl rfl | fail))
        | refine g_seq ?_ | refine g_region ?_ | refine g_nil ?_ | refine g_then_normal ?_ | refine g_block ?_ | refine g_in_normal ?_ | refine g_retc ?_
        | refine g_then_ret ?_ | refine g_in_ret ?_ | refine g_exit ?_ | refine g_then_exit ?_ | refine g_in_exit ?_ | refine g_in_other rfl ?_ | refine g_skip ?_
        | refine g_label ?_ | refine g_cond_true rfl ?_ | refine g_cond_false rfl ?_ | exact s_m | intro _)
      refine g_loop (X := Nat) (fun i => [(3, ptr rb), (4, .bool false), (5, ptr t), (7, .slice wp ws.length wc), (8, .slice sp ss.length sc), (10, int i)]) (fun _ => tabL t mp (T.filter fun s => !r.has s.nm) ++ [rrow rb r, Pile H8]) (fun i => i ≤ ss.length) (fun i => ss.length - i) 0 (Nat.zero_le _) (by (repeat (first | exact FrSub.nil | refine FrSub.cons rfl ?_)); first | done | fail) (by (repeat (first | exact Take.nil | apply Take.cons | exact Sel.here | apply Sel.there)); first | done | fail) (fun i hi => ?_)
      have sb48 : HP.sub H4 H8 := sb5.trans (sb6.trans (sb7.trans sb8))
      have hSs8 := hSs.grow sb48
      have hU8 : UtH H8 := hU4.grow sb48
      dsimp only [List.cons_append, List.nil_append] at hi ⊢
      repeat (first
        | (refine g_ops ?_; first | refine s_q ?_ | refine s_v ?_ | refine s_s ?_ | refine s_n (fun _ => ?_) | refine s_x ?_ | refine s_y ?_ | refine s_mq ?_ | refine s_appB (fun _ _ => ?_) | refine s_app (fun _ _ => ?_) | refine s_mv ?_ | refine s_ms ?_ | refine s_b0 (fun _ => ?_) | ((fail_if_success refine g_lit rfl rfl rfl ?_); first | apply g_partM rfl rfl rfl | apply g_partMB rfl rfl rfl | fail))
        | refine g_seq ?_ | refine g_region ?_ | refine g_nil ?_ | refine g_then_normal ?_ | refine g_block ?_ | refine g_in_normal ?_ | refine g_retc ?_
        | refine g_then_ret ?_ | refine g_in_ret ?_ | refine g_exit ?_ | refine g_then_exit ?_ | refine g_in_exit ?_ | refine g_in_other rfl ?_ | refine g_skip ?_
        | refine g_label ?_ | refine g_cond_true rfl ?_ | refine g_cond_false rfl ?_ | exact s_m | intro _)
      refine g_cond_dec rfl (fun h6 => ?_) (fun h6 => ?_)
      · have hi' : i < ss.length := by omega
        obtain ⟨b, o, hbo, hrow⟩ := slAt_elem hSs8 str_len (by decide) (i := i) (a := ss[i]) (by simp [hi'])
        have hcell : ∀ (j : Nat) (v : Value), ss[i].cells[j]? = some v → Reads (Pile H8) ⟨b, o + i * 3 + j, none⟩ v := hrow
        subst hbo
        have hxw := (hsw ss[i] (List.getElem_mem _))
        have hxa := (sat4 ss[i] (List.getElem_mem _)).grow sb48
        have hxr : r.has ss[i].nm = true := by
          obtain ⟨z, hz, t⟩ := hTkS.each ss[i] (List.getElem_mem _)
          rw [t.nm]; exact (List.mem_filter.1 hz).2
        generalize ss[i] = x at hrow hcell hxw hxa hxr
        have hnl := hxa.nl
        repeat (first
          | (refine g_ops ?_; first | refine s_q ?_ | refine s_v ?_ | refine s_s ?_ | refine s_n (fun _ => ?_) | refine s_x ?_ | refine s_y ?_ | refine s_mq ?_ | refine s_appB (fun _ _ => ?_) | refine s_app (fun _ _ => ?_) | refine s_mv ?_ | refine s_ms ?_ | refine s_b0 (fun _ => ?_) | ((fail_if_success refine g_lit rfl rfl rfl ?_); first | apply g_partM rfl rfl rfl | apply g_partMB rfl rfl rfl | fail) | refine s_k (hashR x.nm hnl) ?_)
          | refine g_seq ?_ | refine g_region ?_ | refine g_nil ?_ | refine g_then_normal ?_ | refine g_block ?_ | refine g_in_normal ?_ | refine g_retc ?_
          | refine g_then_ret ?_ | refine g_in_ret ?_ | refine g_exit ?_ | refine g_then_exit ?_ | refine g_in_exit ?_ | refine g_in_other rfl ?_ | refine g_skip ?_
          | refine g_label ?_ | refine g_cond_true rfl ?_ | refine g_cond_false rfl ?_ | exact s_m | intro _)
        have hxr2 : r.f ≤ (hashN x.nm : Int) ∧ (hashN x.nm : Int) ≤ r.l := by
          simpa only [Rg.has, Bool.and_eq_true, decide_eq_true_eq] using hxr
        dsimp only [List.cons_append, List.nil_append]
        refine g_as 103 (v' := .bool false) rfl (congrArg Value.bool (decide_eq_false (by omega))) ?_
        repeat (first
          | (refine g_ops ?_; first | refine s_q ?_ | refine s_v ?_ | refine s_s ?_ | refine s_n (fun _ => ?_) | refine s_x ?_ | refine s_y ?_ | refine s_mq ?_ | refine s_appB (fun _ _ => ?_) | refine s_app (fun _ _ => ?_) | refine s_mv ?_ | refine s_ms ?_ | refine s_b0 (fun _ => ?_) | ((fail_if_success refine g_lit rfl rfl rfl ?_); first | apply g_partM rfl rfl rfl | apply g_partMB rfl rfl rfl | fail))
          | refine g_seq ?_ | refine g_region ?_ | refine g_nil ?_ | refine g_then_normal ?_ | refine g_block ?_ | refine g_in_normal ?_ | refine g_retc ?_
          | refine g_then_ret ?_ | refine g_in_ret ?_ | refine g_exit ?_ | refine g_then_exit ?_ | refine g_in_exit ?_ | refine g_in_other rfl ?_ | refine g_skip ?_
          | refine g_label ?_ | refine g_cond_true rfl ?_ | refine g_cond_false rfl ?_ | exact s_m | intro _)
        refine g_as 109 (v' := .bool false) rfl (congrArg Value.bool (decide_eq_false (by omega))) ?_
        have hso : strOk x = true := by
          have := hxw.2.2
          unfold wholeB at this
          simp only [Bool.and_eq_true] at this
          exact this.1
        have hes := encodeStream (vstr hU8) x hxa (by have := hxw.1; omega) (by have := hxw.2.1; omega)
        repeat (first
          | (refine g_ops ?_; first | refine s_q ?_ | refine s_v ?_ | refine s_s ?_ | refine s_n (fun _ => ?_) | refine s_x ?_ | refine s_y ?_ | refine s_mq ?_ | refine s_appB (fun _ _ => ?_) | refine s_app (fun _ _ => ?_) | refine s_mv ?_ | refine s_ms ?_ | refine s_b0 (fun _ => ?_) | ((fail_if_success refine g_lit rfl rfl rfl ?_); first | apply g_partM rfl rfl rfl | apply g_partMB rfl rfl rfl | fail) | refine s_c (hes) (fun _ _ => ?_))
          | refine g_seq ?_ | refine g_region ?_ | refine g_nil ?_ | refine g_then_normal ?_ | refine g_block ?_ | refine g_in_normal ?_ | refine g_retc ?_
          | refine g_then_ret ?_ | refine g_in_ret ?_ | refine g_exit ?_ | refine g_then_exit ?_ | refine g_in_exit ?_ | refine g_in_other rfl ?_ | refine g_skip ?_
          | refine g_label ?_ | refine g_cond_true rfl ?_ | refine g_cond_false rfl ?_ | exact s_m | intro _)
        rename_i ye hye
        have hne : ye.bs.length ≠ 0 := fun h => by rw [hye.1 h] at hso; cases hso
        dsimp only [List.cons_append, List.nil_append]
        refine g_as 117 (v' := .bool false) rfl (congrArg Value.bool (decide_eq_false (by omega))) ?_
        repeat (first
          | (refine g_ops ?_; first | refine s_q ?_ | refine s_v ?_ | refine s_s ?_ | refine s_n (fun _ => ?_) | refine s_x ?_ | refine s_y ?_ | refine s_mq ?_ | refine s_appB (fun _ _ => ?_) | refine s_app (fun _ _ => ?_) | refine s_mv ?_ | refine s_ms ?_ | refine s_b0 (fun _ => ?_) | ((fail_if_success refine g_lit rfl rfl rfl ?_); first | apply g_partM rfl rfl rfl | apply g_partMB rfl rfl rfl | fail))
          | refine g_seq ?_ | refine g_region ?_ | refine g_nil ?_ | refine g_then_normal ?_ | refine g_block ?_ | refine g_in_normal ?_ | refine g_retc ?_
          | refine g_then_ret ?_ | refine g_in_ret ?_ | refine g_exit ?_ | refine g_then_exit ?_ | refine g_in_exit ?_ | refine g_in_other rfl ?_ | refine g_skip ?_
          | refine g_label ?_ | refine g_cond_true rfl ?_ | refine g_cond_false rfl ?_ | exact s_m | intro _)
        refine g_as 10 (v' := int ((i + 1 : Nat) : Int)) rfl (congrArg (Value.int .i64) (by push_cast; rfl)) ?_
        exact g_again (i + 1) (by omega) hi' (by (repeat (first | exact FrSub.nil | refine FrSub.cons rfl ?_)); first | done | fail) (by (repeat (first | exact Take.nil | apply Take.cons | exact Sel.here | apply Sel.there)); first | done | fail)
      · have hput2 := put (vstr hU8) sp sc ss hSs8 (fun y hy => (sat4 y hy).grow sb48) (fun y hy => ⟨by have := (hsw y hy).1; omega, by have := (hsw y hy).2.1; omega⟩) (by omega) t mp (T.filter fun s => !r.has s.nm)
        rw [hpb] at hput2
        simp only [if_true] at hput2
        repeat (first
          | (refine g_ops ?_; first | refine s_q ?_ | refine s_v ?_ | refine s_s ?_ | refine s_n (fun _ => ?_) | refine s_x ?_ | refine s_y ?_ | refine s_mq ?_ | refine s_appB (fun _ _ => ?_) | refine s_app (fun _ _ => ?_) | refine s_mv ?_ | refine s_ms ?_ | refine s_b0 (fun _ => ?_) | ((fail_if_success refine g_lit rfl rfl rfl ?_); first | apply g_partM rfl rfl rfl | apply g_partMB rfl rfl rfl | fail) | refine s_c (hput2) (fun _ _ => ?_))
          | refine g_seq ?_ | refine g_region ?_ | refine g_nil ?_ | refine g_then_normal ?_ | refine g_block ?_ | refine g_in_normal ?_ | refine g_retc ?_
          | refine g_then_ret ?_ | refine g_in_ret ?_ | refine g_exit ?_ | refine g_then_exit ?_ | refine g_in_exit ?_ | refine g_in_other rfl ?_ | refine g_skip ?_
          | refine g_label ?_ | refine g_cond_true rfl ?_ | refine g_cond_false rfl ?_ | exact s_m | intro _)
        rename_i y7 hy7
        obtain ⟨mp7, us7⟩ := y7
        dsimp only at hy7 ⊢
        have hU7 := (hTW.filter _).of_taken hTkS hy7
        have hn7 : (((T.filter fun s => !r.has s.nm) ++ us7).map Sm.nm).Nodup := by
          have hun : us7.map Sm.nm = ss.map StrV.nm := by
            have := congrArg (List.map Prod.fst) hy7
            simpa [List.map_map, Function.comp_def, Sm.d, StrV.d] using this
          rw [List.map_append, hun]
          refine ((List.Perm.append_left _ hTkS.perm).nodup_iff).2 ?_
          rw [← List.map_append]
          refine (((List.perm_append_comm.trans (List.filter_append_perm (fun s => r.has s.nm) T)).map Sm.nm).nodup_iff).2 hTW.nd
        rw [fold_put us7 _ hn7]
        have hTW7 : TW ((T.filter fun s => !r.has s.nm) ++ us7) 160 20000 := ⟨hn7, by have h1 := hD.len; have h2 := hU7.len; rw [List.length_append]; omega, fun s hs => by
          rcases List.mem_append.1 hs with hs | hs
          · have := hD.str s hs; exact ⟨this.1, this.2.1, by omega⟩
          · have := hU7.str s hs; exact ⟨this.1, this.2.1, by omega⟩⟩
        have hB7 := hTW7.big (by decide) (by decide)
        dsimp only [List.cons_append, List.nil_append]
        repeat (first
          | (refine g_ops ?_; first | refine s_q ?_ | refine s_v ?_ | refine s_s ?_ | refine s_n (fun _ => ?_) | refine s_x ?_ | refine s_y ?_ | refine s_mq ?_ | refine s_appB (fun _ _ => ?_) | refine s_app (fun _ _ => ?_) | refine s_mv ?_ | refine s_ms ?_ | refine s_b0 (fun _ => ?_) | ((fail_if_success refine g_lit rfl rfl rfl ?_); first | apply g_partM rfl rfl rfl | apply g_partMB rfl rfl rfl | fail) | refine s_k (allF) ?_ | refine s_c (take t mp7 ((T.filter fun s => !r.has s.nm) ++ us7) Rg.all hB7) (fun _ _ => ?_))
          | refine g_seq ?_ | refine g_region ?_ | refine g_nil ?_ | refine g_then_normal ?_ | refine g_block ?_ | refine g_in_normal ?_ | refine g_retc ?_
          | refine g_then_ret ?_ | refine g_in_ret ?_ | refine g_exit ?_ | refine g_then_exit ?_ | refine g_in_exit ?_ | refine g_in_other rfl ?_ | refine g_skip ?_
          | refine g_label ?_ | refine g_cond_true rfl ?_ | refine g_cond_false rfl ?_ | exact s_m | intro _)
        rename_i y8 hy8
        obtain ⟨zp, zc, zs, H9⟩ := y8
        obtain ⟨sb9, zat, zeach, znames⟩ := hy8
        dsimp only [List.cons_append, List.nil_append] at sb9 zat zeach znames ⊢
        have hTkZ0 := taken_of zeach znames
        rw [all_filter] at hTkZ0
        have hTkZ := hTkS.back hy7 hTkZ0
        have hsame2 := hTkZ.uniq hTW.nd hTkW
        have hzl : zs.length = ws.length := by simpa using congrArg List.length hsame2
        refine g_pile (p := zp) (m := zs.length) (c := zc) (n := 3) (xs := zs.flatMap StrV.cells) (e := 60) (by (repeat (first | exact Sel.here | apply Sel.there)); first | done | fail) (by (repeat (first | exact Sel.here | apply Sel.there)); first | done | fail) (fun H10 sb10 hSz => ?_)
        have sb2t : HP.sub H2 H10 := sb3.trans (sb4.trans (sb48.trans (sb9.trans sb10)))
        have hss2 := sameStreams zp wp zc wc zs ws hSz (fun y hy => (zat y hy).grow sb10) (hSw.grow sb2t) (fun y hy => (wat y hy).grow (sb2.trans sb2t)) hsame2 (by omega) (fun y hy => by
          obtain ⟨z, hz, t⟩ := hTkZ.each y hy
          have := (hTW.str z hz).2
          exact ⟨by rw [t.evs]; omega, by rw [t.perm.length_eq]; omega⟩)
        have hU10 : UtH H10 := hU8.grow (sb9.trans sb10)
        repeat (first
          | (refine g_ops ?_; first | refine s_q ?_ | refine s_v ?_ | refine s_s ?_ | refine s_n (fun _ => ?_) | refine s_x ?_ | refine s_y ?_ | refine s_mq ?_ | refine s_appB (fun _ _ => ?_) | refine s_app (fun _ _ => ?_) | refine s_mv ?_ | refine s_ms ?_ | refine s_b0 (fun _ => ?_) | ((fail_if_success refine g_lit rfl rfl rfl ?_); first | apply g_partM rfl rfl rfl | apply g_partMB rfl rfl rfl | fail) | refine s_k (hss2) ?_ | refine s_k (awake hU10) ?_)
          | refine g_seq ?_ | refine g_region ?_ | refine g_nil ?_ | refine g_then_normal ?_ | refine g_block ?_ | refine g_in_normal ?_ | refine g_retc ?_
          | refine g_then_ret ?_ | refine g_in_ret ?_ | refine g_exit ?_ | refine g_then_exit ?_ | refine g_in_exit ?_ | refine g_in_other rfl ?_ | refine g_skip ?_
          | refine g_label ?_ | refine g_cond_true rfl ?_ | refine g_cond_false rfl ?_ | exact s_m | intro _)
        refine g_unpile (sb1.trans (sb2.trans sb2t)) (by (repeat (first | exact Sel.here | apply Sel.there)); first | done | fail) ?_
        exact g_ret () rfl (by (repeat (first | exact RVs.nil | apply RVs.tmp rfl | apply RVs.cellA rfl (by (repeat (first | exact Sel.here | apply Sel.there)); first | done | fail) (by (repeat (first | exact Cut.zero | apply Cut.take | apply Cut.skip)); first | done | fail) | apply RVs.cell1 rfl (by (repeat (first | exact Sel.here | apply Sel.there)); first | done | fail) rfl)); first | done | fail) (by (repeat (first | exact Take.nil | apply Take.cons | exact Sel.here | apply Sel.there)); first | done | fail) rfl trivial
end Go.Proofs.YtcgmliaahdpmcaaDoor
