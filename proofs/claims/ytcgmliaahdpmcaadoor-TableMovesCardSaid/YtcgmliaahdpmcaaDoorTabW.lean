/- Plain: tables whose streams may all be put; how many events the steps have. -/
import Derived.Test.YtcgmliaahdpmcaaDoorTabV
set_option linter.unusedSimpArgs false
set_option linter.unusedVariables false
namespace Go.Proofs.YtcgmliaahdpmcaaDoor
open Go.Sl facts
theorem sumF_eq : ∀ (l : List Int) (n : Int), (∀ x ∈ l, 0 ≤ x) → 0 ≤ n → n ≤ most → sumF n l < most → sumF n l = n + l.sum
  | [], n, _, _, _, h => by simp [sumF] at h ⊢
  | y :: l, n, hl, h0, hm, hs => by
    simp only [sumF] at hs ⊢
    split
    · rename_i h; rw [if_pos h] at hs; omega
    · rename_i h
      rw [if_neg h] at hs
      have hy := hl y (List.mem_cons_self ..)
      rw [sumF_eq l (n + y) (fun z hz => hl z (List.mem_cons_of_mem _ hz)) (by omega) (by omega) hs, List.sum_cons]
      omega
def sumL (l : List StV) : Nat := (l.map fun x => x.L.length).sum
attribute [local irreducible] Code.wp wpList Exit.then Exit.inBlock bodyPost Back MidQ G GP QStep VStep CStep SStep Does Post Reads
attribute [local irreducible] sumF
set_option maxHeartbeats 4000000 in
theorem small2 {H : HP} (p : Option Addr) (cap : Nat) (l : List StV) (hS : StepsAt (Pile H) p l) (hlen : l.length ≤ 9223372036854775807) :
    Does Tryd.prog 11 [.slice p l.length cap] [Pile H] (X := Bool) Value.bool (fun _ => [Pile H]) (fun r => r = true → l.length ≤ 80 ∧ sumL l ≤ 20000) := by
  refine fn_intro Tryd.func11 rfl Tryd.ntmps11 rfl (by simp only [argFr, Nat.zero_add, Nat.reduceAdd]; rfl) (fun Γ => ?_)
  have hmost : most = 1099511627776 := rfl
  repeat (first
    | (refine g_ops ?_; first | refine s_q ?_ | refine s_v ?_ | refine s_s ?_ | refine s_n (fun _ => ?_) | refine s_x ?_ | refine s_y ?_ | refine s_mq ?_ | refine s_app (fun _ _ => ?_) | refine s_mv ?_ | refine s_ms ?_ | refine s_b0 (fun _ => ?_) | ((fail_if_success refine g_lit rfl rfl rfl ?_); first | apply g_partM rfl rfl rfl | apply g_partMB rfl rfl rfl | fail))
    | refine g_seq ?_ | refine g_region ?_ | refine g_nil ?_ | refine g_then_normal ?_ | refine g_block ?_ | refine g_in_normal ?_ | refine g_retc ?_ | refine g_then_ret ?_
    | refine g_in_ret ?_ | refine g_exit ?_ | refine g_then_exit ?_ | refine g_in_exit ?_ | refine g_in_other rfl ?_ | refine g_skip ?_ | refine g_label ?_
    | refine g_cond_true rfl ?_ | refine g_cond_false rfl ?_ | exact s_m | intro _)
  refine g_loop (X := IM) (fun x => [(4, int x.i), (3, int x.m), (2, .bool false), (0, .slice p l.length cap)]) (fun _ => [Pile H]) (fun x => x.i ≤ l.length ∧ 0 ≤ x.m ∧ x.m ≤ 20000 ∧ (sumL (l.take x.i) : Int) ≤ x.m) (fun x => l.length - x.i) ⟨0, 0⟩ ⟨Nat.zero_le _, Int.le_refl _, by decide, Int.le_refl _⟩ (by (repeat (first | exact FrSub.nil | refine FrSub.cons rfl ?_)); first | done | fail) (by (repeat (first | exact Take.nil | apply Take.cons | exact Sel.here | apply Sel.there)); first | done | fail) (fun x hx => ?_)
  obtain ⟨i, m⟩ := x
  obtain ⟨hi, hm0, hm1, hm2⟩ := hx
  dsimp only at hi hm0 hm1 hm2 ⊢
  repeat (first
    | (refine g_ops ?_; first | refine s_q ?_ | refine s_v ?_ | refine s_s ?_ | refine s_n (fun _ => ?_) | refine s_x ?_ | refine s_y ?_ | refine s_mq ?_ | refine s_app (fun _ _ => ?_) | refine s_mv ?_ | refine s_ms ?_ | refine s_b0 (fun _ => ?_) | ((fail_if_success refine g_lit rfl rfl rfl ?_); first | apply g_partM rfl rfl rfl | apply g_partMB rfl rfl rfl | fail))
    | refine g_seq ?_ | refine g_region ?_ | refine g_nil ?_ | refine g_then_normal ?_ | refine g_block ?_ | refine g_in_normal ?_ | refine g_retc ?_ | refine g_then_ret ?_
    | refine g_in_ret ?_ | refine g_exit ?_ | refine g_then_exit ?_ | refine g_in_exit ?_ | refine g_in_other rfl ?_ | refine g_skip ?_ | refine g_label ?_
    | refine g_cond_true rfl ?_ | refine g_cond_false rfl ?_ | exact s_m | intro _)
  refine g_cond_dec rfl (fun h2 => ?_) (fun h2 => ?_)
  · have hi' : i < l.length := by omega
    obtain ⟨b, o, rfl, hcell⟩ := slAt_elem hS.sl stv_len (by decide) (i := i) (a := l[i]) (by simp [hi'])
    have hAi := hS.at_ l[i] (List.getElem_mem _)
    generalize hx : l[i] = x at hcell hAi
    repeat (first
      | (refine g_ops ?_; first | refine s_q ?_ | refine s_v ?_ | refine s_s ?_ | refine s_n (fun _ => ?_) | refine s_x ?_ | refine s_y ?_ | refine s_mq ?_ | refine s_app (fun _ _ => ?_) | refine s_mv ?_ | refine s_ms ?_ | refine s_b0 (fun _ => ?_) | ((fail_if_success refine g_lit rfl rfl rfl ?_); first | apply g_partM rfl rfl rfl | apply g_partMB rfl rfl rfl | fail))
      | refine g_seq ?_ | refine g_region ?_ | refine g_nil ?_ | refine g_then_normal ?_ | refine g_block ?_ | refine g_in_normal ?_ | refine g_retc ?_
      | refine g_then_ret ?_ | refine g_in_ret ?_ | refine g_exit ?_ | refine g_then_exit ?_ | refine g_in_exit ?_ | refine g_in_other rfl ?_ | refine g_skip ?_
      | refine g_label ?_ | refine g_cond_true rfl ?_ | refine g_cond_false rfl ?_ | exact s_m | intro _)
    refine g_draw (.take 0 (.take 1 (.take 2 (.take 3 (.take 4 (.see 5 [] (.take 6 (.take 7 (.take 8 (.take 9 (.take 10 (.see 11 [] (.take 13 (.take 14 (.take 15 (.take 16 (.see 17 [] (.one 12 (.one 18 (.one 19 (.one 20 (.take 21 .done)))))))))))))))))))))) (by kernel_rfl) (take_all _) (fun k hd hk => ?_)
    repeat (first
      | (refine gp_take ?_; first | refine p_q ?_ | refine p_x ?_ | refine p_mq ?_ | ((fail_if_success refine gp_lit rfl rfl rfl rfl ?_); first | apply gp_guard_dec rfl rfl rfl rfl | apply gp_guard rfl rfl rfl rfl | fail))
      | (refine gp_see ?_; first | refine p_f ?_ | refine p_sx ?_ | ((fail_if_success refine gp_lit rfl rfl rfl rfl ?_); first | apply gp_guard_dec rfl rfl rfl rfl | apply gp_guard rfl rfl rfl rfl | fail) | refine p_sq ?_)
      | (refine gp_one ?_; first | refine p_v ?_ | refine p_s ?_ | refine p_n (fun _ => ?_) | refine p_y ?_ | refine p_app (fun _ _ => ?_) | refine p_mv ?_ | refine p_ms ?_ | refine p_b0 (fun _ => ?_) | ((fail_if_success refine gp_lit rfl rfl rfl rfl ?_); first | apply gp_guard_dec rfl rfl rfl rfl | apply gp_guard rfl rfl rfl rfl | fail) | refine p_cP (events x.lp x.lc 20000 x.L hAi.l (by decide) hAi.ll hAi.lo) hd hk (fun _ _ => ?_) | refine p_cP (streams x.sp x.sc 20000 x.S hAi.s hAi.str (by decide) hAi.sl) hd hk (fun _ _ => ?_))
      | refine gp_two ?_ ?_ | refine gp_done hd hk ?_ | intro _ | refine p_ta hd hk (fun _ _ _ hd hk => ?_) | refine p_ts hd hk (fun _ hd hk => ?_))
    rename_i q1 hq1 q2 hq2 rb
    obtain ⟨q10, q11, q12⟩ := hq1
    obtain ⟨q20, q21, q2b⟩ := hq2
    have hkl := hAi.kl
    have h3 := sum_up m [(x.key.size : Int), q1, q2, 5] (by simp; exact ⟨q10, q20⟩) hm0 (by omega)
    repeat (first
      | (refine gp_take ?_; first | refine p_q ?_ | refine p_x ?_ | refine p_mq ?_ | ((fail_if_success refine gp_lit rfl rfl rfl rfl ?_); first | apply gp_guard_dec rfl rfl rfl rfl | apply gp_guard rfl rfl rfl rfl | fail))
      | (refine gp_see ?_; first | refine p_f ?_ | refine p_sx ?_ | ((fail_if_success refine gp_lit rfl rfl rfl rfl ?_); first | apply gp_guard_dec rfl rfl rfl rfl | apply gp_guard rfl rfl rfl rfl | fail) | refine p_h (sum_row _ _ _ m [(x.key.size : Int), q1, q2, 5] ⟨hm0, by omega⟩ (by simp; omega) (by simp)) hd hk ?_ | refine p_sq ?_)
      | (refine gp_one ?_; first | refine p_v ?_ | refine p_s ?_ | refine p_n (fun _ => ?_) | refine p_y ?_ | refine p_app (fun _ _ => ?_) | refine p_mv ?_ | refine p_ms ?_ | refine p_b0 (fun _ => ?_) | ((fail_if_success refine gp_lit rfl rfl rfl rfl ?_); first | apply gp_guard_dec rfl rfl rfl rfl | apply gp_guard rfl rfl rfl rfl | fail) | refine p_k (sum_row _ _ _ m [(x.key.size : Int), q1, q2, 5] ⟨hm0, by omega⟩ (by simp; omega) (by simp)) ?_)
      | refine gp_two ?_ ?_ | refine gp_done hd hk ?_ | intro _ | refine p_ta hd hk (fun _ _ _ hd hk => ?_) | refine p_ts hd hk (fun _ hd hk => ?_))
    repeat (first
      | (refine g_ops ?_; first | refine s_q ?_ | refine s_v ?_ | refine s_s ?_ | refine s_n (fun _ => ?_) | refine s_x ?_ | refine s_y ?_ | refine s_mq ?_ | refine s_app (fun _ _ => ?_) | refine s_mv ?_ | refine s_ms ?_ | refine s_b0 (fun _ => ?_) | ((fail_if_success refine g_lit rfl rfl rfl ?_); first | apply g_partM rfl rfl rfl | apply g_partMB rfl rfl rfl | fail))
      | refine g_seq ?_ | refine g_region ?_ | refine g_nil ?_ | refine g_then_normal ?_ | refine g_block ?_ | refine g_in_normal ?_ | refine g_retc ?_
      | refine g_then_ret ?_ | refine g_in_ret ?_ | refine g_exit ?_ | refine g_then_exit ?_ | refine g_in_exit ?_ | refine g_in_other rfl ?_ | refine g_skip ?_
      | refine g_label ?_ | refine g_cond_true rfl ?_ | refine g_cond_false rfl ?_ | exact s_m | intro _)
    refine g_cond_dec rfl (fun h4 => ?_) (fun h4 => ?_)
    · repeat (first
        | (refine g_ops ?_; first | refine s_q ?_ | refine s_v ?_ | refine s_s ?_ | refine s_n (fun _ => ?_) | refine s_x ?_ | refine s_y ?_ | refine s_mq ?_ | refine s_app (fun _ _ => ?_) | refine s_mv ?_ | refine s_ms ?_ | refine s_b0 (fun _ => ?_) | ((fail_if_success refine g_lit rfl rfl rfl ?_); first | apply g_partM rfl rfl rfl | apply g_partMB rfl rfl rfl | fail))
        | refine g_seq ?_ | refine g_region ?_ | refine g_nil ?_ | refine g_then_normal ?_ | refine g_block ?_ | refine g_in_normal ?_ | refine g_retc ?_
        | refine g_then_ret ?_ | refine g_in_ret ?_ | refine g_exit ?_ | refine g_then_exit ?_ | refine g_in_exit ?_ | refine g_in_other rfl ?_ | refine g_skip ?_
        | refine g_label ?_ | refine g_cond_true rfl ?_ | refine g_cond_false rfl ?_ | exact s_m | intro _)
      exact s_r false (hx := fun h => by cases h)
    · have g0 := h3.2.2 (by omega)
      have g5 := sumF_eq [(x.key.size : Int), q1, q2, 5] m (by simp; exact ⟨q10, q20⟩) hm0 (by omega) (by omega)
      have g6 : ([(x.key.size : Int), q1, q2, 5] : List Int).sum = (x.key.size : Int) + (q1 + (q2 + 5)) := by simp
      have g7 : sumL (l.take (i + 1)) = sumL (l.take i) + x.L.length := by
        rw [List.take_succ_eq_append_getElem hi', hx]; simp [sumL]
      rw [g6] at g5
      have q13 := q12 (by omega)
      repeat (first
        | (refine g_ops ?_; first | refine s_q ?_ | refine s_v ?_ | refine s_s ?_ | refine s_n (fun _ => ?_) | refine s_x ?_ | refine s_y ?_ | refine s_mq ?_ | refine s_app (fun _ _ => ?_) | refine s_mv ?_ | refine s_ms ?_ | refine s_b0 (fun _ => ?_) | ((fail_if_success refine g_lit rfl rfl rfl ?_); first | apply g_partM rfl rfl rfl | apply g_partMB rfl rfl rfl | fail))
        | refine g_seq ?_ | refine g_region ?_ | refine g_nil ?_ | refine g_then_normal ?_ | refine g_block ?_ | refine g_in_normal ?_ | refine g_retc ?_
        | refine g_then_ret ?_ | refine g_in_ret ?_ | refine g_exit ?_ | refine g_then_exit ?_ | refine g_in_exit ?_ | refine g_in_other rfl ?_ | refine g_skip ?_
        | refine g_label ?_ | refine g_cond_true rfl ?_ | refine g_cond_false rfl ?_ | exact s_m | intro _)
      refine g_again ⟨i + 1, sumF m [(x.key.size : Int), q1, q2, 5]⟩ (by simp only; omega) ⟨hi', by simp only; omega, by simp only; omega, by simp only; omega⟩ (by (repeat (first | exact FrSub.nil | refine FrSub.cons rfl ?_)); first | done | fail) (by (repeat (first | exact Take.nil | apply Take.cons | exact Sel.here | apply Sel.there)); first | done | fail)
  · obtain rfl : i = l.length := by omega
    repeat (first
      | (refine g_ops ?_; first | refine s_q ?_ | refine s_v ?_ | refine s_s ?_ | refine s_n (fun _ => ?_) | refine s_x ?_ | refine s_y ?_ | refine s_mq ?_ | refine s_app (fun _ _ => ?_) | refine s_mv ?_ | refine s_ms ?_ | refine s_b0 (fun _ => ?_) | ((fail_if_success refine g_lit rfl rfl rfl ?_); first | apply g_partM rfl rfl rfl | apply g_partMB rfl rfl rfl | fail))
      | refine g_seq ?_ | refine g_region ?_ | refine g_nil ?_ | refine g_then_normal ?_ | refine g_block ?_ | refine g_in_normal ?_ | refine g_retc ?_
      | refine g_then_ret ?_ | refine g_in_ret ?_ | refine g_exit ?_ | refine g_then_exit ?_ | refine g_in_exit ?_ | refine g_in_other rfl ?_ | refine g_skip ?_
      | refine g_label ?_ | refine g_cond_true rfl ?_ | refine g_cond_false rfl ?_ | exact s_m | intro _)
    exact s_r (decide ((l.length : Int) ≤ 80)) (hx := fun h => by
      have h' := of_decide_eq_true h
      rw [List.take_length] at hm2
      exact ⟨by omega, by omega⟩)

/-! ### Tables whose streams may all be put -/
theorem whole_iff (x : StrV) : wholeB x = true ↔ nameB x.nm = true ∧ (∀ e ∈ x.evs, e.ok = true ∧ e.st = x.nm) ∧ (∀ k ∈ x.ks, k.ok = true) ∧ x.evs ≠ [] ∧ goesB x.evs 0 = true ∧ (x.ks.map Kn.key).Nodup ∧ ∀ k ∈ x.ks, keyAt x.evs k = true := by
  simp only [wholeB, strOk, Bool.and_eq_true, List.all_eq_true, decide_eq_true_eq]
  constructor
  · rintro ⟨⟨h1, h2, h3⟩, h4, h5, h6, h7⟩
    exact ⟨h1, h2, h3, h4, h5, h6, h7⟩
  · rintro ⟨h1, h2, h3, h4, h5, h6, h7⟩
    exact ⟨⟨h1, h2, h3⟩, h4, h5, h6, h7⟩
def Sm.str (s : Sm) : StrV := ⟨s.nm, none, 0, s.evs, none, 0, s.ks⟩
theorem whole_d {x y : StrV} (h : x.d = y.d) : wholeB x = wholeB y := by
  obtain ⟨nm, ep, ec, evs, kp, kc, ks⟩ := x
  obtain ⟨nm', ep', ec', evs', kp', kc', ks'⟩ := y
  simp only [StrV.d, Prod.mk.injEq] at h
  obtain ⟨rfl, rfl, rfl⟩ := h
  rfl
structure TW (T : List Sm) (n k : Nat) : Prop where
  nd : (T.map Sm.nm).Nodup
  len : T.length ≤ n
  str : ∀ s ∈ T, wholeB s.str = true ∧ s.evs.length ≤ k ∧ s.ks.length ≤ n
theorem TW.nil (n k : Nat) : TW [] n k := ⟨.nil, Nat.zero_le _, by simp⟩
theorem TW.mono {T : List Sm} {n n' k k' : Nat} (h : TW T n k) (hn : n ≤ n') (hk : k ≤ k') : TW T n' k' := ⟨h.nd, Nat.le_trans h.len hn, fun s hs => ⟨(h.str s hs).1, Nat.le_trans (h.str s hs).2.1 hk, Nat.le_trans (h.str s hs).2.2 hn⟩⟩
theorem TW.big {T : List Sm} {n k : Nat} (h : TW T n k) (hn : n ≤ 1000000000) (hk : k ≤ 1000000000) : TBig T := by
  have hw := fun s hs => (whole_iff (Sm.str s)).1 (h.str s hs).1
  refine ⟨h.nd, Nat.le_trans h.len hn, fun s hs => ?_, fun s hs => Nat.le_trans (h.str s hs).2.1 hk, fun s hs => ⟨fun e he => ?_, fun e he => ?_⟩, fun s hs => Nat.le_trans (h.str s hs).2.2 hn, fun s hs k hk => ?_, fun s hs => (hw s hs).2.2.2.2.2.1⟩
  · have := (name_size (hw s hs).1).2
    simp only [Sm.str] at this; omega
  · have h1 := ((hw s hs).2.1 e he).1
    have := (name_size ((Ev.ok_iff e).1 h1).1).2
    omega
  · have h1 := ((hw s hs).2.1 e he).1
    have := ((Ev.ok_iff e).1 h1).2.2.1
    omega
  · have h1 := (hw s hs).2.2.1 k hk
    simp only [Kn.ok, Bool.and_eq_true] at h1
    have := key_size h1.2.1
    omega
theorem stampAt_append {a b : List Ev} {k : Kn} (h : keyAt a k = true) (h1 : 1 ≤ k.first) : keyAt (a ++ b) k = true := by
  simp only [keyAt, Bool.and_eq_true, decide_eq_true_eq] at h ⊢
  refine ⟨by rw [List.length_append]; omega, ?_⟩
  have h2 := h.2
  unfold stampAt at h2 ⊢
  rw [List.getElem?_append_left (by omega)]
  exact h2
theorem TW.put {T : List Sm} {n k : Nat} (h : TW T n k) {evs : List Ev} {key : ByteArray} {e0 : Ev} {l : List Ev} (he : evs = e0 :: l) (hm : mayB evs key = true) (hg : goesB evs (verOf T e0.st) = true) {x : Sm} (h1 : x.nm = e0.st) (h2 : x.evs = oldE T e0.st ++ evs) (h3 : x.ks = newK (oldK T e0.st) key e0.ver e0.s) : TW (tput T x) (n + 1) (k + evs.length) := by
  obtain ⟨ha, hkey⟩ := may_all he hm
  have ha0 := ha e0 (by rw [he]; exact List.mem_cons_self ..)
  have hok0 := (Ev.ok_iff e0).1 ha0.2.2
  have hold : goesB (oldE T e0.st) 0 = true ∧ (oldE T e0.st).length = verOf T e0.st ∧ (oldE T e0.st).length ≤ k ∧ (oldK T e0.st).length ≤ n ∧ (∀ e ∈ oldE T e0.st, e.ok = true ∧ e.st = e0.st) ∧ (∀ k ∈ oldK T e0.st, k.ok = true ∧ keyAt (oldE T e0.st) k = true) ∧ ((oldK T e0.st).map Kn.key).Nodup := by
    cases hf : fnd T e0.st with
    | none => simp [oldE, oldK, verOf, hf, goesB]
    | some s =>
      obtain ⟨g1, A, B, e, _⟩ := fnd_split hf
      have hs := h.str s (by rw [e]; simp)
      obtain ⟨w1, w2, w3, w4, w5, w6, w7⟩ := (whole_iff s.str).1 hs.1
      simp only [Sm.str] at w1 w2 w3 w4 w5 w6 w7
      simp only [oldE, oldK, verOf, hf]
      exact ⟨w5, trivial, hs.2.1, hs.2.2, fun e he => ⟨(w2 e he).1, by rw [(w2 e he).2, g1]⟩, fun k hk => ⟨w3 k hk, w7 k hk⟩, w6⟩
  obtain ⟨o1, o2, o3, o4, o5, o6, o7⟩ := hold
  refine ⟨tput_nodup h.nd, Nat.le_trans tput_len (Nat.succ_le_succ h.len), fun y hy => ?_⟩
  rcases tput_mem hy with rfl | hy
  · have hkn : y.ks.length ≤ n + 1 := by
      rw [h3]; unfold newK; split
      · simp; omega
      · omega
    refine ⟨(whole_iff _).2 ⟨?_, ?_, ?_, ?_, ?_, ?_, ?_⟩, by rw [h2, List.length_append]; omega, hkn⟩
    · simp only [Sm.str]; rw [h1]; exact hok0.1
    · simp only [Sm.str]; rw [h1, h2]
      intro e he'
      rcases List.mem_append.1 he' with hh | hh
      · exact o5 e hh
      · exact ⟨(ha e hh).2.2, (ha e hh).1⟩
    · simp only [Sm.str]; rw [h3]; unfold newK
      split
      · rename_i hc
        intro q hq
        rcases List.mem_append.1 hq with hq | hq
        · exact (o6 q hq).1
        · rw [List.mem_singleton.1 hq]
          simp only [Kn.ok, Bool.and_eq_true, decide_eq_true_eq]
          exact ⟨hc.2, hkey, hok0.2.1, hok0.2.2.2.2.1⟩
      · exact fun q hq => (o6 q hq).1
    · simp only [Sm.str]; rw [h2, he]; simp
    · simp only [Sm.str]; rw [h2, goes_append, o1, Bool.true_and, o2, Int.zero_add]; exact hg
    · simp only [Sm.str]; rw [h3]; unfold newK
      split
      · rename_i hc
        rw [List.map_append, List.nodup_append]
        refine ⟨o7, by simp, fun a ha' b hb e => ?_⟩
        obtain rfl : b = key := by simpa using hb
        obtain ⟨q, hq, rfl⟩ := List.mem_map.1 ha'
        have : ∀ (ks : List Kn), q ∈ ks → fkn ks q.key ≠ none := fun ks => by
          induction ks with
          | nil => intro h; cases h
          | cons z ks ih =>
            intro hq
            simp only [fkn]
            split
            · simp
            · rcases List.mem_cons.1 hq with rfl | hq
              · contradiction
              · exact ih hq
        exact this _ hq (by rw [e]; exact hc.1)
      · exact o7
    · simp only [Sm.str]; rw [h2, h3]; unfold newK
      have hO : ∀ q ∈ oldK T e0.st, keyAt (oldE T e0.st ++ evs) q = true := fun q hq => by
        have h5 := (o6 q hq).1
        simp only [Kn.ok, Bool.and_eq_true, decide_eq_true_eq] at h5
        exact stampAt_append (o6 q hq).2 h5.2.2.1.1
      split
      · intro q hq
        rcases List.mem_append.1 hq with hq | hq
        · exact hO q hq
        · rw [List.mem_singleton.1 hq]
          have hv : e0.ver = (verOf T e0.st : Int) + 1 := by
            have := (goes_all evs _).1 hg 0 (by rw [he]; simp)
            simp only [he, List.getElem_cons_zero] at this
            omega
          simp only [keyAt, Bool.and_eq_true, decide_eq_true_eq]
          refine ⟨by rw [List.length_append, he, List.length_cons]; omega, ?_⟩
          unfold stampAt
          rw [show (e0.ver - 1).toNat = (oldE T e0.st).length by omega, List.getElem?_append_right (Nat.le_refl _), Nat.sub_self, he]
          simp
      · exact hO
  · have := h.str y hy
    exact ⟨this.1, by omega, by omega⟩
end Go.Proofs.YtcgmliaahdpmcaaDoor
namespace Go.Proofs.YtcgmliaahdpmcaaDoor
open Go.Sl
theorem less_asymm : ∀ x y : List UInt8, Op.bytesLess x y = true → Op.bytesLess y x = true → False
  | [], [], h, _ => by simp [Op.bytesLess] at h
  | [], _ :: _, _, h => by simp [Op.bytesLess] at h
  | _ :: _, [], h, _ => by simp [Op.bytesLess] at h
  | a :: x, b :: y, h1, h2 => by
    simp only [Op.bytesLess, Bool.or_eq_true, Bool.and_eq_true, decide_eq_true_eq, beq_iff_eq] at h1 h2
    rcases h1 with h1 | ⟨rfl, h1⟩ <;> rcases h2 with h2 | ⟨e, h2⟩
    · exact absurd (UInt8.lt_trans h1 h2) (UInt8.lt_irrefl _)
    · subst e; exact absurd h1 (UInt8.lt_irrefl _)
    · exact absurd h2 (UInt8.lt_irrefl _)
    · exact less_asymm x y h1 h2
theorem ltB_asymm {a b : ByteArray} (h1 : ltB a b = true) (h2 : ltB b a = true) : False := less_asymm _ _ h1 h2
theorem ltB_nodup {l : List ByteArray} (h : l.Pairwise fun a b => ltB a b = true) : l.Nodup := h.imp fun {a b} hab e => by
  subst e; exact ltB_asymm hab hab
/-- What is taken of streams. -/
structure Taken (T : List Sm) (xs : List StrV) : Prop where
  sort : (xs.map StrV.nm).Pairwise fun a b => ltB a b = true
  perm : (xs.map StrV.nm).Perm (T.map Sm.nm)
  each : ∀ y ∈ xs, ∃ s ∈ T, TakeOf s y
theorem keys_eq {a b : List Kn} (hp : a.Perm b) (h1 : (a.map Kn.key).Pairwise fun a b => ltB a b = true) (h2 : (b.map Kn.key).Pairwise fun a b => ltB a b = true) : a = b :=
  List.Perm.eq_of_pairwise (le := fun x y => ltB x.key y.key = true) (fun x y _ _ h h' => (ltB_asymm h h').elim) (List.pairwise_map.1 h1) (List.pairwise_map.1 h2) hp
theorem nm_inj {T : List Sm} (hn : (T.map Sm.nm).Nodup) {a b : Sm} (ha : a ∈ T) (hb : b ∈ T) (h : a.nm = b.nm) : a = b := by
  have h1 := fnd_of_mem hn ha
  have h2 := fnd_of_mem hn hb
  rw [h, h2] at h1
  exact (Option.some.inj h1).symm
theorem Taken.uniq {T : List Sm} (hn : (T.map Sm.nm).Nodup) {xs ys : List StrV} (hx : Taken T xs) (hy : Taken T ys) : xs.map StrV.d = ys.map StrV.d := by
  have hnm : xs.map StrV.nm = ys.map StrV.nm := List.Perm.eq_of_pairwise (le := fun a b => ltB a b = true) (fun a b _ _ h h' => (ltB_asymm h h').elim) hx.sort hy.sort (hx.perm.trans hy.perm.symm)
  have hlen : xs.length = ys.length := by simpa using congrArg List.length hnm
  apply List.ext_getElem?
  intro i
  by_cases hi : i < xs.length
  · have hi2 : i < ys.length := by omega
    have hni : xs[i].nm = ys[i].nm := by
      have := congrArg (·[i]?) hnm
      simpa [hi, hi2] using this
    obtain ⟨s, hs, t1⟩ := hx.each xs[i] (List.getElem_mem _)
    obtain ⟨s', hs', t2⟩ := hy.each ys[i] (List.getElem_mem _)
    obtain rfl : s = s' := nm_inj hn hs hs' (by rw [← t1.nm, ← t2.nm, hni])
    have hk := keys_eq (t1.perm.trans t2.perm.symm) t1.sort t2.sort
    have : xs[i].d = ys[i].d := by
      simp only [StrV.d, Prod.mk.injEq]
      exact ⟨hni, by rw [t1.evs, t2.evs], hk⟩
    simp [hi, hi2, this]
  · simp [List.getElem?_eq_none (show (xs.map StrV.d).length ≤ i by simp; omega), List.getElem?_eq_none (show (ys.map StrV.d).length ≤ i by simp; omega)]
theorem taken_of {T : List Sm} {r : Rg} {xs : List StrV} (h1 : ∀ y ∈ xs, ∃ s ∈ T, TakeOf s y) (h2 : ∃ ys : List ByteArray, ys.Perm (T.map Sm.nm) ∧ ys.Pairwise (fun a b => ltB a b = true) ∧ xs.map StrV.nm = ys.filter r.has) : Taken (T.filter fun s => r.has s.nm) xs := by
  obtain ⟨ys, hp, hs, he⟩ := h2
  refine ⟨by rw [he]; exact hs.filter _, ?_, fun y hy => ?_⟩
  · rw [he]
    refine (hp.filter _).trans ?_
    rw [List.filter_map]
    exact List.Perm.refl _
  · obtain ⟨s, hs, ht⟩ := h1 y hy
    refine ⟨s, List.mem_filter.2 ⟨hs, ?_⟩, ht⟩
    have hm : y.nm ∈ xs.map StrV.nm := List.mem_map.2 ⟨y, hy, rfl⟩
    rw [he] at hm
    rw [← ht.nm]
    exact (List.mem_filter.1 hm).2
theorem all_filter (T : List Sm) : (T.filter fun s => Rg.all.has s.nm) = T := List.filter_eq_self.2 fun s _ => all_has s.nm
/-- What is taken of what was put, after it was taken. -/
theorem Taken.chase {T U : List Sm} {xs ys : List StrV} (h : Taken T xs) (hU : U.map Sm.d = xs.map StrV.d) (hy : Taken U ys) : Taken T ys := by
  have hun : U.map Sm.nm = xs.map StrV.nm := by
    have := congrArg (List.map Prod.fst) hU
    simpa [List.map_map, Function.comp_def, Sm.d, StrV.d] using this
  refine ⟨hy.sort, hy.perm.trans (by rw [hun]; exact h.perm), fun y hyy => ?_⟩
  obtain ⟨u, hu, t1⟩ := hy.each y hyy
  have hm : u.d ∈ xs.map StrV.d := by rw [← hU]; exact List.mem_map.2 ⟨u, hu, rfl⟩
  obtain ⟨x, hx, e⟩ := List.mem_map.1 hm
  obtain ⟨s, hs, t2⟩ := h.each x hx
  simp only [StrV.d, Sm.d, Prod.mk.injEq] at e
  obtain ⟨e1, e2, e3⟩ := e
  exact ⟨s, hs, by rw [t1.nm, ← e1, t2.nm], by rw [t1.evs, ← e2, t2.evs], t1.perm.trans (by rw [← e3]; exact t2.perm), t1.sort⟩
/-- What is taken of what stayed and of what was put again. -/
theorem Taken.back {T U : List Sm} {p : Sm → Bool} {xs ys : List StrV} (h : Taken (T.filter p) xs) (hU : U.map Sm.d = xs.map StrV.d) (hy : Taken (T.filter (fun s => !p s) ++ U) ys) : Taken T ys := by
  have hun : U.map Sm.nm = xs.map StrV.nm := by
    have := congrArg (List.map Prod.fst) hU
    simpa [List.map_map, Function.comp_def, Sm.d, StrV.d] using this
  refine ⟨hy.sort, hy.perm.trans ?_, fun y hyy => ?_⟩
  · rw [List.map_append, hun]
    refine (List.Perm.append_left _ h.perm).trans ?_
    rw [← List.map_append]
    refine List.Perm.map _ ?_
    refine List.perm_append_comm.trans ?_
    exact List.filter_append_perm p T
  · obtain ⟨u, hu, t1⟩ := hy.each y hyy
    rcases List.mem_append.1 hu with hu | hu
    · exact ⟨u, (List.mem_filter.1 hu).1, t1⟩
    · have hm : u.d ∈ xs.map StrV.d := by rw [← hU]; exact List.mem_map.2 ⟨u, hu, rfl⟩
      obtain ⟨x, hx, e⟩ := List.mem_map.1 hm
      obtain ⟨s, hs, t2⟩ := h.each x hx
      simp only [StrV.d, Sm.d, Prod.mk.injEq] at e
      obtain ⟨e1, e2, e3⟩ := e
      exact ⟨s, (List.mem_filter.1 hs).1, by rw [t1.nm, ← e1, t2.nm], by rw [t1.evs, ← e2, t2.evs], t1.perm.trans (by rw [← e3]; exact t2.perm), t1.sort⟩
/-- Streams of names that a table has not are put behind its own. -/
theorem fold_put : ∀ (ss T : List Sm), ((T ++ ss).map Sm.nm).Nodup → ss.foldl tput T = T ++ ss
  | [], T, _ => by simp
  | s :: ss, T, h => by
    rw [List.foldl_cons]
    have hno : fnd T s.nm = none := by
      cases hf : fnd T s.nm with
      | none => rfl
      | some x =>
        obtain ⟨e, A, B, rfl, _⟩ := fnd_split hf
        rw [List.map_append, List.nodup_append] at h
        exact absurd e (h.2.2 x.nm (by simp) s.nm (by simp))
    rw [(fnd_none hno s rfl).1, fold_put ss (T ++ [s]) (by simpa using h)]
    simp
theorem whole_perm {x y : StrV} (hn : y.nm = x.nm) (he : y.evs = x.evs) (hk : y.ks.Perm x.ks) (h : wholeB x = true) : wholeB y = true := by
  rw [whole_iff] at h ⊢
  obtain ⟨h1, h2, h3, h4, h5, h6, h7⟩ := h
  rw [hn, he]
  exact ⟨h1, h2, fun k hk' => h3 k (hk.mem_iff.1 hk'), h4, h5, ((hk.map Kn.key).nodup_iff).2 h6, fun k hk' => h7 k (hk.mem_iff.1 hk')⟩
theorem Taken.put {T : List Sm} {n k : Nat} {xs : List StrV} (hT : ∀ s ∈ T, wholeB s.str = true ∧ s.evs.length ≤ k ∧ s.ks.length ≤ n) (h : Taken T xs) : putB xs = true ∧ ∀ y ∈ xs, y.evs.length ≤ k ∧ y.ks.length ≤ n ∧ wholeB y = true := by
  have hw : ∀ y ∈ xs, y.evs.length ≤ k ∧ y.ks.length ≤ n ∧ wholeB y = true := fun y hy => by
    obtain ⟨s, hs, t⟩ := h.each y hy
    obtain ⟨w1, w2, w3⟩ := hT s hs
    exact ⟨by rw [t.evs]; exact w2, by rw [t.perm.length_eq]; exact w3, whole_perm (x := s.str) t.nm t.evs t.perm w1⟩
  exact ⟨by unfold putB; rw [decide_eq_true (ltB_nodup h.sort), List.all_eq_true.2 fun y hy => (hw y hy).2.2]; rfl, hw⟩
theorem TW.of_taken {T U : List Sm} {n k : Nat} {xs : List StrV} (h : TW T n k) (ht : Taken T xs) (hU : U.map Sm.d = xs.map StrV.d) : TW U n k := by
  have hun : U.map Sm.nm = xs.map StrV.nm := by
    have := congrArg (List.map Prod.fst) hU
    simpa [List.map_map, Function.comp_def, Sm.d, StrV.d] using this
  have hp := (ht.put h.str).2
  refine ⟨by rw [hun]; exact ltB_nodup ht.sort, ?_, fun u hu => ?_⟩
  · have h1 : U.length = xs.length := by simpa using congrArg List.length hU
    have h2 : xs.length = T.length := by simpa using ht.perm.length_eq
    have := h.len; omega
  · have hm : u.d ∈ xs.map StrV.d := by rw [← hU]; exact List.mem_map.2 ⟨u, hu, rfl⟩
    obtain ⟨x, hx, e⟩ := List.mem_map.1 hm
    obtain ⟨p1, p2, p3⟩ := hp x hx
    have e' : u.str.d = x.d := by rw [e]; rfl
    simp only [StrV.d, Sm.d, Prod.mk.injEq] at e
    obtain ⟨e1, e2, e3⟩ := e
    exact ⟨by rw [whole_d e']; exact p3, by rw [← e2]; exact p1, by rw [← e3]; exact p2⟩
theorem TW.filter {T : List Sm} {n k : Nat} (h : TW T n k) (p : Sm → Bool) : TW (T.filter p) n k :=
  ⟨h.nd.sublist (List.filter_sublist.map _), Nat.le_trans (List.length_filter_le _ _) h.len, fun s hs => h.str s (List.mem_filter.1 hs).1⟩
end Go.Proofs.YtcgmliaahdpmcaaDoor
