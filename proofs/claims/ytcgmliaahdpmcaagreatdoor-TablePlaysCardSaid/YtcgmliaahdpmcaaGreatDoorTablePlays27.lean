/- Contracts and laws that the proof stands on. -/
import Derived.Test.YtcgmliaahdpmcaaGreatDoorTablePlays26
import Derived.Test.YtcgmliaahdpmcaaGreatDoorTablePlays21
import Derived.Test.YtcgmliaahdpmcaaGreatDoorTablePlays16
set_option linter.unusedSimpArgs false
set_option linter.unusedVariables false
namespace Go.Proofs.YtcgmliaahdpmcaaGreatDoor
open Go.Sl facts
def wT : List StrV → Nat
  | [] => 0
  | y :: l => y.evs.length + y.ks.length + wT l
theorem wT_append : ∀ a b : List StrV, wT (a ++ b) = wT a + wT b
  | [], b => by simp [wT]
  | y :: a, b => by have := wT_append a b; simp only [List.cons_append, wT]; omega
structure StrB (r : Int) (y : StrV) : Prop where
  nm : (y.nm.size : Int) ≤ r
  evs : ∀ e ∈ y.evs, (e.st.size : Int) ≤ r ∧ (e.data.size : Int) ≤ r
  ks : ∀ k ∈ y.ks, (k.key.size : Int) ≤ r
theorem StrB.mono {r r' : Int} {y : StrV} (h : StrB r y) (hr : r ≤ r') : StrB r' y := ⟨Int.le_trans h.nm hr, fun e he => ⟨Int.le_trans (h.evs e he).1 hr, Int.le_trans (h.evs e he).2 hr⟩, fun k hk => Int.le_trans (h.ks k hk) hr⟩
structure StepB (x : StV) : Prop where
  key : x.key.size ≤ 20000
  L : ∀ e ∈ x.L, (e.st.size : Int) ≤ 20000 ∧ (e.data.size : Int) ≤ 20000
  S : ∀ y ∈ x.S, StrB 20000 y
def wStep (x : StV) : Nat := x.L.length + x.S.length + wT x.S + 1
def sumW (l : List StV) : Nat := (l.map wStep).sum
attribute [local irreducible] Code.wp wpList Exit.then Exit.inBlock bodyPost Back MidQ G GP QStep VStep CStep SStep Does Post Reads
attribute [local irreducible] sumF
set_option maxHeartbeats 2000000 in
theorem events3 {H : HP} (p : Option Addr) (cap : Nat) (top : Int) (l : List Ev) (hS : SlAt (Pile H) 7 p l.length (l.flatMap Ev.cells)) (ht : 0 ≤ top ∧ top ≤ 100000) (hlen : l.length ≤ 9223372036854775807) (hO : EvsOk l) :
    Does Tryz.prog 26 [.slice p l.length cap, int top] [Pile H] (X := Int) int (fun _ => [Pile H]) (fun r => 0 ≤ r ∧ r ≤ most ∧ (r ≤ top → (l.length : Int) ≤ r ∧ ∀ e ∈ l, (e.st.size : Int) ≤ r ∧ (e.data.size : Int) ≤ r)) := by
  refine fn_intro Tryz.func26 rfl Tryz.ntmps26 rfl (by simp only [argFr, Nat.zero_add, Nat.reduceAdd]; rfl) (fun Γ => ?_)
  have hmost : most = 1099511627776 := rfl
  have h0 := sum_up 0 [(l.length : Int)] (by simp) (by omega) (by omega)
  repeat (first
    | (refine g_ops ?_; first | refine sO ?_ | refine s_n (fun _ => ?_) | refine s_app (fun _ _ => ?_) | refine s_b0 (fun _ => ?_) | ((fail_if_success refine g_lit rfl rfl rfl ?_); first | apply g_partM rfl rfl rfl | apply g_partMB rfl rfl rfl | fail) | refine s_k (sum_row _ _ _ 0 [(l.length : Int)] ⟨by omega, by omega⟩ (by simp; omega) (by simp)) ?_)
    | apply g_regB (id := 3) 19 | refine gS ?_ | exact s_m | intro _ | (refine gp_take ?_; first | refine pT ?_ | ((fail_if_success refine gp_lit rfl rfl rfl rfl ?_); first | apply gp_guard_dec rfl rfl rfl rfl | apply gp_guard rfl rfl rfl rfl | fail))
    | (refine gp_see ?_; first | refine p_f ?_ | refine pS ?_ | ((fail_if_success refine gp_lit rfl rfl rfl rfl ?_); first | apply gp_guard_dec rfl rfl rfl rfl | apply gp_guard rfl rfl rfl rfl | fail) | refine p_h (sum_row _ _ _ 0 [(l.length : Int)] ⟨by omega, by omega⟩ (by simp; omega) (by simp)) hd hk ?_)
    | (refine gp_one ?_; first | refine pO ?_ | refine p_n (fun _ => ?_) | refine p_app (fun _ _ => ?_) | refine p_b0 (fun _ => ?_) | ((fail_if_success refine gp_lit rfl rfl rfl rfl ?_); first | apply gp_guard_dec rfl rfl rfl rfl | apply gp_guard rfl rfl rfl rfl | fail) | refine p_k (sum_row _ _ _ 0 [(l.length : Int)] ⟨by omega, by omega⟩ (by simp; omega) (by simp)) ?_)
    | refine gp_two ?_ ?_ | refine gp_done hd hk ?_ | intro _ | refine p_ta hd hk (fun _ _ _ hd hk => ?_) | refine p_ts hd hk (fun _ hd hk => ?_))
  refine g_loop (X := IM) (fun x => [(6, int x.i), (5, int x.m), (4, int 0), (0, .slice p l.length cap), (1, int top)]) (fun _ => [Pile H]) (fun x => x.i ≤ l.length ∧ 0 ≤ x.m ∧ x.m ≤ most ∧ (x.m < most → (l.length : Int) ≤ x.m ∧ ∀ e ∈ l.take x.i, (e.st.size : Int) ≤ x.m ∧ (e.data.size : Int) ≤ x.m)) (fun x => l.length - x.i) ⟨0, sumF 0 [(l.length : Int)]⟩ ⟨Nat.zero_le _, by simp only; omega, h0.1, fun h => ⟨h0.2.2 h _ (by simp), by simp⟩⟩ (by (repeat (first | exact FrSub.nil | refine FrSub.cons rfl ?_)); first | done | fail) (by (repeat (first | exact Take.nil | apply Take.cons | exact Sel.here | apply Sel.there)); first | done | fail) (fun x hx => ?_)
  obtain ⟨i, m⟩ := x
  obtain ⟨hi, hm0, hm1, hm2⟩ := hx
  dsimp only at hi hm0 hm1 hm2 ⊢
  repeat (first
    | (refine g_ops ?_; first | refine sO ?_ | refine s_n (fun _ => ?_) | refine s_app (fun _ _ => ?_) | refine s_b0 (fun _ => ?_) | ((fail_if_success refine g_lit rfl rfl rfl ?_); first | apply g_partM rfl rfl rfl | apply g_partMB rfl rfl rfl | fail))
    | apply g_regB (id := 3) 19 | refine gS ?_ | exact s_m | intro _ | (refine gp_take ?_; first | refine pT ?_ | ((fail_if_success refine gp_lit rfl rfl rfl rfl ?_); first | apply gp_guard_dec rfl rfl rfl rfl | apply gp_guard rfl rfl rfl rfl | fail))
    | (refine gp_see ?_; first | refine p_f ?_ | refine pS ?_ | ((fail_if_success refine gp_lit rfl rfl rfl rfl ?_); first | apply gp_guard_dec rfl rfl rfl rfl | apply gp_guard rfl rfl rfl rfl | fail))
    | (refine gp_one ?_; first | refine pO ?_ | refine p_n (fun _ => ?_) | refine p_app (fun _ _ => ?_) | refine p_b0 (fun _ => ?_) | ((fail_if_success refine gp_lit rfl rfl rfl rfl ?_); first | apply gp_guard_dec rfl rfl rfl rfl | apply gp_guard rfl rfl rfl rfl | fail))
    | refine gp_two ?_ ?_ | refine gp_done hd hk ?_ | intro _ | refine p_ta hd hk (fun _ _ _ hd hk => ?_) | refine p_ts hd hk (fun _ hd hk => ?_))
  refine g_cond rfl (fun h2 => ?_) (fun h2 => ?_)
  · have hi' : i < l.length := by simp at h2; omega
    obtain ⟨b, o, rfl, hcell⟩ := slAt_elem hS ev_len (by decide) (i := i) (a := l[i]) (by simp [hi'])
    have hz1 := hO.st l[i] (List.getElem_mem _)
    have hz2 := hO.data l[i] (List.getElem_mem _)
    have htk : l.take (i + 1) = l.take i ++ [l[i]] := by rw [List.take_succ_eq_append_getElem hi']
    generalize l[i] = x at hcell hz1 hz2 htk
    have h3 := sum_up m [(x.st.size : Int), (x.data.size : Int)] (by simp) hm0 hm1
    repeat (first
      | (refine g_ops ?_; first | refine sO ?_ | refine s_n (fun _ => ?_) | refine s_app (fun _ _ => ?_) | refine s_b0 (fun _ => ?_) | ((fail_if_success refine g_lit rfl rfl rfl ?_); first | apply g_partM rfl rfl rfl | apply g_partMB rfl rfl rfl | fail))
      | apply g_regB (id := 3) 19 | refine gS ?_ | exact s_m | intro _ | (refine gp_take ?_; first | refine pT ?_ | ((fail_if_success refine gp_lit rfl rfl rfl rfl ?_); first | apply gp_guard_dec rfl rfl rfl rfl | apply gp_guard rfl rfl rfl rfl | fail))
      | (refine gp_see ?_; first | refine p_f ?_ | refine pS ?_ | ((fail_if_success refine gp_lit rfl rfl rfl rfl ?_); first | apply gp_guard_dec rfl rfl rfl rfl | apply gp_guard rfl rfl rfl rfl | fail))
      | (refine gp_one ?_; first | refine pO ?_ | refine p_n (fun _ => ?_) | refine p_app (fun _ _ => ?_) | refine p_b0 (fun _ => ?_) | ((fail_if_success refine gp_lit rfl rfl rfl rfl ?_); first | apply gp_guard_dec rfl rfl rfl rfl | apply gp_guard rfl rfl rfl rfl | fail))
      | refine gp_two ?_ ?_ | refine gp_done hd hk ?_ | intro _ | refine p_ta hd hk (fun _ _ _ hd hk => ?_) | refine p_ts hd hk (fun _ hd hk => ?_))
    refine g_draw (.take 0 (.take 1 (.take 2 (.take 3 (.take 4 (.see 5 [] (.take 6 (.take 7 (.take 8 (.take 9 (.take 10 (.see 11 [] (.take 12 (.one 13 (.one 14 (.take 15 .done)))))))))))))))) (by kernel_rfl) (take_all _) (fun k hd hk => ?_)
    repeat (first
      | (refine gp_take ?_; first | refine pT ?_ | ((fail_if_success refine gp_lit rfl rfl rfl rfl ?_); first | apply gp_guard_dec rfl rfl rfl rfl | apply gp_guard rfl rfl rfl rfl | fail))
      | (refine gp_see ?_; first | refine p_f ?_ | refine pS ?_ | ((fail_if_success refine gp_lit rfl rfl rfl rfl ?_); first | apply gp_guard_dec rfl rfl rfl rfl | apply gp_guard rfl rfl rfl rfl | fail) | refine p_h (sum_row _ _ _ m [(x.st.size : Int), (x.data.size : Int)] ⟨hm0, hm1⟩ (by simp; omega) (by simp)) hd hk ?_)
      | (refine gp_one ?_; first | refine pO ?_ | refine p_n (fun _ => ?_) | refine p_app (fun _ _ => ?_) | refine p_b0 (fun _ => ?_) | ((fail_if_success refine gp_lit rfl rfl rfl rfl ?_); first | apply gp_guard_dec rfl rfl rfl rfl | apply gp_guard rfl rfl rfl rfl | fail) | refine p_k (sum_row _ _ _ m [(x.st.size : Int), (x.data.size : Int)] ⟨hm0, hm1⟩ (by simp; omega) (by simp)) ?_)
      | refine gp_two ?_ ?_ | refine gp_done hd hk ?_ | intro _ | refine p_ta hd hk (fun _ _ _ hd hk => ?_) | refine p_ts hd hk (fun _ hd hk => ?_))
    repeat (first
      | (refine g_ops ?_; first | refine sO ?_ | refine s_n (fun _ => ?_) | refine s_app (fun _ _ => ?_) | refine s_b0 (fun _ => ?_) | ((fail_if_success refine g_lit rfl rfl rfl ?_); first | apply g_partM rfl rfl rfl | apply g_partMB rfl rfl rfl | fail))
      | apply g_regB (id := 3) 19 | refine gS ?_ | exact s_m | intro _ | (refine gp_take ?_; first | refine pT ?_ | ((fail_if_success refine gp_lit rfl rfl rfl rfl ?_); first | apply gp_guard_dec rfl rfl rfl rfl | apply gp_guard rfl rfl rfl rfl | fail))
      | (refine gp_see ?_; first | refine p_f ?_ | refine pS ?_ | ((fail_if_success refine gp_lit rfl rfl rfl rfl ?_); first | apply gp_guard_dec rfl rfl rfl rfl | apply gp_guard rfl rfl rfl rfl | fail))
      | (refine gp_one ?_; first | refine pO ?_ | refine p_n (fun _ => ?_) | refine p_app (fun _ _ => ?_) | refine p_b0 (fun _ => ?_) | ((fail_if_success refine gp_lit rfl rfl rfl rfl ?_); first | apply gp_guard_dec rfl rfl rfl rfl | apply gp_guard rfl rfl rfl rfl | fail))
      | refine gp_two ?_ ?_ | refine gp_done hd hk ?_ | intro _ | refine p_ta hd hk (fun _ _ _ hd hk => ?_) | refine p_ts hd hk (fun _ hd hk => ?_))
    exact g_again ⟨i + 1, sumF m [(x.st.size : Int), (x.data.size : Int)]⟩ (by simp only []; omega) ⟨hi', by simp only []; omega, h3.1, fun h => by
      simp only at h ⊢
      obtain ⟨g1, g2⟩ := hm2 (by omega)
      refine ⟨by omega, fun e he => ?_⟩
      rw [htk] at he
      rcases List.mem_append.1 he with he | he
      · have := g2 e he; exact ⟨by omega, by omega⟩
      · rw [List.mem_singleton.1 he]
        exact ⟨h3.2.2 h _ (by simp), h3.2.2 h _ (by simp)⟩⟩ (by (repeat (first | exact FrSub.nil | refine FrSub.cons rfl ?_)); first | done | fail) (by (repeat (first | exact Take.nil | apply Take.cons | exact Sel.here | apply Sel.there)); first | done | fail)
  · repeat (first
      | (refine g_ops ?_; first | refine sO ?_ | refine s_n (fun _ => ?_) | refine s_app (fun _ _ => ?_) | refine s_b0 (fun _ => ?_) | ((fail_if_success refine g_lit rfl rfl rfl ?_); first | apply g_partM rfl rfl rfl | apply g_partMB rfl rfl rfl | fail))
      | apply g_regB (id := 3) 19 | refine gS ?_ | exact s_m | intro _ | (refine gp_take ?_; first | refine pT ?_ | ((fail_if_success refine gp_lit rfl rfl rfl rfl ?_); first | apply gp_guard_dec rfl rfl rfl rfl | apply gp_guard rfl rfl rfl rfl | fail))
      | (refine gp_see ?_; first | refine p_f ?_ | refine pS ?_ | ((fail_if_success refine gp_lit rfl rfl rfl rfl ?_); first | apply gp_guard_dec rfl rfl rfl rfl | apply gp_guard rfl rfl rfl rfl | fail))
      | (refine gp_one ?_; first | refine pO ?_ | refine p_n (fun _ => ?_) | refine p_app (fun _ _ => ?_) | refine p_b0 (fun _ => ?_) | ((fail_if_success refine gp_lit rfl rfl rfl rfl ?_); first | apply gp_guard_dec rfl rfl rfl rfl | apply gp_guard rfl rfl rfl rfl | fail))
      | refine gp_two ?_ ?_ | refine gp_done hd hk ?_ | intro _ | refine p_ta hd hk (fun _ _ _ hd hk => ?_) | refine p_ts hd hk (fun _ hd hk => ?_))
    exact s_r m (hx := ⟨hm0, hm1, fun h => by
      have hle : i = l.length := by simp at h2; omega
      subst hle
      rw [List.take_length] at hm2
      exact hm2 (by omega)⟩)
set_option maxHeartbeats 4000000 in
theorem streams3 {H : HP} (p : Option Addr) (cap : Nat) (top : Int) (l : List StrV) (hS : SlAt (Pile H) 3 p l.length (l.flatMap StrV.cells)) (hA : ∀ y ∈ l, StrAt (Pile H) y) (ht : 0 ≤ top ∧ top ≤ 100000) (hlen : l.length ≤ 9223372036854775807) :
    Does Tryz.prog 27 [.slice p l.length cap, int top] [Pile H] (X := Int) int (fun _ => [Pile H]) (fun r => 0 ≤ r ∧ r ≤ most ∧ (r ≤ top → (l.length : Int) + wT l ≤ r ∧ ∀ y ∈ l, StrB r y)) := by
  refine fn_intro Tryz.func27 rfl Tryz.ntmps27 rfl (by simp only [argFr, Nat.zero_add, Nat.reduceAdd]; rfl) (fun Γ => ?_)
  have hmost : most = 1099511627776 := rfl
  have h0 := sum_up 0 [(l.length : Int)] (by simp) (by omega) (by omega)
  repeat (first
    | (refine g_ops ?_; first | refine sO ?_ | refine s_n (fun _ => ?_) | refine s_app (fun _ _ => ?_) | refine s_b0 (fun _ => ?_) | ((fail_if_success refine g_lit rfl rfl rfl ?_); first | apply g_partM rfl rfl rfl | apply g_partMB rfl rfl rfl | fail) | refine s_k (sum_row _ _ _ 0 [(l.length : Int)] ⟨by omega, by omega⟩ (by simp; omega) (by simp)) ?_)
    | apply g_regB (id := 3) 20 | apply g_regB (id := 7) 57 | refine gS ?_ | exact s_m | intro _ | (refine gp_take ?_; first | refine pT ?_ | ((fail_if_success refine gp_lit rfl rfl rfl rfl ?_); first | apply gp_guard_dec rfl rfl rfl rfl | apply gp_guard rfl rfl rfl rfl | fail))
    | (refine gp_see ?_; first | refine p_f ?_ | refine pS ?_ | ((fail_if_success refine gp_lit rfl rfl rfl rfl ?_); first | apply gp_guard_dec rfl rfl rfl rfl | apply gp_guard rfl rfl rfl rfl | fail) | refine p_h (sum_row _ _ _ 0 [(l.length : Int)] ⟨by omega, by omega⟩ (by simp; omega) (by simp)) hd hk ?_)
    | (refine gp_one ?_; first | refine pO ?_ | refine p_n (fun _ => ?_) | refine p_app (fun _ _ => ?_) | refine p_b0 (fun _ => ?_) | ((fail_if_success refine gp_lit rfl rfl rfl rfl ?_); first | apply gp_guard_dec rfl rfl rfl rfl | apply gp_guard rfl rfl rfl rfl | fail) | refine p_k (sum_row _ _ _ 0 [(l.length : Int)] ⟨by omega, by omega⟩ (by simp; omega) (by simp)) ?_)
    | refine gp_two ?_ ?_ | refine gp_done hd hk ?_ | intro _ | refine p_ta hd hk (fun _ _ _ hd hk => ?_) | refine p_ts hd hk (fun _ hd hk => ?_))
  refine g_loop (X := IM) (fun x => [(6, int x.i), (5, int x.m), (4, int 0), (0, .slice p l.length cap), (1, int top)]) (fun _ => [Pile H]) (fun x => x.i ≤ l.length ∧ 0 ≤ x.m ∧ x.m ≤ most ∧ (x.m ≤ top → (l.length : Int) + wT (l.take x.i) ≤ x.m ∧ ∀ y ∈ l.take x.i, StrB x.m y)) (fun x => l.length - x.i) ⟨0, sumF 0 [(l.length : Int)]⟩ ⟨Nat.zero_le _, by simp only; omega, h0.1, fun h => ⟨by have := h0.2.2 (by simp only at h; omega) _ (by simp : (l.length : Int) ∈ [(l.length : Int)]); simp only [List.take_zero, wT]; omega, by simp⟩⟩ (by (repeat (first | exact FrSub.nil | refine FrSub.cons rfl ?_)); first | done | fail) (by (repeat (first | exact Take.nil | apply Take.cons | exact Sel.here | apply Sel.there)); first | done | fail) (fun x hx => ?_)
  obtain ⟨i, m⟩ := x
  obtain ⟨hi, hm0, hm1, hm2⟩ := hx
  dsimp only at hi hm0 hm1 hm2 ⊢
  repeat (first
    | (refine g_ops ?_; first | refine sO ?_ | refine s_n (fun _ => ?_) | refine s_app (fun _ _ => ?_) | refine s_b0 (fun _ => ?_) | ((fail_if_success refine g_lit rfl rfl rfl ?_); first | apply g_partM rfl rfl rfl | apply g_partMB rfl rfl rfl | fail))
    | apply g_regB (id := 3) 20 | apply g_regB (id := 7) 57 | refine gS ?_ | exact s_m | intro _ | (refine gp_take ?_; first | refine pT ?_ | ((fail_if_success refine gp_lit rfl rfl rfl rfl ?_); first | apply gp_guard_dec rfl rfl rfl rfl | apply gp_guard rfl rfl rfl rfl | fail))
    | (refine gp_see ?_; first | refine p_f ?_ | refine pS ?_ | ((fail_if_success refine gp_lit rfl rfl rfl rfl ?_); first | apply gp_guard_dec rfl rfl rfl rfl | apply gp_guard rfl rfl rfl rfl | fail))
    | (refine gp_one ?_; first | refine pO ?_ | refine p_n (fun _ => ?_) | refine p_app (fun _ _ => ?_) | refine p_b0 (fun _ => ?_) | ((fail_if_success refine gp_lit rfl rfl rfl rfl ?_); first | apply gp_guard_dec rfl rfl rfl rfl | apply gp_guard rfl rfl rfl rfl | fail))
    | refine gp_two ?_ ?_ | refine gp_done hd hk ?_ | intro _ | refine p_ta hd hk (fun _ _ _ hd hk => ?_) | refine p_ts hd hk (fun _ hd hk => ?_))
  refine g_cond rfl (fun h2 => ?_) (fun h2 => ?_)
  · have hi' : i < l.length := by simp at h2; omega
    obtain ⟨b, o, rfl, hcell⟩ := slAt_elem hS str_len (by decide) (i := i) (a := l[i]) (by simp [hi'])
    have hAi := hA l[i] (List.getElem_mem _)
    have htk : l.take (i + 1) = l.take i ++ [l[i]] := by rw [List.take_succ_eq_append_getElem hi']
    generalize hx : l[i] = x at hcell hAi htk
    obtain ⟨a1, a2, a3, a4, a5, a6, a7⟩ := hAi
    obtain ⟨nm, ep, ec, evs, kp, kc, ks⟩ := x
    dsimp only at a1 a2 a3 a4 a5 a6 a7
    repeat (first
      | (refine g_ops ?_; first | refine sO ?_ | refine s_n (fun _ => ?_) | refine s_app (fun _ _ => ?_) | refine s_b0 (fun _ => ?_) | ((fail_if_success refine g_lit rfl rfl rfl ?_); first | apply g_partM rfl rfl rfl | apply g_partMB rfl rfl rfl | fail))
      | apply g_regB (id := 3) 20 | apply g_regB (id := 7) 57 | refine gS ?_ | exact s_m | intro _ | (refine gp_take ?_; first | refine pT ?_ | ((fail_if_success refine gp_lit rfl rfl rfl rfl ?_); first | apply gp_guard_dec rfl rfl rfl rfl | apply gp_guard rfl rfl rfl rfl | fail))
      | (refine gp_see ?_; first | refine p_f ?_ | refine pS ?_ | ((fail_if_success refine gp_lit rfl rfl rfl rfl ?_); first | apply gp_guard_dec rfl rfl rfl rfl | apply gp_guard rfl rfl rfl rfl | fail))
      | (refine gp_one ?_; first | refine pO ?_ | refine p_n (fun _ => ?_) | refine p_app (fun _ _ => ?_) | refine p_b0 (fun _ => ?_) | ((fail_if_success refine gp_lit rfl rfl rfl rfl ?_); first | apply gp_guard_dec rfl rfl rfl rfl | apply gp_guard rfl rfl rfl rfl | fail))
      | refine gp_two ?_ ?_ | refine gp_done hd hk ?_ | intro _ | refine p_ta hd hk (fun _ _ _ hd hk => ?_) | refine p_ts hd hk (fun _ hd hk => ?_))
    refine g_draw (.take 0 (.take 1 (.take 2 (.take 3 (.take 4 (.see 5 [] (.take 6 (.take 7 (.take 8 (.take 9 (.take 10 (.see 11 [] (.take 12 (.take 14 (.take 15 (.take 16 (.take 17 (.see 18 [] (.take 19 (.one 13 (.one 20 (.one 21 (.take 22 .done))))))))))))))))))))))) (by kernel_rfl) (take_all _) (fun k hd hk => ?_)
    repeat (first
      | (refine gp_take ?_; first | refine pT ?_ | ((fail_if_success refine gp_lit rfl rfl rfl rfl ?_); first | apply gp_guard_dec rfl rfl rfl rfl | apply gp_guard rfl rfl rfl rfl | fail))
      | (refine gp_see ?_; first | refine p_f ?_ | refine pS ?_ | ((fail_if_success refine gp_lit rfl rfl rfl rfl ?_); first | apply gp_guard_dec rfl rfl rfl rfl | apply gp_guard rfl rfl rfl rfl | fail))
      | (refine gp_one ?_; first | refine pO ?_ | refine p_n (fun _ => ?_) | refine p_app (fun _ _ => ?_) | refine p_b0 (fun _ => ?_) | ((fail_if_success refine gp_lit rfl rfl rfl rfl ?_); first | apply gp_guard_dec rfl rfl rfl rfl | apply gp_guard rfl rfl rfl rfl | fail) | refine p_cP (events3 ep ec top evs a1 ht a3 a6) hd hk (fun _ _ => ?_))
      | refine gp_two ?_ ?_ | refine gp_done hd hk ?_ | intro _ | refine p_ta hd hk (fun _ _ _ hd hk => ?_) | refine p_ts hd hk (fun _ hd hk => ?_))
    rename_i r hr rb
    obtain ⟨r0, r1, r2⟩ := hr
    have h3 := sum_up m [(nm.size : Int), r, (ks.length : Int)] (by simp; exact r0) hm0 hm1
    repeat (first
      | (refine gp_take ?_; first | refine pT ?_ | ((fail_if_success refine gp_lit rfl rfl rfl rfl ?_); first | apply gp_guard_dec rfl rfl rfl rfl | apply gp_guard rfl rfl rfl rfl | fail))
      | (refine gp_see ?_; first | refine p_f ?_ | refine pS ?_ | ((fail_if_success refine gp_lit rfl rfl rfl rfl ?_); first | apply gp_guard_dec rfl rfl rfl rfl | apply gp_guard rfl rfl rfl rfl | fail) | refine p_h (sum_row _ _ _ m [(nm.size : Int), r, (ks.length : Int)] ⟨hm0, hm1⟩ (by simp; omega) (by simp)) hd hk ?_)
      | (refine gp_one ?_; first | refine pO ?_ | refine p_n (fun _ => ?_) | refine p_app (fun _ _ => ?_) | refine p_b0 (fun _ => ?_) | ((fail_if_success refine gp_lit rfl rfl rfl rfl ?_); first | apply gp_guard_dec rfl rfl rfl rfl | apply gp_guard rfl rfl rfl rfl | fail) | refine p_k (sum_row _ _ _ m [(nm.size : Int), r, (ks.length : Int)] ⟨hm0, hm1⟩ (by simp; omega) (by simp)) ?_)
      | refine gp_two ?_ ?_ | refine gp_done hd hk ?_ | intro _ | refine p_ta hd hk (fun _ _ _ hd hk => ?_) | refine p_ts hd hk (fun _ hd hk => ?_))
    have hA1 : sumF m [(nm.size : Int), r, (ks.length : Int)] ≤ top → (l.length : Int) + wT (l.take i) + evs.length + ks.length ≤ sumF m [(nm.size : Int), r, (ks.length : Int)] ∧ (nm.size : Int) ≤ sumF m [(nm.size : Int), r, (ks.length : Int)] ∧ (∀ e ∈ evs, (e.st.size : Int) ≤ sumF m [(nm.size : Int), r, (ks.length : Int)] ∧ (e.data.size : Int) ≤ sumF m [(nm.size : Int), r, (ks.length : Int)]) ∧ ∀ y ∈ l.take i, StrB (sumF m [(nm.size : Int), r, (ks.length : Int)]) y := by
      intro h
      have g0 := h3.2.2 (by omega)
      have g1 := g0 r (by simp)
      have g3 := g0 (nm.size : Int) (by simp)
      have g5 := sumF_eq [(nm.size : Int), r, (ks.length : Int)] m (by simp; exact r0) hm0 hm1 (by omega)
      have g6 : ([(nm.size : Int), r, (ks.length : Int)] : List Int).sum = (nm.size : Int) + (r + (ks.length : Int)) := by simp
      rw [g6] at g5
      obtain ⟨q1, q2⟩ := hm2 (by omega)
      obtain ⟨q3, q4⟩ := r2 (by omega)
      exact ⟨by omega, g3, fun e he => by have := q4 e he; exact ⟨by omega, by omega⟩, fun y hy => (q2 y hy).mono (by omega)⟩
    generalize sumF m [(nm.size : Int), r, (ks.length : Int)] = m1 at hA1 h3
    obtain ⟨h31, h32, _⟩ := h3
    repeat (first
      | (refine g_ops ?_; first | refine sO ?_ | refine s_n (fun _ => ?_) | refine s_app (fun _ _ => ?_) | refine s_b0 (fun _ => ?_) | ((fail_if_success refine g_lit rfl rfl rfl ?_); first | apply g_partM rfl rfl rfl | apply g_partMB rfl rfl rfl | fail))
      | apply g_regB (id := 3) 20 | apply g_regB (id := 7) 57 | refine gS ?_ | exact s_m | intro _ | (refine gp_take ?_; first | refine pT ?_ | ((fail_if_success refine gp_lit rfl rfl rfl rfl ?_); first | apply gp_guard_dec rfl rfl rfl rfl | apply gp_guard rfl rfl rfl rfl | fail))
      | (refine gp_see ?_; first | refine p_f ?_ | refine pS ?_ | ((fail_if_success refine gp_lit rfl rfl rfl rfl ?_); first | apply gp_guard_dec rfl rfl rfl rfl | apply gp_guard rfl rfl rfl rfl | fail))
      | (refine gp_one ?_; first | refine pO ?_ | refine p_n (fun _ => ?_) | refine p_app (fun _ _ => ?_) | refine p_b0 (fun _ => ?_) | ((fail_if_success refine gp_lit rfl rfl rfl rfl ?_); first | apply gp_guard_dec rfl rfl rfl rfl | apply gp_guard rfl rfl rfl rfl | fail))
      | refine gp_two ?_ ?_ | refine gp_done hd hk ?_ | intro _ | refine p_ta hd hk (fun _ _ _ hd hk => ?_) | refine p_ts hd hk (fun _ hd hk => ?_))
    refine g_loop (X := IM) (fun y => [(7, int y.i), (6, int i), (5, int y.m), (4, int 0), (0, .slice (some ⟨b, o, none⟩) l.length cap), (1, int top)]) (fun _ => [Pile H]) (fun y => y.i ≤ ks.length ∧ 0 ≤ y.m ∧ y.m ≤ most ∧ m1 ≤ y.m ∧ (y.m ≤ top → ∀ k ∈ ks.take y.i, (k.key.size : Int) ≤ y.m)) (fun y => ks.length - y.i) ⟨0, m1⟩ ⟨Nat.zero_le _, by simp only; omega, h31, Int.le_refl _, by simp⟩ (by (repeat (first | exact FrSub.nil | refine FrSub.cons rfl ?_)); first | done | fail) (by (repeat (first | exact Take.nil | apply Take.cons | exact Sel.here | apply Sel.there)); first | done | fail) (fun y hy => ?_)
    obtain ⟨k2, m2⟩ := y
    obtain ⟨y0, y1, y2, y3, y4⟩ := hy
    dsimp only at y0 y1 y2 y3 y4 ⊢
    repeat (first
      | (refine g_ops ?_; first | refine sO ?_ | refine s_n (fun _ => ?_) | refine s_app (fun _ _ => ?_) | refine s_b0 (fun _ => ?_) | ((fail_if_success refine g_lit rfl rfl rfl ?_); first | apply g_partM rfl rfl rfl | apply g_partMB rfl rfl rfl | fail))
      | apply g_regB (id := 3) 20 | apply g_regB (id := 7) 57 | refine gS ?_ | exact s_m | intro _ | (refine gp_take ?_; first | refine pT ?_ | ((fail_if_success refine gp_lit rfl rfl rfl rfl ?_); first | apply gp_guard_dec rfl rfl rfl rfl | apply gp_guard rfl rfl rfl rfl | fail))
      | (refine gp_see ?_; first | refine p_f ?_ | refine pS ?_ | ((fail_if_success refine gp_lit rfl rfl rfl rfl ?_); first | apply gp_guard_dec rfl rfl rfl rfl | apply gp_guard rfl rfl rfl rfl | fail))
      | (refine gp_one ?_; first | refine pO ?_ | refine p_n (fun _ => ?_) | refine p_app (fun _ _ => ?_) | refine p_b0 (fun _ => ?_) | ((fail_if_success refine gp_lit rfl rfl rfl rfl ?_); first | apply gp_guard_dec rfl rfl rfl rfl | apply gp_guard rfl rfl rfl rfl | fail))
      | refine gp_two ?_ ?_ | refine gp_done hd hk ?_ | intro _ | refine p_ta hd hk (fun _ _ _ hd hk => ?_) | refine p_ts hd hk (fun _ hd hk => ?_))
    refine g_cond rfl (fun h4 => ?_) (fun h4 => ?_)
    · have hk' : k2 < ks.length := by simp at h4; omega
      obtain ⟨kb, ko, hkp, hcell2⟩ := slAt_elem a2 kn_len (by decide) (i := k2) (a := ks[k2]) (by simp [hk'])
      subst hkp
      have hz := a7 ks[k2] (List.getElem_mem _)
      have htk2 : ks.take (k2 + 1) = ks.take k2 ++ [ks[k2]] := by rw [List.take_succ_eq_append_getElem hk']
      generalize ks[k2] = y at hcell2 hz htk2
      have h5 := sum_up m2 [(y.key.size : Int)] (by simp) y1 y2
      repeat ((fail_if_success refine s_at 69 ?_); first
        | (refine g_ops ?_; first | refine sO ?_ | refine s_n (fun _ => ?_) | refine s_app (fun _ _ => ?_) | refine s_b0 (fun _ => ?_) | ((fail_if_success refine g_lit rfl rfl rfl ?_); first | apply g_partM rfl rfl rfl | apply g_partMB rfl rfl rfl | fail))
        | apply g_regB (id := 3) 20 | apply g_regB (id := 7) 57 | refine gS ?_ | exact s_m | intro _ | (refine gp_take ?_; first | refine pT ?_ | ((fail_if_success refine gp_lit rfl rfl rfl rfl ?_); first | apply gp_guard_dec rfl rfl rfl rfl | apply gp_guard rfl rfl rfl rfl | fail))
        | (refine gp_see ?_; first | refine p_f ?_ | refine pS ?_ | ((fail_if_success refine gp_lit rfl rfl rfl rfl ?_); first | apply gp_guard_dec rfl rfl rfl rfl | apply gp_guard rfl rfl rfl rfl | fail))
        | (refine gp_one ?_; first | refine pO ?_ | refine p_n (fun _ => ?_) | refine p_app (fun _ _ => ?_) | refine p_b0 (fun _ => ?_) | ((fail_if_success refine gp_lit rfl rfl rfl rfl ?_); first | apply gp_guard_dec rfl rfl rfl rfl | apply gp_guard rfl rfl rfl rfl | fail))
        | refine gp_two ?_ ?_ | refine gp_done hd hk ?_ | intro _ | refine p_ta hd hk (fun _ _ _ hd hk => ?_) | refine p_ts hd hk (fun _ hd hk => ?_))
      have hcell := hcell2
      repeat (first
        | (refine g_ops ?_; first | refine sO ?_ | refine s_n (fun _ => ?_) | refine s_app (fun _ _ => ?_) | refine s_b0 (fun _ => ?_) | ((fail_if_success refine g_lit rfl rfl rfl ?_); first | apply g_partM rfl rfl rfl | apply g_partMB rfl rfl rfl | fail) | refine s_k (sum_row _ _ _ m2 [(y.key.size : Int)] ⟨y1, y2⟩ (by simp; omega) (by simp)) ?_)
        | apply g_regB (id := 3) 20 | apply g_regB (id := 7) 57 | refine gS ?_ | exact s_m | intro _ | (refine gp_take ?_; first | refine pT ?_ | ((fail_if_success refine gp_lit rfl rfl rfl rfl ?_); first | apply gp_guard_dec rfl rfl rfl rfl | apply gp_guard rfl rfl rfl rfl | fail))
        | (refine gp_see ?_; first | refine p_f ?_ | refine pS ?_ | ((fail_if_success refine gp_lit rfl rfl rfl rfl ?_); first | apply gp_guard_dec rfl rfl rfl rfl | apply gp_guard rfl rfl rfl rfl | fail) | refine p_h (sum_row _ _ _ m2 [(y.key.size : Int)] ⟨y1, y2⟩ (by simp; omega) (by simp)) hd hk ?_)
        | (refine gp_one ?_; first | refine pO ?_ | refine p_n (fun _ => ?_) | refine p_app (fun _ _ => ?_) | refine p_b0 (fun _ => ?_) | ((fail_if_success refine gp_lit rfl rfl rfl rfl ?_); first | apply gp_guard_dec rfl rfl rfl rfl | apply gp_guard rfl rfl rfl rfl | fail) | refine p_k (sum_row _ _ _ m2 [(y.key.size : Int)] ⟨y1, y2⟩ (by simp; omega) (by simp)) ?_)
        | refine gp_two ?_ ?_ | refine gp_done hd hk ?_ | intro _ | refine p_ta hd hk (fun _ _ _ hd hk => ?_) | refine p_ts hd hk (fun _ hd hk => ?_))
      exact g_again ⟨k2 + 1, sumF m2 [(y.key.size : Int)]⟩ (by simp only; omega) ⟨hk', by simp only; omega, h5.1, by simp only; omega, fun h k hk => by
        simp only at h hk ⊢
        rw [htk2] at hk
        rcases List.mem_append.1 hk with hk | hk
        · have := y4 (by omega) k hk; omega
        · rw [List.mem_singleton.1 hk]; exact h5.2.2 (by omega) _ (by simp)⟩ (by (repeat (first | exact FrSub.nil | refine FrSub.cons rfl ?_)); first | done | fail) (by (repeat (first | exact Take.nil | apply Take.cons | exact Sel.here | apply Sel.there)); first | done | fail)
    · repeat (first
        | (refine g_ops ?_; first | refine sO ?_ | refine s_n (fun _ => ?_) | refine s_app (fun _ _ => ?_) | refine s_b0 (fun _ => ?_) | ((fail_if_success refine g_lit rfl rfl rfl ?_); first | apply g_partM rfl rfl rfl | apply g_partMB rfl rfl rfl | fail))
        | apply g_regB (id := 3) 20 | apply g_regB (id := 7) 57 | refine gS ?_ | exact s_m | intro _ | (refine gp_take ?_; first | refine pT ?_ | ((fail_if_success refine gp_lit rfl rfl rfl rfl ?_); first | apply gp_guard_dec rfl rfl rfl rfl | apply gp_guard rfl rfl rfl rfl | fail))
        | (refine gp_see ?_; first | refine p_f ?_ | refine pS ?_ | ((fail_if_success refine gp_lit rfl rfl rfl rfl ?_); first | apply gp_guard_dec rfl rfl rfl rfl | apply gp_guard rfl rfl rfl rfl | fail))
        | (refine gp_one ?_; first | refine pO ?_ | refine p_n (fun _ => ?_) | refine p_app (fun _ _ => ?_) | refine p_b0 (fun _ => ?_) | ((fail_if_success refine gp_lit rfl rfl rfl rfl ?_); first | apply gp_guard_dec rfl rfl rfl rfl | apply gp_guard rfl rfl rfl rfl | fail))
        | refine gp_two ?_ ?_ | refine gp_done hd hk ?_ | intro _ | refine p_ta hd hk (fun _ _ _ hd hk => ?_) | refine p_ts hd hk (fun _ hd hk => ?_))
      exact g_again ⟨i + 1, m2⟩ (by simp only; omega) ⟨hi', y1, y2, fun h => by
        simp only at h ⊢
        have hle : k2 = ks.length := by simp at h4; omega
        subst hle
        rw [List.take_length] at y4
        obtain ⟨g1, g2, g3, g4⟩ := hA1 (by omega)
        have e1 : wT (l.take (i + 1)) = wT (l.take i) + (evs.length + ks.length) := by rw [htk, wT_append]; simp [wT]
        refine ⟨by rw [e1]; push_cast; omega, fun y hy => ?_⟩
        rw [htk] at hy
        rcases List.mem_append.1 hy with hy | hy
        · exact (g4 y hy).mono (by omega)
        · rw [List.mem_singleton.1 hy]
          exact ⟨by simp only; omega, fun e he => by have := g3 e he; exact ⟨by omega, by omega⟩, fun k hk => y4 (by omega) k hk⟩⟩ (by (repeat (first | exact FrSub.nil | refine FrSub.cons rfl ?_)); first | done | fail) (by (repeat (first | exact Take.nil | apply Take.cons | exact Sel.here | apply Sel.there)); first | done | fail)
  · repeat (first
      | (refine g_ops ?_; first | refine sO ?_ | refine s_n (fun _ => ?_) | refine s_app (fun _ _ => ?_) | refine s_b0 (fun _ => ?_) | ((fail_if_success refine g_lit rfl rfl rfl ?_); first | apply g_partM rfl rfl rfl | apply g_partMB rfl rfl rfl | fail))
      | apply g_regB (id := 3) 20 | apply g_regB (id := 7) 57 | refine gS ?_ | exact s_m | intro _ | (refine gp_take ?_; first | refine pT ?_ | ((fail_if_success refine gp_lit rfl rfl rfl rfl ?_); first | apply gp_guard_dec rfl rfl rfl rfl | apply gp_guard rfl rfl rfl rfl | fail))
      | (refine gp_see ?_; first | refine p_f ?_ | refine pS ?_ | ((fail_if_success refine gp_lit rfl rfl rfl rfl ?_); first | apply gp_guard_dec rfl rfl rfl rfl | apply gp_guard rfl rfl rfl rfl | fail))
      | (refine gp_one ?_; first | refine pO ?_ | refine p_n (fun _ => ?_) | refine p_app (fun _ _ => ?_) | refine p_b0 (fun _ => ?_) | ((fail_if_success refine gp_lit rfl rfl rfl rfl ?_); first | apply gp_guard_dec rfl rfl rfl rfl | apply gp_guard rfl rfl rfl rfl | fail))
      | refine gp_two ?_ ?_ | refine gp_done hd hk ?_ | intro _ | refine p_ta hd hk (fun _ _ _ hd hk => ?_) | refine p_ts hd hk (fun _ hd hk => ?_))
    exact s_r m (hx := ⟨hm0, hm1, fun h => by
      have hle : i = l.length := by simp at h2; omega
      subst hle
      rw [List.take_length] at hm2
      exact hm2 h⟩)
set_option maxHeartbeats 4000000 in
theorem small3 {H : HP} (p : Option Addr) (cap : Nat) (l : List StV) (hS : StepsAt (Pile H) p l) (hlen : l.length ≤ 9223372036854775807) :
    Does Tryz.prog 4 [.slice p l.length cap] [Pile H] (X := Bool) Value.bool (fun _ => [Pile H]) (fun r => r = true → l.length ≤ 80 ∧ sumW l ≤ 20000 ∧ ∀ x ∈ l, StepB x) := by
  refine fn_intro Tryz.func4 rfl Tryz.ntmps4 rfl (by simp only [argFr, Nat.zero_add, Nat.reduceAdd]; rfl) (fun Γ => ?_)
  have hmost : most = 1099511627776 := rfl
  repeat (first
    | (refine g_ops ?_; first | refine sO ?_ | refine s_n (fun _ => ?_) | refine s_app (fun _ _ => ?_) | refine s_b0 (fun _ => ?_) | ((fail_if_success refine g_lit rfl rfl rfl ?_); first | apply g_partM rfl rfl rfl | apply g_partMB rfl rfl rfl | fail))
    | refine gS ?_ | exact s_m | intro _)
  refine g_loop (X := IM) (fun x => [(4, int x.i), (3, int x.m), (2, .bool false), (0, .slice p l.length cap)]) (fun _ => [Pile H]) (fun x => x.i ≤ l.length ∧ 0 ≤ x.m ∧ x.m ≤ 20000 ∧ (sumW (l.take x.i) : Int) ≤ x.m ∧ ∀ y ∈ l.take x.i, StepB y) (fun x => l.length - x.i) ⟨0, 0⟩ ⟨Nat.zero_le _, Int.le_refl _, by decide, Int.le_refl _, by simp⟩ (by (repeat (first | exact FrSub.nil | refine FrSub.cons rfl ?_)); first | done | fail) (by (repeat (first | exact Take.nil | apply Take.cons | exact Sel.here | apply Sel.there)); first | done | fail) (fun x hx => ?_)
  obtain ⟨i, m⟩ := x
  obtain ⟨hi, hm0, hm1, hm2, hm3⟩ := hx
  dsimp only at hi hm0 hm1 hm2 hm3 ⊢
  repeat (first
    | (refine g_ops ?_; first | refine sO ?_ | refine s_n (fun _ => ?_) | refine s_app (fun _ _ => ?_) | refine s_b0 (fun _ => ?_) | ((fail_if_success refine g_lit rfl rfl rfl ?_); first | apply g_partM rfl rfl rfl | apply g_partMB rfl rfl rfl | fail))
    | refine gS ?_ | exact s_m | intro _)
  refine g_cond_dec rfl (fun h2 => ?_) (fun h2 => ?_)
  · have hi' : i < l.length := by omega
    obtain ⟨b, o, rfl, hcell⟩ := slAt_elem hS.sl stv_len (by decide) (i := i) (a := l[i]) (by simp [hi'])
    have hAi := hS.at_ l[i] (List.getElem_mem _)
    generalize hx : l[i] = x at hcell hAi
    repeat (first
      | (refine g_ops ?_; first | refine sO ?_ | refine s_n (fun _ => ?_) | refine s_app (fun _ _ => ?_) | refine s_b0 (fun _ => ?_) | ((fail_if_success refine g_lit rfl rfl rfl ?_); first | apply g_partM rfl rfl rfl | apply g_partMB rfl rfl rfl | fail))
      | refine gS ?_ | exact s_m | intro _)
    refine g_draw (.take 0 (.take 1 (.take 2 (.take 3 (.take 4 (.see 5 [] (.take 6 (.take 7 (.take 8 (.take 9 (.take 10 (.see 11 [] (.take 13 (.take 14 (.take 15 (.take 16 (.see 17 [] (.one 12 (.one 18 (.one 19 (.one 20 (.take 21 .done)))))))))))))))))))))) (by kernel_rfl) (take_all _) (fun k hd hk => ?_)
    repeat (first
      | (refine gp_take ?_; first | refine pT ?_ | ((fail_if_success refine gp_lit rfl rfl rfl rfl ?_); first | apply gp_guard_dec rfl rfl rfl rfl | apply gp_guard rfl rfl rfl rfl | fail))
      | (refine gp_see ?_; first | refine p_f ?_ | refine pS ?_ | ((fail_if_success refine gp_lit rfl rfl rfl rfl ?_); first | apply gp_guard_dec rfl rfl rfl rfl | apply gp_guard rfl rfl rfl rfl | fail))
      | (refine gp_one ?_; first | refine pO ?_ | refine p_n (fun _ => ?_) | refine p_app (fun _ _ => ?_) | refine p_b0 (fun _ => ?_) | ((fail_if_success refine gp_lit rfl rfl rfl rfl ?_); first | apply gp_guard_dec rfl rfl rfl rfl | apply gp_guard rfl rfl rfl rfl | fail) | refine p_cP (events3 x.lp x.lc 20000 x.L hAi.l (by decide) hAi.ll hAi.lo) hd hk (fun _ _ => ?_) | refine p_cP (streams3 x.sp x.sc 20000 x.S hAi.s hAi.str (by decide) hAi.sl) hd hk (fun _ _ => ?_))
      | refine gp_two ?_ ?_ | refine gp_done hd hk ?_ | intro _ | refine p_ta hd hk (fun _ _ _ hd hk => ?_) | refine p_ts hd hk (fun _ hd hk => ?_))
    rename_i q1 hq1 q2 hq2 rb
    obtain ⟨q10, q11, q12⟩ := hq1
    obtain ⟨q20, q21, q2b⟩ := hq2
    have hkl := hAi.kl
    have h3 := sum_up m [(x.key.size : Int), q1, q2, 5] (by simp; exact ⟨q10, q20⟩) hm0 (by omega)
    repeat (first
      | (refine gp_take ?_; first | refine pT ?_ | ((fail_if_success refine gp_lit rfl rfl rfl rfl ?_); first | apply gp_guard_dec rfl rfl rfl rfl | apply gp_guard rfl rfl rfl rfl | fail))
      | (refine gp_see ?_; first | refine p_f ?_ | refine pS ?_ | ((fail_if_success refine gp_lit rfl rfl rfl rfl ?_); first | apply gp_guard_dec rfl rfl rfl rfl | apply gp_guard rfl rfl rfl rfl | fail) | refine p_h (sum_row _ _ _ m [(x.key.size : Int), q1, q2, 5] ⟨hm0, by omega⟩ (by simp; omega) (by simp)) hd hk ?_)
      | (refine gp_one ?_; first | refine pO ?_ | refine p_n (fun _ => ?_) | refine p_app (fun _ _ => ?_) | refine p_b0 (fun _ => ?_) | ((fail_if_success refine gp_lit rfl rfl rfl rfl ?_); first | apply gp_guard_dec rfl rfl rfl rfl | apply gp_guard rfl rfl rfl rfl | fail) | refine p_k (sum_row _ _ _ m [(x.key.size : Int), q1, q2, 5] ⟨hm0, by omega⟩ (by simp; omega) (by simp)) ?_)
      | refine gp_two ?_ ?_ | refine gp_done hd hk ?_ | intro _ | refine p_ta hd hk (fun _ _ _ hd hk => ?_) | refine p_ts hd hk (fun _ hd hk => ?_))
    repeat (first
      | (refine g_ops ?_; first | refine sO ?_ | refine s_n (fun _ => ?_) | refine s_app (fun _ _ => ?_) | refine s_b0 (fun _ => ?_) | ((fail_if_success refine g_lit rfl rfl rfl ?_); first | apply g_partM rfl rfl rfl | apply g_partMB rfl rfl rfl | fail))
      | refine gS ?_ | exact s_m | intro _)
    refine g_cond_dec rfl (fun h4 => ?_) (fun h4 => ?_)
    · repeat (first
        | (refine g_ops ?_; first | refine sO ?_ | refine s_n (fun _ => ?_) | refine s_app (fun _ _ => ?_) | refine s_b0 (fun _ => ?_) | ((fail_if_success refine g_lit rfl rfl rfl ?_); first | apply g_partM rfl rfl rfl | apply g_partMB rfl rfl rfl | fail))
        | refine gS ?_ | exact s_m | intro _)
      exact s_r false (hx := fun h => by cases h)
    · have g0 := h3.2.2 (by omega)
      have g5 := sumF_eq [(x.key.size : Int), q1, q2, 5] m (by simp; exact ⟨q10, q20⟩) hm0 (by omega) (by omega)
      have g6 : ([(x.key.size : Int), q1, q2, 5] : List Int).sum = (x.key.size : Int) + (q1 + (q2 + 5)) := by simp
      have htk : l.take (i + 1) = l.take i ++ [x] := by rw [List.take_succ_eq_append_getElem hi', hx]
      have g7 : sumW (l.take (i + 1)) = sumW (l.take i) + wStep x := by
        rw [htk]; simp [sumW]
      rw [g6] at g5
      obtain ⟨q13, q14⟩ := q12 (by omega)
      obtain ⟨q22, q23⟩ := q2b (by omega)
      have hB : StepB x := ⟨by omega, fun e he => by have := q14 e he; exact ⟨by omega, by omega⟩, fun y hy => (q23 y hy).mono (by omega)⟩
      repeat (first
        | (refine g_ops ?_; first | refine sO ?_ | refine s_n (fun _ => ?_) | refine s_app (fun _ _ => ?_) | refine s_b0 (fun _ => ?_) | ((fail_if_success refine g_lit rfl rfl rfl ?_); first | apply g_partM rfl rfl rfl | apply g_partMB rfl rfl rfl | fail))
        | refine gS ?_ | exact s_m | intro _)
      refine gA ⟨i + 1, sumF m [(x.key.size : Int), q1, q2, 5]⟩ (by simp only; omega) ⟨hi', by simp only; omega, by simp only; omega, by simp only; unfold wStep at g7; rw [g7]; push_cast; omega, fun y hy => ?_⟩
      simp only at hy
      rw [htk] at hy
      rcases List.mem_append.1 hy with hy | hy
      · exact hm3 y hy
      · rw [List.mem_singleton.1 hy]; exact hB
  · obtain rfl : i = l.length := by omega
    repeat (first
      | (refine g_ops ?_; first | refine sO ?_ | refine s_n (fun _ => ?_) | refine s_app (fun _ _ => ?_) | refine s_b0 (fun _ => ?_) | ((fail_if_success refine g_lit rfl rfl rfl ?_); first | apply g_partM rfl rfl rfl | apply g_partMB rfl rfl rfl | fail))
      | refine gS ?_ | exact s_m | intro _)
    exact s_r (decide ((l.length : Int) ≤ 80)) (hx := fun h => by
      have h' := of_decide_eq_true h
      rw [List.take_length] at hm2 hm3
      exact ⟨by omega, by omega, hm3⟩)
end Go.Proofs.YtcgmliaahdpmcaaGreatDoor


namespace Go.Sl
theorem holds_pileO {Γ : Ctx} {w : World} {L R R1 : List Chunk} {H : HP} {p : Option Addr} {m c n : Nat} {xs : List Value} {e : TypeId} (hh : Holds Γ L w) (s1 : Sel L (.own p m c n xs e) R1) (s2 : Sel R1 (Pile H) R) : ∃ H', HP.sub H H' ∧ SlAt (Pile H') n p m xs ∧ Holds Γ (Pile H' :: R) w := by
  have hs := hh.take (Take.cons s1 (Take.cons s2 .nil))
  obtain ⟨hp, hdj, hsub, h1, r1, dj1, a1, a2, hc1, h2, r2, dj2, b1, b2, hc2, hr⟩ := hs.own
  have hH : h2 = H := hc2
  subst hH
  have hd12 : HP.disj h1 h2 := (HP.disj_sub dj1.symm b1).symm
  have hd1r : HP.disj h1 r2 := (HP.disj_sub dj1.symm b2).symm
  refine ⟨HP.union h1 h2, HP.sub_union_right hd12, ?_, ⟨hs.os, hs.tape, hs.output, hs.frz, hs.frame, hp, hdj, hsub, HP.union h1 h2, r2, HP.disj_union hd1r dj2, HP.union_sub a1 (b1.trans a2), b2.trans a2, rfl, hr⟩⟩
  obtain ⟨⟨hl, ho⟩, hcase⟩ := hc1
  refine ⟨hl, ho, ?_, fun j v hv => ?_⟩
  · rintro rfl
    rcases hcase with ⟨e1, _⟩ | ⟨b, junk, e1, _⟩
    · exact e1
    · cases e1
  · rcases hcase with ⟨e1, _⟩ | ⟨b, junk, e1, e3, e4, e2⟩
    · have : xs = [] := List.eq_nil_of_length_eq_zero (by rw [hl, e1, Nat.zero_mul])
      subst this
      simp at hv
    · subst e1
      refine ⟨b, 0, rfl, fun hp' hc' => ?_⟩
      have hc'' : hp' = HP.union h1 h2 := hc'
      subst hc''
      refine ⟨_, _, _, HP.sub_union_left _ _ _ _ e2, rfl, ?_⟩
      have hj := (List.getElem?_eq_some_iff.1 hv).1
      simp only [List.getElem?_toArray, Nat.zero_add]
      rw [List.getElem?_append_left hj]
      exact hv
theorem does_own {P : Program} {f : FuncId} {args : List Value} {X : Type} {A : List Chunk} {ret : X → Value} {B : HP → X → List Chunk} {φ : X → Prop} {H : HP} {p : Option Addr} {m c n : Nat} {xs : List Value} {e : TypeId}
    (d : ∀ H', HP.sub H H' → SlAt (Pile H') n p m xs → Does P f args (Pile H' :: A) ret (B H') φ) : Does P f args (.own p m c n xs e :: Pile H :: A) (X := HP × X) (fun x => ret x.2) (fun x => B x.1 x.2) (fun x => HP.sub H x.1 ∧ φ x.2) := fun Γ w hh => by
  obtain ⟨H', h1, h2, h3⟩ := holds_pileO hh .here .here
  exact (d H' h1 h2 Γ w h3).mono fun e w' ⟨y, hy, he, hB⟩ => ⟨(H', y), ⟨h1, hy⟩, he, hB⟩
end Go.Sl
namespace Go.Proofs.YtcgmliaahdpmcaaGreatDoor
open Go.Sl facts
theorem whole_sm {y : StrV} (h : wholeB y = true) : StrSm y := by
  obtain ⟨h1, h2, h3, _⟩ := (whole_iff y).1 h
  refine ⟨by have := (name_size h1).2; omega, fun e he => ?_, fun k hk => ?_⟩
  · have h4 := (Ev.ok_iff e).1 (h2 e he).1
    have := (name_size h4.1).2
    exact ⟨by omega, by omega⟩
  · have h4 := h3 k hk
    simp only [Kn.ok, Bool.and_eq_true, decide_eq_true_eq] at h4
    have := key_size h4.2.1
    omega
structure Pt where
  t : Nat
  mp : Option Nat
  T : List Sm
  m : Nat
  q : Option Addr
  c : Nat
  ds : List StrV
  H : HP
abbrev ptL (s : Pt) : List Chunk := tabL s.t s.mp s.T ++ [mrow s.m s.q s.ds.length s.c, Pile s.H]
structure InvP (n : Nat) (s : Pt) : Prop where
  tw : TW s.T n n
  tk : Taken s.T s.ds
  at_ : MAt (Pile s.H) s.q s.ds
theorem InvP.each {n : Nat} {s : Pt} (h : InvP n s) : ∀ y ∈ s.ds, StrSm y ∧ y.evs.length ≤ n ∧ y.ks.length ≤ n := fun y hy => by
  obtain ⟨h1, h2, h3⟩ := (h.tk.put h.tw.str).2 y hy
  exact ⟨whole_sm h3, h1, h2⟩
theorem InvP.len {n : Nat} {s : Pt} (h : InvP n s) : s.ds.length ≤ n := by rw [h.tk.len]; exact h.tw.len
theorem dOf_mem {ds : List StrV} {nm : ByteArray} {x : StrV} (h : dOf ds nm = some x) : x ∈ ds := by
  cases hf : fi ds nm with
  | none => rw [dOf_none hf] at h; cases h
  | some k =>
    obtain ⟨hk, e1, _⟩ := dOf_some hf
    rw [e1] at h; cases h
    exact List.getElem_mem _
theorem InvP.dEvs {n : Nat} {s : Pt} (h : InvP n s) (nm : ByteArray) : (dEvs s.ds nm).length ≤ n ∧ (dKs s.ds nm).length ≤ n := by
  unfold Go.Proofs.YtcgmliaahdpmcaaGreatDoor.dEvs dKs
  cases hd : dOf s.ds nm with
  | none => simp
  | some x => exact (h.each x (dOf_mem hd)).2
def AppP (evs : List Ev) (key : ByteArray) (T : List Sm) (e : Int) (T' : List Sm) : Prop :=
  (mayB evs key = false ∧ e = 1 ∧ T' = T) ∨ (mayB evs key = true ∧ ∃ e0 l, evs = e0 :: l ∧ ((goesB evs (verOf T e0.st) = false ∧ e = 5 ∧ T' = T) ∨
    (goesB evs (verOf T e0.st) = true ∧ e = 0 ∧ ∃ x : Sm, T' = tput T x ∧ x.nm = e0.st ∧ x.evs = oldE T e0.st ++ evs ∧ x.ks = newK (oldK T e0.st) key e0.ver e0.s)))
theorem append_b {H : HP} (hU : UtH H) (p : Option Addr) (c : Nat) (evs : List Ev) (hS : SlAt (Pile H) 7 p evs.length (evs.flatMap Ev.cells)) (hO : EvsOk evs) (hl : evs.length ≤ 20000) (t : Nat) (mp : Option Nat) (T : List Sm) (key : ByteArray) (hk : key.size ≤ 9223372036854775807) {n : Nat} (hT : TW T n n) (hn : n ≤ 90000000) :
    Does Tryz.prog 8 [ptr t, .string key, .slice p evs.length c] (tabL t mp T ++ [Pile H]) (X := Int × GX) (fun x => int x.1) (fun y => tabL t y.2.mp y.2.T ++ [Pile H]) (fun y => AppP evs key T y.1 y.2.T) := by
  have hver : ∀ nm, verOf T nm ≤ n := fun nm => by
    unfold verOf
    cases hf : fnd T nm with
    | none => simp
    | some x =>
      obtain ⟨_, A, B, e, _⟩ := fnd_split hf
      exact (hT.str x (by rw [e]; simp)).2.1
  by_cases hm : mayB evs key = true
  · obtain ⟨e0, l, he⟩ : ∃ e0 l, evs = e0 :: l := by
      cases evs with
      | nil => simp [mayB] at hm
      | cons e l => exact ⟨e, l, rfl⟩
    have hfs : firstSt evs = e0.st := by rw [he]; rfl
    have ho := hver e0.st
    by_cases hg : goesB evs (verOf T e0.st) = true
    · have hT2 : ∀ x ∈ T, x.evs.length ≤ 100000000 := fun x hx => by have := (hT.str x hx).2.1; omega
      exact does_weak (append_yes hU p c evs hS hO (by omega) t mp T key hk e0 ⟨l, he⟩ hm hg hT2) (fun y => (0, ⟨0, some y.m, tput T y.x⟩)) (fun y => rfl) (fun y _ h => h) (fun y hy => .inr ⟨hm, e0, l, he, .inr ⟨hg, rfl, y.x, rfl, hy.1, hy.2.1, hy.2.2⟩⟩)
    · have hg' : goesB evs (verOf T e0.st) = false := by simpa using hg
      exact does_weak (append_ver hU p c evs hS hO (by omega) t mp T key hk hm (by rw [hfs]; exact hg') (by rw [hfs]; omega)) (fun _ => (5, ⟨0, mp, T⟩)) (fun y => rfl) (fun y _ h => h) (fun y hy => .inr ⟨hm, e0, l, he, .inl ⟨hg', rfl, rfl⟩⟩)
  · have hm' : mayB evs key = false := by simpa using hm
    exact does_weak (append_no hU p c evs hS hO (by omega) t mp T key hk hm') (fun _ => (1, ⟨0, mp, T⟩)) (fun y => rfl) (fun y _ h => h) (fun y hy => .inl ⟨hm', rfl, rfl⟩)
theorem app_rel {evs : List Ev} {key : ByteArray} {T T' : List Sm} {ds ds' : List StrV} {e e' : Int} {n : Nat} (hT : Taken T ds) (hW : TW T n n) (hp : AppP evs key T e T') (hr : AppR evs key ds e' ds') : e = e' ∧ Taken T' ds' ∧ TW T' (n + (evs.length + 1)) (n + (evs.length + 1)) := by
  rcases hp with ⟨a1, a2, a3⟩ | ⟨a1, e0, l, he, hp⟩ <;> rcases hr with ⟨b1, b2, b3⟩ | ⟨b1, e0', l', he', hr⟩
  · subst a2 a3 b2 b3; exact ⟨rfl, hT, hW.mono (by omega) (by omega)⟩
  · rw [a1] at b1; cases b1
  · rw [a1] at b1; cases b1
  · obtain ⟨rfl, rfl⟩ : e0 = e0' ∧ l = l' := by rw [he] at he'; simpa using he'
    have hv := (hT.evs e0.st).2.2
    rw [hv] at hr
    rcases hp with ⟨p1, p2, p3⟩ | ⟨p1, p2, x, p3, p4, p5, p6⟩ <;> rcases hr with ⟨r1, r2, r3⟩ | ⟨r1, r2, y, r3, r4, r5, r6⟩
    · subst p2 p3 r2 r3; exact ⟨rfl, hT, hW.mono (by omega) (by omega)⟩
    · rw [p1] at r1; cases r1
    · rw [p1] at r1; cases r1
    · subst p2 p3 r2 r3
      exact ⟨rfl, hT.ins (hT.app p4 p5 p6 r4 r5 r6), (hW.put he a1 p1 p4 p5 p6).mono (by omega) (by omega)⟩
def sD (z : StrD) : StrD := (z.1, z.2.1, sortK z.2.2)
theorem put_rel : ∀ (zs : List StrD) (ss T : List Sm) (ys ds : List StrV), ss.map Sm.d = zs → ys.map StrV.d = zs.map sD → (∀ z ∈ zs, (z.2.2.map Kn.key).Nodup) → Taken T ds → Taken (ss.foldl tput T) (ys.foldl (putS false) ds)
  | [], ss, T, ys, ds, h1, h2, _, hT => by
    obtain rfl : ss = [] := by simpa using h1
    obtain rfl : ys = [] := by simpa using h2
    exact hT
  | z :: zs, ss, T, ys, ds, h1, h2, hn, hT => by
    obtain ⟨s, ss, rfl⟩ : ∃ s ss', ss = s :: ss' := by cases ss with
      | nil => simp at h1
      | cons s ss => exact ⟨s, ss, rfl⟩
    obtain ⟨y, ys, rfl⟩ : ∃ y ys', ys = y :: ys' := by cases ys with
      | nil => simp at h2
      | cons s ss => exact ⟨s, ss, rfl⟩
    simp only [List.map_cons, List.cons.injEq] at h1 h2
    obtain ⟨e1, h1⟩ := h1
    obtain ⟨e2, h2⟩ := h2
    have hz := hn z (List.mem_cons_self ..)
    simp only [Sm.d] at e1
    simp only [StrV.d, sD] at e2
    subst e1
    simp only [Prod.mk.injEq] at e2
    obtain ⟨f1, f2, f3⟩ := e2
    simp only [List.foldl_cons]
    exact put_rel zs ss _ ys _ h1 h2 (fun z hz => hn z (List.mem_cons_of_mem _ hz)) (hT.ins ⟨f1, f2, by rw [f3]; exact sortK_perm _, by rw [f3]; exact sortK_sort _ hz⟩)
theorem TW.fold {a b : Nat} : ∀ (ss T : List Sm), (T.map Sm.nm).Nodup → T.length + ss.length ≤ a → (∀ s ∈ T, wholeB s.str = true ∧ s.evs.length ≤ b ∧ s.ks.length ≤ a) → (∀ s ∈ ss, wholeB s.str = true ∧ s.evs.length ≤ b ∧ s.ks.length ≤ a) → TW (ss.foldl tput T) a b
  | [], T, h1, h2, h3, _ => ⟨h1, by simpa using h2, h3⟩
  | s :: ss, T, h1, h2, h3, h4 => by
    rw [List.foldl_cons]
    have hl := tput_len (T := T) (x := s)
    simp only [List.length_cons] at h2
    exact TW.fold ss _ (tput_nodup h1) (by omega) (fun z hz => by
      rcases tput_mem hz with rfl | hz
      · exact h4 z (List.mem_cons_self ..)
      · exact h3 z hz) (fun z hz => h4 z (List.mem_cons_of_mem _ hz))
theorem str_d (s : Sm) : s.str.d = s.d := rfl
theorem TW.puts {T ss : List Sm} {xs : List StrV} {n w : Nat} (h : TW T n n) (hp : putB xs = true) (hd : ss.map Sm.d = xs.map StrV.d) (hw : xs.length ≤ w ∧ ∀ x ∈ xs, x.evs.length ≤ w ∧ x.ks.length ≤ w) : TW (ss.foldl tput T) (n + w) (n + w) := by
  have hl : ss.length = xs.length := by simpa using congrArg List.length hd
  unfold putB at hp
  simp only [Bool.and_eq_true, List.all_eq_true] at hp
  refine TW.fold ss T h.nd (by have := h.len; omega) (fun s hs => by have := h.str s hs; exact ⟨this.1, by omega, by omega⟩) (fun s hs => ?_)
  have hm : s.d ∈ xs.map StrV.d := by rw [← hd]; exact List.mem_map.2 ⟨s, hs, rfl⟩
  obtain ⟨x, hx, e⟩ := List.mem_map.1 hm
  have h1 := hp.2 x hx
  have h2 := hw.2 x hx
  have e' : s.str.d = x.d := by rw [str_d]; exact e.symm
  refine ⟨by rw [whole_d e']; exact h1, ?_, ?_⟩
  · have : s.evs = x.evs := by simp only [StrV.d, Sm.d, Prod.mk.injEq] at e; exact e.2.1.symm
    rw [this]; omega
  · have : s.ks = x.ks := by simp only [StrV.d, Sm.d, Prod.mk.injEq] at e; exact e.2.2.symm
    rw [this]; omega
theorem wT_mem : ∀ {l : List StrV} {y : StrV}, y ∈ l → y.evs.length + y.ks.length ≤ wT l
  | x :: l, y, h => by
    simp only [wT]
    rcases List.mem_cons.1 h with rfl | h
    · omega
    · have := wT_mem h; omega
attribute [local irreducible] Code.wp wpList Exit.then Exit.inBlock bodyPost Back MidQ G GP QStep VStep CStep SStep Does Post Reads
theorem same_ (s : Pt) {n : Nat} (hI : InvP n s) (hn : n ≤ 20000) : Does Tryz.prog 17 [ptr s.t, ptr s.m] (ptL s) (X := HP) (fun _ => .bool true) (fun H' => ptL { s with H := H' }) (fun H' => HP.sub s.H H') := by
  have hTB := hI.tw.big (by omega) (by omega)
  have htk := hI.tk
  have hat := hI.at_
  have hlen := hI.len
  have heach := hI.each
  obtain ⟨t, mp, T, m, q, c, ds, H⟩ := s
  dsimp only at hTB htk hat hlen heach ⊢
  refine fn_intro Tryz.func17 rfl Tryz.ntmps17 rfl (by simp only [argFr, Nat.zero_add, Nat.reduceAdd]; rfl) (fun Γ => ?_)
  repeat (first
    | (refine g_ops ?_; first | refine sO ?_ | refine s_n (fun _ => ?_) | refine s_app (fun _ _ => ?_) | refine s_b0 (fun _ => ?_) | ((fail_if_success refine g_lit rfl rfl rfl ?_); first | apply g_partM rfl rfl rfl | apply g_partMB rfl rfl rfl | fail))
    | refine gS ?_ | exact s_m | intro _)
  refine g_draw (.take 0 (.take 3 (.take 4 (.take 5 (.see 6 [] (.one 1 (.one 2 (.one 7 (.take 8 .done))))))))) (by kernel_rfl) (C := [mrow m q ds.length c]) (by (repeat (first | exact Take.nil | apply Take.cons | exact Sel.here | apply Sel.there)); first | done | fail) (fun k hd hk => ?_)
  repeat (first
    | (refine gp_take ?_; first | refine pT ?_ | ((fail_if_success refine gp_lit rfl rfl rfl rfl ?_); first | apply gp_guard_dec rfl rfl rfl rfl | apply gp_guard rfl rfl rfl rfl | fail))
    | (refine gp_see ?_; first | refine p_f ?_ | refine pS ?_ | ((fail_if_success refine gp_lit rfl rfl rfl rfl ?_); first | apply gp_guard_dec rfl rfl rfl rfl | apply gp_guard rfl rfl rfl rfl | fail) | refine p_h (allF) hd hk ?_)
    | (refine gp_one ?_; first | refine pO ?_ | refine p_n (fun _ => ?_) | refine p_app (fun _ _ => ?_) | refine p_b0 (fun _ => ?_) | ((fail_if_success refine gp_lit rfl rfl rfl rfl ?_); first | apply gp_guard_dec rfl rfl rfl rfl | apply gp_guard rfl rfl rfl rfl | fail) | refine p_k (allF) ?_ | refine p_c (take t mp T Rg.all hTB) (fun _ _ => ?_))
    | refine gp_two ?_ ?_ | refine gp_done hd hk ?_ | intro _ | refine p_ta hd hk (fun _ _ _ hd hk => ?_) | refine p_ts hd hk (fun _ hd hk => ?_))
  rename_i y hy
  obtain ⟨wp, wc, ws, H1⟩ := y
  obtain ⟨sb1, wat, weach, wnames⟩ := hy
  dsimp only [List.cons_append, List.nil_append] at sb1 wat weach wnames ⊢
  have hTk := taken_of weach wnames
  rw [all_filter] at hTk
  have hdd := hTk.uniq htk.nd htk
  have hwl : ws.length = ds.length := by simpa using congrArg List.length hdd
  have hss := does_own (H := H1) (p := wp) (m := ws.length) (c := wc) (n := 3) (xs := ws.flatMap StrV.cells) (e := 60) (A := []) (fun H2 hs2 hA2 => sameStreams wp q wc c ws ds hA2 (fun y hy => (wat y hy).grow hs2) (hat.grow (sb1.trans hs2)).sl (hat.grow (sb1.trans hs2)).at_ hdd (by omega) (fun y hy => by
    obtain ⟨z, hz, e⟩ := List.mem_map.1 (show y.d ∈ ds.map StrV.d by rw [← hdd]; exact List.mem_map.2 ⟨y, hy, rfl⟩)
    have h3 := heach z hz
    simp only [StrV.d, Prod.mk.injEq] at e
    rw [← e.2.1, ← e.2.2]
    exact ⟨by omega, by omega⟩))
  repeat (first
    | (refine gp_take ?_; first | refine pT ?_ | ((fail_if_success refine gp_lit rfl rfl rfl rfl ?_); first | apply gp_guard_dec rfl rfl rfl rfl | apply gp_guard rfl rfl rfl rfl | fail))
    | (refine gp_see ?_; first | refine p_f ?_ | refine pS ?_ | ((fail_if_success refine gp_lit rfl rfl rfl rfl ?_); first | apply gp_guard_dec rfl rfl rfl rfl | apply gp_guard rfl rfl rfl rfl | fail))
    | (refine gp_one ?_; first | refine pO ?_ | refine p_n (fun _ => ?_) | refine p_app (fun _ _ => ?_) | refine p_b0 (fun _ => ?_) | ((fail_if_success refine gp_lit rfl rfl rfl rfl ?_); first | apply gp_guard_dec rfl rfl rfl rfl | apply gp_guard rfl rfl rfl rfl | fail) | refine p_c (hss) (fun _ _ => ?_))
    | refine gp_two ?_ ?_ | refine gp_done hd hk ?_ | intro _ | refine p_ta hd hk (fun _ _ _ hd hk => ?_) | refine p_ts hd hk (fun _ hd hk => ?_))
  rename_i z hz
  obtain ⟨H2, _⟩ := z
  obtain ⟨sb2, _⟩ := hz
  dsimp only [List.cons_append, List.nil_append] at sb2 ⊢
  repeat (first
    | (refine gp_take ?_; first | refine pT ?_ | ((fail_if_success refine gp_lit rfl rfl rfl rfl ?_); first | apply gp_guard_dec rfl rfl rfl rfl | apply gp_guard rfl rfl rfl rfl | fail))
    | (refine gp_see ?_; first | refine p_f ?_ | refine pS ?_ | ((fail_if_success refine gp_lit rfl rfl rfl rfl ?_); first | apply gp_guard_dec rfl rfl rfl rfl | apply gp_guard rfl rfl rfl rfl | fail))
    | (refine gp_one ?_; first | refine pO ?_ | refine p_n (fun _ => ?_) | refine p_app (fun _ _ => ?_) | refine p_b0 (fun _ => ?_) | ((fail_if_success refine gp_lit rfl rfl rfl rfl ?_); first | apply gp_guard_dec rfl rfl rfl rfl | apply gp_guard rfl rfl rfl rfl | fail))
    | refine gp_two ?_ ?_ | refine gp_done hd hk ?_ | intro _ | refine p_ta hd hk (fun _ _ _ hd hk => ?_) | refine p_ts hd hk (fun _ hd hk => ?_))
  repeat (first
    | (refine g_ops ?_; first | refine sO ?_ | refine s_n (fun _ => ?_) | refine s_app (fun _ _ => ?_) | refine s_b0 (fun _ => ?_) | ((fail_if_success refine g_lit rfl rfl rfl ?_); first | apply g_partM rfl rfl rfl | apply g_partMB rfl rfl rfl | fail))
    | refine gS ?_ | exact s_m | intro _)
  exact gR H2 (sb1.trans sb2)
end Go.Proofs.YtcgmliaahdpmcaaGreatDoor
