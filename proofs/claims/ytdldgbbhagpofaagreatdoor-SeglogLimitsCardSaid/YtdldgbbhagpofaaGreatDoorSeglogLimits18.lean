/- Contracts and laws that the proof stands on. -/
import Derived.Test.YtdldgbbhagpofaaGreatDoorSeglogLimits17
set_option linter.unusedSimpArgs false
set_option linter.unusedVariables false
namespace Go.Proofs.YtdldgbbhagpofaaGreatDoor
open Go.Sl facts
structure LmX where
  q : Option Addr
  c : Nat
  ws : List BV
  H : HP
theorem sumL_zeros {m : Nat} : ∀ {ws : List BV}, (∀ r ∈ ws, r.l = List.replicate m 0) → sumL ws = ws.length * m
  | [], _ => by simp [sumL]
  | r :: t, h => by
    have h1 := sumL_zeros (m := m) (ws := t) (fun x hx => h x (List.mem_cons_of_mem _ hx))
    have h2 := h r (by simp)
    unfold sumL at h1 ⊢
    rw [List.map_cons, List.sum_cons, h1, h2, List.length_cons, List.length_replicate, Nat.succ_mul]
    omega
attribute [local irreducible] Code.wp wpList Exit.then Exit.inBlock bodyPost Back MidQ G GP QStep VStep CStep SStep Does Post Reads
attribute [local irreducible] Begin RPost MPost frameB recB partB pbytes
theorem limits11 (n size : Int) : Does1 Tryz.prog 3 [int n, int size] [] (.bool true) := by
  have hm : n < 1 ∨ 105 < n ∨ size < 0 ∨ 70000 < size ∨ (0 ≤ n * size ∧ n * size ≤ 7350000) := by
    by_cases h1 : n < 1
    · exact .inl h1
    by_cases h2 : 105 < n
    · exact .inr (.inl h2)
    by_cases h3 : size < 0
    · exact .inr (.inr (.inl h3))
    by_cases h4 : 70000 < size
    · exact .inr (.inr (.inr (.inl h4)))
    have h5 : n * size ≤ 105 * 70000 := Int.mul_le_mul (by omega) (by omega) (by omega) (by omega)
    have h6 : 0 ≤ n * size := Int.mul_nonneg (by omega) (by omega)
    exact .inr (.inr (.inr (.inr ⟨h6, by omega⟩)))
  refine fn_intro Tryz.func3 rfl Tryz.ntmps3 rfl (by simp only [argFr, Nat.zero_add, Nat.reduceAdd]; rfl) (fun Γ => ?_)
  by_cases hc : n < 1 ∨ 105 < n ∨ size < 0 ∨ 70000 < size ∨ 200000 < n * size
  · repeat (first
      | (refine g_ops ?_; first | refine sO ?_ | refine s_n (fun _ => ?_) | refine s_appB (fun _ _ => ?_) | refine s_app (fun _ _ => ?_) | refine s_b0 (fun _ => ?_) | ((fail_if_success refine g_lit rfl rfl rfl ?_); first | apply g_partM rfl rfl rfl | apply g_partMB rfl rfl rfl | fail))
      | apply g_regB (id := 1) 31 | apply g_regB (id := 12) 61 | apply g_regB (id := 13) 4 | apply g_regB (id := 14) 4 | refine gS ?_ | exact s_m | intro _
      | (refine gp_take ?_; first | refine pT ?_ | ((fail_if_success refine gp_lit rfl rfl rfl rfl ?_); first | apply gp_guard_dec rfl rfl rfl rfl | apply gp_guard rfl rfl rfl rfl | fail))
      | (refine gp_see ?_; first | refine p_f ?_ | refine pS ?_ | ((fail_if_success refine gp_lit rfl rfl rfl rfl ?_); first | apply gp_guard_dec rfl rfl rfl rfl | apply gp_guard rfl rfl rfl rfl | fail))
      | (refine gp_one ?_; first | refine pO ?_ | refine p_n (fun _ => ?_) | refine p_appB (fun _ _ => ?_) | refine p_app (fun _ _ => ?_) | refine p_b0 (fun _ => ?_) | ((fail_if_success refine gp_lit rfl rfl rfl rfl ?_); first | apply gp_guard_dec rfl rfl rfl rfl | apply gp_guard rfl rfl rfl rfl | fail))
      | refine gp_two ?_ ?_ | refine gp_done hd hk ?_ | intro _ | refine p_ta hd hk (fun _ _ _ hd hk => ?_) | refine p_ts hd hk (fun _ hd hk => ?_))
    refine g_as 31 (v' := .bool true) rfl (congrArg Value.bool (by
      rcases hc with h | h | h | h | h <;> rw [decide_eq_true h] <;> simp)) ?_
    repeat (first
      | (refine g_ops ?_; first | refine sO ?_ | refine s_n (fun _ => ?_) | refine s_appB (fun _ _ => ?_) | refine s_app (fun _ _ => ?_) | refine s_b0 (fun _ => ?_) | ((fail_if_success refine g_lit rfl rfl rfl ?_); first | apply g_partM rfl rfl rfl | apply g_partMB rfl rfl rfl | fail) | refine s_k (awake_) ?_)
      | apply g_regB (id := 1) 31 | apply g_regB (id := 12) 61 | apply g_regB (id := 13) 4 | apply g_regB (id := 14) 4 | refine gS ?_ | exact s_m | intro _
      | (refine gp_take ?_; first | refine pT ?_ | ((fail_if_success refine gp_lit rfl rfl rfl rfl ?_); first | apply gp_guard_dec rfl rfl rfl rfl | apply gp_guard rfl rfl rfl rfl | fail))
      | (refine gp_see ?_; first | refine p_f ?_ | refine pS ?_ | ((fail_if_success refine gp_lit rfl rfl rfl rfl ?_); first | apply gp_guard_dec rfl rfl rfl rfl | apply gp_guard rfl rfl rfl rfl | fail) | refine p_h (awake_) hd hk ?_)
      | (refine gp_one ?_; first | refine pO ?_ | refine p_n (fun _ => ?_) | refine p_appB (fun _ _ => ?_) | refine p_app (fun _ _ => ?_) | refine p_b0 (fun _ => ?_) | ((fail_if_success refine gp_lit rfl rfl rfl rfl ?_); first | apply gp_guard_dec rfl rfl rfl rfl | apply gp_guard rfl rfl rfl rfl | fail) | refine p_k (awake_) ?_)
      | refine gp_two ?_ ?_ | refine gp_done hd hk ?_ | intro _ | refine p_ta hd hk (fun _ _ _ hd hk => ?_) | refine p_ts hd hk (fun _ hd hk => ?_))
    exact gR () trivial
  · have h1 : ¬ n < 1 := fun h => hc (.inl h)
    have h2 : ¬ 105 < n := fun h => hc (.inr (.inl h))
    have h3 : ¬ size < 0 := fun h => hc (.inr (.inr (.inl h)))
    have h4 : ¬ 70000 < size := fun h => hc (.inr (.inr (.inr (.inl h))))
    have h5 : ¬ 200000 < n * size := fun h => hc (.inr (.inr (.inr (.inr h))))
    obtain ⟨k, rfl⟩ : ∃ k : Nat, n = (k : Int) := ⟨n.toNat, by omega⟩
    obtain ⟨m, rfl⟩ : ∃ m : Nat, size = (m : Int) := ⟨size.toNat, by omega⟩
    have h5' : k * m ≤ 200000 := by
      have : ((k * m : Nat) : Int) ≤ 200000 := by rw [Int.natCast_mul]; omega
      omega
    repeat (first
      | (refine g_ops ?_; first | refine sO ?_ | refine s_n (fun _ => ?_) | refine s_appB (fun _ _ => ?_) | refine s_app (fun _ _ => ?_) | refine s_b0 (fun _ => ?_) | ((fail_if_success refine g_lit rfl rfl rfl ?_); first | apply g_partM rfl rfl rfl | apply g_partMB rfl rfl rfl | fail))
      | apply g_regB (id := 1) 31 | apply g_regB (id := 12) 61 | apply g_regB (id := 13) 4 | apply g_regB (id := 14) 4 | refine gS ?_ | exact s_m | intro _
      | (refine gp_take ?_; first | refine pT ?_ | ((fail_if_success refine gp_lit rfl rfl rfl rfl ?_); first | apply gp_guard_dec rfl rfl rfl rfl | apply gp_guard rfl rfl rfl rfl | fail))
      | (refine gp_see ?_; first | refine p_f ?_ | refine pS ?_ | ((fail_if_success refine gp_lit rfl rfl rfl rfl ?_); first | apply gp_guard_dec rfl rfl rfl rfl | apply gp_guard rfl rfl rfl rfl | fail))
      | (refine gp_one ?_; first | refine pO ?_ | refine p_n (fun _ => ?_) | refine p_appB (fun _ _ => ?_) | refine p_app (fun _ _ => ?_) | refine p_b0 (fun _ => ?_) | ((fail_if_success refine gp_lit rfl rfl rfl rfl ?_); first | apply gp_guard_dec rfl rfl rfl rfl | apply gp_guard rfl rfl rfl rfl | fail))
      | refine gp_two ?_ ?_ | refine gp_done hd hk ?_ | intro _ | refine p_ta hd hk (fun _ _ _ hd hk => ?_) | refine p_ts hd hk (fun _ hd hk => ?_))
    refine g_as 31 (v' := .bool false) rfl (congrArg Value.bool (by
      simp only [decide_eq_false h1, decide_eq_false h2, decide_eq_false h3, decide_eq_false h4, decide_eq_false h5, cond_false])) ?_
    repeat (first
      | (refine g_ops ?_; first | refine sO ?_ | refine s_n (fun _ => ?_) | refine s_appB (fun _ _ => ?_) | refine s_app (fun _ _ => ?_) | refine s_b0 (fun _ => ?_) | ((fail_if_success refine g_lit rfl rfl rfl ?_); first | apply g_partM rfl rfl rfl | apply g_partMB rfl rfl rfl | fail) | refine s_c (fresh0) (fun _ _ => ?_))
      | apply g_regB (id := 1) 31 | apply g_regB (id := 12) 61 | apply g_regB (id := 13) 4 | apply g_regB (id := 14) 4 | refine gS ?_ | exact s_m | intro _
      | (refine gp_take ?_; first | refine pT ?_ | ((fail_if_success refine gp_lit rfl rfl rfl rfl ?_); first | apply gp_guard_dec rfl rfl rfl rfl | apply gp_guard rfl rfl rfl rfl | fail))
      | (refine gp_see ?_; first | refine p_f ?_ | refine pS ?_ | ((fail_if_success refine gp_lit rfl rfl rfl rfl ?_); first | apply gp_guard_dec rfl rfl rfl rfl | apply gp_guard rfl rfl rfl rfl | fail))
      | (refine gp_one ?_; first | refine pO ?_ | refine p_n (fun _ => ?_) | refine p_appB (fun _ _ => ?_) | refine p_app (fun _ _ => ?_) | refine p_b0 (fun _ => ?_) | ((fail_if_success refine gp_lit rfl rfl rfl rfl ?_); first | apply gp_guard_dec rfl rfl rfl rfl | apply gp_guard rfl rfl rfl rfl | fail) | refine p_c (fresh0) (fun _ _ => ?_))
      | refine gp_two ?_ ?_ | refine gp_done hd hk ?_ | intro _ | refine p_ta hd hk (fun _ _ _ hd hk => ?_) | refine p_ts hd hk (fun _ hd hk => ?_))
    rename_i y _
    obtain ⟨d, lg⟩ := y
    dsimp only [List.cons_append, List.nil_append, List.append_nil]
    refine g_pileN ?_
    refine g_own_nil none 1 28 ?_
    refine g_loop (X := LmX) (fun y => [(0, int k), (1, int m), (4, .bool false), (6, ptr lg), (8, .slice y.q y.ws.length y.c), (9, int y.ws.length)])
      (fun y => lg0.L lg d false ++ bagL d 1048576 0 0 none 0 [] [.own y.q y.ws.length y.c 1 (y.ws.map BV.v) 28, Pile y.H])
      (fun y => y.ws.length ≤ k ∧ BtsAt y.H y.ws ∧ ∀ r ∈ y.ws, r.l = List.replicate m 0) (fun y => k - y.ws.length) ⟨none, 0, [], fun _ => none⟩ ⟨Nat.zero_le _, fun r hr => by simp at hr, fun r hr => by simp at hr⟩ (by (repeat (first | exact FrSub.nil | refine FrSub.cons rfl ?_)); first | done | fail) (by (repeat (first | exact Take.nil | apply Take.cons | exact Sel.here | apply Sel.there)); first | done | fail) (fun y hy => ?_)
    obtain ⟨q, c, ws, H⟩ := y
    obtain ⟨hle, hB, hZ⟩ := hy
    dsimp only at hle hB hZ ⊢
    repeat (first
      | (refine g_ops ?_; first | refine sO ?_ | refine s_n (fun _ => ?_) | refine s_appB (fun _ _ => ?_) | refine s_app (fun _ _ => ?_) | refine s_b0 (fun _ => ?_) | ((fail_if_success refine g_lit rfl rfl rfl ?_); first | apply g_partM rfl rfl rfl | apply g_partMB rfl rfl rfl | fail))
      | refine gS ?_ | exact s_m | intro _)
    refine g_cond_dec rfl (fun h => ?_) (fun h => ?_)
    · repeat (first
        | (refine g_ops ?_; first | refine sO ?_ | refine s_n (fun _ => ?_) | refine s_appB (fun _ _ => ?_) | refine s_app (fun _ _ => ?_) | refine s_b0 (fun _ => ?_) | ((fail_if_success refine g_lit rfl rfl rfl ?_); first | apply g_partM rfl rfl rfl | apply g_partMB rfl rfl rfl | fail))
        | refine gS ?_ | exact s_m | intro _)
      refine g_c (cs_make8 (m := m) inferInstance inferInstance inferInstance inferInstance rfl rfl (by omega) (by decide)) rfl rfl (fun zb _ => ?_)
      refine g_pile (p := some ⟨zb, 0, none⟩) (m := m) (c := m) (n := 1) (xs := cells8 (List.replicate m 0)) (e := 5) (by (repeat (first | exact Sel.here | apply Sel.there)); first | done | fail) (by (repeat (first | exact Sel.here | apply Sel.there)); first | done | fail) (fun H2 hs2 hA2 => ?_)
      repeat (first
        | (refine g_ops ?_; first | refine sO ?_ | refine s_n (fun _ => ?_) | refine s_appB (fun _ _ => ?_) | refine s_app (fun _ _ => ?_) | refine s_b0 (fun _ => ?_) | ((fail_if_success refine g_lit rfl rfl rfl ?_); first | apply g_partM rfl rfl rfl | apply g_partMB rfl rfl rfl | fail))
        | refine gS ?_ | exact s_m | intro _)
      rename_i rb q' c'
      have hlr : (ws ++ [BV.mk (some ⟨zb, 0, none⟩) (List.replicate m 0) m]).length = ws.length + 1 := by simp
      have hmr : (ws ++ [BV.mk (some ⟨zb, 0, none⟩) (List.replicate m 0) m]).map BV.v = ws.map BV.v ++ [.slice (some ⟨zb, 0, none⟩) m m] := by simp [BV.v]
      rw [← hlr, ← hmr]
      refine g_as 9 (v' := int ((ws.length + 1 : Nat) : Int)) rfl (congrArg (Value.int .i64) (by push_cast; rfl)) ?_
      rw [← hlr]
      exact g_again ⟨q', c', ws ++ [BV.mk (some ⟨zb, 0, none⟩) (List.replicate m 0) m], H2⟩ (by simp only; omega) ⟨by simp only; omega, fun z hz => by
        rcases List.mem_append.1 hz with h | h
        · exact BtAt.grow (hB z h) hs2
        · rw [List.mem_singleton.1 h]
          exact btAt_of (by simp) hA2, fun z hz => by
        rcases List.mem_append.1 hz with h | h
        · exact hZ z h
        · rw [List.mem_singleton.1 h]⟩ (by (repeat (first | exact FrSub.nil | refine FrSub.cons rfl ?_)); first | done | fail) (by (repeat (first | exact Take.nil | apply Take.cons | exact Sel.here | apply Sel.there)); first | done | fail)
    · obtain hkl : ws.length = k := by omega
      refine g_pile (p := q) (m := ws.length) (c := c) (n := 1) (xs := ws.map BV.v) (e := 28) (by (repeat (first | exact Sel.here | apply Sel.there)); first | done | fail) (by (repeat (first | exact Sel.here | apply Sel.there)); first | done | fail) (fun H2 hs2 hA2 => ?_)
      have hR : RecsAt H2 q ws := ⟨hA2, fun r hr => BtAt.grow (hB r hr) hs2⟩
      have hsum := sumL_zeros hZ
      have hln := len_ lg d none 0 0 (.slice none 0 0) 0 false false
      by_cases hbig : 100 < k ∨ 65536 < m
      · have hap := app_big lg q c ws hR (by omega) (by omega) (by
          rcases hbig with h | h
          · exact .inl (by omega)
          · refine .inr (List.any_eq_true.2 ⟨ws[0]'(by omega), List.getElem_mem _, ?_⟩)
            have := hZ (ws[0]'(by omega)) (List.getElem_mem _)
            simp only [bigB, this, List.length_replicate, decide_eq_true_eq]
            exact h)
        dsimp only [LG.row, List.length_nil]
        repeat (first
          | (refine g_ops ?_; first | refine sO ?_ | refine s_n (fun _ => ?_) | refine s_appB (fun _ _ => ?_) | refine s_app (fun _ _ => ?_) | refine s_b0 (fun _ => ?_) | ((fail_if_success refine g_lit rfl rfl rfl ?_); first | apply g_partM rfl rfl rfl | apply g_partMB rfl rfl rfl | fail) | refine s_k (hap) ?_)
          | apply g_regB (id := 1) 31 | apply g_regB (id := 12) 61 | apply g_regB (id := 13) 4 | apply g_regB (id := 14) 4 | refine gS ?_ | exact s_m | intro _
          | (refine gp_take ?_; first | refine pT ?_ | ((fail_if_success refine gp_lit rfl rfl rfl rfl ?_); first | apply gp_guard_dec rfl rfl rfl rfl | apply gp_guard rfl rfl rfl rfl | fail))
          | (refine gp_see ?_; first | refine p_f ?_ | refine pS ?_ | ((fail_if_success refine gp_lit rfl rfl rfl rfl ?_); first | apply gp_guard_dec rfl rfl rfl rfl | apply gp_guard rfl rfl rfl rfl | fail) | refine p_h (hap) hd hk ?_)
          | (refine gp_one ?_; first | refine pO ?_ | refine p_n (fun _ => ?_) | refine p_appB (fun _ _ => ?_) | refine p_app (fun _ _ => ?_) | refine p_b0 (fun _ => ?_) | ((fail_if_success refine gp_lit rfl rfl rfl rfl ?_); first | apply gp_guard_dec rfl rfl rfl rfl | apply gp_guard rfl rfl rfl rfl | fail) | refine p_k (hap) ?_)
          | refine gp_two ?_ ?_ | refine gp_done hd hk ?_ | intro _ | refine p_ta hd hk (fun _ _ _ hd hk => ?_) | refine p_ts hd hk (fun _ hd hk => ?_))
        refine g_as 61 (v' := .bool true) rfl (congrArg Value.bool (by
          by_cases h : 100 < k
          · rw [decide_eq_true (show (100 : Int) < (k : Int) by omega)]; rfl
          · have := hbig.resolve_left h
            rw [decide_eq_false (show ¬ (100 : Int) < (k : Int) by omega), decide_eq_true (show (65536 : Int) < (m : Int) by omega)]; rfl)) ?_
        repeat (first
          | (refine g_ops ?_; first | refine sO ?_ | refine s_n (fun _ => ?_) | refine s_appB (fun _ _ => ?_) | refine s_app (fun _ _ => ?_) | refine s_b0 (fun _ => ?_) | ((fail_if_success refine g_lit rfl rfl rfl ?_); first | apply g_partM rfl rfl rfl | apply g_partMB rfl rfl rfl | fail) | refine s_k (hln) ?_ | refine s_k (awake_) ?_)
          | apply g_regB (id := 1) 31 | apply g_regB (id := 12) 61 | apply g_regB (id := 13) 4 | apply g_regB (id := 14) 4 | refine gS ?_ | exact s_m | intro _
          | (refine gp_take ?_; first | refine pT ?_ | ((fail_if_success refine gp_lit rfl rfl rfl rfl ?_); first | apply gp_guard_dec rfl rfl rfl rfl | apply gp_guard rfl rfl rfl rfl | fail))
          | (refine gp_see ?_; first | refine p_f ?_ | refine pS ?_ | ((fail_if_success refine gp_lit rfl rfl rfl rfl ?_); first | apply gp_guard_dec rfl rfl rfl rfl | apply gp_guard rfl rfl rfl rfl | fail) | refine p_h (hln) hd hk ?_ | refine p_h (awake_) hd hk ?_)
          | (refine gp_one ?_; first | refine pO ?_ | refine p_n (fun _ => ?_) | refine p_appB (fun _ _ => ?_) | refine p_app (fun _ _ => ?_) | refine p_b0 (fun _ => ?_) | ((fail_if_success refine gp_lit rfl rfl rfl rfl ?_); first | apply gp_guard_dec rfl rfl rfl rfl | apply gp_guard rfl rfl rfl rfl | fail) | refine p_k (hln) ?_ | refine p_k (awake_) ?_)
          | refine gp_two ?_ ?_ | refine gp_done hd hk ?_ | intro _ | refine p_ta hd hk (fun _ _ _ hd hk => ?_) | refine p_ts hd hk (fun _ hd hk => ?_))
        exact gR () trivial
      · have hk : ¬ 100 < k := fun h => hbig (.inl h)
        have hm2 : ¬ 65536 < m := fun h => hbig (.inr h)
        have hzl : ∀ r ∈ ws, r.l.length = m := fun r hr => by rw [hZ r hr, List.length_replicate]
        have hsl : sumL ws ≤ 200000 := by rw [hsum, hkl]; exact h5'
        have hap := append_ (H := H2) lg d lg0 1048576 none 0 0 (by decide) [] (by simp [SortF]) (by simp) (by decide) (by decide) q c ws hR (by omega) (by omega) (fun r hr => by rw [hzl r hr]; omega) (by omega) 0 rfl (by decide) (fun r hr => by simp at hr) (by simp) (by simp) _ (by omega) (by have e0 : used [] = 0 := rfl; rw [e0]; omega) (pok 0 0 false 0 _ (by omega) (by decide) (by omega))
        dsimp only [List.length_nil] at hap
        repeat (first
          | (refine g_ops ?_; first | refine sO ?_ | refine s_n (fun _ => ?_) | refine s_appB (fun _ _ => ?_) | refine s_app (fun _ _ => ?_) | refine s_b0 (fun _ => ?_) | ((fail_if_success refine g_lit rfl rfl rfl ?_); first | apply g_partM rfl rfl rfl | apply g_partMB rfl rfl rfl | fail) | refine s_c (hap) (fun _ _ => ?_))
          | apply g_regB (id := 1) 31 | apply g_regB (id := 12) 61 | apply g_regB (id := 13) 4 | apply g_regB (id := 14) 4 | refine gS ?_ | exact s_m | intro _
          | (refine gp_take ?_; first | refine pT ?_ | ((fail_if_success refine gp_lit rfl rfl rfl rfl ?_); first | apply gp_guard_dec rfl rfl rfl rfl | apply gp_guard rfl rfl rfl rfl | fail))
          | (refine gp_see ?_; first | refine p_f ?_ | refine pS ?_ | ((fail_if_success refine gp_lit rfl rfl rfl rfl ?_); first | apply gp_guard_dec rfl rfl rfl rfl | apply gp_guard rfl rfl rfl rfl | fail))
          | (refine gp_one ?_; first | refine pO ?_ | refine p_n (fun _ => ?_) | refine p_appB (fun _ _ => ?_) | refine p_app (fun _ _ => ?_) | refine p_b0 (fun _ => ?_) | ((fail_if_success refine gp_lit rfl rfl rfl rfl ?_); first | apply gp_guard_dec rfl rfl rfl rfl | apply gp_guard rfl rfl rfl rfl | fail) | refine p_c (hap) (fun _ _ => ?_))
          | refine gp_two ?_ ?_ | refine gp_done hd hk ?_ | intro _ | refine p_ta hd hk (fun _ _ _ hd hk => ?_) | refine p_ts hd hk (fun _ hd hk => ?_))
        rename_i z hz
        obtain ⟨x1, ⟨q1, c1, fs1⟩, H4⟩ := z
        have hrc : bts x1.rs = bts ws := hz.recs
        have hat := hz.at_
        have hsub := hz.sub
        dsimp only at hat hsub
        have hln1 := bts_len hrc
        have hhas := has_ (H := H4) lg d x1 false q c ws (hR.grow hsub) hat hrc (by omega) (fun r hr => by
          obtain ⟨r', hr', e⟩ := List.mem_map.1 (show r.l ∈ bts ws by rw [← hrc]; exact List.mem_map.2 ⟨r, hr, rfl⟩)
          rw [← e, hzl r' hr']; omega)
        dsimp only [LG.L, LG.own, List.cons_append, List.nil_append, List.append_nil] at hhas ⊢
        refine g_as 61 (v' := .bool false) rfl (congrArg Value.bool (by
          rw [decide_eq_false (show ¬ (100 : Int) < (k : Int) by omega), decide_eq_false (show ¬ (65536 : Int) < (m : Int) by omega)]; rfl)) ?_
        repeat ((fail_if_success refine s_at 78 ?_); first
          | (refine g_ops ?_; first | refine sO ?_ | refine s_n (fun _ => ?_) | refine s_appB (fun _ _ => ?_) | refine s_app (fun _ _ => ?_) | refine s_b0 (fun _ => ?_) | ((fail_if_success refine g_lit rfl rfl rfl ?_); first | apply g_partM rfl rfl rfl | apply g_partMB rfl rfl rfl | fail))
          | apply g_regB (id := 1) 31 | apply g_regB (id := 12) 61 | apply g_regB (id := 13) 4 | refine gS ?_ | exact s_m | intro _ | (refine gp_take ?_; first | refine pT ?_ | ((fail_if_success refine gp_lit rfl rfl rfl rfl ?_); first | apply gp_guard_dec rfl rfl rfl rfl | apply gp_guard rfl rfl rfl rfl | fail))
          | (refine gp_see ?_; first | refine p_f ?_ | refine pS ?_ | ((fail_if_success refine gp_lit rfl rfl rfl rfl ?_); first | apply gp_guard_dec rfl rfl rfl rfl | apply gp_guard rfl rfl rfl rfl | fail))
          | (refine gp_one ?_; first | refine pO ?_ | refine p_n (fun _ => ?_) | refine p_appB (fun _ _ => ?_) | refine p_app (fun _ _ => ?_) | refine p_b0 (fun _ => ?_) | ((fail_if_success refine gp_lit rfl rfl rfl rfl ?_); first | apply gp_guard_dec rfl rfl rfl rfl | apply gp_guard rfl rfl rfl rfl | fail))
          | refine gp_two ?_ ?_ | refine gp_done hd hk ?_ | intro _ | refine p_ta hd hk (fun _ _ _ hd hk => ?_) | refine p_ts hd hk (fun _ hd hk => ?_))
        first
          | (refine g_ops ?_; first | refine sO ?_ | refine s_n (fun _ => ?_) | refine s_appB (fun _ _ => ?_) | refine s_app (fun _ _ => ?_) | refine s_b0 (fun _ => ?_) | ((fail_if_success refine g_lit rfl rfl rfl ?_); first | apply g_partM rfl rfl rfl | apply g_partMB rfl rfl rfl | fail))
          | refine gS ?_ | exact s_m | intro _
        refine g_as 78 (v' := .bool true) rfl rfl ?_
        repeat ((fail_if_success refine s_at 82 ?_); first
          | (refine g_ops ?_; first | refine sO ?_ | refine s_n (fun _ => ?_) | refine s_appB (fun _ _ => ?_) | refine s_app (fun _ _ => ?_) | refine s_b0 (fun _ => ?_) | ((fail_if_success refine g_lit rfl rfl rfl ?_); first | apply g_partM rfl rfl rfl | apply g_partMB rfl rfl rfl | fail))
          | apply g_regB (id := 1) 31 | apply g_regB (id := 12) 61 | apply g_regB (id := 13) 4 | refine gS ?_ | exact s_m | intro _ | (refine gp_take ?_; first | refine pT ?_ | ((fail_if_success refine gp_lit rfl rfl rfl rfl ?_); first | apply gp_guard_dec rfl rfl rfl rfl | apply gp_guard rfl rfl rfl rfl | fail))
          | (refine gp_see ?_; first | refine p_f ?_ | refine pS ?_ | ((fail_if_success refine gp_lit rfl rfl rfl rfl ?_); first | apply gp_guard_dec rfl rfl rfl rfl | apply gp_guard rfl rfl rfl rfl | fail))
          | (refine gp_one ?_; first | refine pO ?_ | refine p_n (fun _ => ?_) | refine p_appB (fun _ _ => ?_) | refine p_app (fun _ _ => ?_) | refine p_b0 (fun _ => ?_) | ((fail_if_success refine gp_lit rfl rfl rfl rfl ?_); first | apply gp_guard_dec rfl rfl rfl rfl | apply gp_guard rfl rfl rfl rfl | fail))
          | refine gp_two ?_ ?_ | refine gp_done hd hk ?_ | intro _ | refine p_ta hd hk (fun _ _ _ hd hk => ?_) | refine p_ts hd hk (fun _ hd hk => ?_))
        first
          | (refine g_ops ?_; first | refine sO ?_ | refine s_n (fun _ => ?_) | refine s_appB (fun _ _ => ?_) | refine s_app (fun _ _ => ?_) | refine s_b0 (fun _ => ?_) | ((fail_if_success refine g_lit rfl rfl rfl ?_); first | apply g_partM rfl rfl rfl | apply g_partMB rfl rfl rfl | fail))
          | refine gS ?_ | exact s_m | intro _
        refine g_as 82 (v' := .bool true) rfl rfl ?_
        repeat (first
          | (refine g_ops ?_; first | refine sO ?_ | refine s_n (fun _ => ?_) | refine s_appB (fun _ _ => ?_) | refine s_app (fun _ _ => ?_) | refine s_b0 (fun _ => ?_) | ((fail_if_success refine g_lit rfl rfl rfl ?_); first | apply g_partM rfl rfl rfl | apply g_partMB rfl rfl rfl | fail) | refine s_k (awake_) ?_ | refine s_c (hhas) (fun _ _ => ?_))
          | apply g_regB (id := 1) 31 | apply g_regB (id := 12) 61 | apply g_regB (id := 13) 4 | refine gS ?_ | exact s_m | intro _ | (refine gp_take ?_; first | refine pT ?_ | ((fail_if_success refine gp_lit rfl rfl rfl rfl ?_); first | apply gp_guard_dec rfl rfl rfl rfl | apply gp_guard rfl rfl rfl rfl | fail))
          | (refine gp_see ?_; first | refine p_f ?_ | refine pS ?_ | ((fail_if_success refine gp_lit rfl rfl rfl rfl ?_); first | apply gp_guard_dec rfl rfl rfl rfl | apply gp_guard rfl rfl rfl rfl | fail) | refine p_h (awake_) hd hk ?_)
          | (refine gp_one ?_; first | refine pO ?_ | refine p_n (fun _ => ?_) | refine p_appB (fun _ _ => ?_) | refine p_app (fun _ _ => ?_) | refine p_b0 (fun _ => ?_) | ((fail_if_success refine gp_lit rfl rfl rfl rfl ?_); first | apply gp_guard_dec rfl rfl rfl rfl | apply gp_guard rfl rfl rfl rfl | fail) | refine p_k (awake_) ?_ | refine p_c (hhas) (fun _ _ => ?_))
          | refine gp_two ?_ ?_ | refine gp_done hd hk ?_ | intro _ | refine p_ta hd hk (fun _ _ _ hd hk => ?_) | refine p_ts hd hk (fun _ hd hk => ?_))
        exact gR () trivial
end Go.Proofs.YtdldgbbhagpofaaGreatDoor
