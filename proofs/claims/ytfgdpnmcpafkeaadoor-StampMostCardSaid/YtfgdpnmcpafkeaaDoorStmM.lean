/- StampMost: the walk. -/
import Derived.Test.YtfgdpnmcpafkeaaDoorStmQ
set_option linter.unusedSimpArgs false
set_option linter.unusedVariables false
namespace Go.Proofs.YtfgdpnmcpafkeaaDoor
open Go.Sl facts
attribute [local irreducible] Code.wp wpList Exit.then Exit.inBlock bodyPost Back MidQ G GP QStep VStep CStep SStep Does Post Reads
theorem TabH.grow {H H' : HP} (h : TabH H) (s : HP.sub H H') : TabH H' := by
  obtain ⟨e, fz, h⟩ := h
  exact ⟨e, fz, s _ _ h⟩
theorem stAt_slAt {C : Chunk} {p : Option Addr} {m : Nat} {xs : List S3} (h : SlAt C 3 p m (xs.flatMap S3.cells)) : StAt C p xs := fun k hk => by
  obtain ⟨b, o, rfl, r⟩ := slAt_elem h (g := S3.cells) (fun a => rfl) (by decide) (i := k) (a := xs.getD k S3.zero) (by simp [hk])
  exact ⟨b, o, rfl, fun j v hv => r j v hv⟩
/-! ### The greatest and the least -/
theorem from_max : ∀ (l : List S3) (s : S3), mostFrom 1 s l ∈ s :: l ∧ ∀ y ∈ s :: l, ¬ ltS (mostFrom 1 s l) y
  | [], s => ⟨by simp [mostFrom], fun y hy => by simp at hy; subst hy; exact ltS_irr _⟩
  | x :: l, s => by
    have hq : (ordS x s * 1 > 0) ↔ ltS s x := by rw [Int.mul_one]; exact ordS_gt _ _
    simp only [mostFrom, hq]
    by_cases h : ltS s x
    · rw [if_pos h]
      obtain ⟨h1, h2⟩ := from_max l x
      refine ⟨List.mem_cons_of_mem _ h1, fun y hy => ?_⟩
      rcases List.mem_cons.1 hy with rfl | hy
      · exact fun hc => h2 x (by simp) (ltS_trans hc h)
      · exact h2 y hy
    · rw [if_neg h]
      obtain ⟨h1, h2⟩ := from_max l s
      refine ⟨?_, fun y hy => ?_⟩
      · rcases List.mem_cons.1 h1 with h3 | h3
        · rw [h3]; simp
        · simp [h3]
      · rcases List.mem_cons.1 hy with rfl | hy
        · exact h2 y (by simp)
        · rcases List.mem_cons.1 hy with rfl | hy
          · have := h2 s (by simp)
            unfold ltS at *
            omega
          · exact h2 y (by simp [hy])
theorem from_min : ∀ (l : List S3) (s : S3), mostFrom (-1) s l ∈ s :: l ∧ ∀ y ∈ s :: l, ¬ ltS y (mostFrom (-1) s l)
  | [], s => ⟨by simp [mostFrom], fun y hy => by simp at hy; subst hy; exact ltS_irr _⟩
  | x :: l, s => by
    have hq : (ordS x s * (-1) > 0) ↔ ltS x s := by rw [← ordS_lt]; omega
    simp only [mostFrom, hq]
    by_cases h : ltS x s
    · rw [if_pos h]
      obtain ⟨h1, h2⟩ := from_min l x
      refine ⟨List.mem_cons_of_mem _ h1, fun y hy => ?_⟩
      rcases List.mem_cons.1 hy with rfl | hy
      · exact fun hc => h2 x (by simp) (ltS_trans h hc)
      · exact h2 y hy
    · rw [if_neg h]
      obtain ⟨h1, h2⟩ := from_min l s
      refine ⟨?_, fun y hy => ?_⟩
      · rcases List.mem_cons.1 h1 with h3 | h3
        · rw [h3]; simp
        · simp [h3]
      · rcases List.mem_cons.1 hy with rfl | hy
        · exact h2 y (by simp)
        · rcases List.mem_cons.1 hy with rfl | hy
          · have := h2 s (by simp)
            unfold ltS at *
            omega
          · exact h2 y (by simp [hy])
theorem max_spec (xs : List S3) (h : xs ≠ []) : mostL 1 xs ∈ xs ∧ ∀ y ∈ xs, ¬ ltS (mostL 1 xs) y := by
  cases xs with
  | nil => exact absurd rfl h
  | cons x l => exact from_max l x
theorem min_spec (xs : List S3) (h : xs ≠ []) : mostL (-1) xs ∈ xs ∧ ∀ y ∈ xs, ¬ ltS y (mostL (-1) xs) := by
  cases xs with
  | nil => exact absurd rfl h
  | cons x l => exact from_min l x
theorem max_rev (xs : List S3) : mostL 1 xs.reverse = mostL 1 xs := by
  by_cases h : xs = []
  · subst h; rfl
  · obtain ⟨h1, h2⟩ := max_spec xs h
    obtain ⟨h3, h4⟩ := max_spec xs.reverse (by simpa using h)
    rcases ltS_or (mostL 1 xs.reverse) (mostL 1 xs) with h5 | h5 | h5
    · exact absurd h5 (h4 _ (by simpa using h1))
    · exact absurd h5 (h2 _ (by simpa using h3))
    · exact h5
theorem min_rev (xs : List S3) : mostL (-1) xs.reverse = mostL (-1) xs := by
  by_cases h : xs = []
  · subst h; rfl
  · obtain ⟨h1, h2⟩ := min_spec xs h
    obtain ⟨h3, h4⟩ := min_spec xs.reverse (by simpa using h)
    rcases ltS_or (mostL (-1) xs.reverse) (mostL (-1) xs) with h5 | h5 | h5
    · exact absurd h5 (h2 _ (by simpa using h3))
    · exact absurd h5 (h4 _ (by simpa using h1))
    · exact h5
theorem s3_eq (a b : S3) : (a.w = b.w ∧ a.l = b.l ∧ a.n = b.n) ↔ a = b := by
  obtain ⟨a1, a2, a3⟩ := a
  obtain ⟨b1, b2, b3⟩ := b
  simp
structure MoX where
  i : Nat
  inn : Bool
  un : Bool
  q : Option Addr
  c : Nat
theorem most_law {H : HP} (hT : TabH H) (p : Option Addr) (cap : Nat) (xs : List S3) (hrs : StAt (Pile H) p xs) : Does1 Tryd.prog 9 [.slice p xs.length cap] [Pile H] (.bool true) := by
  refine fn_intro Tryd.func9 rfl Tryd.ntmps9 rfl (by simp only [argFr, Nat.zero_add, Nat.reduceAdd]; rfl) (fun Γ => ?_)
  repeat (first
    | (refine g_ops ?_; first | refine s_q ?_ | refine s_v ?_ | refine s_s ?_ | refine s_n (fun _ => ?_) | refine s_x ?_ | refine s_y ?_ | refine s_mq ?_ | refine s_app (fun _ _ => ?_) | refine s_mv ?_ | refine s_ms ?_ | refine s_b0 (fun _ => ?_) | ((fail_if_success refine g_lit rfl rfl rfl ?_); first | apply g_partM rfl rfl rfl | apply g_partMB rfl rfl rfl | fail))
    | refine g_seq ?_ | refine g_region ?_ | refine g_nil ?_ | refine g_then_normal ?_ | refine g_block ?_ | refine g_in_normal ?_ | refine g_retc ?_ | refine g_then_ret ?_
    | refine g_in_ret ?_ | refine g_exit ?_ | refine g_then_exit ?_ | refine g_in_exit ?_ | refine g_in_other rfl ?_ | refine g_skip ?_ | refine g_label ?_
    | refine g_cond_true rfl ?_ | refine g_cond_false rfl ?_ | exact s_m | intro _)
  refine g_cond_dec rfl (fun h => ?_) (fun h => ?_)
  · repeat (first
      | (refine g_ops ?_; first | refine s_q ?_ | refine s_v ?_ | refine s_s ?_ | refine s_n (fun _ => ?_) | refine s_x ?_ | refine s_y ?_ | refine s_mq ?_ | refine s_app (fun _ _ => ?_) | refine s_mv ?_ | refine s_ms ?_ | refine s_b0 (fun _ => ?_) | ((fail_if_success refine g_lit rfl rfl rfl ?_); first | apply g_partM rfl rfl rfl | apply g_partMB rfl rfl rfl | fail) | refine s_k (awake hT) ?_)
      | apply g_regB (id := 6) 2 | (apply g_drawB (id := 12) 50 (.see 0 [] (.take 1 (.take 2 (.take 3 (.see 4 [] (.see 5 [] (.take 6 (.take 7 (.take 8 (.take 9 (.see 10 [] (.see 11 [] (.see 12 [] (.take 13 .done)))))))))))))) (by kernel_rfl); intro k hd hk)
      | (apply g_drawB (id := 14) 6 (.take 0 (.take 1 (.take 2 (.take 3 (.take 4 (.see 5 [] (.see 6 [] (.take 7 (.take 8 (.take 9 .done)))))))))) (by kernel_rfl); intro k hd hk)
      | (apply g_drawB (id := 15) 7 (.take 0 (.take 1 (.take 2 (.take 3 (.take 4 (.see 5 [] (.see 6 [] (.take 7 (.take 8 (.take 9 .done)))))))))) (by kernel_rfl); intro k hd hk)
      | refine g_seq ?_ | refine g_region ?_ | refine g_nil ?_ | refine g_then_normal ?_ | refine g_block ?_ | refine g_in_normal ?_ | refine g_retc ?_
      | refine g_then_ret ?_ | refine g_in_ret ?_ | refine g_exit ?_ | refine g_then_exit ?_ | refine g_in_exit ?_ | refine g_in_other rfl ?_ | refine g_skip ?_
      | refine g_label ?_ | refine g_cond_true rfl ?_ | refine g_cond_false rfl ?_ | exact s_m | intro _ | (refine gp_take ?_; first | refine p_q ?_ | refine p_x ?_ | refine p_mq ?_ | ((fail_if_success refine gp_lit rfl rfl rfl rfl ?_); first | apply gp_guard_dec rfl rfl rfl rfl | apply gp_guard rfl rfl rfl rfl | fail))
      | (refine gp_see ?_; first | refine p_f ?_ | refine p_sx ?_ | ((fail_if_success refine gp_lit rfl rfl rfl rfl ?_); first | apply gp_guard_dec rfl rfl rfl rfl | apply gp_guard rfl rfl rfl rfl | fail) | refine p_h (awake hT) hd hk ?_ | refine p_sq ?_)
      | (refine gp_one ?_; first | refine p_v ?_ | refine p_s ?_ | refine p_n (fun _ => ?_) | refine p_y ?_ | refine p_app (fun _ _ => ?_) | refine p_mv ?_ | refine p_ms ?_ | refine p_b0 (fun _ => ?_) | ((fail_if_success refine gp_lit rfl rfl rfl rfl ?_); first | apply gp_guard_dec rfl rfl rfl rfl | apply gp_guard rfl rfl rfl rfl | fail) | refine p_k (awake hT) ?_)
      | refine gp_two ?_ ?_ | refine gp_done hd hk ?_ | intro _ | refine p_ta hd hk (fun _ _ _ hd hk => ?_) | refine p_ts hd hk (fun _ hd hk => ?_))
    exact g_ret () rfl (by (repeat (first | exact RVs.nil | apply RVs.tmp rfl | apply RVs.cellA rfl (by (repeat (first | exact Sel.here | apply Sel.there)); first | done | fail) (by (repeat (first | exact Cut.zero | apply Cut.take | apply Cut.skip)); first | done | fail) | apply RVs.cell1 rfl (by (repeat (first | exact Sel.here | apply Sel.there)); first | done | fail) rfl)); first | done | fail) (by (repeat (first | exact Take.nil | apply Take.cons | exact Sel.here | apply Sel.there)); first | done | fail) rfl trivial
  have hl : xs.length < 1000000000000 := by omega
  repeat (first
    | (refine g_ops ?_; first | refine s_q ?_ | refine s_v ?_ | refine s_s ?_ | refine s_n (fun _ => ?_) | refine s_x ?_ | refine s_y ?_ | refine s_mq ?_ | refine s_app (fun _ _ => ?_) | refine s_mv ?_ | refine s_ms ?_ | refine s_b0 (fun _ => ?_) | ((fail_if_success refine g_lit rfl rfl rfl ?_); first | apply g_partM rfl rfl rfl | apply g_partMB rfl rfl rfl | fail) | refine s_k (max_at _ p cap xs hl hrs) ?_ | refine s_k (min_at _ p cap xs hl hrs) ?_)
    | (apply g_drawB (id := 12) 50 (.see 0 [] (.take 1 (.take 2 (.take 3 (.see 4 [] (.see 5 [] (.take 6 (.take 7 (.take 8 (.take 9 (.see 10 [] (.see 11 [] (.see 12 [] (.take 13 .done)))))))))))))) (by kernel_rfl); intro k hd hk)
    | (apply g_drawB (id := 14) 6 (.take 0 (.take 1 (.take 2 (.take 3 (.take 4 (.see 5 [] (.see 6 [] (.take 7 (.take 8 (.take 9 .done)))))))))) (by kernel_rfl); intro k hd hk)
    | (apply g_drawB (id := 15) 7 (.take 0 (.take 1 (.take 2 (.take 3 (.take 4 (.see 5 [] (.see 6 [] (.take 7 (.take 8 (.take 9 .done)))))))))) (by kernel_rfl); intro k hd hk)
    | refine g_seq ?_ | refine g_region ?_ | refine g_nil ?_ | refine g_then_normal ?_ | refine g_block ?_ | refine g_in_normal ?_ | refine g_retc ?_ | refine g_then_ret ?_
    | refine g_in_ret ?_ | refine g_exit ?_ | refine g_then_exit ?_ | refine g_in_exit ?_ | refine g_in_other rfl ?_ | refine g_skip ?_ | refine g_label ?_
    | refine g_cond_true rfl ?_ | refine g_cond_false rfl ?_ | exact s_m | intro _ | (refine gp_take ?_; first | refine p_q ?_ | refine p_x ?_ | refine p_mq ?_ | ((fail_if_success refine gp_lit rfl rfl rfl rfl ?_); first | apply gp_guard_dec rfl rfl rfl rfl | apply gp_guard rfl rfl rfl rfl | fail))
    | (refine gp_see ?_; first | refine p_f ?_ | refine p_sx ?_ | ((fail_if_success refine gp_lit rfl rfl rfl rfl ?_); first | apply gp_guard_dec rfl rfl rfl rfl | apply gp_guard rfl rfl rfl rfl | fail) | refine p_h (max_at _ p cap xs hl hrs) hd hk ?_ | refine p_h (min_at _ p cap xs hl hrs) hd hk ?_ | refine p_sq ?_)
    | (refine gp_one ?_; first | refine p_v ?_ | refine p_s ?_ | refine p_n (fun _ => ?_) | refine p_y ?_ | refine p_app (fun _ _ => ?_) | refine p_mv ?_ | refine p_ms ?_ | refine p_b0 (fun _ => ?_) | ((fail_if_success refine gp_lit rfl rfl rfl rfl ?_); first | apply gp_guard_dec rfl rfl rfl rfl | apply gp_guard rfl rfl rfl rfl | fail) | refine p_k (max_at _ p cap xs hl hrs) ?_ | refine p_k (min_at _ p cap xs hl hrs) ?_)
    | refine gp_two ?_ ?_ | refine gp_done hd hk ?_ | intro _ | refine p_ta hd hk (fun _ _ _ hd hk => ?_) | refine p_ts hd hk (fun _ hd hk => ?_))
  refine g_cond_dec rfl (fun h0 => ?_) (fun h0 => ?_)
  · obtain rfl : xs = [] := List.eq_nil_of_length_eq_zero (by omega)
    repeat (first
      | (refine g_ops ?_; first | refine s_qa ?_ | refine s_q ?_ | refine s_v ?_ | refine s_s ?_ | refine s_n (fun _ => ?_) | refine s_x ?_ | refine s_y ?_ | refine s_mq ?_ | refine s_app (fun _ _ => ?_) | refine s_mv ?_ | refine s_ms ?_ | refine s_b0 (fun _ => ?_) | ((fail_if_success refine g_lit rfl rfl rfl ?_); first | apply g_partM rfl rfl rfl | apply g_partMB rfl rfl rfl | fail) | refine s_k (awake hT) ?_)
      | apply g_regB (id := 6) 2 | (apply g_drawB (id := 12) 50 (.see 0 [] (.take 1 (.take 2 (.take 3 (.see 4 [] (.see 5 [] (.take 6 (.take 7 (.take 8 (.take 9 (.see 10 [] (.see 11 [] (.see 12 [] (.take 13 .done)))))))))))))) (by kernel_rfl); intro k hd hk)
      | (apply g_drawB (id := 14) 6 (.take 0 (.take 1 (.take 2 (.take 3 (.take 4 (.see 5 [] (.see 6 [] (.take 7 (.take 8 (.take 9 .done)))))))))) (by kernel_rfl); intro k hd hk)
      | (apply g_drawB (id := 15) 7 (.take 0 (.take 1 (.take 2 (.take 3 (.take 4 (.see 5 [] (.see 6 [] (.take 7 (.take 8 (.take 9 .done)))))))))) (by kernel_rfl); intro k hd hk)
      | refine g_seq ?_ | refine g_region ?_ | refine g_nil ?_ | refine g_then_normal ?_ | refine g_block ?_ | refine g_in_normal ?_ | refine g_retc ?_
      | refine g_then_ret ?_ | refine g_in_ret ?_ | refine g_exit ?_ | refine g_then_exit ?_ | refine g_in_exit ?_ | refine g_in_other rfl ?_ | refine g_skip ?_
      | refine g_label ?_ | refine g_cond_true rfl ?_ | refine g_cond_false rfl ?_ | exact s_m | intro _ | (refine gp_take ?_; first | refine p_qa ?_ | refine p_q ?_ | refine p_x ?_ | refine p_mq ?_ | ((fail_if_success refine gp_lit rfl rfl rfl rfl ?_); first | apply gp_guard_dec rfl rfl rfl rfl | apply gp_guard rfl rfl rfl rfl | fail))
      | (refine gp_see ?_; first | refine p_f ?_ | refine p_sx ?_ | ((fail_if_success refine gp_lit rfl rfl rfl rfl ?_); first | apply gp_guard_dec rfl rfl rfl rfl | apply gp_guard rfl rfl rfl rfl | fail) | refine p_h (awake hT) hd hk ?_ | refine p_sq ?_)
      | (refine gp_one ?_; first | refine p_v ?_ | refine p_s ?_ | refine p_n (fun _ => ?_) | refine p_y ?_ | refine p_app (fun _ _ => ?_) | refine p_mv ?_ | refine p_ms ?_ | refine p_b0 (fun _ => ?_) | ((fail_if_success refine gp_lit rfl rfl rfl rfl ?_); first | apply gp_guard_dec rfl rfl rfl rfl | apply gp_guard rfl rfl rfl rfl | fail) | refine p_k (awake hT) ?_)
      | refine gp_two ?_ ?_ | refine gp_done hd hk ?_ | intro _ | refine p_ta hd hk (fun _ _ _ hd hk => ?_) | refine p_ts hd hk (fun _ hd hk => ?_))
    exact g_ret () rfl (by (repeat (first | exact RVs.nil | apply RVs.tmp rfl | apply RVs.cellA rfl (by (repeat (first | exact Sel.here | apply Sel.there)); first | done | fail) (by (repeat (first | exact Cut.zero | apply Cut.take | apply Cut.skip)); first | done | fail) | apply RVs.cell1 rfl (by (repeat (first | exact Sel.here | apply Sel.there)); first | done | fail) rfl)); first | done | fail) (by (repeat (first | exact Take.nil | apply Take.cons | exact Sel.here | apply Sel.there)); first | done | fail) rfl trivial
  have hne : xs ≠ [] := fun e => h0 (by rw [e]; rfl)
  obtain ⟨mx1, mx2⟩ := max_spec xs hne
  obtain ⟨mn1, mn2⟩ := min_spec xs hne
  repeat (first
    | (refine g_ops ?_; first | refine s_q ?_ | refine s_v ?_ | refine s_s ?_ | refine s_n (fun _ => ?_) | refine s_x ?_ | refine s_y ?_ | refine s_mq ?_ | refine s_app (fun _ _ => ?_) | refine s_mv ?_ | refine s_ms ?_ | refine s_b0 (fun _ => ?_) | ((fail_if_success refine g_lit rfl rfl rfl ?_); first | apply g_partM rfl rfl rfl | apply g_partMB rfl rfl rfl | fail))
    | (apply g_drawB (id := 12) 50 (.see 0 [] (.take 1 (.take 2 (.take 3 (.see 4 [] (.see 5 [] (.take 6 (.take 7 (.take 8 (.take 9 (.see 10 [] (.see 11 [] (.see 12 [] (.take 13 .done)))))))))))))) (by kernel_rfl); intro k hd hk)
    | (apply g_drawB (id := 14) 6 (.take 0 (.take 1 (.take 2 (.take 3 (.take 4 (.see 5 [] (.see 6 [] (.take 7 (.take 8 (.take 9 .done)))))))))) (by kernel_rfl); intro k hd hk)
    | (apply g_drawB (id := 15) 7 (.take 0 (.take 1 (.take 2 (.take 3 (.take 4 (.see 5 [] (.see 6 [] (.take 7 (.take 8 (.take 9 .done)))))))))) (by kernel_rfl); intro k hd hk)
    | refine g_seq ?_ | refine g_region ?_ | refine g_nil ?_ | refine g_then_normal ?_ | refine g_block ?_ | refine g_in_normal ?_ | refine g_retc ?_ | refine g_then_ret ?_
    | refine g_in_ret ?_ | refine g_exit ?_ | refine g_then_exit ?_ | refine g_in_exit ?_ | refine g_in_other rfl ?_ | refine g_skip ?_ | refine g_label ?_
    | refine g_cond_true rfl ?_ | refine g_cond_false rfl ?_ | exact s_m | intro _ | (refine gp_take ?_; first | refine p_q ?_ | refine p_x ?_ | refine p_mq ?_ | ((fail_if_success refine gp_lit rfl rfl rfl rfl ?_); first | apply gp_guard_dec rfl rfl rfl rfl | apply gp_guard rfl rfl rfl rfl | fail))
    | (refine gp_see ?_; first | refine p_f ?_ | refine p_sx ?_ | ((fail_if_success refine gp_lit rfl rfl rfl rfl ?_); first | apply gp_guard_dec rfl rfl rfl rfl | apply gp_guard rfl rfl rfl rfl | fail) | refine p_sq ?_)
    | (refine gp_one ?_; first | refine p_v ?_ | refine p_s ?_ | refine p_n (fun _ => ?_) | refine p_y ?_ | refine p_app (fun _ _ => ?_) | refine p_mv ?_ | refine p_ms ?_ | refine p_b0 (fun _ => ?_) | ((fail_if_success refine gp_lit rfl rfl rfl rfl ?_); first | apply gp_guard_dec rfl rfl rfl rfl | apply gp_guard rfl rfl rfl rfl | fail))
    | refine gp_two ?_ ?_ | refine gp_done hd hk ?_ | intro _ | refine p_ta hd hk (fun _ _ _ hd hk => ?_) | refine p_ts hd hk (fun _ hd hk => ?_))
  rename_i b3 b4
  refine g_own_nil none 3 23 ?_
  refine g_loop (X := MoX) (fun x => [(0, .slice p xs.length cap), (2, .bool false), (3, .pointer (some ⟨b3, 0, none⟩)), (4, .pointer (some ⟨b4, 0, none⟩)), (5, .slice x.q x.i x.c), (6, .bool x.inn), (7, .bool x.un), (8, .int .i64 x.i)])
    (fun x => [Pile H, .row b3 [.int .i64 (mostL 1 xs).w, .int .i64 (mostL 1 xs).l, .int .i64 (mostL 1 xs).n] 23, .row b4 [.int .i64 (mostL (-1) xs).w, .int .i64 (mostL (-1) xs).l, .int .i64 (mostL (-1) xs).n] 23, .own x.q x.i x.c 3 ((xs.take x.i).reverse.flatMap S3.cells) 23])
    (fun x => x.i ≤ xs.length ∧ (x.inn = true ↔ mostL 1 xs ∈ xs.take x.i) ∧ (x.un = true ↔ mostL (-1) xs ∈ xs.take x.i)) (fun x => xs.length - x.i) ⟨0, false, false, none, 0⟩ ⟨Nat.zero_le _, by simp, by simp⟩ (by (repeat (first | exact FrSub.nil | refine FrSub.cons rfl ?_)); first | done | fail) (by (repeat (first | exact Take.nil | apply Take.cons | exact Sel.here | apply Sel.there)); first | done | fail) (fun x hx => ?_)
  obtain ⟨i, inn, un, q, c⟩ := x
  obtain ⟨hi, hin, hun⟩ := hx
  simp only at hi hin hun
  dsimp only
  repeat (first
    | (refine g_ops ?_; first | refine s_q ?_ | refine s_v ?_ | refine s_s ?_ | refine s_n (fun _ => ?_) | refine s_x ?_ | refine s_y ?_ | refine s_mq ?_ | refine s_app (fun _ _ => ?_) | refine s_mv ?_ | refine s_ms ?_ | refine s_b0 (fun _ => ?_) | ((fail_if_success refine g_lit rfl rfl rfl ?_); first | apply g_partM rfl rfl rfl | apply g_partMB rfl rfl rfl | fail))
    | refine g_seq ?_ | refine g_region ?_ | refine g_nil ?_ | refine g_then_normal ?_ | refine g_block ?_ | refine g_in_normal ?_ | refine g_retc ?_ | refine g_then_ret ?_
    | refine g_in_ret ?_ | refine g_exit ?_ | refine g_then_exit ?_ | refine g_in_exit ?_ | refine g_in_other rfl ?_ | refine g_skip ?_ | refine g_label ?_
    | refine g_cond_true rfl ?_ | refine g_cond_false rfl ?_ | exact s_m | intro _)
  refine g_cond_dec rfl (fun h => ?_) (fun h => ?_)
  · have hi' : i < xs.length := by omega
    obtain ⟨b, o, rfl, hrow⟩ := hrs i hi'
    have hmem : xs.getD i S3.zero ∈ xs := by rw [List.getD_eq_getElem?_getD, List.getElem?_eq_getElem hi']; simp
    have hE : (xs.take (i + 1)).reverse.flatMap S3.cells = [.int .i64 (xs.getD i S3.zero).w, .int .i64 (xs.getD i S3.zero).l, .int .i64 (xs.getD i S3.zero).n] ++ (xs.take i).reverse.flatMap S3.cells := by
      rw [take_snoc xs i S3.zero hi', List.reverse_append]; rfl
    repeat (first
      | (refine g_ops ?_; first | refine s_q ?_ | refine s_v ?_ | refine s_s ?_ | refine s_n (fun _ => ?_) | refine s_x ?_ | refine s_y ?_ | refine s_mq ?_ | refine s_app (fun _ _ => ?_) | refine s_mv ?_ | refine s_ms ?_ | refine s_b0 (fun _ => ?_) | ((fail_if_success refine g_lit rfl rfl rfl ?_); first | apply g_partM rfl rfl rfl | apply g_partMB rfl rfl rfl | fail) | refine s_p (less (mostL 1 xs) (xs.getD i S3.zero)) ?_ | refine s_p (less (xs.getD i S3.zero) (mostL (-1) xs)) ?_)
      | apply g_regB (id := 6) 2 | (apply g_drawB (id := 12) 50 (.see 0 [] (.take 1 (.take 2 (.take 3 (.see 4 [] (.see 5 [] (.take 6 (.take 7 (.take 8 (.take 9 (.see 10 [] (.see 11 [] (.see 12 [] (.take 13 .done)))))))))))))) (by kernel_rfl); intro k hd hk)
      | refine g_seq ?_ | refine g_region ?_ | refine g_nil ?_ | refine g_then_normal ?_ | refine g_block ?_ | refine g_in_normal ?_ | refine g_retc ?_
      | refine g_then_ret ?_ | refine g_in_ret ?_ | refine g_exit ?_ | refine g_then_exit ?_ | refine g_in_exit ?_ | refine g_in_other rfl ?_ | refine g_skip ?_
      | refine g_label ?_ | refine g_cond_true rfl ?_ | refine g_cond_false rfl ?_ | exact s_m | intro _ | (refine gp_take ?_; first | refine p_q ?_ | refine p_x ?_ | refine p_mq ?_ | ((fail_if_success refine gp_lit rfl rfl rfl rfl ?_); first | apply gp_guard_dec rfl rfl rfl rfl | apply gp_guard rfl rfl rfl rfl | fail) | refine p_p (less (mostL 1 xs) (xs.getD i S3.zero)) ?_ | refine p_p (less (xs.getD i S3.zero) (mostL (-1) xs)) ?_)
      | (refine gp_see ?_; first | refine p_f ?_ | refine p_sx ?_ | ((fail_if_success refine gp_lit rfl rfl rfl rfl ?_); first | apply gp_guard_dec rfl rfl rfl rfl | apply gp_guard rfl rfl rfl rfl | fail) | refine p_sp (less (mostL 1 xs) (xs.getD i S3.zero)) ?_ | refine p_sp (less (xs.getD i S3.zero) (mostL (-1) xs)) ?_ | refine p_sq ?_)
      | (refine gp_one ?_; first | refine p_v ?_ | refine p_s ?_ | refine p_n (fun _ => ?_) | refine p_y ?_ | refine p_app (fun _ _ => ?_) | refine p_mv ?_ | refine p_ms ?_ | refine p_b0 (fun _ => ?_) | ((fail_if_success refine gp_lit rfl rfl rfl rfl ?_); first | apply gp_guard_dec rfl rfl rfl rfl | apply gp_guard rfl rfl rfl rfl | fail))
      | refine gp_two ?_ ?_ | refine gp_done hd hk ?_ | intro _ | refine p_ta hd hk (fun _ _ _ hd hk => ?_) | refine p_ts hd hk (fun _ hd hk => ?_))
    refine g_cond rfl (fun h4 => ?_) (fun h4 => ?_)
    · exfalso
      have k1 := mx2 _ hmem
      have k2 := mn2 _ hmem
      rw [decide_eq_false k1, decide_eq_false k2] at h4
      cases h4
    repeat (first
      | (refine g_ops ?_; first | refine s_q ?_ | refine s_v ?_ | refine s_s ?_ | refine s_n (fun _ => ?_) | refine s_x ?_ | refine s_y ?_ | refine s_mq ?_ | refine s_app (fun _ _ => ?_) | refine s_mv ?_ | refine s_ms ?_ | refine s_b0 (fun _ => ?_) | ((fail_if_success refine g_lit rfl rfl rfl ?_); first | apply g_partM rfl rfl rfl | apply g_partMB rfl rfl rfl | fail))
      | apply g_regB (id := 6) 2 | (apply g_drawB (id := 12) 50 (.see 0 [] (.take 1 (.take 2 (.take 3 (.see 4 [] (.see 5 [] (.take 6 (.take 7 (.take 8 (.take 9 (.see 10 [] (.see 11 [] (.see 12 [] (.take 13 .done)))))))))))))) (by kernel_rfl); intro k hd hk)
      | (apply g_drawB (id := 14) 6 (.take 0 (.take 1 (.take 2 (.take 3 (.take 4 (.see 5 [] (.see 6 [] (.take 7 (.take 8 (.take 9 .done)))))))))) (by kernel_rfl); intro k hd hk)
      | (apply g_drawB (id := 15) 7 (.take 0 (.take 1 (.take 2 (.take 3 (.take 4 (.see 5 [] (.see 6 [] (.take 7 (.take 8 (.take 9 .done)))))))))) (by kernel_rfl); intro k hd hk)
      | refine g_seq ?_ | refine g_region ?_ | refine g_nil ?_ | refine g_then_normal ?_ | refine g_block ?_ | refine g_in_normal ?_ | refine g_retc ?_
      | refine g_then_ret ?_ | refine g_in_ret ?_ | refine g_exit ?_ | refine g_then_exit ?_ | refine g_in_exit ?_ | refine g_in_other rfl ?_ | refine g_skip ?_
      | refine g_label ?_ | refine g_cond_true rfl ?_ | refine g_cond_false rfl ?_ | exact s_m | intro _ | (refine gp_take ?_; first | refine p_q ?_ | refine p_x ?_ | refine p_mq ?_ | ((fail_if_success refine gp_lit rfl rfl rfl rfl ?_); first | apply gp_guard_dec rfl rfl rfl rfl | apply gp_guard rfl rfl rfl rfl | fail))
      | (refine gp_see ?_; first | refine p_f ?_ | refine p_sx ?_ | ((fail_if_success refine gp_lit rfl rfl rfl rfl ?_); first | apply gp_guard_dec rfl rfl rfl rfl | apply gp_guard rfl rfl rfl rfl | fail) | refine p_sq ?_)
      | (refine gp_one ?_; first | refine p_v ?_ | refine p_s ?_ | refine p_n (fun _ => ?_) | refine p_y ?_ | refine p_app (fun _ _ => ?_) | refine p_mv ?_ | refine p_ms ?_ | refine p_b0 (fun _ => ?_) | ((fail_if_success refine gp_lit rfl rfl rfl rfl ?_); first | apply gp_guard_dec rfl rfl rfl rfl | apply gp_guard rfl rfl rfl rfl | fail))
      | refine gp_two ?_ ?_ | refine gp_done hd hk ?_ | intro _ | refine p_ta hd hk (fun _ _ _ hd hk => ?_) | refine p_ts hd hk (fun _ hd hk => ?_))
    refine g_toOwn (len := 1) (n := 3) .here rfl rfl ?_
    repeat (first
      | (refine g_ops ?_; first | refine s_q ?_ | refine s_v ?_ | refine s_s ?_ | refine s_n (fun _ => ?_) | refine s_x ?_ | refine s_y ?_ | refine s_mq ?_ | refine s_app (fun _ _ => ?_) | refine s_mv ?_ | refine s_ms ?_ | refine s_b0 (fun _ => ?_) | ((fail_if_success refine g_lit rfl rfl rfl ?_); first | apply g_partM rfl rfl rfl | apply g_partMB rfl rfl rfl | fail))
      | apply g_regB (id := 6) 2 | (apply g_drawB (id := 12) 50 (.see 0 [] (.take 1 (.take 2 (.take 3 (.see 4 [] (.see 5 [] (.take 6 (.take 7 (.take 8 (.take 9 (.see 10 [] (.see 11 [] (.see 12 [] (.take 13 .done)))))))))))))) (by kernel_rfl); intro k hd hk)
      | (apply g_drawB (id := 14) 6 (.take 0 (.take 1 (.take 2 (.take 3 (.take 4 (.see 5 [] (.see 6 [] (.take 7 (.take 8 (.take 9 .done)))))))))) (by kernel_rfl); intro k hd hk)
      | (apply g_drawB (id := 15) 7 (.take 0 (.take 1 (.take 2 (.take 3 (.take 4 (.see 5 [] (.see 6 [] (.take 7 (.take 8 (.take 9 .done)))))))))) (by kernel_rfl); intro k hd hk)
      | refine g_seq ?_ | refine g_region ?_ | refine g_nil ?_ | refine g_then_normal ?_ | refine g_block ?_ | refine g_in_normal ?_ | refine g_retc ?_
      | refine g_then_ret ?_ | refine g_in_ret ?_ | refine g_exit ?_ | refine g_then_exit ?_ | refine g_in_exit ?_ | refine g_in_other rfl ?_ | refine g_skip ?_
      | refine g_label ?_ | refine g_cond_true rfl ?_ | refine g_cond_false rfl ?_ | exact s_m | intro _ | (refine gp_take ?_; first | refine p_q ?_ | refine p_x ?_ | refine p_mq ?_ | ((fail_if_success refine gp_lit rfl rfl rfl rfl ?_); first | apply gp_guard_dec rfl rfl rfl rfl | apply gp_guard rfl rfl rfl rfl | fail))
      | (refine gp_see ?_; first | refine p_f ?_ | refine p_sx ?_ | ((fail_if_success refine gp_lit rfl rfl rfl rfl ?_); first | apply gp_guard_dec rfl rfl rfl rfl | apply gp_guard rfl rfl rfl rfl | fail) | refine p_sq ?_)
      | (refine gp_one ?_; first | refine p_v ?_ | refine p_s ?_ | refine p_n (fun _ => ?_) | refine p_y ?_ | refine p_app (fun _ _ => ?_) | refine p_mv ?_ | refine p_ms ?_ | refine p_b0 (fun _ => ?_) | ((fail_if_success refine gp_lit rfl rfl rfl rfl ?_); first | apply gp_guard_dec rfl rfl rfl rfl | apply gp_guard rfl rfl rfl rfl | fail))
      | refine gp_two ?_ ?_ | refine gp_done hd hk ?_ | intro _ | refine p_ta hd hk (fun _ _ _ hd hk => ?_) | refine p_ts hd hk (fun _ hd hk => ?_))
    rename_i q' c'
    rw [show 1 + i = i + 1 from Nat.add_comm 1 i, ← hE, eq3, eq3]
    refine g_again ⟨i + 1, _, _, q', c'⟩ (by simp only; omega) ⟨hi', ?_, ?_⟩ (by (repeat (first | exact FrSub.nil | refine FrSub.cons rfl ?_)); first | done | fail) (by (repeat (first | exact Take.nil | apply Take.cons | exact Sel.here | apply Sel.there)); first | done | fail)
    · rw [take_snoc xs i S3.zero hi', List.mem_append, List.mem_singleton, ← hin, ← s3_eq, eq_comm (a := (mostL 1 xs).w), eq_comm (a := (mostL 1 xs).l), eq_comm (a := (mostL 1 xs).n)]
      cases inn <;> simp
    · rw [take_snoc xs i S3.zero hi', List.mem_append, List.mem_singleton, ← hun, ← s3_eq, eq_comm (a := (mostL (-1) xs).w), eq_comm (a := (mostL (-1) xs).l), eq_comm (a := (mostL (-1) xs).n)]
      cases un <;> simp
  · obtain rfl : i = xs.length := by omega
    rw [List.take_length] at hin hun
    obtain rfl : inn = true := hin.2 mx1
    obtain rfl : un = true := hun.2 mn1
    rw [List.take_length]
    have hlen : (xs.reverse).length = xs.length := by simp
    repeat (first
      | (refine g_ops ?_; first | refine s_q ?_ | refine s_v ?_ | refine s_s ?_ | refine s_n (fun _ => ?_) | refine s_x ?_ | refine s_y ?_ | refine s_mq ?_ | refine s_app (fun _ _ => ?_) | refine s_mv ?_ | refine s_ms ?_ | refine s_b0 (fun _ => ?_) | ((fail_if_success refine g_lit rfl rfl rfl ?_); first | apply g_partM rfl rfl rfl | apply g_partMB rfl rfl rfl | fail))
      | apply g_regB (id := 6) 2 | (apply g_drawB (id := 12) 50 (.see 0 [] (.take 1 (.take 2 (.take 3 (.see 4 [] (.see 5 [] (.take 6 (.take 7 (.take 8 (.take 9 (.see 10 [] (.see 11 [] (.see 12 [] (.take 13 .done)))))))))))))) (by kernel_rfl); intro k hd hk)
      | (apply g_drawB (id := 14) 6 (.take 0 (.take 1 (.take 2 (.take 3 (.take 4 (.see 5 [] (.see 6 [] (.take 7 (.take 8 (.take 9 .done)))))))))) (by kernel_rfl); intro k hd hk)
      | (apply g_drawB (id := 15) 7 (.take 0 (.take 1 (.take 2 (.take 3 (.take 4 (.see 5 [] (.see 6 [] (.take 7 (.take 8 (.take 9 .done)))))))))) (by kernel_rfl); intro k hd hk)
      | refine g_seq ?_ | refine g_region ?_ | refine g_nil ?_ | refine g_then_normal ?_ | refine g_block ?_ | refine g_in_normal ?_ | refine g_retc ?_
      | refine g_then_ret ?_ | refine g_in_ret ?_ | refine g_exit ?_ | refine g_then_exit ?_ | refine g_in_exit ?_ | refine g_in_other rfl ?_ | refine g_skip ?_
      | refine g_label ?_ | refine g_cond_true rfl ?_ | refine g_cond_false rfl ?_ | exact s_m | intro _ | (refine gp_take ?_; first | refine p_q ?_ | refine p_x ?_ | refine p_mq ?_ | ((fail_if_success refine gp_lit rfl rfl rfl rfl ?_); first | apply gp_guard_dec rfl rfl rfl rfl | apply gp_guard rfl rfl rfl rfl | fail))
      | (refine gp_see ?_; first | refine p_f ?_ | refine p_sx ?_ | ((fail_if_success refine gp_lit rfl rfl rfl rfl ?_); first | apply gp_guard_dec rfl rfl rfl rfl | apply gp_guard rfl rfl rfl rfl | fail) | refine p_sq ?_)
      | (refine gp_one ?_; first | refine p_v ?_ | refine p_s ?_ | refine p_n (fun _ => ?_) | refine p_y ?_ | refine p_app (fun _ _ => ?_) | refine p_mv ?_ | refine p_ms ?_ | refine p_b0 (fun _ => ?_) | ((fail_if_success refine gp_lit rfl rfl rfl rfl ?_); first | apply gp_guard_dec rfl rfl rfl rfl | apply gp_guard rfl rfl rfl rfl | fail))
      | refine gp_two ?_ ?_ | refine gp_done hd hk ?_ | intro _ | refine p_ta hd hk (fun _ _ _ hd hk => ?_) | refine p_ts hd hk (fun _ hd hk => ?_))
    refine g_pile (H := H) (by (repeat (first | exact Sel.here | apply Sel.there)); first | done | fail) (by (repeat (first | exact Sel.here | apply Sel.there)); first | done | fail) (fun H' hs hsl => ?_)
    have hst := stAt_slAt hsl
    have m1 := max_at (Pile H') q c xs.reverse (by omega) hst
    have m2 := min_at (Pile H') q c xs.reverse (by omega) hst
    rw [max_rev, hlen] at m1
    rw [min_rev, hlen] at m2
    repeat (first
      | (refine g_ops ?_; first | refine s_qa ?_ | refine s_q ?_ | refine s_v ?_ | refine s_s ?_ | refine s_n (fun _ => ?_) | refine s_x ?_ | refine s_y ?_ | refine s_mq ?_ | refine s_app (fun _ _ => ?_) | refine s_mv ?_ | refine s_ms ?_ | refine s_b0 (fun _ => ?_) | ((fail_if_success refine g_lit rfl rfl rfl ?_); first | apply g_partM rfl rfl rfl | apply g_partMB rfl rfl rfl | fail))
      | apply g_regB (id := 6) 2 | (apply g_drawB (id := 12) 50 (.see 0 [] (.take 1 (.take 2 (.take 3 (.see 4 [] (.see 5 [] (.take 6 (.take 7 (.take 8 (.take 9 (.see 10 [] (.see 11 [] (.see 12 [] (.take 13 .done)))))))))))))) (by kernel_rfl); intro k hd hk)
      | (apply g_drawB (id := 14) 6 (.take 0 (.take 1 (.take 2 (.take 3 (.take 4 (.see 5 [] (.see 6 [] (.take 7 (.take 8 (.take 9 .done)))))))))) (by kernel_rfl); intro k hd hk)
      | (apply g_drawB (id := 15) 7 (.take 0 (.take 1 (.take 2 (.take 3 (.take 4 (.see 5 [] (.see 6 [] (.take 7 (.take 8 (.take 9 .done)))))))))) (by kernel_rfl); intro k hd hk)
      | (apply g_drawB (id := 17) 2 (.take 0 (.take 1 (.take 2 (.take 3 (.take 4 (.take 5 (.see 7 [] (.one 6 (.take 8 (.take 9 (.take 10 (.take 11 (.see 13 [] (.one 12 (.take 14 (.take 15 (.take 16 (.one 17 (.take 18 (.take 19 .done)))))))))))))))))))) (by kernel_rfl); intro k hd hk)
      | refine g_seq ?_ | refine g_region ?_ | refine g_nil ?_ | refine g_then_normal ?_ | refine g_block ?_ | refine g_in_normal ?_ | refine g_retc ?_
      | refine g_then_ret ?_ | refine g_in_ret ?_ | refine g_exit ?_ | refine g_then_exit ?_ | refine g_in_exit ?_ | refine g_in_other rfl ?_ | refine g_skip ?_
      | refine g_label ?_ | refine g_cond_true rfl ?_ | refine g_cond_false rfl ?_ | exact s_m | intro _ | (refine gp_take ?_; first | refine p_qa ?_ | refine p_q ?_ | refine p_x ?_ | refine p_mq ?_ | ((fail_if_success refine gp_lit rfl rfl rfl rfl ?_); first | apply gp_guard_dec rfl rfl rfl rfl | apply gp_guard rfl rfl rfl rfl | fail))
      | (refine gp_see ?_; first | refine p_f ?_ | refine p_sx ?_ | ((fail_if_success refine gp_lit rfl rfl rfl rfl ?_); first | apply gp_guard_dec rfl rfl rfl rfl | apply gp_guard rfl rfl rfl rfl | fail) | refine p_sq ?_)
      | (refine gp_one ?_; first | refine p_v ?_ | refine p_s ?_ | refine p_n (fun _ => ?_) | refine p_y ?_ | refine p_app (fun _ _ => ?_) | refine p_mv ?_ | refine p_ms ?_ | refine p_b0 (fun _ => ?_) | ((fail_if_success refine gp_lit rfl rfl rfl rfl ?_); first | apply gp_guard_dec rfl rfl rfl rfl | apply gp_guard rfl rfl rfl rfl | fail) | refine p_cP (m1) hd hk (fun _ _ => ?_) | refine p_cP (m2) hd hk (fun _ _ => ?_) | refine p_cP (awake (hT.grow hs)) hd hk (fun _ _ => ?_))
      | refine gp_two ?_ ?_ | refine gp_done hd hk ?_ | intro _ | refine p_ta hd hk (fun _ _ _ hd hk => ?_) | refine p_ts hd hk (fun _ hd hk => ?_))
    refine g_unpile hs (by (repeat (first | exact Sel.here | apply Sel.there)); first | done | fail) ?_
    exact g_ret () rfl (by (repeat (first | exact RVs.nil | apply RVs.tmp rfl | apply RVs.cellA rfl (by (repeat (first | exact Sel.here | apply Sel.there)); first | done | fail) (by (repeat (first | exact Cut.zero | apply Cut.take | apply Cut.skip)); first | done | fail) | apply RVs.cell1 rfl (by (repeat (first | exact Sel.here | apply Sel.there)); first | done | fail) rfl)); first | done | fail) (by (repeat (first | exact Take.nil | apply Take.cons | exact Sel.here | apply Sel.there)); first | done | fail) rfl trivial
end Go.Proofs.YtfgdpnmcpafkeaaDoor
