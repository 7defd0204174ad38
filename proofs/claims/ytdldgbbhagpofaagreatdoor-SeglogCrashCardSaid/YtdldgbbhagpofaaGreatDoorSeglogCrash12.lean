/- Contracts and laws that the proof stands on. -/
import Derived.Test.YtdldgbbhagpofaaGreatDoorSeglogCrash11
set_option linter.unusedSimpArgs false
set_option linter.unusedVariables false
namespace Go.Proofs.YtdldgbbhagpofaaGreatDoor
open Go.Sl facts
attribute [local irreducible] Code.wp wpList Exit.then Exit.inBlock bodyPost Back MidQ G GP QStep VStep CStep SStep Does Post Reads
theorem offAt (b o cap : Nat) (h : cap ≠ o) : (if cap = o then (some ⟨b, 0, none⟩ : Option Addr) else (some ⟨b, 0, none⟩ : Option Addr).map (·.add (o * 1))) = some ⟨b, o, none⟩ := by
  rw [if_neg h]
  simp [Addr.add]
  exact fun h => h.symm
theorem get_lt {T D : List Value} {u : Value} {i j : Nat} (hT : T.length = i) (h : j < i) : (T ++ u :: D)[j]? = T[j]? := List.getElem?_append_left (by omega)
theorem get_eq {T D : List Value} {u : Value} {i : Nat} (hT : T.length = i) : (T ++ u :: D)[i]? = some u := by
  rw [List.getElem?_append_right (by omega), hT, Nat.sub_self]; rfl
theorem get_gt {T D : List Value} {u : Value} {i j : Nat} (hT : T.length = i) (h : i < j) : (T ++ u :: D)[j]? = D[j - i - 1]? := by
  rw [List.getElem?_append_right (by omega), hT, show j - i = (j - i - 1) + 1 by omega]; rfl
theorem put_one {T D : List Value} {u u' : Value} {i : Nat} (hT : T.length = i) (j : Nat) (v : Value) (h : (T ++ u :: D)[j]? = some v) : if i ≤ j ∧ j < i + [u].length then [u][j - i]? = some v else (T ++ u' :: D)[j]? = some v := by
  rcases Nat.lt_trichotomy j i with h1 | h1 | h1
  · rw [if_neg (by omega), get_lt hT h1]
    rwa [get_lt hT h1] at h
  · subst h1
    rw [get_eq hT] at h
    rw [if_pos ⟨Nat.le_refl _, by simp⟩, Nat.sub_self]
    exact h
  · rw [if_neg (by simp; omega), get_gt hT h1]
    rwa [get_gt hT h1] at h
theorem put_rest {T D D' : List Value} {u : Value} {i : Nat} (hT : T.length = i) (j : Nat) (v : Value) (h : (T ++ u :: D)[j]? = some v) : if i + 1 ≤ j ∧ j < i + 1 + D.length then D[j - (i + 1)]? = some v else (T ++ u :: D')[j]? = some v := by
  rcases Nat.lt_trichotomy j i with h1 | h1 | h1
  · rw [if_neg (by omega), get_lt hT h1]
    rwa [get_lt hT h1] at h
  · subst h1
    rw [get_eq hT] at h
    rw [if_neg (by omega), get_eq hT]
    exact h
  · rw [get_gt hT h1] at h
    have hj := (List.getElem?_eq_some_iff.1 h).1
    rw [if_pos ⟨by omega, by omega⟩, ← h]
    congr 1
theorem all_put2 {T D : List Value} {v : Value} (h : T.all (·.oneCell') = true) (hv : v.oneCell' = true) (hD : D.all (·.oneCell') = true) : (T ++ v :: D).all (·.oneCell') = true := by
  rw [List.all_append, List.all_cons, h, hv, hD]; rfl
theorem all_take {xs : List Value} (i : Nat) (h : xs.all (·.oneCell') = true) : (xs.take i).all (·.oneCell') = true := by
  rw [List.all_eq_true] at h ⊢
  exact fun z hz => h z (List.mem_of_mem_take hz)
theorem all_drop {xs : List Value} (i : Nat) (h : xs.all (·.oneCell') = true) : (xs.drop i).all (·.oneCell') = true := by
  rw [List.all_eq_true] at h ⊢
  exact fun z hz => h z (List.mem_of_mem_drop hz)
set_option maxRecDepth 100000 in
set_option maxHeartbeats 2000000 in
theorem insertg (q : Option Addr) (n c i vb f : Nat) (xs : List Value) (hi : i ≤ n) (hn : n ≤ 1000000) (hall : xs.all (·.oneCell') = true) :
    Does Tryz.prog 68 [.slice q n c, int i, .slice (some ⟨vb, 0, none⟩) 1 1] [.own q n c 1 xs 80, .row vb [ptr f] 80]
    (X := OA) (fun x => .slice x.1 (n + 1) x.2) (fun x => [.own x.1 (n + 1) x.2 1 (xs.take i ++ ptr f :: xs.drop i) 80]) (fun _ => True) := by
  refine fn_intro Tryz.func68 rfl Tryz.ntmps68 rfl (by simp only [argFr, Nat.zero_add, Nat.reduceAdd]; rfl) (fun Γ => ?_)
  refine g_own .here (fun hxl hc hp => ?_)
  rw [Nat.mul_one] at hxl
  repeat (first
    | (refine g_ops ?_; first | refine s_q ?_ | refine s_v ?_ | refine s_s ?_ | refine s_n (fun _ => ?_) | refine s_x ?_ | refine s_y ?_ | refine s_mq ?_ | refine s_app (fun _ _ => ?_) | refine s_mv ?_ | refine s_ms ?_ | refine s_b0 (fun _ => ?_) | ((fail_if_success refine g_lit rfl rfl rfl ?_); first | apply g_partM rfl rfl rfl | apply g_partMB rfl rfl rfl | fail))
    | refine g_seq ?_ | refine g_region ?_ | refine g_nil ?_ | refine g_then_normal ?_ | refine g_block ?_ | refine g_in_normal ?_ | refine g_retc ?_ | refine g_then_ret ?_
    | refine g_in_ret ?_ | refine g_exit ?_ | refine g_then_exit ?_ | refine g_in_exit ?_ | refine g_in_other rfl ?_ | refine g_skip ?_ | refine g_label ?_
    | refine g_cond_true rfl ?_ | refine g_cond_false rfl ?_ | exact s_m | intro _)
  refine s_q (q := by exact qs_slice (l := i) (h := n) inferInstance inferInstance rfl (.some rfl rfl) .none hi hc) ?_
  repeat (first
    | (refine g_ops ?_; first | refine s_q ?_ | refine s_v ?_ | refine s_s ?_ | refine s_n (fun _ => ?_) | refine s_x ?_ | refine s_y ?_ | refine s_mq ?_ | refine s_app (fun _ _ => ?_) | refine s_mv ?_ | refine s_ms ?_ | refine s_b0 (fun _ => ?_) | ((fail_if_success refine g_lit rfl rfl rfl ?_); first | apply g_partM rfl rfl rfl | apply g_partMB rfl rfl rfl | fail))
    | refine g_seq ?_ | refine g_region ?_ | refine g_nil ?_ | refine g_then_normal ?_ | refine g_block ?_ | refine g_in_normal ?_ | refine g_retc ?_ | refine g_then_ret ?_
    | refine g_in_ret ?_ | refine g_exit ?_ | refine g_then_exit ?_ | refine g_in_exit ?_ | refine g_in_other rfl ?_ | refine g_skip ?_ | refine g_label ?_
    | refine g_cond_true rfl ?_ | refine g_cond_false rfl ?_ | exact s_m | intro _)
  refine g_cond_dec rfl (fun h => ?_) (fun h => ?_)
  · obtain rfl : i = n := by omega
    repeat (first
      | (refine g_ops ?_; first | refine s_q ?_ | refine s_v ?_ | refine s_s ?_ | refine s_n (fun _ => ?_) | refine s_x ?_ | refine s_y ?_ | refine s_mq ?_ | refine s_app (fun _ _ => ?_) | refine s_mv ?_ | refine s_ms ?_ | refine s_b0 (fun _ => ?_) | ((fail_if_success refine g_lit rfl rfl rfl ?_); first | apply g_partM rfl rfl rfl | apply g_partMB rfl rfl rfl | fail))
      | refine g_seq ?_ | refine g_region ?_ | refine g_nil ?_ | refine g_then_normal ?_ | refine g_block ?_ | refine g_in_normal ?_ | refine g_retc ?_
      | refine g_then_ret ?_ | refine g_in_ret ?_ | refine g_exit ?_ | refine g_then_exit ?_ | refine g_in_exit ?_ | refine g_in_other rfl ?_ | refine g_skip ?_
      | refine g_label ?_ | refine g_cond_true rfl ?_ | refine g_cond_false rfl ?_ | exact s_m | intro _)
    rename_i q' c'
    have e : xs.take i ++ ptr f :: xs.drop i = xs ++ [ptr f] := by rw [List.take_of_length_le (by omega), List.drop_of_length_le (by omega)]
    rw [e]
    exact g_ret (q', c') rfl (by (repeat (first | exact RVs.nil | apply RVs.tmp rfl | apply RVs.cellA rfl (by (repeat (first | exact Sel.here | apply Sel.there)); first | done | fail) (by (repeat (first | exact Cut.zero | apply Cut.take | apply Cut.skip)); first | done | fail) | apply RVs.cell1 rfl (by (repeat (first | exact Sel.here | apply Sel.there)); first | done | fail) rfl)); first | done | fail) (by (repeat (first | exact Take.nil | apply Take.cons | exact Sel.here | apply Sel.there)); first | done | fail) rfl trivial
  · have hin : i < n := by omega
    obtain ⟨b, rfl⟩ := hp (by omega)
    repeat (first
      | (refine g_ops ?_; first | refine s_q ?_ | refine s_v ?_ | refine s_s ?_ | refine s_n (fun _ => ?_) | refine s_x ?_ | refine s_y ?_ | refine s_mq ?_ | refine s_app (fun _ _ => ?_) | refine s_mv ?_ | refine s_ms ?_ | refine s_b0 (fun _ => ?_) | ((fail_if_success refine g_lit rfl rfl rfl ?_); first | apply g_partM rfl rfl rfl | apply g_partMB rfl rfl rfl | fail))
      | refine g_seq ?_ | refine g_region ?_ | refine g_nil ?_ | refine g_then_normal ?_ | refine g_block ?_ | refine g_in_normal ?_ | refine g_retc ?_
      | refine g_then_ret ?_ | refine g_in_ret ?_ | refine g_exit ?_ | refine g_then_exit ?_ | refine g_in_exit ?_ | refine g_in_other rfl ?_ | refine g_skip ?_
      | refine g_label ?_ | refine g_cond_true rfl ?_ | refine g_cond_false rfl ?_ | exact s_m | intro _)
    refine s_q (q := by exact qs_cap inferInstance rfl) ?_
    repeat (first
      | (refine g_ops ?_; first | refine s_q ?_ | refine s_v ?_ | refine s_s ?_ | refine s_n (fun _ => ?_) | refine s_x ?_ | refine s_y ?_ | refine s_mq ?_ | refine s_app (fun _ _ => ?_) | refine s_mv ?_ | refine s_ms ?_ | refine s_b0 (fun _ => ?_) | ((fail_if_success refine g_lit rfl rfl rfl ?_); first | apply g_partM rfl rfl rfl | apply g_partMB rfl rfl rfl | fail))
      | refine g_seq ?_ | refine g_region ?_ | refine g_nil ?_ | refine g_then_normal ?_ | refine g_block ?_ | refine g_in_normal ?_ | refine g_retc ?_
      | refine g_then_ret ?_ | refine g_in_ret ?_ | refine g_exit ?_ | refine g_then_exit ?_ | refine g_in_exit ?_ | refine g_in_other rfl ?_ | refine g_skip ?_
      | refine g_label ?_ | refine g_cond_true rfl ?_ | refine g_cond_false rfl ?_ | exact s_m | intro _)
    refine g_cond_dec rfl (fun h2 => ?_) (fun h2 => ?_)
    · have hgr : c < n + 1 := by omega
      repeat (first
        | (refine g_ops ?_; first | refine s_q ?_ | refine s_v ?_ | refine s_s ?_ | refine s_n (fun _ => ?_) | refine s_x ?_ | refine s_y ?_ | refine s_mq ?_ | refine s_app (fun _ _ => ?_) | refine s_mv ?_ | refine s_ms ?_ | refine s_b0 (fun _ => ?_) | ((fail_if_success refine g_lit rfl rfl rfl ?_); first | apply g_partM rfl rfl rfl | apply g_partMB rfl rfl rfl | fail))
        | refine g_seq ?_ | refine g_region ?_ | refine g_nil ?_ | refine g_then_normal ?_ | refine g_block ?_ | refine g_in_normal ?_ | refine g_retc ?_
        | refine g_then_ret ?_ | refine g_in_ret ?_ | refine g_exit ?_ | refine g_then_exit ?_ | refine g_in_exit ?_ | refine g_in_other rfl ?_ | refine g_skip ?_
        | refine g_label ?_ | refine g_cond_true rfl ?_ | refine g_cond_false rfl ?_ | exact s_m | intro _)
      refine s_q (q := by exact qs_slice (l := 0) (h := i) inferInstance inferInstance rfl .none (.some rfl rfl) (Nat.zero_le _) (by omega)) ?_
      refine g_as 34 (v' := .slice (some ⟨b, 0, none⟩) i c) rfl (offTake _ _ _) ?_
      repeat (first
        | (refine g_ops ?_; first | refine s_q ?_ | refine s_v ?_ | refine s_s ?_ | refine s_n (fun _ => ?_) | refine s_x ?_ | refine s_y ?_ | refine s_mq ?_ | refine s_app (fun _ _ => ?_) | refine s_mv ?_ | refine s_ms ?_ | refine s_b0 (fun _ => ?_) | ((fail_if_success refine g_lit rfl rfl rfl ?_); first | apply g_partM rfl rfl rfl | apply g_partMB rfl rfl rfl | fail))
        | refine g_seq ?_ | refine g_region ?_ | refine g_nil ?_ | refine g_then_normal ?_ | refine g_block ?_ | refine g_in_normal ?_ | refine g_retc ?_
        | refine g_then_ret ?_ | refine g_in_ret ?_ | refine g_exit ?_ | refine g_then_exit ?_ | refine g_in_exit ?_ | refine g_in_other rfl ?_ | refine g_skip ?_
        | refine g_label ?_ | refine g_cond_true rfl ?_ | refine g_cond_false rfl ?_ | exact s_m | intro _)
      refine g_as 39 (v' := int ((n + 1 - i : Nat) : Int)) rfl (congrArg (Value.int .i64) (by omega)) ?_
      refine g_c (cs_appendNG (m := n + 1 - i) inferInstance inferInstance inferInstance inferInstance inferInstance rfl rfl (by (repeat (first | exact Sel.here | apply Sel.there)); first | done | fail) hi (by omega) rfl rfl (by omega) (by omega) (by omega)) rfl rfl (fun x _ => ?_)
      obtain ⟨b2, c2⟩ := x
      dsimp only
      rw [show i + (n + 1 - i) = n + 1 by omega]
      refine g_own .here (fun _ hc2 _ => ?_)
      repeat (first
        | (refine g_ops ?_; first | refine s_q ?_ | refine s_v ?_ | refine s_s ?_ | refine s_n (fun _ => ?_) | refine s_x ?_ | refine s_y ?_ | refine s_mq ?_ | refine s_app (fun _ _ => ?_) | refine s_mv ?_ | refine s_ms ?_ | refine s_b0 (fun _ => ?_) | ((fail_if_success refine g_lit rfl rfl rfl ?_); first | apply g_partM rfl rfl rfl | apply g_partMB rfl rfl rfl | fail))
        | refine g_seq ?_ | refine g_region ?_ | refine g_nil ?_ | refine g_then_normal ?_ | refine g_block ?_ | refine g_in_normal ?_ | refine g_retc ?_
        | refine g_then_ret ?_ | refine g_in_ret ?_ | refine g_exit ?_ | refine g_then_exit ?_ | refine g_in_exit ?_ | refine g_in_other rfl ?_ | refine g_skip ?_
        | refine g_label ?_ | refine g_cond_true rfl ?_ | refine g_cond_false rfl ?_ | exact s_m | intro _)
      refine s_q (q := by exact qs_slice (l := i) (h := n + 1) inferInstance inferInstance rfl (.some rfl rfl) .none (by omega) hc2) ?_
      refine g_as 43 (v' := .slice (some ⟨b2, i, none⟩) (n + 1 - i) (c2 - i)) rfl (by rw [offAt b2 i c2 (by omega)]) ?_
      repeat (first
        | (refine g_ops ?_; first | refine s_q ?_ | refine s_v ?_ | refine s_s ?_ | refine s_n (fun _ => ?_) | refine s_x ?_ | refine s_y ?_ | refine s_mq ?_ | refine s_app (fun _ _ => ?_) | refine s_mv ?_ | refine s_ms ?_ | refine s_b0 (fun _ => ?_) | ((fail_if_success refine g_lit rfl rfl rfl ?_); first | apply g_partM rfl rfl rfl | apply g_partMB rfl rfl rfl | fail))
        | refine g_seq ?_ | refine g_region ?_ | refine g_nil ?_ | refine g_then_normal ?_ | refine g_block ?_ | refine g_in_normal ?_ | refine g_retc ?_
        | refine g_then_ret ?_ | refine g_in_ret ?_ | refine g_exit ?_ | refine g_then_exit ?_ | refine g_in_exit ?_ | refine g_in_other rfl ?_ | refine g_skip ?_
        | refine g_label ?_ | refine g_cond_true rfl ?_ | refine g_cond_false rfl ?_ | exact s_m | intro _)
      have hlt : (xs.take i).length = i := by simp; omega
      refine g_c (cs_copyG (cs := [ptr f]) (len' := n + 1) (zs := xs.take i ++ ptr f :: List.replicate (n - i) (.pointer none)) inferInstance inferInstance rfl rfl .here (by omega) (by simp [Nat.min_def]; omega) (fun w hh j v hj => ?_) hc2 (by simp; omega) (by simp; omega) ?_ ?_ ?_) rfl rfl (fun _ _ => ?_)
      · have hj0 : j = 0 := by
          have := (List.getElem?_eq_some_iff.1 hj).1
          simp at this
          exact this
        subst hj0
        rw [Addr.add_lit, Nat.zero_add]
        exact hh.cell (c := .row vb [ptr f] 80) (by (repeat (first | exact Sel.here | apply Sel.there)); first | done | fail) (reads_row (by simpa using hj))
      · simp [Value.oneCell']
      · exact all_put2 (all_take i hall) rfl (by rw [List.all_eq_true]; intro z hz; rw [List.eq_of_mem_replicate hz]; rfl)
      · rw [show n + 1 - i = (n - i) + 1 by omega, List.replicate_succ]
        exact put_one hlt
      repeat (first
        | (refine g_ops ?_; first | refine s_q ?_ | refine s_v ?_ | refine s_s ?_ | refine s_n (fun _ => ?_) | refine s_x ?_ | refine s_y ?_ | refine s_mq ?_ | refine s_app (fun _ _ => ?_) | refine s_mv ?_ | refine s_ms ?_ | refine s_b0 (fun _ => ?_) | ((fail_if_success refine g_lit rfl rfl rfl ?_); first | apply g_partM rfl rfl rfl | apply g_partMB rfl rfl rfl | fail))
        | refine g_seq ?_ | refine g_region ?_ | refine g_nil ?_ | refine g_then_normal ?_ | refine g_block ?_ | refine g_in_normal ?_ | refine g_retc ?_
        | refine g_then_ret ?_ | refine g_in_ret ?_ | refine g_exit ?_ | refine g_then_exit ?_ | refine g_in_exit ?_ | refine g_in_other rfl ?_ | refine g_skip ?_
        | refine g_label ?_ | refine g_cond_true rfl ?_ | refine g_cond_false rfl ?_ | exact s_m | intro _)
      refine g_draw (.take 0 (.take 1 (.take 2 (.take 3 (.take 4 (.take 5 (.take 6 (.take 7 (.one 8 .done))))))))) (by kernel_rfl) (C := []) .nil (fun k hd hk => ?_)
      repeat (first
        | (refine gp_take ?_; first | refine p_q ?_ | refine p_x ?_ | refine p_mq ?_ | ((fail_if_success refine gp_lit rfl rfl rfl rfl ?_); first | apply gp_guard_dec rfl rfl rfl rfl | apply gp_guard rfl rfl rfl rfl | fail))
        | (refine gp_see ?_; first | refine p_f ?_ | refine p_sx ?_ | ((fail_if_success refine gp_lit rfl rfl rfl rfl ?_); first | apply gp_guard_dec rfl rfl rfl rfl | apply gp_guard rfl rfl rfl rfl | fail) | refine p_sq ?_)
        | (refine gp_one ?_; first | refine p_v ?_ | refine p_s ?_ | refine p_n (fun _ => ?_) | refine p_y ?_ | refine p_app (fun _ _ => ?_) | refine p_mv ?_ | refine p_ms ?_ | refine p_b0 (fun _ => ?_) | ((fail_if_success refine gp_lit rfl rfl rfl rfl ?_); first | apply gp_guard_dec rfl rfl rfl rfl | apply gp_guard rfl rfl rfl rfl | fail))
        | refine gp_two ?_ ?_ | refine gp_done hd hk ?_ | intro _ | refine p_ta hd hk (fun _ _ _ hd hk => ?_) | refine p_ts hd hk (fun _ hd hk => ?_))
      refine gp_as 49 (v' := int ((i + 1 : Nat) : Int)) rfl (congrArg (Value.int .i64) (by omega)) ?_
      refine p_q (q := by intro Δ; exact qs_slice (l := i + 1) (h := n + 1) inferInstance inferInstance rfl (.some rfl rfl) .none (by omega) hc2) ?_
      refine gp_as 50 (v' := .slice (some ⟨b2, i + 1, none⟩) (n - i) (c2 - (i + 1))) rfl (by rw [offAt b2 (i + 1) c2 (by omega), show n + 1 - (i + 1) = n - i by omega]) ?_
      repeat (first
        | (refine gp_take ?_; first | refine p_q ?_ | refine p_x ?_ | refine p_mq ?_ | ((fail_if_success refine gp_lit rfl rfl rfl rfl ?_); first | apply gp_guard_dec rfl rfl rfl rfl | apply gp_guard rfl rfl rfl rfl | fail))
        | (refine gp_see ?_; first | refine p_f ?_ | refine p_sx ?_ | ((fail_if_success refine gp_lit rfl rfl rfl rfl ?_); first | apply gp_guard_dec rfl rfl rfl rfl | apply gp_guard rfl rfl rfl rfl | fail) | refine p_sq ?_)
        | (refine gp_one ?_; first | refine p_v ?_ | refine p_s ?_ | refine p_n (fun _ => ?_) | refine p_y ?_ | refine p_app (fun _ _ => ?_) | refine p_mv ?_ | refine p_ms ?_ | refine p_b0 (fun _ => ?_) | ((fail_if_success refine gp_lit rfl rfl rfl rfl ?_); first | apply gp_guard_dec rfl rfl rfl rfl | apply gp_guard rfl rfl rfl rfl | fail))
        | refine gp_two ?_ ?_ | refine gp_done hd hk ?_ | intro _ | refine p_ta hd hk (fun _ _ _ hd hk => ?_) | refine p_ts hd hk (fun _ hd hk => ?_))
      refine p_q (q := by intro Δ; exact qs_slice (l := i) (h := n) inferInstance inferInstance rfl (.some rfl rfl) .none (by omega) hc) ?_
      refine gp_as 53 (v' := .slice (some ⟨b, i, none⟩) (n - i) (c - i)) rfl (by rw [offAt b i c (by omega)]) ?_
      refine gp_c (cs_copyG (cs := xs.drop i) (len' := n + 1) (zs := xs.take i ++ ptr f :: xs.drop i) inferInstance inferInstance rfl rfl .here (by omega) (by simp [hxl, Nat.min_def]) (fun w hh j v hj => ?_) hc2 (by simp; omega) (by simp; omega) ?_ ?_ ?_) rfl rfl rfl (fun _ _ => ?_)
      · rw [Addr.add_lit]
        rw [List.getElem?_drop] at hj
        exact hh.cell (c := .own (some ⟨b, 0, none⟩) n c 1 xs 80) (by (repeat (first | exact Sel.here | apply Sel.there)); first | done | fail) (reads_own hj)
      · exact fun z hz => (List.all_eq_true.1 (all_drop i hall)) z hz
      · exact all_put2 (all_take i hall) rfl (all_drop i hall)
      · exact put_rest hlt
      repeat (first
        | (refine gp_take ?_; first | refine p_q ?_ | refine p_x ?_ | refine p_mq ?_ | ((fail_if_success refine gp_lit rfl rfl rfl rfl ?_); first | apply gp_guard_dec rfl rfl rfl rfl | apply gp_guard rfl rfl rfl rfl | fail))
        | (refine gp_see ?_; first | refine p_f ?_ | refine p_sx ?_ | ((fail_if_success refine gp_lit rfl rfl rfl rfl ?_); first | apply gp_guard_dec rfl rfl rfl rfl | apply gp_guard rfl rfl rfl rfl | fail) | refine p_sq ?_)
        | (refine gp_one ?_; first | refine p_v ?_ | refine p_s ?_ | refine p_n (fun _ => ?_) | refine p_y ?_ | refine p_app (fun _ _ => ?_) | refine p_mv ?_ | refine p_ms ?_ | refine p_b0 (fun _ => ?_) | ((fail_if_success refine gp_lit rfl rfl rfl rfl ?_); first | apply gp_guard_dec rfl rfl rfl rfl | apply gp_guard rfl rfl rfl rfl | fail))
        | refine gp_two ?_ ?_ | refine gp_done hd hk ?_ | intro _ | refine p_ta hd hk (fun _ _ _ hd hk => ?_) | refine p_ts hd hk (fun _ hd hk => ?_))
      repeat (first
        | (refine g_ops ?_; first | refine s_q ?_ | refine s_v ?_ | refine s_s ?_ | refine s_n (fun _ => ?_) | refine s_x ?_ | refine s_y ?_ | refine s_mq ?_ | refine s_app (fun _ _ => ?_) | refine s_mv ?_ | refine s_ms ?_ | refine s_b0 (fun _ => ?_) | ((fail_if_success refine g_lit rfl rfl rfl ?_); first | apply g_partM rfl rfl rfl | apply g_partMB rfl rfl rfl | fail))
        | refine g_seq ?_ | refine g_region ?_ | refine g_nil ?_ | refine g_then_normal ?_ | refine g_block ?_ | refine g_in_normal ?_ | refine g_retc ?_
        | refine g_then_ret ?_ | refine g_in_ret ?_ | refine g_exit ?_ | refine g_then_exit ?_ | refine g_in_exit ?_ | refine g_in_other rfl ?_ | refine g_skip ?_
        | refine g_label ?_ | refine g_cond_true rfl ?_ | refine g_cond_false rfl ?_ | exact s_m | intro _)
      exact g_ret (some ⟨b2, 0, none⟩, c2) rfl (by (repeat (first | exact RVs.nil | apply RVs.tmp rfl | apply RVs.cellA rfl (by (repeat (first | exact Sel.here | apply Sel.there)); first | done | fail) (by (repeat (first | exact Cut.zero | apply Cut.take | apply Cut.skip)); first | done | fail) | apply RVs.cell1 rfl (by (repeat (first | exact Sel.here | apply Sel.there)); first | done | fail) rfl)); first | done | fail) (by (repeat (first | exact Take.nil | apply Take.cons | exact Sel.here | apply Sel.there)); first | done | fail) rfl trivial
    · have hrm : n + 1 ≤ c := by omega
      have hlt : (xs.take i).length = i := by simp; omega
      have hx1 : (xs[i]'(by omega)).oneCell' = true := (List.all_eq_true.1 hall) _ (List.getElem_mem _)
      repeat (first
        | (refine g_ops ?_; first | refine s_q ?_ | refine s_v ?_ | refine s_s ?_ | refine s_n (fun _ => ?_) | refine s_x ?_ | refine s_y ?_ | refine s_mq ?_ | refine s_app (fun _ _ => ?_) | refine s_mv ?_ | refine s_ms ?_ | refine s_b0 (fun _ => ?_) | ((fail_if_success refine g_lit rfl rfl rfl ?_); first | apply g_partM rfl rfl rfl | apply g_partMB rfl rfl rfl | fail))
        | refine g_seq ?_ | refine g_region ?_ | refine g_nil ?_ | refine g_then_normal ?_ | refine g_block ?_ | refine g_in_normal ?_ | refine g_retc ?_
        | refine g_then_ret ?_ | refine g_in_ret ?_ | refine g_exit ?_ | refine g_then_exit ?_ | refine g_in_exit ?_ | refine g_in_other rfl ?_ | refine g_skip ?_
        | refine g_label ?_ | refine g_cond_true rfl ?_ | refine g_cond_false rfl ?_ | exact s_m | intro _)
      refine g_as 59 (v' := int ((n + 1 : Nat) : Int)) rfl (congrArg (Value.int .i64) (by omega)) ?_
      refine s_q (q := by exact qs_slice (l := 0) (h := n + 1) inferInstance inferInstance rfl .none (.some rfl rfl) (Nat.zero_le _) hrm) ?_
      refine g_as 60 (v' := .slice (some ⟨b, 0, none⟩) (n + 1) c) rfl (offTake _ _ _) ?_
      repeat (first
        | (refine g_ops ?_; first | refine s_q ?_ | refine s_v ?_ | refine s_s ?_ | refine s_n (fun _ => ?_) | refine s_x ?_ | refine s_y ?_ | refine s_mq ?_ | refine s_app (fun _ _ => ?_) | refine s_mv ?_ | refine s_ms ?_ | refine s_b0 (fun _ => ?_) | ((fail_if_success refine g_lit rfl rfl rfl ?_); first | apply g_partM rfl rfl rfl | apply g_partMB rfl rfl rfl | fail))
        | refine g_seq ?_ | refine g_region ?_ | refine g_nil ?_ | refine g_then_normal ?_ | refine g_block ?_ | refine g_in_normal ?_ | refine g_retc ?_
        | refine g_then_ret ?_ | refine g_in_ret ?_ | refine g_exit ?_ | refine g_then_exit ?_ | refine g_in_exit ?_ | refine g_in_other rfl ?_ | refine g_skip ?_
        | refine g_label ?_ | refine g_cond_true rfl ?_ | refine g_cond_false rfl ?_ | exact s_m | intro _)
      refine g_as 65 (v' := int ((i + 1 : Nat) : Int)) rfl (congrArg (Value.int .i64) (by omega)) ?_
      refine s_q (q := by exact qs_slice (l := i + 1) (h := n + 1) inferInstance inferInstance rfl (.some rfl rfl) .none (by omega) hrm) ?_
      refine g_as 66 (v' := .slice (some ⟨b, i + 1, none⟩) (n - i) (c - (i + 1))) rfl (by rw [offAt b (i + 1) c (by omega), show n + 1 - (i + 1) = n - i by omega]) ?_
      refine g_v (vs_overlaps (n := n) (cap := c) (xs := xs) rfl rfl (by omega) (by (repeat (first | exact Take.nil | apply Take.cons | exact Sel.here | apply Sel.there)); first | done | fail)) rfl rfl ?_
      repeat (first
        | (refine g_ops ?_; first | refine s_q ?_ | refine s_v ?_ | refine s_s ?_ | refine s_n (fun _ => ?_) | refine s_x ?_ | refine s_y ?_ | refine s_mq ?_ | refine s_app (fun _ _ => ?_) | refine s_mv ?_ | refine s_ms ?_ | refine s_b0 (fun _ => ?_) | ((fail_if_success refine g_lit rfl rfl rfl ?_); first | apply g_partM rfl rfl rfl | apply g_partMB rfl rfl rfl | fail))
        | refine g_seq ?_ | refine g_region ?_ | refine g_nil ?_ | refine g_then_normal ?_ | refine g_block ?_ | refine g_in_normal ?_ | refine g_retc ?_
        | refine g_then_ret ?_ | refine g_in_ret ?_ | refine g_exit ?_ | refine g_then_exit ?_ | refine g_in_exit ?_ | refine g_in_other rfl ?_ | refine g_skip ?_
        | refine g_label ?_ | refine g_cond_true rfl ?_ | refine g_cond_false rfl ?_ | exact s_m | intro _)
      refine g_draw (.take 0 (.take 1 (.take 2 (.take 3 (.take 4 (.take 5 (.take 6 (.take 7 (.one 8 .done))))))))) (by kernel_rfl) (C := []) .nil (fun k hd hk => ?_)
      repeat (first
        | (refine gp_take ?_; first | refine p_q ?_ | refine p_x ?_ | refine p_mq ?_ | ((fail_if_success refine gp_lit rfl rfl rfl rfl ?_); first | apply gp_guard_dec rfl rfl rfl rfl | apply gp_guard rfl rfl rfl rfl | fail))
        | (refine gp_see ?_; first | refine p_f ?_ | refine p_sx ?_ | ((fail_if_success refine gp_lit rfl rfl rfl rfl ?_); first | apply gp_guard_dec rfl rfl rfl rfl | apply gp_guard rfl rfl rfl rfl | fail) | refine p_sq ?_)
        | (refine gp_one ?_; first | refine p_v ?_ | refine p_s ?_ | refine p_n (fun _ => ?_) | refine p_y ?_ | refine p_app (fun _ _ => ?_) | refine p_mv ?_ | refine p_ms ?_ | refine p_b0 (fun _ => ?_) | ((fail_if_success refine gp_lit rfl rfl rfl rfl ?_); first | apply gp_guard_dec rfl rfl rfl rfl | apply gp_guard rfl rfl rfl rfl | fail))
        | refine gp_two ?_ ?_ | refine gp_done hd hk ?_ | intro _ | refine p_ta hd hk (fun _ _ _ hd hk => ?_) | refine p_ts hd hk (fun _ hd hk => ?_))
      refine gp_as 72 (v' := int ((i + 1 : Nat) : Int)) rfl (congrArg (Value.int .i64) (by omega)) ?_
      refine p_q (q := by intro Δ; exact qs_slice (l := i + 1) (h := n + 1) inferInstance inferInstance rfl (.some rfl rfl) .none (by omega) hrm) ?_
      refine gp_as 73 (v' := .slice (some ⟨b, i + 1, none⟩) (n - i) (c - (i + 1))) rfl (by rw [offAt b (i + 1) c (by omega), show n + 1 - (i + 1) = n - i by omega]) ?_
      repeat (first
        | (refine gp_take ?_; first | refine p_q ?_ | refine p_x ?_ | refine p_mq ?_ | ((fail_if_success refine gp_lit rfl rfl rfl rfl ?_); first | apply gp_guard_dec rfl rfl rfl rfl | apply gp_guard rfl rfl rfl rfl | fail))
        | (refine gp_see ?_; first | refine p_f ?_ | refine p_sx ?_ | ((fail_if_success refine gp_lit rfl rfl rfl rfl ?_); first | apply gp_guard_dec rfl rfl rfl rfl | apply gp_guard rfl rfl rfl rfl | fail) | refine p_sq ?_)
        | (refine gp_one ?_; first | refine p_v ?_ | refine p_s ?_ | refine p_n (fun _ => ?_) | refine p_y ?_ | refine p_app (fun _ _ => ?_) | refine p_mv ?_ | refine p_ms ?_ | refine p_b0 (fun _ => ?_) | ((fail_if_success refine gp_lit rfl rfl rfl rfl ?_); first | apply gp_guard_dec rfl rfl rfl rfl | apply gp_guard rfl rfl rfl rfl | fail))
        | refine gp_two ?_ ?_ | refine gp_done hd hk ?_ | intro _ | refine p_ta hd hk (fun _ _ _ hd hk => ?_) | refine p_ts hd hk (fun _ hd hk => ?_))
      refine p_q (q := by intro Δ; exact qs_slice (l := i) (h := n + 1) inferInstance inferInstance rfl (.some rfl rfl) .none (by omega) hrm) ?_
      refine gp_as 76 (v' := .slice (some ⟨b, i, none⟩) (n + 1 - i) (c - i)) rfl (by rw [offAt b i c (by omega)]) ?_
      refine gp_c (cs_copyG (cs := xs.drop i) (len' := n + 1) (zs := xs.take i ++ (xs[i]'(by omega)) :: xs.drop i) inferInstance inferInstance rfl rfl .here (by omega) (by simp [hxl, Nat.min_def]; omega) (fun w hh j v hj => ?_) hrm (by simp; omega) (by simp; omega) ?_ ?_ ?_) rfl rfl rfl (fun _ _ => ?_)
      · rw [Addr.add_lit]
        rw [List.getElem?_drop] at hj
        exact hh.cell (c := .own (some ⟨b, 0, none⟩) n c 1 xs 80) (by (repeat (first | exact Sel.here | apply Sel.there)); first | done | fail) (reads_own hj)
      · exact fun z hz => (List.all_eq_true.1 (all_drop i hall)) z hz
      · exact all_put2 (all_take i hall) hx1 (all_drop i hall)
      · intro j v hj
        have := put_rest (D' := xs.drop (i + 1)) hlt j v hj
        rwa [List.getElem_cons_drop, List.take_append_drop] at this
      repeat (first
        | (refine gp_take ?_; first | refine p_q ?_ | refine p_x ?_ | refine p_mq ?_ | ((fail_if_success refine gp_lit rfl rfl rfl rfl ?_); first | apply gp_guard_dec rfl rfl rfl rfl | apply gp_guard rfl rfl rfl rfl | fail))
        | (refine gp_see ?_; first | refine p_f ?_ | refine p_sx ?_ | ((fail_if_success refine gp_lit rfl rfl rfl rfl ?_); first | apply gp_guard_dec rfl rfl rfl rfl | apply gp_guard rfl rfl rfl rfl | fail) | refine p_sq ?_)
        | (refine gp_one ?_; first | refine p_v ?_ | refine p_s ?_ | refine p_n (fun _ => ?_) | refine p_y ?_ | refine p_app (fun _ _ => ?_) | refine p_mv ?_ | refine p_ms ?_ | refine p_b0 (fun _ => ?_) | ((fail_if_success refine gp_lit rfl rfl rfl rfl ?_); first | apply gp_guard_dec rfl rfl rfl rfl | apply gp_guard rfl rfl rfl rfl | fail))
        | refine gp_two ?_ ?_ | refine gp_done hd hk ?_ | intro _ | refine p_ta hd hk (fun _ _ _ hd hk => ?_) | refine p_ts hd hk (fun _ hd hk => ?_))
      repeat (first
        | (refine g_ops ?_; first | refine s_q ?_ | refine s_v ?_ | refine s_s ?_ | refine s_n (fun _ => ?_) | refine s_x ?_ | refine s_y ?_ | refine s_mq ?_ | refine s_app (fun _ _ => ?_) | refine s_mv ?_ | refine s_ms ?_ | refine s_b0 (fun _ => ?_) | ((fail_if_success refine g_lit rfl rfl rfl ?_); first | apply g_partM rfl rfl rfl | apply g_partMB rfl rfl rfl | fail))
        | refine g_seq ?_ | refine g_region ?_ | refine g_nil ?_ | refine g_then_normal ?_ | refine g_block ?_ | refine g_in_normal ?_ | refine g_retc ?_
        | refine g_then_ret ?_ | refine g_in_ret ?_ | refine g_exit ?_ | refine g_then_exit ?_ | refine g_in_exit ?_ | refine g_in_other rfl ?_ | refine g_skip ?_
        | refine g_label ?_ | refine g_cond_true rfl ?_ | refine g_cond_false rfl ?_ | exact s_m | intro _)
      refine s_q (q := by exact qs_slice (l := i) (h := n + 1) inferInstance inferInstance rfl (.some rfl rfl) .none (by omega) hrm) ?_
      refine g_as 80 (v' := .slice (some ⟨b, i, none⟩) (n + 1 - i) (c - i)) rfl (by rw [offAt b i c (by omega)]) ?_
      repeat (first
        | (refine g_ops ?_; first | refine s_q ?_ | refine s_v ?_ | refine s_s ?_ | refine s_n (fun _ => ?_) | refine s_x ?_ | refine s_y ?_ | refine s_mq ?_ | refine s_app (fun _ _ => ?_) | refine s_mv ?_ | refine s_ms ?_ | refine s_b0 (fun _ => ?_) | ((fail_if_success refine g_lit rfl rfl rfl ?_); first | apply g_partM rfl rfl rfl | apply g_partMB rfl rfl rfl | fail))
        | refine g_seq ?_ | refine g_region ?_ | refine g_nil ?_ | refine g_then_normal ?_ | refine g_block ?_ | refine g_in_normal ?_ | refine g_retc ?_
        | refine g_then_ret ?_ | refine g_in_ret ?_ | refine g_exit ?_ | refine g_then_exit ?_ | refine g_in_exit ?_ | refine g_in_other rfl ?_ | refine g_skip ?_
        | refine g_label ?_ | refine g_cond_true rfl ?_ | refine g_cond_false rfl ?_ | exact s_m | intro _)
      refine g_c (cs_copyG (cs := [ptr f]) (len' := n + 1) (zs := xs.take i ++ ptr f :: xs.drop i) inferInstance inferInstance rfl rfl .here (by omega) (by simp [Nat.min_def]; omega) (fun w hh j v hj => ?_) hrm (by simp; omega) (by simp; omega) ?_ ?_ ?_) rfl rfl (fun _ _ => ?_)
      · have hj0 : j = 0 := by
          have := (List.getElem?_eq_some_iff.1 hj).1
          simp at this
          exact this
        subst hj0
        rw [Addr.add_lit, Nat.zero_add]
        exact hh.cell (c := .row vb [ptr f] 80) (by (repeat (first | exact Sel.here | apply Sel.there)); first | done | fail) (reads_row (by simpa using hj))
      · simp [Value.oneCell']
      · exact all_put2 (all_take i hall) rfl (all_drop i hall)
      · exact put_one hlt
      repeat (first
        | (refine g_ops ?_; first | refine s_q ?_ | refine s_v ?_ | refine s_s ?_ | refine s_n (fun _ => ?_) | refine s_x ?_ | refine s_y ?_ | refine s_mq ?_ | refine s_app (fun _ _ => ?_) | refine s_mv ?_ | refine s_ms ?_ | refine s_b0 (fun _ => ?_) | ((fail_if_success refine g_lit rfl rfl rfl ?_); first | apply g_partM rfl rfl rfl | apply g_partMB rfl rfl rfl | fail))
        | refine g_seq ?_ | refine g_region ?_ | refine g_nil ?_ | refine g_then_normal ?_ | refine g_block ?_ | refine g_in_normal ?_ | refine g_retc ?_
        | refine g_then_ret ?_ | refine g_in_ret ?_ | refine g_exit ?_ | refine g_then_exit ?_ | refine g_in_exit ?_ | refine g_in_other rfl ?_ | refine g_skip ?_
        | refine g_label ?_ | refine g_cond_true rfl ?_ | refine g_cond_false rfl ?_ | exact s_m | intro _)
      exact g_ret (some ⟨b, 0, none⟩, c) rfl (by (repeat (first | exact RVs.nil | apply RVs.tmp rfl | apply RVs.cellA rfl (by (repeat (first | exact Sel.here | apply Sel.there)); first | done | fail) (by (repeat (first | exact Cut.zero | apply Cut.take | apply Cut.skip)); first | done | fail) | apply RVs.cell1 rfl (by (repeat (first | exact Sel.here | apply Sel.there)); first | done | fail) rfl)); first | done | fail) (by (repeat (first | exact Take.nil | apply Take.cons | exact Sel.here | apply Sel.there)); first | done | fail) rfl trivial
end Go.Proofs.YtdldgbbhagpofaaGreatDoor

namespace Go.Proofs.YtdldgbbhagpofaaGreatDoor
open Go.Sl facts
attribute [local irreducible] Code.wp wpList Exit.then Exit.inBlock bodyPost Back MidQ G GP QStep VStep CStep SStep Does Post Reads
abbrev bagL (d : Nat) (room ops ct : Int) (q : Option Addr) (c : Nat) (fs : List Fi) (T : List Chunk) : List Chunk :=
  drow d room (.slice q fs.length c) ops ct :: .own q fs.length c 1 (ptrs fs) 80 :: Bag fs :: T
theorem ptrs_one (fs : List Fi) : (ptrs fs).all (·.oneCell') = true := by simp [ptrs, Value.oneCell']
abbrev ins (fs : List Fi) (pos : Nat) (x : Fi) : List Fi := fs.take pos ++ x :: fs.drop pos
theorem ins_ptrs (fs : List Fi) (pos : Nat) (x : Fi) : ptrs (ins fs pos x) = (ptrs fs).take pos ++ ptr x.f :: (ptrs fs).drop pos := by simp [ptrs, ins]
theorem ins_len (fs : List Fi) (pos : Nat) (x : Fi) (h : pos ≤ fs.length) : (ins fs pos x).length = fs.length + 1 := by simp [ins]; omega
structure AX where
  x : Fi
  q : Option Addr
  c : Nat
set_option maxHeartbeats 1000000 in
theorem append_add (d : Nat) (room : Int) (q : Option Addr) (c : Nat) (ops ct : Int) (h : Cnt ops ct) (h1 : ct ≠ 1) (fs : List Fi) (nm : ByteArray) (pos : Nat) (hn0 : 0 < nm.size) (hn1 : nm.size ≤ 100) (hn : fs.length ≤ 2000) (hP : PosIs fs nm pos) (hr0 : 0 ≤ room ∧ room ≤ 8388608) (hu : used fs ≤ 100000000) {C : Chunk} {p : Option Addr} {l : List UInt8} (cap : Nat) (hS : SlAt C 1 p l.length (cells8 l)) (hl : l.length ≤ 1000000) (hfd : foundB fs nm pos = false) (hfit : (l.length : Int) ≤ room - used fs) :
    Does Tryz.prog 49 [ptr d, .string nm, .slice p l.length cap] (bagL d room ops ct q c fs [C]) (X := AX) (fun _ => int 0) (fun x => bagL d room (ops + 1) (cutN ct) x.q x.c (ins fs pos x.x) [C]) (fun x => x.x.nm = nm ∧ x.x.safe = [] ∧ x.x.loose = l) := by
  have hb := h.starts d room (.slice q fs.length c)
  rw [show decide (ct ≠ 1) = true from decide_eq_true h1] at hb
  have hf := findg d room q c (ops + 1) (cutN ct) fs nm pos (by omega) hP
  rw [hfd] at hf
  have hfi := fitsg d room q c (ops + 1) (cutN ct) l.length fs (by omega) hr0 hu
  rw [decide_eq_true hfit] at hfi
  have hple := hP.le
  refine fn_intro Tryz.func49 rfl Tryz.ntmps49 rfl (by simp only [argFr, Nat.zero_add, Nat.reduceAdd]; rfl) (fun Γ => ?_)
  repeat ((fail_if_success refine s_at 34 ?_); first
    | (refine g_ops ?_; first | refine s_q ?_ | refine s_v ?_ | refine s_s ?_ | refine s_n (fun _ => ?_) | refine s_x ?_ | refine s_y ?_ | refine s_mq ?_ | refine s_app (fun _ _ => ?_) | refine s_mv ?_ | refine s_ms ?_ | refine s_b0 (fun _ => ?_) | ((fail_if_success refine g_lit rfl rfl rfl ?_); first | apply g_partM rfl rfl rfl | apply g_partMB rfl rfl rfl | fail) | refine s_p (named nm hn0 hn1) ?_ | refine s_k (hf) ?_ | refine s_c (hb) (fun _ _ => ?_))
    | refine g_seq ?_ | refine g_region ?_ | refine g_nil ?_ | refine g_then_normal ?_ | refine g_block ?_ | refine g_in_normal ?_ | refine g_retc ?_ | refine g_then_ret ?_
    | refine g_in_ret ?_ | refine g_exit ?_ | refine g_then_exit ?_ | refine g_in_exit ?_ | refine g_in_other rfl ?_ | refine g_skip ?_ | refine g_label ?_
    | refine g_cond_true rfl ?_ | refine g_cond_false rfl ?_ | exact s_m | intro _)
  first
    | (refine g_ops ?_; first | refine s_q ?_ | refine s_v ?_ | refine s_s ?_ | refine s_n (fun _ => ?_) | refine s_x ?_ | refine s_y ?_ | refine s_mq ?_ | refine s_app (fun _ _ => ?_) | refine s_mv ?_ | refine s_ms ?_ | refine s_b0 (fun _ => ?_) | ((fail_if_success refine g_lit rfl rfl rfl ?_); first | apply g_partM rfl rfl rfl | apply g_partMB rfl rfl rfl | fail))
    | refine g_seq ?_ | refine g_region ?_ | refine g_nil ?_ | refine g_then_normal ?_ | refine g_block ?_ | refine g_in_normal ?_ | refine g_retc ?_ | refine g_then_ret ?_
    | refine g_in_ret ?_ | refine g_exit ?_ | refine g_then_exit ?_ | refine g_in_exit ?_ | refine g_in_other rfl ?_ | refine g_skip ?_ | refine g_label ?_
    | refine g_cond_true rfl ?_ | refine g_cond_false rfl ?_ | exact s_m | intro _
  refine g_as 34 (v' := .bool false) rfl (congrArg Value.bool (decide_eq_false (by omega))) ?_
  repeat (first
    | (refine g_ops ?_; first | refine s_q ?_ | refine s_v ?_ | refine s_s ?_ | refine s_n (fun _ => ?_) | refine s_x ?_ | refine s_y ?_ | refine s_mq ?_ | refine s_app (fun _ _ => ?_) | refine s_mv ?_ | refine s_ms ?_ | refine s_b0 (fun _ => ?_) | ((fail_if_success refine g_lit rfl rfl rfl ?_); first | apply g_partM rfl rfl rfl | apply g_partMB rfl rfl rfl | fail) | refine s_k (hfi) ?_)
    | refine g_seq ?_ | refine g_region ?_ | refine g_nil ?_ | refine g_then_normal ?_ | refine g_block ?_ | refine g_in_normal ?_ | refine g_retc ?_ | refine g_then_ret ?_
    | refine g_in_ret ?_ | refine g_exit ?_ | refine g_then_exit ?_ | refine g_in_exit ?_ | refine g_in_other rfl ?_ | refine g_skip ?_ | refine g_label ?_
    | refine g_cond_true rfl ?_ | refine g_cond_false rfl ?_ | exact s_m | intro _)
  rename_i fb vb
  repeat (first
    | (refine g_ops ?_; first | refine s_q ?_ | refine s_v ?_ | refine s_s ?_ | refine s_n (fun _ => ?_) | refine s_x ?_ | refine s_y ?_ | refine s_mq ?_ | refine s_app (fun _ _ => ?_) | refine s_mv ?_ | refine s_ms ?_ | refine s_b0 (fun _ => ?_) | ((fail_if_success refine g_lit rfl rfl rfl ?_); first | apply g_partM rfl rfl rfl | apply g_partMB rfl rfl rfl | fail) | refine s_c (insertg q fs.length c pos vb fb (ptrs fs) hple (by omega) (ptrs_one fs)) (fun _ _ => ?_))
    | refine g_seq ?_ | refine g_region ?_ | refine g_nil ?_ | refine g_then_normal ?_ | refine g_block ?_ | refine g_in_normal ?_ | refine g_retc ?_ | refine g_then_ret ?_
    | refine g_in_ret ?_ | refine g_exit ?_ | refine g_then_exit ?_ | refine g_in_exit ?_ | refine g_in_other rfl ?_ | refine g_skip ?_ | refine g_label ?_
    | refine g_cond_true rfl ?_ | refine g_cond_false rfl ?_ | exact s_m | intro _)
  rename_i x _
  obtain ⟨fq, fc⟩ := x
  dsimp only
  refine g_own (p := fq) (len := fs.length + 1) (cap := fc) (n := 1) (xs := (ptrs fs).take pos ++ ptr fb :: (ptrs fs).drop pos) (e := 80) (by (repeat (first | exact Sel.here | apply Sel.there)); first | done | fail) (fun _ _ hp => ?_)
  obtain ⟨b, rfl⟩ := hp (by omega)
  have hpl : ((ptrs fs).take pos).length = pos := by simp; omega
  have hr : ∀ j, j = pos → Reads (.own (some ⟨b, 0, none⟩) (fs.length + 1) fc 1 ((ptrs fs).take pos ++ ptr fb :: (ptrs fs).drop pos) 80) ⟨b, 0 + j, none⟩ (ptr fb) := fun j e => by
    subst e; rw [Nat.zero_add]; exact reads_own (get_eq hpl)
  refine g_own_nil none 1 5 ?_
  refine g_own_nil none 1 5 ?_
  refine g_drawO (p := none) (len := 0) (cap := 0) (.take 0 (.take 1 (.take 2 (.see 3 [5,6,19,20,21] (.take 4 (.take 5 (.see 6 [19,20,21] (.take 7 (.take 8 (.take 9 (.see 10 [12,13,14,15,16,18,19,20,21] (.take 11 (.take 12 (.see 13 [14,15,16,18,19,20,21] (.take 14 (.take 15 (.see 16 [18,19,20,21] (.take 17 (.one 18 (.take 19 (.take 20 (.thaw 21 .done)))))))))))))))))))))) (by (repeat (first | exact Sel.here | apply Sel.there)); first | done | fail) (fun k hd hk => ?_)
  repeat (first
    | (refine gp_take ?_; first | refine p_q ?_ | refine p_x ?_ | refine p_mq ?_ | ((fail_if_success refine gp_lit rfl rfl rfl rfl ?_); first | apply gp_guard_dec rfl rfl rfl rfl | apply gp_guard rfl rfl rfl rfl | fail))
    | (refine gp_see ?_; first | refine p_f ?_ | refine p_sx ?_ | ((fail_if_success refine gp_lit rfl rfl rfl rfl ?_); first | apply gp_guard_dec rfl rfl rfl rfl | apply gp_guard rfl rfl rfl rfl | fail) | refine p_sq ?_)
    | (refine gp_one ?_; first | refine p_v ?_ | refine p_s ?_ | refine p_n (fun _ => ?_) | refine p_y ?_ | refine p_app (fun _ _ => ?_) | refine p_mv ?_ | refine p_ms ?_ | refine p_b0 (fun _ => ?_) | ((fail_if_success refine gp_lit rfl rfl rfl rfl ?_); first | apply gp_guard_dec rfl rfl rfl rfl | apply gp_guard rfl rfl rfl rfl | fail))
    | refine gp_two ?_ ?_ | refine gp_done hd hk ?_ | intro _ | refine p_ta hd hk (fun _ _ _ hd hk => ?_) | refine p_ts hd hk (fun _ hd hk => ?_))
  refine p_app (src := srcF hd hk hS inferInstance (by (repeat (first | exact Sel.here | apply Sel.there)); first | done | fail) (by decide)) (fun lq lc => ?_)
  rw [List.nil_append, Nat.zero_add]
  repeat (first
    | (refine gp_take ?_; first | refine p_q ?_ | refine p_x ?_ | refine p_mq ?_ | ((fail_if_success refine gp_lit rfl rfl rfl rfl ?_); first | apply gp_guard_dec rfl rfl rfl rfl | apply gp_guard rfl rfl rfl rfl | fail))
    | (refine gp_see ?_; first | refine p_f ?_ | refine p_sx ?_ | ((fail_if_success refine gp_lit rfl rfl rfl rfl ?_); first | apply gp_guard_dec rfl rfl rfl rfl | apply gp_guard rfl rfl rfl rfl | fail) | refine p_sq ?_)
    | (refine gp_one ?_; first | refine p_v ?_ | refine p_s ?_ | refine p_n (fun _ => ?_) | refine p_y ?_ | refine p_app (fun _ _ => ?_) | refine p_mv ?_ | refine p_ms ?_ | refine p_b0 (fun _ => ?_) | ((fail_if_success refine gp_lit rfl rfl rfl rfl ?_); first | apply gp_guard_dec rfl rfl rfl rfl | apply gp_guard rfl rfl rfl rfl | fail))
    | refine gp_two ?_ ?_ | refine gp_done hd hk ?_ | intro _ | refine p_ta hd hk (fun _ _ _ hd hk => ?_) | refine p_ts hd hk (fun _ hd hk => ?_))
  repeat (first
    | (refine g_ops ?_; first | refine s_q ?_ | refine s_v ?_ | refine s_s ?_ | refine s_n (fun _ => ?_) | refine s_x ?_ | refine s_y ?_ | refine s_mq ?_ | refine s_app (fun _ _ => ?_) | refine s_mv ?_ | refine s_ms ?_ | refine s_b0 (fun _ => ?_) | ((fail_if_success refine g_lit rfl rfl rfl ?_); first | apply g_partM rfl rfl rfl | apply g_partMB rfl rfl rfl | fail))
    | refine g_seq ?_ | refine g_region ?_ | refine g_nil ?_ | refine g_then_normal ?_ | refine g_block ?_ | refine g_in_normal ?_ | refine g_retc ?_ | refine g_then_ret ?_
    | refine g_in_ret ?_ | refine g_exit ?_ | refine g_then_exit ?_ | refine g_in_exit ?_ | refine g_in_other rfl ?_ | refine g_skip ?_ | refine g_label ?_
    | refine g_cond_true rfl ?_ | refine g_cond_false rfl ?_ | exact s_m | intro _)
  refine g_bagIn (fs.take pos) (fs.drop pos) ⟨fb, nm, none, [], 0, lq, l, lc⟩ (by rw [List.take_append_drop]; exact (by (repeat (first | exact Take.nil | apply Take.cons | exact Sel.here | apply Sel.there)); first | done | fail)) ?_
  rw [← ins_len fs pos ⟨fb, nm, none, [], 0, lq, l, lc⟩ hple, show (ptrs fs).take pos ++ ptr fb :: (ptrs fs).drop pos = ptrs (ins fs pos ⟨fb, nm, none, [], 0, lq, l, lc⟩) from (ins_ptrs fs pos ⟨fb, nm, none, [], 0, lq, l, lc⟩).symm]
  exact g_ret (⟨⟨fb, nm, none, [], 0, lq, l, lc⟩, some ⟨b, 0, none⟩, fc⟩ : AX) rfl (by (repeat (first | exact RVs.nil | apply RVs.tmp rfl | apply RVs.cellA rfl (by (repeat (first | exact Sel.here | apply Sel.there)); first | done | fail) (by (repeat (first | exact Cut.zero | apply Cut.take | apply Cut.skip)); first | done | fail) | apply RVs.cell1 rfl (by (repeat (first | exact Sel.here | apply Sel.there)); first | done | fail) rfl)); first | done | fail) (by (repeat (first | exact Take.nil | apply Take.cons | exact Sel.here | apply Sel.there)); first | done | fail) rfl ⟨rfl, rfl, rfl⟩
abbrev upd (fs : List Fi) (pos : Nat) (x : Fi) : List Fi := fs.take pos ++ x :: fs.drop (pos + 1)
theorem upd_len (fs : List Fi) (pos : Nat) (x : Fi) (h : pos < fs.length) : (upd fs pos x).length = fs.length := by simp [upd]; omega
theorem upd_ptrs (fs : List Fi) (pos : Nat) (x : Fi) (h : pos < fs.length) (hf : x.f = fs[pos].f) : ptrs (upd fs pos x) = ptrs fs := by
  have e := congrArg ptrs (split_at fs pos h)
  rw [e]
  simp only [ptrs, upd, List.map_append, List.map_cons, hf]
theorem found_lt {fs : List Fi} {nm : ByteArray} {pos : Nat} (h : foundB fs nm pos = true) : pos < fs.length := by
  unfold foundB at h
  split at h
  · assumption
  · cases h
theorem g_file {Γ : Ctx} {N : Nat} {fr : Fr} {L R : List Chunk} {φ : Act → World → Prop} (fs : List Fi) (pos : Nat) (h : pos < fs.length) (t : Take L [Bag fs] R) (g : G Γ N fr (fs[pos].L ++ (Bag (fs.take pos ++ fs.drop (pos + 1)) :: R)) φ) : G Γ N fr L φ :=
  g_conv t (fun _ a => bag_out (A := fs.take pos) (x := fs[pos]) (B := fs.drop (pos + 1)) (by rw [← split_at fs pos h]; exact a)) g
set_option maxHeartbeats 1000000 in
theorem append_to (d : Nat) (room : Int) (q : Option Addr) (c : Nat) (ops ct : Int) (h : Cnt ops ct) (h1 : ct ≠ 1) (fs : List Fi) (nm : ByteArray) (pos : Nat) (hn0 : 0 < nm.size) (hn1 : nm.size ≤ 100) (hn : fs.length ≤ 2000) (hP : PosIs fs nm pos) (hr0 : 0 ≤ room ∧ room ≤ 8388608) (hu : used fs ≤ 100000000) {C : Chunk} {p : Option Addr} {l : List UInt8} (cap : Nat) (hS : SlAt C 1 p l.length (cells8 l)) (hl : l.length ≤ 1000000) (hfd : foundB fs nm pos = true) (hlt : pos < fs.length) (hfit : (l.length : Int) ≤ room - used fs) :
    Does Tryz.prog 49 [ptr d, .string nm, .slice p l.length cap] (bagL d room ops ct q c fs [C]) (X := Fi) (fun _ => int 0) (fun x => bagL d room (ops + 1) (cutN ct) q c (upd fs pos x) [C]) (fun x => x.nm = fs[pos].nm ∧ x.safe = fs[pos].safe ∧ x.loose = fs[pos].loose ++ l) := by
  have hb := h.starts d room (.slice q fs.length c)
  rw [show decide (ct ≠ 1) = true from decide_eq_true h1] at hb
  have hf := findg d room q c (ops + 1) (cutN ct) fs nm pos (by omega) hP
  rw [hfd] at hf
  have hfi := fitsg d room q c (ops + 1) (cutN ct) l.length fs (by omega) hr0 hu
  rw [decide_eq_true hfit] at hfi
  have hup := used_take fs pos hlt
  have hul := used_le fs (pos + 1)
  refine fn_intro Tryz.func49 rfl Tryz.ntmps49 rfl (by simp only [argFr, Nat.zero_add, Nat.reduceAdd]; rfl) (fun Γ => ?_)
  repeat (first
    | (refine g_ops ?_; first | refine s_q ?_ | refine s_v ?_ | refine s_s ?_ | refine s_n (fun _ => ?_) | refine s_x ?_ | refine s_y ?_ | refine s_mq ?_ | refine s_app (fun _ _ => ?_) | refine s_mv ?_ | refine s_ms ?_ | refine s_b0 (fun _ => ?_) | ((fail_if_success refine g_lit rfl rfl rfl ?_); first | apply g_partM rfl rfl rfl | apply g_partMB rfl rfl rfl | fail) | refine s_p (named nm hn0 hn1) ?_ | refine s_k (hf) ?_ | refine s_k (hfi) ?_ | refine s_c (hb) (fun _ _ => ?_))
    | refine g_seq ?_ | refine g_region ?_ | refine g_nil ?_ | refine g_then_normal ?_ | refine g_block ?_ | refine g_in_normal ?_ | refine g_retc ?_ | refine g_then_ret ?_
    | refine g_in_ret ?_ | refine g_exit ?_ | refine g_then_exit ?_ | refine g_in_exit ?_ | refine g_in_other rfl ?_ | refine g_skip ?_ | refine g_label ?_
    | refine g_cond_true rfl ?_ | refine g_cond_false rfl ?_ | exact s_m | intro _)
  refine g_own (p := q) (len := fs.length) (cap := c) (n := 1) (xs := ptrs fs) (e := 80) (by (repeat (first | exact Sel.here | apply Sel.there)); first | done | fail) (fun _ _ hp => ?_)
  obtain ⟨b, rfl⟩ := hp (by omega)
  have hr : ∀ j, j = pos → Reads (.own (some ⟨b, 0, none⟩) fs.length c 1 (ptrs fs) 80) ⟨b, 0 + j, none⟩ (ptr fs[pos].f) := fun j e => by
    subst e; rw [Nat.zero_add]; exact reads_own (ptrs_at fs _ hlt)
  refine g_file fs pos hlt (by (repeat (first | exact Take.nil | apply Take.cons | exact Sel.here | apply Sel.there)); first | done | fail) ?_
  have hxf : ∀ x : Fi, x.f = fs[pos].f → ptrs (upd fs pos x) = ptrs fs := fun x hx => upd_ptrs fs pos x hlt hx
  generalize fs[pos] = x at hr hxf hup ⊢
  obtain ⟨f, xnm, sp, safe, sc, lp, loose, lc⟩ := x
  dsimp only at hr hxf hup ⊢
  dsimp only [Fi.L]
  refine g_drawO (p := lp) (len := loose.length) (cap := lc) (.take 0 (.take 1 (.take 2 (.see 3 [5,6,19,20,21] (.take 4 (.take 5 (.see 6 [19,20,21] (.take 7 (.take 8 (.take 9 (.see 10 [12,13,14,15,16,18,19,20,21] (.take 11 (.take 12 (.see 13 [14,15,16,18,19,20,21] (.take 14 (.take 15 (.see 16 [18,19,20,21] (.take 17 (.one 18 (.take 19 (.take 20 (.thaw 21 .done)))))))))))))))))))))) (by (repeat (first | exact Sel.here | apply Sel.there)); first | done | fail) (fun k hd hk => ?_)
  repeat (first
    | (refine gp_take ?_; first | refine p_q ?_ | refine p_x ?_ | refine p_mq ?_ | ((fail_if_success refine gp_lit rfl rfl rfl rfl ?_); first | apply gp_guard_dec rfl rfl rfl rfl | apply gp_guard rfl rfl rfl rfl | fail))
    | (refine gp_see ?_; first | refine p_f ?_ | refine p_sx ?_ | ((fail_if_success refine gp_lit rfl rfl rfl rfl ?_); first | apply gp_guard_dec rfl rfl rfl rfl | apply gp_guard rfl rfl rfl rfl | fail) | refine p_sq ?_)
    | (refine gp_one ?_; first | refine p_v ?_ | refine p_s ?_ | refine p_n (fun _ => ?_) | refine p_y ?_ | refine p_app (fun _ _ => ?_) | refine p_mv ?_ | refine p_ms ?_ | refine p_b0 (fun _ => ?_) | ((fail_if_success refine gp_lit rfl rfl rfl rfl ?_); first | apply gp_guard_dec rfl rfl rfl rfl | apply gp_guard rfl rfl rfl rfl | fail))
    | refine gp_two ?_ ?_ | refine gp_done hd hk ?_ | intro _ | refine p_ta hd hk (fun _ _ _ hd hk => ?_) | refine p_ts hd hk (fun _ hd hk => ?_))
  refine p_app (src := srcF hd hk hS inferInstance (by (repeat (first | exact Sel.here | apply Sel.there)); first | done | fail) (by decide)) (fun lq lc' => ?_)
  rw [cells8_append, ← List.length_append]
  repeat (first
    | (refine gp_take ?_; first | refine p_q ?_ | refine p_x ?_ | refine p_mq ?_ | ((fail_if_success refine gp_lit rfl rfl rfl rfl ?_); first | apply gp_guard_dec rfl rfl rfl rfl | apply gp_guard rfl rfl rfl rfl | fail))
    | (refine gp_see ?_; first | refine p_f ?_ | refine p_sx ?_ | ((fail_if_success refine gp_lit rfl rfl rfl rfl ?_); first | apply gp_guard_dec rfl rfl rfl rfl | apply gp_guard rfl rfl rfl rfl | fail) | refine p_sq ?_)
    | (refine gp_one ?_; first | refine p_v ?_ | refine p_s ?_ | refine p_n (fun _ => ?_) | refine p_y ?_ | refine p_app (fun _ _ => ?_) | refine p_mv ?_ | refine p_ms ?_ | refine p_b0 (fun _ => ?_) | ((fail_if_success refine gp_lit rfl rfl rfl rfl ?_); first | apply gp_guard_dec rfl rfl rfl rfl | apply gp_guard rfl rfl rfl rfl | fail))
    | refine gp_two ?_ ?_ | refine gp_done hd hk ?_ | intro _ | refine p_ta hd hk (fun _ _ _ hd hk => ?_) | refine p_ts hd hk (fun _ hd hk => ?_))
  repeat (first
    | (refine g_ops ?_; first | refine s_q ?_ | refine s_v ?_ | refine s_s ?_ | refine s_n (fun _ => ?_) | refine s_x ?_ | refine s_y ?_ | refine s_mq ?_ | refine s_app (fun _ _ => ?_) | refine s_mv ?_ | refine s_ms ?_ | refine s_b0 (fun _ => ?_) | ((fail_if_success refine g_lit rfl rfl rfl ?_); first | apply g_partM rfl rfl rfl | apply g_partMB rfl rfl rfl | fail))
    | refine g_seq ?_ | refine g_region ?_ | refine g_nil ?_ | refine g_then_normal ?_ | refine g_block ?_ | refine g_in_normal ?_ | refine g_retc ?_ | refine g_then_ret ?_
    | refine g_in_ret ?_ | refine g_exit ?_ | refine g_then_exit ?_ | refine g_in_exit ?_ | refine g_in_other rfl ?_ | refine g_skip ?_ | refine g_label ?_
    | refine g_cond_true rfl ?_ | refine g_cond_false rfl ?_ | exact s_m | intro _)
  refine g_bagIn (fs.take pos) (fs.drop (pos + 1)) ⟨f, xnm, sp, safe, sc, lq, loose ++ l, lc'⟩ (by (repeat (first | exact Take.nil | apply Take.cons | exact Sel.here | apply Sel.there)); first | done | fail) ?_
  rw [← upd_len fs pos ⟨f, xnm, sp, safe, sc, lq, loose ++ l, lc'⟩ hlt, ← hxf ⟨f, xnm, sp, safe, sc, lq, loose ++ l, lc'⟩ rfl]
  exact g_ret (⟨f, xnm, sp, safe, sc, lq, loose ++ l, lc'⟩ : Fi) rfl (by (repeat (first | exact RVs.nil | apply RVs.tmp rfl | apply RVs.cellA rfl (by (repeat (first | exact Sel.here | apply Sel.there)); first | done | fail) (by (repeat (first | exact Cut.zero | apply Cut.take | apply Cut.skip)); first | done | fail) | apply RVs.cell1 rfl (by (repeat (first | exact Sel.here | apply Sel.there)); first | done | fail) rfl)); first | done | fail) (by (repeat (first | exact Take.nil | apply Take.cons | exact Sel.here | apply Sel.there)); first | done | fail) rfl ⟨rfl, rfl, rfl⟩
end Go.Proofs.YtdldgbbhagpofaaGreatDoor
