/- The law's walk: ValueDeep. -/
import Derived.Test.YtpilcncdgjnbeaaDoorValO
set_option linter.unusedSimpArgs false
set_option linter.unusedVariables false
namespace Go.Proofs.YtpilcncdgjnbeaaDoor
open Go.Sl facts
def oneV (n : Int) : V := .mk 3 false n ByteArray.empty [] []
/-- 1 within so many lists. -/
def nestV : Nat → V
  | 0 => oneV 1
  | d + 1 => .mk 5 false 0 ByteArray.empty [] [nestV d]
def flatV (n : Nat) : V := .mk 5 false 0 ByteArray.empty [] ((List.range n).map fun (i : Nat) => oneV i)
theorem nest_w : ∀ d : Nat, d < 26 → (weigh (nestV d) 0 0).1 = if 20 < d then 2 else 0 := by decide +kernel
theorem flat_w1 : ∀ (l : List V) (pr : Option ByteArray) (ks : List ByteArray) (n : Int), (∀ x ∈ l, ∃ i, x = oneV i) → 0 ≤ n → n ≤ 1000 → (weighL false pr ks l 1 n).1 = if 1000 < n + l.length then 2 else 0
  | [], pr, ks, n, _, _, hn => by rw [weighL_nil]; simp; omega
  | x :: l, pr, ks, n, h, h0, hn => by
    obtain ⟨i, rfl⟩ := h x (List.mem_cons_self ..)
    have hw : weigh (oneV i) 1 n = if 1000 < n + 1 then (2, n + 1) else (0, n + 1) := by
      unfold oneV
      rw [weigh_mk, if_neg (by decide), if_neg (by simp)]
      split
      · rfl
      · rw [if_pos (by decide)]
    rw [weighL_cons, if_neg (by simp), hw]
    by_cases h1 : 1000 < n + 1
    · rw [if_pos h1, if_neg (by simp), if_pos (by simp only [List.length_cons]; push_cast; omega)]
    · rw [if_neg h1, if_pos rfl, flat_w1 l _ _ (n + 1) (fun y hy => h y (List.mem_cons_of_mem _ hy)) (by omega) (by omega)]
      simp only [List.length_cons]
      push_cast
      rw [show n + 1 + (l.length : Int) = n + ((l.length : Int) + 1) by omega]
theorem flat_w (n : Nat) : (weigh (flatV n) 0 0).1 = if 999 < n then 2 else 0 := by
  unfold flatV
  rw [weigh_mk, if_neg (by decide), if_neg (by simp), if_neg (by decide), if_neg (by decide), if_neg (by decide), show decide ((5 : Int) = 6) = false from by decide, Int.zero_add,
    flat_w1 _ _ _ _ (fun x hx => by obtain ⟨i, _, rfl⟩ := List.mem_map.1 hx; exact ⟨_, rfl⟩) (by decide) (by decide)]
  simp only [List.length_map, List.length_range]
  by_cases h : 999 < n
  · rw [if_pos h, if_pos (by omega)]
  · rw [if_neg h, if_neg (by omega)]
attribute [local irreducible] Code.wp wpList Exit.then Exit.inBlock bodyPost Back MidQ G GP QStep VStep CStep SStep Does Post Reads
attribute [local irreducible] weigh weighL nestV flatV
structure NsX where
  i : Nat
  t : TypeId
  v : Value
  H : HP
structure FlX where
  i : Nat
  q : Option Addr
  c : Nat
theorem nest_at {H H2 : HP} {d b : Nat} {x : Value} (h : TAt H (nestV d) x) (hs : HP.sub H H2) (hS : SlAt (Pile H2) 1 (some ⟨b, 0, none⟩) 1 [x]) : TAt H2 (nestV (d + 1)) (.iface 35 (.slice (some ⟨b, 0, none⟩) 1 1)) := by
  rw [show nestV (d + 1) = .mk 5 false 0 ByteArray.empty [] [nestV d] by rw [nestV]]
  exact .list (l := [nestV d]) [x] rfl (by simp) hS fun i a w ha hw => by
    match i, ha, hw with
    | 0, ha, hw => cases ha; cases hw; exact h.grow hs
    | i + 1, ha, hw => simp at ha
set_option maxHeartbeats 4000000 in
theorem deepLaw {H : HP} (hT : Tb H) (deep wide : Int) : Does1 Tryd.prog 4 [int deep, int wide] [Pile H] (.bool true) := by
  refine fn_intro Tryd.func4 rfl Tryd.ntmps4 rfl (by simp only [argFr, Nat.zero_add, Nat.reduceAdd]; rfl) (fun Γ => ?_)
  repeat (first
    | (refine g_ops ?_; first | refine s_q ?_ | refine s_v ?_ | refine s_s ?_ | refine s_n (fun _ => ?_) | refine s_x ?_ | refine s_y ?_ | refine s_iq ?_ | refine s_mq ?_ | refine s_app (fun _ _ => ?_) | refine s_mv ?_ | refine s_ms ?_ | refine s_b0 (fun _ => ?_) | ((fail_if_success refine g_lit rfl rfl rfl ?_); first | apply g_partM rfl rfl rfl | apply g_partMB rfl rfl rfl | fail))
    | apply g_regB (id := 1) 24 | refine g_seq ?_ | refine g_region ?_ | refine g_nil ?_ | refine g_then_normal ?_ | refine g_block ?_ | refine g_in_normal ?_
    | refine g_retc ?_ | refine g_then_ret ?_ | refine g_in_ret ?_ | refine g_exit ?_ | refine g_then_exit ?_ | refine g_in_exit ?_ | refine g_in_other rfl ?_
    | refine g_skip ?_ | refine g_label ?_ | refine g_cond_true rfl ?_ | refine g_cond_false rfl ?_ | exact s_m | intro _ | (refine gp_take ?_; first | refine p_q ?_ | refine p_x ?_ | refine p_iq ?_ | refine p_mq ?_ | ((fail_if_success refine gp_lit rfl rfl rfl rfl ?_); first | apply gp_guard_dec rfl rfl rfl rfl | apply gp_guard rfl rfl rfl rfl | fail))
    | (refine gp_see ?_; first | refine p_f ?_ | refine p_sx ?_ | ((fail_if_success refine gp_lit rfl rfl rfl rfl ?_); first | apply gp_guard_dec rfl rfl rfl rfl | apply gp_guard rfl rfl rfl rfl | fail) | refine p_sq ?_)
    | (refine gp_one ?_; first | refine p_v ?_ | refine p_s ?_ | refine p_n (fun _ => ?_) | refine p_y ?_ | refine p_app (fun _ _ => ?_) | refine p_mv ?_ | refine p_ms ?_ | refine p_b0 (fun _ => ?_) | ((fail_if_success refine gp_lit rfl rfl rfl rfl ?_); first | apply gp_guard_dec rfl rfl rfl rfl | apply gp_guard rfl rfl rfl rfl | fail))
    | refine gp_two ?_ ?_ | refine gp_done hd hk ?_ | intro _ | refine p_ta hd hk (fun _ _ _ hd hk => ?_) | refine p_ts hd hk (fun _ hd hk => ?_))
  by_cases hin : 0 ≤ deep ∧ deep ≤ 25 ∧ 0 ≤ wide ∧ wide ≤ 1010
  case neg =>
    refine g_as 24 (v' := .bool true) rfl (congrArg Value.bool (by simp; omega)) ?_
    repeat (first
      | (refine g_ops ?_; first | refine s_q ?_ | refine s_v ?_ | refine s_s ?_ | refine s_n (fun _ => ?_) | refine s_x ?_ | refine s_y ?_ | refine s_iq ?_ | refine s_mq ?_ | refine s_app (fun _ _ => ?_) | refine s_mv ?_ | refine s_ms ?_ | refine s_b0 (fun _ => ?_) | ((fail_if_success refine g_lit rfl rfl rfl ?_); first | apply g_partM rfl rfl rfl | apply g_partMB rfl rfl rfl | fail) | refine s_c (awake hT) (fun _ _ => ?_))
      | refine g_seq ?_ | refine g_region ?_ | refine g_nil ?_ | refine g_then_normal ?_ | refine g_block ?_ | refine g_in_normal ?_ | refine g_retc ?_
      | refine g_then_ret ?_ | refine g_in_ret ?_ | refine g_exit ?_ | refine g_then_exit ?_ | refine g_in_exit ?_ | refine g_in_other rfl ?_ | refine g_skip ?_
      | refine g_label ?_ | refine g_cond_true rfl ?_ | refine g_cond_false rfl ?_ | exact s_m | intro _)
    rename_i H2 hs2
    dsimp only [List.cons_append, List.nil_append]
    refine g_unpile hs2 (by (repeat (first | exact Sel.here | apply Sel.there)); first | done | fail) ?_
    exact s_r ()
  refine g_as 24 (v' := .bool false) rfl (congrArg Value.bool (by simp; omega)) ?_
  obtain ⟨h1, h2, h3, h4⟩ := hin
  obtain ⟨d, rfl⟩ : ∃ d : Nat, deep = d := ⟨deep.toNat, by omega⟩
  obtain ⟨n, rfl⟩ : ∃ n : Nat, wide = n := ⟨wide.toNat, by omega⟩
  repeat (first
    | (refine g_ops ?_; first | refine s_q ?_ | refine s_v ?_ | refine s_s ?_ | refine s_n (fun _ => ?_) | refine s_x ?_ | refine s_y ?_ | refine s_iq ?_ | refine s_mq ?_ | refine s_app (fun _ _ => ?_) | refine s_mv ?_ | refine s_ms ?_ | refine s_b0 (fun _ => ?_) | ((fail_if_success refine g_lit rfl rfl rfl ?_); first | apply g_partM rfl rfl rfl | apply g_partMB rfl rfl rfl | fail))
    | refine g_seq ?_ | refine g_region ?_ | refine g_nil ?_ | refine g_then_normal ?_ | refine g_block ?_ | refine g_in_normal ?_ | refine g_retc ?_ | refine g_then_ret ?_
    | refine g_in_ret ?_ | refine g_exit ?_ | refine g_then_exit ?_ | refine g_in_exit ?_ | refine g_in_other rfl ?_ | refine g_skip ?_ | refine g_label ?_
    | refine g_cond_true rfl ?_ | refine g_cond_false rfl ?_ | exact s_m | intro _)
  refine g_loop (X := NsX) (fun x => [(0, int d), (1, int n), (5, .iface x.t x.v), (6, int x.i)]) (fun x => [Pile x.H]) (fun x => x.i ≤ d ∧ HP.sub H x.H ∧ TAt x.H (nestV x.i) (.iface x.t x.v)) (fun x => d - x.i) ⟨0, 3, int 1, H⟩ ⟨Nat.zero_le _, HP.sub.refl _, by rw [nestV]; exact .int ⟨by decide, by decide⟩⟩ (by (repeat (first | exact FrSub.nil | refine FrSub.cons rfl ?_)); first | done | fail) (by (repeat (first | exact Take.nil | apply Take.cons | exact Sel.here | apply Sel.there)); first | done | fail) (fun x hx => ?_)
  obtain ⟨i, t, v, H1⟩ := x
  obtain ⟨hi, hs1, hat⟩ := hx
  dsimp only at hi hs1 hat ⊢
  repeat (first
    | (refine g_ops ?_; first | refine s_q ?_ | refine s_v ?_ | refine s_s ?_ | refine s_n (fun _ => ?_) | refine s_x ?_ | refine s_y ?_ | refine s_iq ?_ | refine s_mq ?_ | refine s_app (fun _ _ => ?_) | refine s_mv ?_ | refine s_ms ?_ | refine s_b0 (fun _ => ?_) | ((fail_if_success refine g_lit rfl rfl rfl ?_); first | apply g_partM rfl rfl rfl | apply g_partMB rfl rfl rfl | fail))
    | refine g_seq ?_ | refine g_region ?_ | refine g_nil ?_ | refine g_then_normal ?_ | refine g_block ?_ | refine g_in_normal ?_ | refine g_retc ?_ | refine g_then_ret ?_
    | refine g_in_ret ?_ | refine g_exit ?_ | refine g_then_exit ?_ | refine g_in_exit ?_ | refine g_in_other rfl ?_ | refine g_skip ?_ | refine g_label ?_
    | refine g_cond_true rfl ?_ | refine g_cond_false rfl ?_ | exact s_m | intro _)
  refine g_cond_dec rfl (fun h5 => ?_) (fun h5 => ?_)
  · repeat (first
      | (refine g_ops ?_; first | refine s_q ?_ | refine s_v ?_ | refine s_s ?_ | refine s_n (fun _ => ?_) | refine s_x ?_ | refine s_y ?_ | refine s_iq ?_ | refine s_mq ?_ | refine s_app (fun _ _ => ?_) | refine s_mv ?_ | refine s_ms ?_ | refine s_b0 (fun _ => ?_) | ((fail_if_success refine g_lit rfl rfl rfl ?_); first | apply g_partM rfl rfl rfl | apply g_partMB rfl rfl rfl | fail))
      | refine g_seq ?_ | refine g_region ?_ | refine g_nil ?_ | refine g_then_normal ?_ | refine g_block ?_ | refine g_in_normal ?_ | refine g_retc ?_
      | refine g_then_ret ?_ | refine g_in_ret ?_ | refine g_exit ?_ | refine g_then_exit ?_ | refine g_in_exit ?_ | refine g_in_other rfl ?_ | refine g_skip ?_
      | refine g_label ?_ | refine g_cond_true rfl ?_ | refine g_cond_false rfl ?_ | exact s_m | intro _)
    rename_i b
    refine g_toOwn (b := b) (len := 1) (n := 1) (by (repeat (first | exact Sel.here | apply Sel.there)); first | done | fail) rfl rfl ?_
    refine g_pile (by (repeat (first | exact Sel.here | apply Sel.there)); first | done | fail) (by (repeat (first | exact Sel.here | apply Sel.there)); first | done | fail) (fun H2 hs2 hS2 => ?_)
    refine g_as 6 (v' := int ((i + 1 : Nat) : Int)) rfl (congrArg (Value.int .i64) (by push_cast; rfl)) ?_
    exact g_again ⟨i + 1, _, _, H2⟩ (by simp only; omega) ⟨by dsimp only; omega, hs1.trans hs2, nest_at hat hs2 hS2⟩ (by (repeat (first | exact FrSub.nil | refine FrSub.cons rfl ?_)); first | done | fail) (by (repeat (first | exact Take.nil | apply Take.cons | exact Sel.here | apply Sel.there)); first | done | fail)
  obtain rfl : i = d := by omega
  repeat (first
    | (refine g_ops ?_; first | refine s_q ?_ | refine s_v ?_ | refine s_s ?_ | refine s_n (fun _ => ?_) | refine s_x ?_ | refine s_y ?_ | refine s_iq ?_ | refine s_mq ?_ | refine s_app (fun _ _ => ?_) | refine s_mv ?_ | refine s_ms ?_ | refine s_b0 (fun _ => ?_) | ((fail_if_success refine g_lit rfl rfl rfl ?_); first | apply g_partM rfl rfl rfl | apply g_partMB rfl rfl rfl | fail))
    | refine g_seq ?_ | refine g_region ?_ | refine g_nil ?_ | refine g_then_normal ?_ | refine g_block ?_ | refine g_in_normal ?_ | refine g_retc ?_ | refine g_then_ret ?_
    | refine g_in_ret ?_ | refine g_exit ?_ | refine g_then_exit ?_ | refine g_in_exit ?_ | refine g_in_other rfl ?_ | refine g_skip ?_ | refine g_label ?_
    | refine g_cond_true rfl ?_ | refine g_cond_false rfl ?_ | exact s_m | intro _)
  rename_i b
  refine g_loop (X := FlX) (fun x => [(0, int i), (1, int n), (5, .iface t v), (7, .slice x.q x.i x.c), (8, int x.i)]) (fun x => [.own x.q x.i x.c 1 ((List.range x.i).map fun (j : Nat) => .iface 3 (int j)) 20, Pile H1]) (fun x => x.i ≤ n) (fun x => n - x.i) ⟨0, some ⟨b, 0, none⟩, 0⟩ (Nat.zero_le _) (by (repeat (first | exact FrSub.nil | refine FrSub.cons rfl ?_)); first | done | fail) (by (repeat (first | exact Take.nil | apply Take.cons | exact Sel.here | apply Sel.there)); first | done | fail) (fun x hx => ?_)
  obtain ⟨j, q, c⟩ := x
  dsimp only at hx ⊢
  repeat (first
    | (refine g_ops ?_; first | refine s_q ?_ | refine s_v ?_ | refine s_s ?_ | refine s_n (fun _ => ?_) | refine s_x ?_ | refine s_y ?_ | refine s_iq ?_ | refine s_mq ?_ | refine s_app (fun _ _ => ?_) | refine s_mv ?_ | refine s_ms ?_ | refine s_b0 (fun _ => ?_) | ((fail_if_success refine g_lit rfl rfl rfl ?_); first | apply g_partM rfl rfl rfl | apply g_partMB rfl rfl rfl | fail))
    | refine g_seq ?_ | refine g_region ?_ | refine g_nil ?_ | refine g_then_normal ?_ | refine g_block ?_ | refine g_in_normal ?_ | refine g_retc ?_ | refine g_then_ret ?_
    | refine g_in_ret ?_ | refine g_exit ?_ | refine g_then_exit ?_ | refine g_in_exit ?_ | refine g_in_other rfl ?_ | refine g_skip ?_ | refine g_label ?_
    | refine g_cond_true rfl ?_ | refine g_cond_false rfl ?_ | exact s_m | intro _)
  refine g_cond_dec rfl (fun h6 => ?_) (fun h6 => ?_)
  · repeat (first
      | (refine g_ops ?_; first | refine s_q ?_ | refine s_v ?_ | refine s_s ?_ | refine s_n (fun _ => ?_) | refine s_x ?_ | refine s_y ?_ | refine s_iq ?_ | refine s_mq ?_ | refine s_app (fun _ _ => ?_) | refine s_mv ?_ | refine s_ms ?_ | refine s_b0 (fun _ => ?_) | ((fail_if_success refine g_lit rfl rfl rfl ?_); first | apply g_partM rfl rfl rfl | apply g_partMB rfl rfl rfl | fail))
      | refine g_seq ?_ | refine g_region ?_ | refine g_nil ?_ | refine g_then_normal ?_ | refine g_block ?_ | refine g_in_normal ?_ | refine g_retc ?_
      | refine g_then_ret ?_ | refine g_in_ret ?_ | refine g_exit ?_ | refine g_then_exit ?_ | refine g_in_exit ?_ | refine g_in_other rfl ?_ | refine g_skip ?_
      | refine g_label ?_ | refine g_cond_true rfl ?_ | refine g_cond_false rfl ?_ | exact s_m | intro _)
    rename_i q' c'
    refine g_as 8 (v' := int ((j + 1 : Nat) : Int)) rfl (congrArg (Value.int .i64) (by push_cast; rfl)) ?_
    rw [show ((List.range j).map fun (j : Nat) => Value.iface 3 (int j)) ++ [Value.iface 3 (int j)] = (List.range (j + 1)).map fun (j : Nat) => Value.iface 3 (int j) by rw [List.range_succ, List.map_append]; rfl]
    exact g_again ⟨j + 1, q', c'⟩ (by simp only; omega) (by dsimp only; omega) (by (repeat (first | exact FrSub.nil | refine FrSub.cons rfl ?_)); first | done | fail) (by (repeat (first | exact Take.nil | apply Take.cons | exact Sel.here | apply Sel.there)); first | done | fail)
  obtain rfl : j = n := by omega
  refine g_pile (by (repeat (first | exact Sel.here | apply Sel.there)); first | done | fail) (by (repeat (first | exact Sel.here | apply Sel.there)); first | done | fail) (fun H2 hs2 hS2 => ?_)
  have hfl : TAt H2 (flatV j) (.iface 35 (.slice q j c)) := by
    unfold flatV
    have := TAt.list (H := H2) (y := false) (n := 0) (s := ByteArray.empty) (ks := []) (l := (List.range j).map fun (i : Nat) => oneV i) (p := q) (c := c) ((List.range j).map fun (j : Nat) => .iface 3 (int j)) (by simp) (by simp; omega) (by simpa using hS2) (fun i a w ha hw => by
      simp only [List.getElem?_map, Option.map_eq_some_iff] at ha hw
      obtain ⟨i1, e1, rfl⟩ := ha
      obtain ⟨i2, e2, rfl⟩ := hw
      rw [e1] at e2
      cases e2
      have hlt : i1 < j := List.mem_range.1 (List.mem_of_getElem? e1)
      exact .int ⟨by omega, by omega⟩)
    simpa using this
  have hT2 := hT.grow (hs1.trans hs2)
  have c1 := check1 hT2.vs (hat.grow hs2)
  have c2 := check1 hT2.vs hfl
  rw [nest_w i (by omega)] at c1
  rw [flat_w] at c2
  repeat (first
    | (refine g_ops ?_; first | refine s_q ?_ | refine s_v ?_ | refine s_s ?_ | refine s_n (fun _ => ?_) | refine s_x ?_ | refine s_y ?_ | refine s_iq ?_ | refine s_mq ?_ | refine s_app (fun _ _ => ?_) | refine s_mv ?_ | refine s_ms ?_ | refine s_b0 (fun _ => ?_) | ((fail_if_success refine g_lit rfl rfl rfl ?_); first | apply g_partM rfl rfl rfl | apply g_partMB rfl rfl rfl | fail))
    | refine g_seq ?_ | refine g_region ?_ | refine g_nil ?_ | refine g_then_normal ?_ | refine g_block ?_ | refine g_in_normal ?_ | refine g_retc ?_ | refine g_then_ret ?_
    | refine g_in_ret ?_ | refine g_exit ?_ | refine g_then_exit ?_ | refine g_in_exit ?_ | refine g_in_other rfl ?_ | refine g_skip ?_ | refine g_label ?_
    | refine g_cond_true rfl ?_ | refine g_cond_false rfl ?_ | exact s_m | intro _)
  by_cases hd : 20 < i
  · rw [if_pos hd] at c1
    refine g_as 47 (v' := .bool true) rfl (congrArg Value.bool (decide_eq_true (by omega))) ?_
    repeat (first
      | (refine g_ops ?_; first | refine s_q ?_ | refine s_v ?_ | refine s_s ?_ | refine s_n (fun _ => ?_) | refine s_x ?_ | refine s_y ?_ | refine s_iq ?_ | refine s_mq ?_ | refine s_app (fun _ _ => ?_) | refine s_mv ?_ | refine s_ms ?_ | refine s_b0 (fun _ => ?_) | ((fail_if_success refine g_lit rfl rfl rfl ?_); first | apply g_partM rfl rfl rfl | apply g_partMB rfl rfl rfl | fail))
      | refine g_seq ?_ | refine g_region ?_ | refine g_nil ?_ | refine g_then_normal ?_ | refine g_block ?_ | refine g_in_normal ?_ | refine g_retc ?_
      | refine g_then_ret ?_ | refine g_in_ret ?_ | refine g_exit ?_ | refine g_then_exit ?_ | refine g_in_exit ?_ | refine g_in_other rfl ?_ | refine g_skip ?_
      | refine g_label ?_ | refine g_cond_true rfl ?_ | refine g_cond_false rfl ?_ | exact s_m | intro _)
    by_cases hw : 999 < j
    · rw [if_pos hw] at c2
      refine g_as 49 (v' := .bool true) rfl (congrArg Value.bool (decide_eq_true (by omega))) ?_
      repeat (first
        | (refine g_ops ?_; first | refine s_q ?_ | refine s_v ?_ | refine s_s ?_ | refine s_n (fun _ => ?_) | refine s_x ?_ | refine s_y ?_ | refine s_iq ?_ | refine s_mq ?_ | refine s_app (fun _ _ => ?_) | refine s_mv ?_ | refine s_ms ?_ | refine s_b0 (fun _ => ?_) | ((fail_if_success refine g_lit rfl rfl rfl ?_); first | apply g_partM rfl rfl rfl | apply g_partMB rfl rfl rfl | fail) | refine s_k (c1) ?_ | refine s_k (c2) ?_ | refine s_c (awake hT2) (fun _ _ => ?_))
        | refine g_seq ?_ | refine g_region ?_ | refine g_nil ?_ | refine g_then_normal ?_ | refine g_block ?_ | refine g_in_normal ?_ | refine g_retc ?_
        | refine g_then_ret ?_ | refine g_in_ret ?_ | refine g_exit ?_ | refine g_then_exit ?_ | refine g_in_exit ?_ | refine g_in_other rfl ?_ | refine g_skip ?_
        | refine g_label ?_ | refine g_cond_true rfl ?_ | refine g_cond_false rfl ?_ | exact s_m | intro _)
      rename_i H3 hs3
      dsimp only [List.cons_append, List.nil_append, List.append_eq]
      refine g_unpile ((hs1.trans hs2).trans hs3) (by (repeat (first | exact Sel.here | apply Sel.there)); first | done | fail) ?_
      exact s_r ()
    · rw [if_neg hw] at c2
      refine g_as 49 (v' := .bool false) rfl (congrArg Value.bool (decide_eq_false (by omega))) ?_
      repeat (first
        | (refine g_ops ?_; first | refine s_q ?_ | refine s_v ?_ | refine s_s ?_ | refine s_n (fun _ => ?_) | refine s_x ?_ | refine s_y ?_ | refine s_iq ?_ | refine s_mq ?_ | refine s_app (fun _ _ => ?_) | refine s_mv ?_ | refine s_ms ?_ | refine s_b0 (fun _ => ?_) | ((fail_if_success refine g_lit rfl rfl rfl ?_); first | apply g_partM rfl rfl rfl | apply g_partMB rfl rfl rfl | fail) | refine s_k (c1) ?_ | refine s_k (c2) ?_ | refine s_c (awake hT2) (fun _ _ => ?_))
        | refine g_seq ?_ | refine g_region ?_ | refine g_nil ?_ | refine g_then_normal ?_ | refine g_block ?_ | refine g_in_normal ?_ | refine g_retc ?_
        | refine g_then_ret ?_ | refine g_in_ret ?_ | refine g_exit ?_ | refine g_then_exit ?_ | refine g_in_exit ?_ | refine g_in_other rfl ?_ | refine g_skip ?_
        | refine g_label ?_ | refine g_cond_true rfl ?_ | refine g_cond_false rfl ?_ | exact s_m | intro _)
      rename_i H3 hs3
      dsimp only [List.cons_append, List.nil_append, List.append_eq]
      refine g_unpile ((hs1.trans hs2).trans hs3) (by (repeat (first | exact Sel.here | apply Sel.there)); first | done | fail) ?_
      exact s_r ()
  · rw [if_neg hd] at c1
    refine g_as 47 (v' := .bool false) rfl (congrArg Value.bool (decide_eq_false (by omega))) ?_
    repeat (first
      | (refine g_ops ?_; first | refine s_q ?_ | refine s_v ?_ | refine s_s ?_ | refine s_n (fun _ => ?_) | refine s_x ?_ | refine s_y ?_ | refine s_iq ?_ | refine s_mq ?_ | refine s_app (fun _ _ => ?_) | refine s_mv ?_ | refine s_ms ?_ | refine s_b0 (fun _ => ?_) | ((fail_if_success refine g_lit rfl rfl rfl ?_); first | apply g_partM rfl rfl rfl | apply g_partMB rfl rfl rfl | fail))
      | refine g_seq ?_ | refine g_region ?_ | refine g_nil ?_ | refine g_then_normal ?_ | refine g_block ?_ | refine g_in_normal ?_ | refine g_retc ?_
      | refine g_then_ret ?_ | refine g_in_ret ?_ | refine g_exit ?_ | refine g_then_exit ?_ | refine g_in_exit ?_ | refine g_in_other rfl ?_ | refine g_skip ?_
      | refine g_label ?_ | refine g_cond_true rfl ?_ | refine g_cond_false rfl ?_ | exact s_m | intro _)
    by_cases hw : 999 < j
    · rw [if_pos hw] at c2
      refine g_as 49 (v' := .bool true) rfl (congrArg Value.bool (decide_eq_true (by omega))) ?_
      repeat (first
        | (refine g_ops ?_; first | refine s_q ?_ | refine s_v ?_ | refine s_s ?_ | refine s_n (fun _ => ?_) | refine s_x ?_ | refine s_y ?_ | refine s_iq ?_ | refine s_mq ?_ | refine s_app (fun _ _ => ?_) | refine s_mv ?_ | refine s_ms ?_ | refine s_b0 (fun _ => ?_) | ((fail_if_success refine g_lit rfl rfl rfl ?_); first | apply g_partM rfl rfl rfl | apply g_partMB rfl rfl rfl | fail) | refine s_k (c1) ?_ | refine s_k (c2) ?_ | refine s_c (awake hT2) (fun _ _ => ?_))
        | refine g_seq ?_ | refine g_region ?_ | refine g_nil ?_ | refine g_then_normal ?_ | refine g_block ?_ | refine g_in_normal ?_ | refine g_retc ?_
        | refine g_then_ret ?_ | refine g_in_ret ?_ | refine g_exit ?_ | refine g_then_exit ?_ | refine g_in_exit ?_ | refine g_in_other rfl ?_ | refine g_skip ?_
        | refine g_label ?_ | refine g_cond_true rfl ?_ | refine g_cond_false rfl ?_ | exact s_m | intro _)
      rename_i H3 hs3
      dsimp only [List.cons_append, List.nil_append, List.append_eq]
      refine g_unpile ((hs1.trans hs2).trans hs3) (by (repeat (first | exact Sel.here | apply Sel.there)); first | done | fail) ?_
      exact s_r ()
    · rw [if_neg hw] at c2
      refine g_as 49 (v' := .bool false) rfl (congrArg Value.bool (decide_eq_false (by omega))) ?_
      repeat (first
        | (refine g_ops ?_; first | refine s_q ?_ | refine s_v ?_ | refine s_s ?_ | refine s_n (fun _ => ?_) | refine s_x ?_ | refine s_y ?_ | refine s_iq ?_ | refine s_mq ?_ | refine s_app (fun _ _ => ?_) | refine s_mv ?_ | refine s_ms ?_ | refine s_b0 (fun _ => ?_) | ((fail_if_success refine g_lit rfl rfl rfl ?_); first | apply g_partM rfl rfl rfl | apply g_partMB rfl rfl rfl | fail) | refine s_k (c1) ?_ | refine s_k (c2) ?_ | refine s_c (awake hT2) (fun _ _ => ?_))
        | refine g_seq ?_ | refine g_region ?_ | refine g_nil ?_ | refine g_then_normal ?_ | refine g_block ?_ | refine g_in_normal ?_ | refine g_retc ?_
        | refine g_then_ret ?_ | refine g_in_ret ?_ | refine g_exit ?_ | refine g_then_exit ?_ | refine g_in_exit ?_ | refine g_in_other rfl ?_ | refine g_skip ?_
        | refine g_label ?_ | refine g_cond_true rfl ?_ | refine g_cond_false rfl ?_ | exact s_m | intro _)
      rename_i H3 hs3
      dsimp only [List.cons_append, List.nil_append, List.append_eq]
      refine g_unpile ((hs1.trans hs2).trans hs3) (by (repeat (first | exact Sel.here | apply Sel.there)); first | done | fail) ?_
      exact s_r ()
end Go.Proofs.YtpilcncdgjnbeaaDoor
