/- Contracts and laws that the proof stands on. -/
import Derived.Test.YtaahibcibgljbaaDoorCallForms26
set_option linter.unusedSimpArgs false
set_option linter.unusedVariables false
namespace Go.Proofs.YtaahibcibgljbaaDoor
open Go.Sl facts
attribute [local irreducible] Code.wp wpList Exit.then Exit.inBlock bodyPost Back MidQ G GP QStep VStep CStep SStep Does Post Reads
set_option maxHeartbeats 4000000 in
theorem weight28 {H : HP} (v : V) : ∀ (u : Vc), VAt (Pile H) v u → ∀ (deep : Int), 0 ≤ deep ∧ deep ≤ 26 →
    Does Tryd.prog 24 [.agg u.cells.toArray, int deep] [Pile H] (X := Int) int (fun _ => [Pile H]) (fun r => 0 ≤ r ∧ r ≤ most ∧ (r ≤ 3000 → SmV v ∧ szV v ≤ r)) := by
  refine V.ind (Q := fun v => ∀ (u : Vc), VAt (Pile H) v u → ∀ (deep : Int), 0 ≤ deep ∧ deep ≤ 26 →
    Does Tryd.prog 24 [.agg u.cells.toArray, int deep] [Pile H] (X := Int) int (fun _ => [Pile H]) (fun r => 0 ≤ r ∧ r ≤ most ∧ (r ≤ 3000 → SmV v ∧ szV v ≤ r))) (fun k y n0 s ks l ih u hu deep hdp => ?_) v
  have hw := szV_mk k y n0 s ks l
  have hmost : most = 1099511627776 := rfl
  cases hu with
  | @mk _ _ _ _ _ _ kp kc p c us hki hn0 hs hkl hks hkS hl hul hS h =>
    have ht := total kp kc 3000 ks hkS ⟨by omega, by omega⟩ hkl hks
    dsimp only [Vc.cells]
    refine fn_intro Tryd.func24 rfl Tryd.ntmps24 rfl (by simp only [argFr, Nat.zero_add, Nat.reduceAdd]; rfl) (fun Γ => ?_)
    repeat (first
      | (refine g_ops ?_; first | refine sO ?_ | refine s_n (fun _ => ?_) | refine s_app (fun _ _ => ?_) | refine s_b0 (fun _ => ?_) | ((fail_if_success refine g_lit rfl rfl rfl ?_); first | apply g_partM rfl rfl rfl | apply g_partMB rfl rfl rfl | fail))
      | refine gS ?_ | exact s_m | intro _)
    rename_i b
    refine g_draw (.take 0 (.see 1 [] (.take 2 (.take 3 (.see 4 [] (.one 5 (.one 6 (.one 7 (.take 8 .done))))))))) (by kernel_rfl) (C := [.row b [int k, .bool y, int n0, .string s, .slice kp ks.length kc, .slice p l.length c] 25]) (by (repeat (first | exact Take.nil | apply Take.cons | exact Sel.here | apply Sel.there)); first | done | fail) (fun m hd hk => ?_)
    repeat (first
      | (refine gp_take ?_; first | refine pT ?_ | ((fail_if_success refine gp_lit rfl rfl rfl rfl ?_); first | apply gp_guard_dec rfl rfl rfl rfl | apply gp_guard rfl rfl rfl rfl | fail))
      | (refine gp_see ?_; first | refine p_f ?_ | refine pS ?_ | ((fail_if_success refine gp_lit rfl rfl rfl rfl ?_); first | apply gp_guard_dec rfl rfl rfl rfl | apply gp_guard rfl rfl rfl rfl | fail))
      | (refine gp_one ?_; first | refine pO ?_ | refine p_n (fun _ => ?_) | refine p_app (fun _ _ => ?_) | refine p_b0 (fun _ => ?_) | ((fail_if_success refine gp_lit rfl rfl rfl rfl ?_); first | apply gp_guard_dec rfl rfl rfl rfl | apply gp_guard rfl rfl rfl rfl | fail) | refine p_c (ht) (fun _ _ => ?_))
      | refine gp_two ?_ ?_ | refine gp_done hd hk ?_ | intro _ | refine p_ta hd hk (fun _ _ _ hd hk => ?_) | refine p_ts hd hk (fun _ hd hk => ?_))
    rename_i T hT _
    have h1 := sum_upS 1 [(s.size : Int), T] (by simp; omega) (by omega)
    simp only [List.sum_cons, List.sum_nil, Int.add_zero] at h1
    have hlim : ∀ x ∈ [(s.size : Int), T], 0 ≤ x ∧ x ≤ 9223372036854775807 := by simp; omega
    repeat (first
      | (refine gp_take ?_; first | refine pT ?_ | ((fail_if_success refine gp_lit rfl rfl rfl rfl ?_); first | apply gp_guard_dec rfl rfl rfl rfl | apply gp_guard rfl rfl rfl rfl | fail))
      | (refine gp_see ?_; first | refine p_f ?_ | refine pS ?_ | ((fail_if_success refine gp_lit rfl rfl rfl rfl ?_); first | apply gp_guard_dec rfl rfl rfl rfl | apply gp_guard rfl rfl rfl rfl | fail) | refine p_h (sum_row _ _ _ 1 [(s.size : Int), T] ⟨by omega, by omega⟩ hlim (by simp)) hd hk ?_)
      | (refine gp_one ?_; first | refine pO ?_ | refine p_n (fun _ => ?_) | refine p_app (fun _ _ => ?_) | refine p_b0 (fun _ => ?_) | ((fail_if_success refine gp_lit rfl rfl rfl rfl ?_); first | apply gp_guard_dec rfl rfl rfl rfl | apply gp_guard rfl rfl rfl rfl | fail) | refine p_k (sum_row _ _ _ 1 [(s.size : Int), T] ⟨by omega, by omega⟩ hlim (by simp)) ?_)
      | refine gp_two ?_ ?_ | refine gp_done hd hk ?_ | intro _ | refine p_ta hd hk (fun _ _ _ hd hk => ?_) | refine p_ts hd hk (fun _ hd hk => ?_))
    generalize sumF 1 [(s.size : Int), T] = m1 at h1 ⊢
    repeat (first
      | (refine g_ops ?_; first | refine sO ?_ | refine s_n (fun _ => ?_) | refine s_app (fun _ _ => ?_) | refine s_b0 (fun _ => ?_) | ((fail_if_success refine g_lit rfl rfl rfl ?_); first | apply g_partM rfl rfl rfl | apply g_partMB rfl rfl rfl | fail))
      | apply g_regB (id := 2) 52 | apply g_regB (id := 5) 61 | refine gS ?_ | exact s_m | intro _ | (refine gp_take ?_; first | refine pT ?_ | ((fail_if_success refine gp_lit rfl rfl rfl rfl ?_); first | apply gp_guard_dec rfl rfl rfl rfl | apply gp_guard rfl rfl rfl rfl | fail))
      | (refine gp_see ?_; first | refine p_f ?_ | refine pS ?_ | ((fail_if_success refine gp_lit rfl rfl rfl rfl ?_); first | apply gp_guard_dec rfl rfl rfl rfl | apply gp_guard rfl rfl rfl rfl | fail))
      | (refine gp_one ?_; first | refine pO ?_ | refine p_n (fun _ => ?_) | refine p_app (fun _ _ => ?_) | refine p_b0 (fun _ => ?_) | ((fail_if_success refine gp_lit rfl rfl rfl rfl ?_); first | apply gp_guard_dec rfl rfl rfl rfl | apply gp_guard rfl rfl rfl rfl | fail))
      | refine gp_two ?_ ?_ | refine gp_done hd hk ?_ | intro _ | refine p_ta hd hk (fun _ _ _ hd hk => ?_) | refine p_ts hd hk (fun _ hd hk => ?_))
    refine g_cond rfl (fun h2 => ?_) (fun h2 => ?_)
    · repeat (first
        | (refine g_ops ?_; first | refine sO ?_ | refine s_n (fun _ => ?_) | refine s_app (fun _ _ => ?_) | refine s_b0 (fun _ => ?_) | ((fail_if_success refine g_lit rfl rfl rfl ?_); first | apply g_partM rfl rfl rfl | apply g_partMB rfl rfl rfl | fail))
        | refine gS ?_ | exact s_m | intro _)
      exact s_r 3001 (hx := ⟨by omega, by omega, fun h => by omega⟩)
    have hde : deep ≤ 25 ∧ (k = 6 → ks.length = l.length) ∧ (k ≠ 6 → ks.length = 0) ∧ (k < 5 → l.length = 0) := by
      by_cases a1 : 25 < deep
      · simp [a1] at h2
      by_cases a2 : k = 6
      · by_cases a3 : (ks.length : Int) = l.length
        · exact ⟨by omega, fun _ => by omega, fun h => absurd a2 h, fun h => by omega⟩
        · rw [decide_eq_false a1, cond_false, decide_eq_true a2, cond_true, decide_eq_true a3, cond_true] at h2
          cases h2
      · by_cases a3 : ks.length = 0
        · by_cases a4 : k < 5
          · by_cases a5 : l.length = 0
            · exact ⟨by omega, fun h => absurd h a2, fun _ => a3, fun _ => a5⟩
            · have a5' : 0 < l.length := by omega
              simp [a1, a2, a3, a4, a5'] at h2
          · exact ⟨by omega, fun h => absurd h a2, fun _ => a3, fun h => absurd h a4⟩
        · have a3' : 0 < ks.length := by omega
          simp [a1, a2, a3'] at h2
    clear h2
    obtain ⟨hde, e6, e0, e5⟩ := hde
    have hkm : ∀ j x u, l[j]? = some x → us[j]? = some u → ∃ b o, p = some ⟨b, o, none⟩ ∧ (∀ (i : Nat) (v : Value), u.cells[i]? = some v → Reads (Pile H) ⟨b, o + j * 6 + i, none⟩ v) := fun j x u hx hu => slAt_elem hS Vc.len (by decide) hu
    repeat (first
      | (refine g_ops ?_; first | refine sO ?_ | refine s_n (fun _ => ?_) | refine s_app (fun _ _ => ?_) | refine s_b0 (fun _ => ?_) | ((fail_if_success refine g_lit rfl rfl rfl ?_); first | apply g_partM rfl rfl rfl | apply g_partMB rfl rfl rfl | fail))
      | refine gS ?_ | exact s_m | intro _)
    refine g_loop (X := IM) (fun x => [(6, int x.i), (5, int x.m), (2, ptr b), (1, int deep)]) (fun _ => [.row b [int k, .bool y, int n0, .string s, .slice kp ks.length kc, .slice p l.length c] 25, Pile H])
      (fun x => x.i ≤ l.length ∧ 0 ≤ x.m ∧ x.m ≤ most ∧ (x.m ≤ 3000 → (∀ j x', j < x.i → l[j]? = some x' → SmV x') ∧ szV (.mk k y n0 s ks l) ≤ x.m + szK (l.drop x.i))) (fun x => l.length - x.i) ⟨0, m1⟩ ⟨Nat.zero_le _, by dsimp only; omega, h1.1, fun h => ⟨fun j x' hj => absurd hj (Nat.not_lt_zero _), by
        have h5 := h1.2.2 (by dsimp only at h; omega)
        have h6 := hT.2.2 (by dsimp only at h; omega)
        dsimp only
        rw [List.drop_zero, hw]
        push_cast
        omega⟩⟩ (by (repeat (first | exact FrSub.nil | refine FrSub.cons rfl ?_)); first | done | fail) (by (repeat (first | exact Take.nil | apply Take.cons | exact Sel.here | apply Sel.there)); first | done | fail) (fun x hx => ?_)
    obtain ⟨i, m2⟩ := x
    obtain ⟨hi, hm0, hm1, hm2⟩ := hx
    dsimp only at hi hm0 hm1 hm2 ⊢
    repeat (first
      | (refine g_ops ?_; first | refine sO ?_ | refine s_n (fun _ => ?_) | refine s_app (fun _ _ => ?_) | refine s_b0 (fun _ => ?_) | ((fail_if_success refine g_lit rfl rfl rfl ?_); first | apply g_partM rfl rfl rfl | apply g_partMB rfl rfl rfl | fail))
      | apply g_regB (id := 2) 52 | apply g_regB (id := 5) 61 | refine gS ?_ | exact s_m | intro _ | (refine gp_take ?_; first | refine pT ?_ | ((fail_if_success refine gp_lit rfl rfl rfl rfl ?_); first | apply gp_guard_dec rfl rfl rfl rfl | apply gp_guard rfl rfl rfl rfl | fail))
      | (refine gp_see ?_; first | refine p_f ?_ | refine pS ?_ | ((fail_if_success refine gp_lit rfl rfl rfl rfl ?_); first | apply gp_guard_dec rfl rfl rfl rfl | apply gp_guard rfl rfl rfl rfl | fail))
      | (refine gp_one ?_; first | refine pO ?_ | refine p_n (fun _ => ?_) | refine p_app (fun _ _ => ?_) | refine p_b0 (fun _ => ?_) | ((fail_if_success refine gp_lit rfl rfl rfl rfl ?_); first | apply gp_guard_dec rfl rfl rfl rfl | apply gp_guard rfl rfl rfl rfl | fail))
      | refine gp_two ?_ ?_ | refine gp_done hd hk ?_ | intro _ | refine p_ta hd hk (fun _ _ _ hd hk => ?_) | refine p_ts hd hk (fun _ hd hk => ?_))
    refine g_cond rfl (fun h2 => ?_) (fun h2 => ?_)
    · have hi' : i < l.length := by simp at h2; omega
      have hm3 : m2 ≤ 3000 := by simp at h2; omega
      have hgl : l[i]? = some l[i] := List.getElem?_eq_getElem hi'
      have hgu : us[i]? = some (us[i]'(by omega)) := List.getElem?_eq_getElem _
      have hmem : l[i] ∈ l := List.getElem_mem _
      have hat := h i _ _ hgl hgu
      obtain ⟨b2, o, rfl, hrow⟩ := hkm i _ _ hgl hgu
      rw [List.drop_eq_getElem_cons hi', szK_cons] at hm2
      generalize hx : l[i] = x at hat hmem hm2 hgl
      generalize us[i]'_ = u' at hat hrow
      have hc := ih x hmem u' hat (deep + 1) ⟨by omega, by omega⟩
      repeat (first
        | (refine g_ops ?_; first | refine sO ?_ | refine s_n (fun _ => ?_) | refine s_app (fun _ _ => ?_) | refine s_b0 (fun _ => ?_) | ((fail_if_success refine g_lit rfl rfl rfl ?_); first | apply g_partM rfl rfl rfl | apply g_partMB rfl rfl rfl | fail) | refine s_c (hc) (fun _ _ => ?_))
        | refine gS ?_ | exact s_m | intro _)
      rename_i m3 hm4 _
      dsimp only [List.cons_append, List.nil_append]
      have h3 := sum_upS m2 [m3] (by simp; omega) hm1
      simp only [List.sum_cons, List.sum_nil, Int.add_zero] at h3
      repeat (first
        | (refine g_ops ?_; first | refine sO ?_ | refine s_n (fun _ => ?_) | refine s_app (fun _ _ => ?_) | refine s_b0 (fun _ => ?_) | ((fail_if_success refine g_lit rfl rfl rfl ?_); first | apply g_partM rfl rfl rfl | apply g_partMB rfl rfl rfl | fail) | refine s_k (sum_row _ _ _ m2 [m3] ⟨hm0, hm1⟩ (by simp; omega) (by simp)) ?_)
        | refine gS ?_ | exact s_m | intro _)
      generalize sumF m2 [m3] = m5 at h3 ⊢
      refine g_as 6 (v' := int ((i + 1 : Nat) : Int)) rfl (congrArg (Value.int .i64) (by push_cast; rfl)) ?_
      refine gA ⟨i + 1, m5⟩ (by simp only; omega) ⟨hi', by dsimp only; omega, h3.1, fun hm => ?_⟩
      have hm' := h3.2.2 (by dsimp only at hm; omega)
      obtain ⟨g1, g2⟩ := hm4.2.2 (by dsimp only at hm; omega)
      obtain ⟨g3, g4⟩ := hm2 hm3
      refine ⟨fun j x' hj hx' => ?_, by dsimp only; push_cast at g4; omega⟩
      rcases Nat.lt_or_ge j i with hlt | hge
      · exact g3 j x' hlt hx'
      · obtain rfl : j = i := by dsimp only at hj; omega
        rw [hgl] at hx'
        cases hx'
        exact g1
    · repeat (first
        | (refine g_ops ?_; first | refine sO ?_ | refine s_n (fun _ => ?_) | refine s_app (fun _ _ => ?_) | refine s_b0 (fun _ => ?_) | ((fail_if_success refine g_lit rfl rfl rfl ?_); first | apply g_partM rfl rfl rfl | apply g_partMB rfl rfl rfl | fail))
        | refine gS ?_ | exact s_m | intro _)
      exact s_r m2 (hx := ⟨hm0, hm1, fun hm => by
        have : i = l.length := by simp at h2; omega
        subst this
        obtain ⟨g1, g2⟩ := hm2 hm
        rw [List.drop_length, szK_nil] at g2
        refine ⟨.mk e6 (fun h => List.eq_nil_of_length_eq_zero (e0 h)) (fun h => List.eq_nil_of_length_eq_zero (e5 h)) fun x hx => ?_, by omega⟩
        obtain ⟨j, hj, rfl⟩ := List.mem_iff_getElem.1 hx
        exact g1 j _ hj (List.getElem?_eq_getElem hj)⟩)
set_option maxHeartbeats 4000000 in
theorem sound28 {H : HP} (v : V) (u : Vc) (hu : VAt (Pile H) v u) : Does Tryd.prog 7 [.agg u.cells.toArray] [Pile H] (X := Bool) Value.bool (fun _ => [Pile H]) (fun r => r = true → SmV v ∧ szV v ≤ 3000 ∧ (weigh v 0 0).1 = 0) := by
  have hw := weight28 v u hu 0 ⟨by decide, by decide⟩
  have hc := fun (h1 : SmV v) (h2 : szV v ≤ 3000) => check1d H v u hu h1 (by omega)
  dsimp only [Vc.cells] at hw hc ⊢
  refine fn_intro Tryd.func7 rfl Tryd.ntmps7 rfl (by simp only [argFr, Nat.zero_add, Nat.reduceAdd]; rfl) (fun Γ => ?_)
  repeat (first
    | (refine g_ops ?_; first | refine sO ?_ | refine s_n (fun _ => ?_) | refine s_app (fun _ _ => ?_) | refine s_b0 (fun _ => ?_) | ((fail_if_success refine g_lit rfl rfl rfl ?_); first | apply g_partM rfl rfl rfl | apply g_partMB rfl rfl rfl | fail) | refine s_c (hw) (fun _ _ => ?_))
    | refine gS ?_ | exact s_m | intro _)
  rename_i b r hr
  try dsimp only [List.cons_append, List.nil_append]
  by_cases h3 : r ≤ 3000
  · obtain ⟨g1, g2⟩ := hr.2.2 h3
    have hc := hc g1 (by omega)
    rw [decide_eq_true h3]
    repeat (first
      | (refine g_ops ?_; first | refine sO ?_ | refine s_n (fun _ => ?_) | refine s_app (fun _ _ => ?_) | refine s_b0 (fun _ => ?_) | ((fail_if_success refine g_lit rfl rfl rfl ?_); first | apply g_partM rfl rfl rfl | apply g_partMB rfl rfl rfl | fail) | refine s_k (hc) ?_)
      | refine gS ?_ | exact s_m | intro _)
    exact s_r (decide ((weigh v 0 0).1 = 0)) (hx := fun h => ⟨g1, by omega, of_decide_eq_true h⟩)
  · rw [decide_eq_false h3]
    repeat (first
      | (refine g_ops ?_; first | refine sO ?_ | refine s_n (fun _ => ?_) | refine s_app (fun _ _ => ?_) | refine s_b0 (fun _ => ?_) | ((fail_if_success refine g_lit rfl rfl rfl ?_); first | apply g_partM rfl rfl rfl | apply g_partMB rfl rfl rfl | fail))
      | refine gS ?_ | exact s_m | intro _)
    exact s_r false (hx := fun h => by cases h)
theorem weighL_each {p : Bool} : ∀ (l : List V) (pr : Option ByteArray) (ks : List ByteArray) (lv n : Int), 0 ≤ n → (weighL p pr ks l lv n).1 = 0 → ∀ x ∈ l, ∃ m, 0 ≤ m ∧ (weigh x lv m).1 = 0
  | [], _, _, _, _, _, _, x, hx => by cases hx
  | y :: l, pr, ks, lv, n, hn, h, x, hx => by
    rw [weighL_cons] at h
    split at h
    · cases h
    · split at h
      · rename_i h0
        rcases List.mem_cons.1 hx with rfl | hx
        · exact ⟨n, hn, h0⟩
        · have hm := weigh_most y lv n hn h0
          exact weighL_each l _ _ _ _ (by omega) h x hx
      · rename_i h0; exact absurd h h0
theorem weigh_kids {k : Int} {y : Bool} {n : Int} {s : ByteArray} {ks : List ByteArray} {l : List V} {lv m : Int} (hm : 0 ≤ m) (h : (weigh (.mk k y n s ks l) lv m).1 = 0) : (5 ≤ k → ∀ x ∈ l, ∃ m, 0 ≤ m ∧ (weigh x (lv + 1) m).1 = 0) ∧ (5 ≤ k → lv ≤ 20) ∧ 1 ≤ k ∧ k ≤ 6 := by
  rw [weigh_mk] at h
  split at h
  · cases h
  rename_i hk
  split at h
  · cases h
  split at h
  · cases h
  split at h
  · exact ⟨fun h5 => by omega, fun h5 => by omega, by omega, by omega⟩
  split at h
  · cases h
  · exact ⟨fun _ => weighL_each l _ _ _ _ (by omega) h, fun _ => by omega, by omega, by omega⟩
abbrev Made28D (H : HP) (v : V) (u : Vc) (deep : Int) : Prop := Does Tryd.prog 10 [.agg u.cells.toArray, int deep] [Pile H] (X := HP × Value) (fun y => y.2) (fun y => [Pile y.1]) (fun y => HP.sub H y.1 ∧ TAt y.1 v y.2)
set_option maxHeartbeats 8000000 in
theorem made28 (v : V) : ∀ (H : HP) (u : Vc) (deep n0 : Int), VAt (Pile H) v u → SmV v → szV v ≤ 1000000 → 0 ≤ deep ∧ deep ≤ 21 → 0 ≤ n0 → (weigh v deep n0).1 = 0 → Made28D H v u deep := by
  refine V.ind (Q := fun v => ∀ (H : HP) (u : Vc) (deep n0 : Int), VAt (Pile H) v u → SmV v → szV v ≤ 1000000 → 0 ≤ deep ∧ deep ≤ 21 → 0 ≤ n0 → (weigh v deep n0).1 = 0 → Made28D H v u deep) (fun k y n s ks l ih H u deep nn hu hsm hsz hdp hnn hwv => ?_) v
  have hsl := szK_len l
  rw [szV_mk] at hsz
  have hkid : (5 ≤ k → ∀ x ∈ l, ∃ m, 0 ≤ m ∧ (weigh x (deep + 1) m).1 = 0) ∧ (5 ≤ k → deep ≤ 20) ∧ 1 ≤ k ∧ k ≤ 6 := weigh_kids hnn hwv
  obtain ⟨h6, h0, h5, hsk⟩ := hsm
  cases hu with
  | @mk _ _ _ _ _ _ kp kc p c us hki hn0 hs hkl hks hkS hl hul hS h =>
    unfold Made28D
    dsimp only [Vc.cells]
    refine fn_intro Tryd.func10 rfl Tryd.ntmps10 rfl (by simp only [argFr, Nat.zero_add, Nat.reduceAdd]; rfl) (fun Γ => ?_)
    repeat (first
      | (refine g_ops ?_; first | refine sO ?_ | refine s_n (fun _ => ?_) | refine s_app (fun _ _ => ?_) | refine s_b0 (fun _ => ?_) | ((fail_if_success refine g_lit rfl rfl rfl ?_); first | apply g_partM rfl rfl rfl | apply g_partMB rfl rfl rfl | fail))
      | refine gS ?_ | exact s_m | intro _)
    rename_i b
    refine g_as 10 (v' := .bool false) rfl (congrArg Value.bool (decide_eq_false (by omega))) ?_
    repeat (first
      | (refine g_ops ?_; first | refine sO ?_ | refine s_n (fun _ => ?_) | refine s_app (fun _ _ => ?_) | refine s_b0 (fun _ => ?_) | ((fail_if_success refine g_lit rfl rfl rfl ?_); first | apply g_partM rfl rfl rfl | apply g_partMB rfl rfl rfl | fail))
      | refine gS ?_ | exact s_m | intro _)
    by_cases k2 : k = 2
    · subst k2
      refine g_as 13 (v' := .bool true) rfl rfl ?_
      repeat (first
        | (refine g_ops ?_; first | refine sO ?_ | refine s_n (fun _ => ?_) | refine s_app (fun _ _ => ?_) | refine s_b0 (fun _ => ?_) | ((fail_if_success refine g_lit rfl rfl rfl ?_); first | apply g_partM rfl rfl rfl | apply g_partMB rfl rfl rfl | fail))
        | refine gS ?_ | exact s_m | intro _)
      exact s_r (H, .iface 4 (.bool y)) (hx := ⟨HP.sub.refl _, .bool⟩)
    refine g_as 13 (v' := .bool false) rfl (congrArg Value.bool (decide_eq_false k2)) ?_
    repeat (first
      | (refine g_ops ?_; first | refine sO ?_ | refine s_n (fun _ => ?_) | refine s_app (fun _ _ => ?_) | refine s_b0 (fun _ => ?_) | ((fail_if_success refine g_lit rfl rfl rfl ?_); first | apply g_partM rfl rfl rfl | apply g_partMB rfl rfl rfl | fail))
      | refine gS ?_ | exact s_m | intro _)
    by_cases k3 : k = 3
    · subst k3
      refine g_as 18 (v' := .bool true) rfl rfl ?_
      repeat (first
        | (refine g_ops ?_; first | refine sO ?_ | refine s_n (fun _ => ?_) | refine s_app (fun _ _ => ?_) | refine s_b0 (fun _ => ?_) | ((fail_if_success refine g_lit rfl rfl rfl ?_); first | apply g_partM rfl rfl rfl | apply g_partMB rfl rfl rfl | fail))
        | refine gS ?_ | exact s_m | intro _)
      exact s_r (H, .iface 3 (int n)) (hx := ⟨HP.sub.refl _, .int hn0⟩)
    refine g_as 18 (v' := .bool false) rfl (congrArg Value.bool (decide_eq_false k3)) ?_
    repeat (first
      | (refine g_ops ?_; first | refine sO ?_ | refine s_n (fun _ => ?_) | refine s_app (fun _ _ => ?_) | refine s_b0 (fun _ => ?_) | ((fail_if_success refine g_lit rfl rfl rfl ?_); first | apply g_partM rfl rfl rfl | apply g_partMB rfl rfl rfl | fail))
      | refine gS ?_ | exact s_m | intro _)
    by_cases k4 : k = 4
    · subst k4
      refine g_as 23 (v' := .bool true) rfl rfl ?_
      repeat (first
        | (refine g_ops ?_; first | refine sO ?_ | refine s_n (fun _ => ?_) | refine s_app (fun _ _ => ?_) | refine s_b0 (fun _ => ?_) | ((fail_if_success refine g_lit rfl rfl rfl ?_); first | apply g_partM rfl rfl rfl | apply g_partMB rfl rfl rfl | fail))
        | refine gS ?_ | exact s_m | intro _)
      exact s_r (H, .iface 9 (.string s)) (hx := ⟨HP.sub.refl _, .text hs⟩)
    refine g_as 23 (v' := .bool false) rfl (congrArg Value.bool (decide_eq_false k4)) ?_
    repeat (first
      | (refine g_ops ?_; first | refine sO ?_ | refine s_n (fun _ => ?_) | refine s_app (fun _ _ => ?_) | refine s_b0 (fun _ => ?_) | ((fail_if_success refine g_lit rfl rfl rfl ?_); first | apply g_partM rfl rfl rfl | apply g_partMB rfl rfl rfl | fail))
      | refine gS ?_ | exact s_m | intro _)
    by_cases k5 : k = 5
    · subst k5
      refine g_as 28 (v' := .bool true) rfl rfl ?_
      repeat (first
        | (refine g_ops ?_; first | refine sO ?_ | refine s_n (fun _ => ?_) | refine s_app (fun _ _ => ?_) | refine s_b0 (fun _ => ?_) | ((fail_if_success refine g_lit rfl rfl rfl ?_); first | apply g_partM rfl rfl rfl | apply g_partMB rfl rfl rfl | fail))
        | refine gS ?_ | exact s_m | intro _)
      rename_i b2
      refine g_loop (X := MdX) (fun x => [(1, int deep), (2, ptr b), (5, .slice x.q x.vs.length x.c), (6, int x.i)]) (fun x => [.own x.q x.vs.length x.c 1 x.vs 20, .row b [int 5, .bool y, int n, .string s, .slice kp ks.length kc, .slice p l.length c] 25, Pile x.H])
        (fun x => x.i ≤ l.length ∧ x.vs.length = x.i ∧ HP.sub H x.H ∧ ∀ j a w, l[j]? = some a → x.vs[j]? = some w → TAt x.H a w) (fun x => l.length - x.i) ⟨0, some ⟨b2, 0, none⟩, 0, [], H⟩ ⟨Nat.zero_le _, rfl, HP.sub.refl _, fun j a w _ hw => (nil_get hw).elim⟩ (by (repeat (first | exact FrSub.nil | refine FrSub.cons rfl ?_)); first | done | fail) (by (repeat (first | exact Take.nil | apply Take.cons | exact Sel.here | apply Sel.there)); first | done | fail) (fun x hx => ?_)
      obtain ⟨i, q, c2, vs, H1⟩ := x
      obtain ⟨hi, hvl, hs1, hts⟩ := hx
      dsimp only at hi hvl hs1 hts ⊢
      repeat (first
        | (refine g_ops ?_; first | refine sO ?_ | refine s_n (fun _ => ?_) | refine s_app (fun _ _ => ?_) | refine s_b0 (fun _ => ?_) | ((fail_if_success refine g_lit rfl rfl rfl ?_); first | apply g_partM rfl rfl rfl | apply g_partMB rfl rfl rfl | fail))
        | refine gS ?_ | exact s_m | intro _)
      refine g_cond_dec rfl (fun h2 => ?_) (fun h2 => ?_)
      · have hi' : i < l.length := by omega
        have hgl : l[i]? = some l[i] := List.getElem?_eq_getElem hi'
        have hgu : us[i]? = some (us[i]'(by omega)) := List.getElem?_eq_getElem _
        have hmem : l[i] ∈ l := List.getElem_mem _
        have hat := (h i _ _ hgl hgu).grow hs1
        obtain ⟨b3, o, rfl, hrow⟩ := slAt_elem (hS.grow hs1) Vc.len (by decide) hgu
        have hsx := szK_mem hmem
        generalize l[i] = x at hat hmem hgl hsx
        generalize us[i]'_ = u' at hat hrow
        obtain ⟨nx, hnx, hwx⟩ := hkid.1 (by omega) x hmem
        have hc := ih x hmem H1 u' (deep + 1) nx hat (hsk x hmem) (by omega) ⟨by omega, by have := hkid.2.1 (by omega); omega⟩ hnx hwx
        unfold Made28D at hc
        repeat (first
          | (refine g_ops ?_; first | refine sO ?_ | refine s_n (fun _ => ?_) | refine s_app (fun _ _ => ?_) | refine s_b0 (fun _ => ?_) | ((fail_if_success refine g_lit rfl rfl rfl ?_); first | apply g_partM rfl rfl rfl | apply g_partMB rfl rfl rfl | fail) | refine s_c (hc) (fun _ _ => ?_))
          | refine gS ?_ | exact s_m | intro _)
        rename_i y hy
        obtain ⟨H2, w⟩ := y
        obtain ⟨hs2, hat2⟩ := hy
        dsimp only [List.cons_append, List.nil_append] at hs2 hat2 ⊢
        have hw1 := hat2.one
        refine g_ops ?_
        refine s_n (q := cs_buildSlice rfl rfl rfl (Parts.cons rfl (CellsOf.one hw1) rfl Parts.nil (.cons .nil))) (fun b4 => ?_)
        refine g_ops ?_
        refine s_app (news := [w]) (fun q' c' => ?_) (src := by exact srcRow inferInstance (by (repeat (first | exact Sel.here | apply Sel.there)); first | done | fail) (by (repeat (first | exact Cut.zero | apply Cut.take | apply Cut.skip)); first | done | fail) (by simp [hw1]))
        repeat (first
          | (refine g_ops ?_; first | refine sO ?_ | refine s_n (fun _ => ?_) | refine s_app (fun _ _ => ?_) | refine s_b0 (fun _ => ?_) | ((fail_if_success refine g_lit rfl rfl rfl ?_); first | apply g_partM rfl rfl rfl | apply g_partMB rfl rfl rfl | fail))
          | refine gS ?_ | exact s_m | intro _)
        refine g_as 6 (v' := int ((i + 1  : Nat) : Int)) rfl (congrArg (Value.int .i64) (by push_cast; rfl)) ?_
        rw [show vs.length + 1 = (vs ++ [w]).length by simp]
        refine gA ⟨i + 1, q', c', vs ++ [w], H2⟩ (by simp only; omega) ⟨hi', by simp [hvl], hs1.trans hs2, fun j a w' ha hw' => ?_⟩
        dsimp only at hw' ⊢
        rcases Nat.lt_or_ge j vs.length with hlt | hge
        · rw [List.getElem?_append_left hlt] at hw'
          exact (hts j a w' ha hw').grow hs2
        · rw [List.getElem?_append_right hge] at hw'
          have hj : j = i := by
            have := (List.getElem?_eq_some_iff.1 hw').1
            simp only [List.length_singleton] at this
            omega
          subst hj
          rw [show j - vs.length = 0 by omega] at hw'
          rw [hgl] at ha
          cases ha
          cases hw'
          exact hat2
      · obtain rfl : i = l.length := by omega
        repeat (first
          | (refine g_ops ?_; first | refine sO ?_ | refine s_n (fun _ => ?_) | refine s_app (fun _ _ => ?_) | refine s_b0 (fun _ => ?_) | ((fail_if_success refine g_lit rfl rfl rfl ?_); first | apply g_partM rfl rfl rfl | apply g_partMB rfl rfl rfl | fail))
          | refine gS ?_ | exact s_m | intro _)
        refine g_capO (by (repeat (first | exact Sel.here | apply Sel.there)); first | done | fail) (fun hcap => ?_)
        refine g_pile (by (repeat (first | exact Sel.here | apply Sel.there)); first | done | fail) (by (repeat (first | exact Sel.here | apply Sel.there)); first | done | fail) (fun H2 hs2 hS2 => ?_)
        rw [hvl] at hS2
        refine s_r (H2, .iface 60 (.slice q l.length c2)) (hx := ⟨hs1.trans hs2, .list vs hvl (by omega) hS2 fun j a w ha hw => (hts j a w ha hw).grow hs2⟩) (hp := by simp only [pack, hvl])
    refine g_as 28 (v' := .bool false) rfl (congrArg Value.bool (decide_eq_false k5)) ?_
    repeat (first
      | (refine g_ops ?_; first | refine sO ?_ | refine s_n (fun _ => ?_) | refine s_app (fun _ _ => ?_) | refine s_b0 (fun _ => ?_) | ((fail_if_success refine g_lit rfl rfl rfl ?_); first | apply g_partM rfl rfl rfl | apply g_partMB rfl rfl rfl | fail))
      | refine gS ?_ | exact s_m | intro _)
    by_cases k6 : k = 6
    · subst k6
      refine g_as 51 (v' := .bool true) rfl rfl ?_
      repeat (first
        | (refine g_ops ?_; first | refine sO ?_ | refine s_n (fun _ => ?_) | refine s_app (fun _ _ => ?_) | refine s_b0 (fun _ => ?_) | ((fail_if_success refine g_lit rfl rfl rfl ?_); first | apply g_partM rfl rfl rfl | apply g_partMB rfl rfl rfl | fail))
        | refine gS ?_ | exact s_m | intro _)
      rename_i b2
      have hkl6 := h6 rfl
      refine g_loop (X := MpX) (fun x => [(1, int deep), (2, ptr b), (7, .slice x.q x.ps.length x.c), (8, int x.i)]) (fun x => [.own x.q x.ps.length x.c 2 (x.ps.flatMap Pr.cells) 58, .row b [int 6, .bool y, int n, .string s, .slice kp ks.length kc, .slice p l.length c] 25, Pile x.H])
        (fun x => x.i ≤ l.length ∧ x.ps.length = x.i ∧ HP.sub H x.H ∧ x.ps.map Pr.k = ks.take x.i ∧ ∀ j a w, l[j]? = some a → x.ps[j]? = some w → TAt x.H a w.v) (fun x => l.length - x.i) ⟨0, some ⟨b2, 0, none⟩, 0, [], H⟩ ⟨Nat.zero_le _, rfl, HP.sub.refl _, rfl, fun j a w _ hw => (nil_get hw).elim⟩ (by (repeat (first | exact FrSub.nil | refine FrSub.cons rfl ?_)); first | done | fail) (by (repeat (first | exact Take.nil | apply Take.cons | exact Sel.here | apply Sel.there)); first | done | fail) (fun x hx => ?_)
      obtain ⟨i, q, c2, ps, H1⟩ := x
      obtain ⟨hi, hvl, hs1, hpk, hts⟩ := hx
      dsimp only at hi hvl hs1 hpk hts ⊢
      repeat (first
        | (refine g_ops ?_; first | refine sO ?_ | refine s_n (fun _ => ?_) | refine s_app (fun _ _ => ?_) | refine s_b0 (fun _ => ?_) | ((fail_if_success refine g_lit rfl rfl rfl ?_); first | apply g_partM rfl rfl rfl | apply g_partMB rfl rfl rfl | fail))
        | refine gS ?_ | exact s_m | intro _)
      refine g_cond_dec rfl (fun h2 => ?_) (fun h2 => ?_)
      · have hi' : i < l.length := by omega
        have hgl : l[i]? = some l[i] := List.getElem?_eq_getElem hi'
        have hgu : us[i]? = some (us[i]'(by omega)) := List.getElem?_eq_getElem _
        have hgk : (ks.map Value.string)[i]? = some (.string (ks[i]'(by omega))) := by rw [List.getElem?_map, List.getElem?_eq_getElem (by omega)]; rfl
        have hmem : l[i] ∈ l := List.getElem_mem _
        have hat := (h i _ _ hgl hgu).grow hs1
        obtain ⟨b3, o, rfl, hrow⟩ := slAt_elem (hS.grow hs1) Vc.len (by decide) hgu
        obtain ⟨b4, o4, rfl, hr0⟩ := slAt_cell (hkS.grow hs1) hgk
        have hsx := szK_mem hmem
        have htake : ks.take (i + 1) = ks.take i ++ [ks[i]'(by omega)] := by rw [List.take_add_one, List.getElem?_eq_getElem (by omega)]; rfl
        generalize l[i] = x at hat hmem hgl hsx
        generalize us[i]'_ = u' at hat hrow
        generalize ks[i]'_ = kk at hr0 htake
        have hr : ∀ k', k' = i → Reads (Pile H1) ⟨b4, o4 + k', none⟩ (.string kk) := fun _ e => e ▸ hr0
        obtain ⟨nx, hnx, hwx⟩ := hkid.1 (by omega) x hmem
        have hc := ih x hmem H1 u' (deep + 1) nx hat (hsk x hmem) (by omega) ⟨by omega, by have := hkid.2.1 (by omega); omega⟩ hnx hwx
        unfold Made28D at hc
        repeat (first | refine g_skip ?_ | refine g_then_normal ?_ | refine g_block ?_ | refine g_seq ?_)
        refine g_cutX (X := MqX) (fun z => [(7, .slice z.q (ps.length + 1) z.c), (8, int i), (2, ptr b), (1, int deep)]) (fun z => [.own z.q (ps.length + 1) z.c 2 (ps.flatMap Pr.cells ++ [.string kk, z.w]) 58, .row b [int 6, .bool y, int n, .string s, .slice (some ⟨b4, o4, none⟩) ks.length kc, .slice (some ⟨b3, o, none⟩) l.length c] 25, Pile z.H]) (fun z => HP.sub H1 z.H ∧ TAt z.H x z.w) ?_ (fun z hz => ?_)
        · refine g_draw (.take 0 (.take 1 (.see 2 [] (.take 3 (.take 4 (.take 6 (.see 7 [] (.take 8 (.take 9 (.take 11 (.take 12 (.two 5 (.one 10 (.one 13 (.take 14 (.one 15 (.one 16 (.take 17 .done)))))) 10 (.two 5 (.one 13 (.take 14 (.one 15 (.one 16 (.take 17 .done))))) 13 (.one 5 (.take 14 (.one 15 (.one 16 (.take 17 .done)))))))))))))))))) (by kernel_rfl) (C := [.row b [int 6, .bool y, int n, .string s, .slice (some ⟨b4, o4, none⟩) ks.length kc, .slice (some ⟨b3, o, none⟩) l.length c] 25]) (by (repeat (first | exact Take.nil | apply Take.cons | exact Sel.here | apply Sel.there)); first | done | fail) (fun m hd hk => ?_)
          repeat (first
            | (refine gp_take ?_; first | refine pT ?_ | ((fail_if_success refine gp_lit rfl rfl rfl rfl ?_); first | apply gp_guard_dec rfl rfl rfl rfl | apply gp_guard rfl rfl rfl rfl | fail))
            | (refine gp_see ?_; first | refine p_f ?_ | refine pS ?_ | ((fail_if_success refine gp_lit rfl rfl rfl rfl ?_); first | apply gp_guard_dec rfl rfl rfl rfl | apply gp_guard rfl rfl rfl rfl | fail))
            | (refine gp_one ?_; first | refine pO ?_ | refine p_n (fun _ => ?_) | refine p_app (fun _ _ => ?_) | refine p_b0 (fun _ => ?_) | ((fail_if_success refine gp_lit rfl rfl rfl rfl ?_); first | apply gp_guard_dec rfl rfl rfl rfl | apply gp_guard rfl rfl rfl rfl | fail) | refine p_c (hc) (fun _ _ => ?_))
            | refine gp_two ?_ ?_ | refine gp_done hd hk ?_ | intro _ | refine p_ta hd hk (fun _ _ _ hd hk => ?_) | refine p_ts hd hk (fun _ hd hk => ?_))
          · rename_i z hz
            obtain ⟨H2, w⟩ := z
            obtain ⟨hs2, hat2⟩ := hz
            dsimp only [List.cons_append, List.nil_append] at hs2 hat2 ⊢
            rcases hat2.shape with rfl | ⟨t, v', rfl⟩
            · repeat (first
                | (refine gp_take ?_; first | refine pT ?_ | ((fail_if_success refine gp_lit rfl rfl rfl rfl ?_); first | apply gp_guard_dec rfl rfl rfl rfl | apply gp_guard rfl rfl rfl rfl | fail))
                | (refine gp_see ?_; first | refine p_f ?_ | refine pS ?_ | ((fail_if_success refine gp_lit rfl rfl rfl rfl ?_); first | apply gp_guard_dec rfl rfl rfl rfl | apply gp_guard rfl rfl rfl rfl | fail))
                | (refine gp_one ?_; first | refine pO ?_ | refine p_n (fun _ => ?_) | refine p_app (fun _ _ => ?_) | refine p_b0 (fun _ => ?_) | ((fail_if_success refine gp_lit rfl rfl rfl rfl ?_); first | apply gp_guard_dec rfl rfl rfl rfl | apply gp_guard rfl rfl rfl rfl | fail))
                | refine gp_two ?_ ?_ | refine gp_done hd hk ?_ | intro _ | refine p_ta hd hk (fun _ _ _ hd hk => ?_) | refine p_ts hd hk (fun _ hd hk => ?_))
              exact gM ⟨_, _, H2, _⟩ ⟨hs2, hat2⟩
            · repeat (first
                | (refine gp_take ?_; first | refine pT ?_ | ((fail_if_success refine gp_lit rfl rfl rfl rfl ?_); first | apply gp_guard_dec rfl rfl rfl rfl | apply gp_guard rfl rfl rfl rfl | fail))
                | (refine gp_see ?_; first | refine p_f ?_ | refine pS ?_ | ((fail_if_success refine gp_lit rfl rfl rfl rfl ?_); first | apply gp_guard_dec rfl rfl rfl rfl | apply gp_guard rfl rfl rfl rfl | fail))
                | (refine gp_one ?_; first | refine pO ?_ | refine p_n (fun _ => ?_) | refine p_app (fun _ _ => ?_) | refine p_b0 (fun _ => ?_) | ((fail_if_success refine gp_lit rfl rfl rfl rfl ?_); first | apply gp_guard_dec rfl rfl rfl rfl | apply gp_guard rfl rfl rfl rfl | fail))
                | refine gp_two ?_ ?_ | refine gp_done hd hk ?_ | intro _ | refine p_ta hd hk (fun _ _ _ hd hk => ?_) | refine p_ts hd hk (fun _ hd hk => ?_))
              exact gM ⟨_, _, H2, _⟩ ⟨hs2, hat2⟩
          · repeat (first
              | (refine gp_take ?_; first | refine pT ?_ | ((fail_if_success refine gp_lit rfl rfl rfl rfl ?_); first | apply gp_guard_dec rfl rfl rfl rfl | apply gp_guard rfl rfl rfl rfl | fail))
              | (refine gp_see ?_; first | refine p_f ?_ | refine pS ?_ | ((fail_if_success refine gp_lit rfl rfl rfl rfl ?_); first | apply gp_guard_dec rfl rfl rfl rfl | apply gp_guard rfl rfl rfl rfl | fail))
              | (refine gp_one ?_; first | refine pO ?_ | refine p_n (fun _ => ?_) | refine p_app (fun _ _ => ?_) | refine p_b0 (fun _ => ?_) | ((fail_if_success refine gp_lit rfl rfl rfl rfl ?_); first | apply gp_guard_dec rfl rfl rfl rfl | apply gp_guard rfl rfl rfl rfl | fail) | refine p_c (hc) (fun _ _ => ?_))
              | refine gp_two ?_ ?_ | refine gp_done hd hk ?_ | intro _ | refine p_ta hd hk (fun _ _ _ hd hk => ?_) | refine p_ts hd hk (fun _ hd hk => ?_))
            · rename_i z hz
              obtain ⟨H2, w⟩ := z
              obtain ⟨hs2, hat2⟩ := hz
              dsimp only [List.cons_append, List.nil_append] at hs2 hat2 ⊢
              rcases hat2.shape with rfl | ⟨t, v', rfl⟩
              · repeat (first
                  | (refine gp_take ?_; first | refine pT ?_ | ((fail_if_success refine gp_lit rfl rfl rfl rfl ?_); first | apply gp_guard_dec rfl rfl rfl rfl | apply gp_guard rfl rfl rfl rfl | fail))
                  | (refine gp_see ?_; first | refine p_f ?_ | refine pS ?_ | ((fail_if_success refine gp_lit rfl rfl rfl rfl ?_); first | apply gp_guard_dec rfl rfl rfl rfl | apply gp_guard rfl rfl rfl rfl | fail))
                  | (refine gp_one ?_; first | refine pO ?_ | refine p_n (fun _ => ?_) | refine p_app (fun _ _ => ?_) | refine p_b0 (fun _ => ?_) | ((fail_if_success refine gp_lit rfl rfl rfl rfl ?_); first | apply gp_guard_dec rfl rfl rfl rfl | apply gp_guard rfl rfl rfl rfl | fail))
                  | refine gp_two ?_ ?_ | refine gp_done hd hk ?_ | intro _ | refine p_ta hd hk (fun _ _ _ hd hk => ?_) | refine p_ts hd hk (fun _ hd hk => ?_))
                exact gM ⟨_, _, H2, _⟩ ⟨hs2, hat2⟩
              · repeat (first
                  | (refine gp_take ?_; first | refine pT ?_ | ((fail_if_success refine gp_lit rfl rfl rfl rfl ?_); first | apply gp_guard_dec rfl rfl rfl rfl | apply gp_guard rfl rfl rfl rfl | fail))
                  | (refine gp_see ?_; first | refine p_f ?_ | refine pS ?_ | ((fail_if_success refine gp_lit rfl rfl rfl rfl ?_); first | apply gp_guard_dec rfl rfl rfl rfl | apply gp_guard rfl rfl rfl rfl | fail))
                  | (refine gp_one ?_; first | refine pO ?_ | refine p_n (fun _ => ?_) | refine p_app (fun _ _ => ?_) | refine p_b0 (fun _ => ?_) | ((fail_if_success refine gp_lit rfl rfl rfl rfl ?_); first | apply gp_guard_dec rfl rfl rfl rfl | apply gp_guard rfl rfl rfl rfl | fail))
                  | refine gp_two ?_ ?_ | refine gp_done hd hk ?_ | intro _ | refine p_ta hd hk (fun _ _ _ hd hk => ?_) | refine p_ts hd hk (fun _ hd hk => ?_))
                exact gM ⟨_, _, H2, _⟩ ⟨hs2, hat2⟩
            · repeat (first
                | (refine gp_take ?_; first | refine pT ?_ | ((fail_if_success refine gp_lit rfl rfl rfl rfl ?_); first | apply gp_guard_dec rfl rfl rfl rfl | apply gp_guard rfl rfl rfl rfl | fail))
                | (refine gp_see ?_; first | refine p_f ?_ | refine pS ?_ | ((fail_if_success refine gp_lit rfl rfl rfl rfl ?_); first | apply gp_guard_dec rfl rfl rfl rfl | apply gp_guard rfl rfl rfl rfl | fail))
                | (refine gp_one ?_; first | refine pO ?_ | refine p_n (fun _ => ?_) | refine p_app (fun _ _ => ?_) | refine p_b0 (fun _ => ?_) | ((fail_if_success refine gp_lit rfl rfl rfl rfl ?_); first | apply gp_guard_dec rfl rfl rfl rfl | apply gp_guard rfl rfl rfl rfl | fail) | refine p_c (hc) (fun _ _ => ?_))
                | refine gp_two ?_ ?_ | refine gp_done hd hk ?_ | intro _ | refine p_ta hd hk (fun _ _ _ hd hk => ?_) | refine p_ts hd hk (fun _ hd hk => ?_))
              rename_i z hz
              obtain ⟨H2, w⟩ := z
              obtain ⟨hs2, hat2⟩ := hz
              dsimp only [List.cons_append, List.nil_append] at hs2 hat2 ⊢
              replace hr : ∀ k', k' = i → Reads (Pile H2) ⟨b4, o4 + k', none⟩ (.string kk) := fun k' e => reads_grow hs2 (hr k' e)
              repeat (first
                | (refine gp_take ?_; first | refine pT ?_ | ((fail_if_success refine gp_lit rfl rfl rfl rfl ?_); first | apply gp_guard_dec rfl rfl rfl rfl | apply gp_guard rfl rfl rfl rfl | fail))
                | (refine gp_see ?_; first | refine p_f ?_ | refine pS ?_ | ((fail_if_success refine gp_lit rfl rfl rfl rfl ?_); first | apply gp_guard_dec rfl rfl rfl rfl | apply gp_guard rfl rfl rfl rfl | fail))
                | (refine gp_one ?_; first | refine pO ?_ | refine p_n (fun _ => ?_) | refine p_app (fun _ _ => ?_) | refine p_b0 (fun _ => ?_) | ((fail_if_success refine gp_lit rfl rfl rfl rfl ?_); first | apply gp_guard_dec rfl rfl rfl rfl | apply gp_guard rfl rfl rfl rfl | fail))
                | refine gp_two ?_ ?_ | refine gp_done hd hk ?_ | intro _ | refine p_ta hd hk (fun _ _ _ hd hk => ?_) | refine p_ts hd hk (fun _ hd hk => ?_))
              rcases hat2.shape with rfl | ⟨t, v', rfl⟩
              · repeat (first
                  | (refine gp_take ?_; first | refine pT ?_ | ((fail_if_success refine gp_lit rfl rfl rfl rfl ?_); first | apply gp_guard_dec rfl rfl rfl rfl | apply gp_guard rfl rfl rfl rfl | fail))
                  | (refine gp_see ?_; first | refine p_f ?_ | refine pS ?_ | ((fail_if_success refine gp_lit rfl rfl rfl rfl ?_); first | apply gp_guard_dec rfl rfl rfl rfl | apply gp_guard rfl rfl rfl rfl | fail))
                  | (refine gp_one ?_; first | refine pO ?_ | refine p_n (fun _ => ?_) | refine p_app (fun _ _ => ?_) | refine p_b0 (fun _ => ?_) | ((fail_if_success refine gp_lit rfl rfl rfl rfl ?_); first | apply gp_guard_dec rfl rfl rfl rfl | apply gp_guard rfl rfl rfl rfl | fail))
                  | refine gp_two ?_ ?_ | refine gp_done hd hk ?_ | intro _ | refine p_ta hd hk (fun _ _ _ hd hk => ?_) | refine p_ts hd hk (fun _ hd hk => ?_))
                exact gM ⟨_, _, H2, _⟩ ⟨hs2, hat2⟩
              · repeat (first
                  | (refine gp_take ?_; first | refine pT ?_ | ((fail_if_success refine gp_lit rfl rfl rfl rfl ?_); first | apply gp_guard_dec rfl rfl rfl rfl | apply gp_guard rfl rfl rfl rfl | fail))
                  | (refine gp_see ?_; first | refine p_f ?_ | refine pS ?_ | ((fail_if_success refine gp_lit rfl rfl rfl rfl ?_); first | apply gp_guard_dec rfl rfl rfl rfl | apply gp_guard rfl rfl rfl rfl | fail))
                  | (refine gp_one ?_; first | refine pO ?_ | refine p_n (fun _ => ?_) | refine p_app (fun _ _ => ?_) | refine p_b0 (fun _ => ?_) | ((fail_if_success refine gp_lit rfl rfl rfl rfl ?_); first | apply gp_guard_dec rfl rfl rfl rfl | apply gp_guard rfl rfl rfl rfl | fail))
                  | refine gp_two ?_ ?_ | refine gp_done hd hk ?_ | intro _ | refine p_ta hd hk (fun _ _ _ hd hk => ?_) | refine p_ts hd hk (fun _ hd hk => ?_))
                exact gM ⟨_, _, H2, _⟩ ⟨hs2, hat2⟩
        obtain ⟨q', c', H2, w⟩ := z
        obtain ⟨hs2, hat2⟩ := hz
        dsimp only at hs2 hat2 ⊢
        repeat (first
          | (refine g_ops ?_; first | refine sO ?_ | refine s_n (fun _ => ?_) | refine s_app (fun _ _ => ?_) | refine s_b0 (fun _ => ?_) | ((fail_if_success refine g_lit rfl rfl rfl ?_); first | apply g_partM rfl rfl rfl | apply g_partMB rfl rfl rfl | fail))
          | refine gS ?_ | exact s_m | intro _)
        refine g_as 8 (v' := int ((i + 1 : Nat) : Int)) rfl (congrArg (Value.int .i64) (by push_cast; rfl)) ?_
        rw [show ps.length + 1 = (ps ++ [(⟨kk, w⟩ : Pr)]).length by simp, show ps.flatMap Pr.cells ++ [.string kk, w] = (ps ++ [(⟨kk, w⟩ : Pr)]).flatMap Pr.cells by simp [Pr.cells]]
        refine gA ⟨i + 1, q', c', ps ++ [⟨kk, w⟩], H2⟩ (by simp only; omega) ⟨hi', by simp [hvl], hs1.trans hs2, by dsimp only; rw [htake, List.map_append, hpk]; rfl, fun j a w' ha hw' => ?_⟩
        dsimp only at hw' ⊢
        rcases Nat.lt_or_ge j ps.length with hlt | hge
        · rw [List.getElem?_append_left hlt] at hw'
          exact (hts j a w' ha hw').grow hs2
        · rw [List.getElem?_append_right hge] at hw'
          have hj : j = i := by
            have := (List.getElem?_eq_some_iff.1 hw').1
            simp only [List.length_singleton] at this
            omega
          subst hj
          rw [show j - ps.length = 0 by omega] at hw'
          rw [hgl] at ha
          cases ha
          cases hw'
          exact hat2
      · obtain rfl : i = l.length := by omega
        repeat (first
          | (refine g_ops ?_; first | refine sO ?_ | refine s_n (fun _ => ?_) | refine s_app (fun _ _ => ?_) | refine s_b0 (fun _ => ?_) | ((fail_if_success refine g_lit rfl rfl rfl ?_); first | apply g_partM rfl rfl rfl | apply g_partMB rfl rfl rfl | fail))
          | refine gS ?_ | exact s_m | intro _)
        refine g_capO (by (repeat (first | exact Sel.here | apply Sel.there)); first | done | fail) (fun hcap => ?_)
        refine g_pile (by (repeat (first | exact Sel.here | apply Sel.there)); first | done | fail) (by (repeat (first | exact Sel.here | apply Sel.there)); first | done | fail) (fun H2 hs2 hS2 => ?_)
        rw [hvl] at hS2
        rw [List.take_of_length_le (by omega)] at hpk
        refine s_r (H2, .iface 59 (.slice q l.length c2)) (hx := ⟨hs1.trans hs2, .pairs ps hvl (by omega) hpk.symm (fun q hq => hks _ (by rw [← hpk]; exact List.mem_map_of_mem hq)) hS2 fun j a w ha hw => (hts j a w ha hw).grow hs2⟩) (hp := by simp only [pack, hvl])
    obtain rfl : k = 1 := by omega
    refine g_as 51 (v' := .bool false) rfl (congrArg Value.bool (decide_eq_false k6)) ?_
    repeat (first
      | (refine g_ops ?_; first | refine sO ?_ | refine s_n (fun _ => ?_) | refine s_app (fun _ _ => ?_) | refine s_b0 (fun _ => ?_) | ((fail_if_success refine g_lit rfl rfl rfl ?_); first | apply g_partM rfl rfl rfl | apply g_partMB rfl rfl rfl | fail))
      | refine gS ?_ | exact s_m | intro _)
    exact s_r (H, .nilIface) (hx := ⟨HP.sub.refl _, .nil⟩)
end Go.Proofs.YtaahibcibgljbaaDoor
