/- Contracts and laws that the proof stands on. -/
import Derived.Test.YtpilcncdgjnbeaaDoorValueParses25
set_option linter.unusedSimpArgs false
set_option linter.unusedVariables false
namespace Go.Proofs.YtpilcncdgjnbeaaDoor
open Go.Sl facts
attribute [local irreducible] Code.wp wpList Exit.then Exit.inBlock bodyPost Back MidQ G GP QStep VStep CStep SStep Does Post Reads
attribute [local irreducible] valD lsD rdD' textB
set_option maxHeartbeats 4000000 in
theorem parseD {H : HP} (L : List UInt8) (hL : L.length ≤ 10000) : Does Tryd.prog 27 [.string (txt L)] [Pile H] (X := HP × Vc) (fun y => .tuple #[.agg y.2.cells.toArray, int (if (parsP L).isSome = true then 0 else 10)]) (fun y => [Pile y.1])
    (fun y => HP.sub H y.1 ∧ ∀ v, parsP L = some v → VAt (Pile y.1) v y.2) := by
  have hval := fun b => valD_ L (by omega) 2004 H b 0 ⟨0, 0, false⟩ (Nat.zero_le _) (fun _ => Nat.zero_le _) (Nat.zero_le _) (by decide) (by decide)
  have hg := rdD_good L
  have hz : (txt L).size = L.length := txt_size L
  have e0 : valD L 2004 0 ⟨0, 0, false⟩ = rdD' L := by unfold rdD'; rfl
  have hy1 := @okD_of L
  have hy2 := @okD_no L
  unfold okD at hy1 hy2
  rw [e0] at hval
  generalize rdD' L = r at hval hg hy1 hy2
  obtain ⟨v, i, n, bad⟩ := r
  obtain ⟨hf, ⟨hsm, hok⟩, hsz⟩ := hg
  dsimp only at hf hsm hok hsz hy1 hy2
  unfold VdD at hval
  dsimp only [rdD] at hval
  refine fn_intro Tryd.func27 rfl Tryd.ntmps27 rfl (by simp only [argFr, Nat.zero_add, Nat.reduceAdd]; rfl) (fun Γ => ?_)
  repeat (first
    | (refine g_ops ?_; first | refine sO ?_ | refine s_n (fun _ => ?_) | refine s_app (fun _ _ => ?_) | refine s_b0 (fun _ => ?_) | ((fail_if_success refine g_lit rfl rfl rfl ?_); first | apply g_partM rfl rfl rfl | apply g_partMB rfl rfl rfl | fail))
    | refine gS ?_ | exact s_m | intro _)
  rename_i b
  have hvb := hval b
  repeat (first
    | (refine g_ops ?_; first | refine sO ?_ | refine s_n (fun _ => ?_) | refine s_app (fun _ _ => ?_) | refine s_b0 (fun _ => ?_) | ((fail_if_success refine g_lit rfl rfl rfl ?_); first | apply g_partM rfl rfl rfl | apply g_partMB rfl rfl rfl | fail) | refine s_c (hvb) (fun _ _ => ?_))
    | refine gS ?_ | exact s_m | intro _)
  rename_i y hy vb
  obtain ⟨H2, u⟩ := y
  obtain ⟨hs2, hu⟩ := hy
  dsimp only [List.cons_append, List.nil_append] at hs2 hu ⊢
  have hw := write1d H2 v u hu hsm (by unfold Kz at hsz; omega)
  have hno : ∀ w, ¬ (bad = false ∧ i = L.length ∧ textB v = txt L) → parsP L = some w → False := fun w h hp => h (hy1 hp).1
  have hnn : ¬ (bad = false ∧ i = L.length ∧ textB v = txt L) → (parsP L).isSome = false := fun h => by
    cases hp : parsP L with
    | none => rfl
    | some w => exact absurd (hy1 hp).1 h
  cases bad
  · by_cases hi : i = L.length
    · by_cases hc : textB v = txt L
      · have hp : ∃ w, parsP L = some w ∧ v = w := by
          cases hp : parsP L with
          | none => exact absurd ⟨rfl, hi, hc⟩ (hy2 hp)
          | some w => exact ⟨w, rfl, (hy1 hp).2⟩
        obtain ⟨w, hp, rfl⟩ := hp
        rw [hp]
        repeat ((fail_if_success refine s_at 22 ?_); first
          | (refine g_ops ?_; first | refine sO ?_ | refine s_n (fun _ => ?_) | refine s_app (fun _ _ => ?_) | refine s_b0 (fun _ => ?_) | ((fail_if_success refine g_lit rfl rfl rfl ?_); first | apply g_partM rfl rfl rfl | apply g_partMB rfl rfl rfl | fail))
          | refine gS ?_ | exact s_m | intro _)
        first
          | (refine g_ops ?_; first | refine sO ?_ | refine s_n (fun _ => ?_) | refine s_app (fun _ _ => ?_) | refine s_b0 (fun _ => ?_) | ((fail_if_success refine g_lit rfl rfl rfl ?_); first | apply g_partM rfl rfl rfl | apply g_partMB rfl rfl rfl | fail))
          | refine gS ?_ | exact s_m | intro _
        refine g_as 22 (v' := .bool false) rfl (congrArg Value.bool (decide_eq_false (by rw [hz]; omega))) ?_
        repeat (first
          | (refine g_ops ?_; first | refine sO ?_ | refine s_n (fun _ => ?_) | refine s_app (fun _ _ => ?_) | refine s_b0 (fun _ => ?_) | ((fail_if_success refine g_lit rfl rfl rfl ?_); first | apply g_partM rfl rfl rfl | apply g_partMB rfl rfl rfl | fail) | refine s_k (hw) ?_)
          | refine gS ?_ | exact s_m | intro _)
        refine g_as 29 (v' := .bool false) rfl (congrArg Value.bool (by simp [hc])) ?_
        repeat (first
          | (refine g_ops ?_; first | refine sO ?_ | refine s_n (fun _ => ?_) | refine s_app (fun _ _ => ?_) | refine s_b0 (fun _ => ?_) | ((fail_if_success refine g_lit rfl rfl rfl ?_); first | apply g_partM rfl rfl rfl | apply g_partMB rfl rfl rfl | fail))
          | refine gS ?_ | exact s_m | intro _)
        exact gR (H2, u) ⟨hs2, fun v' h => by injection h with h; rw [← h]; exact hu⟩
      · rw [hnn (fun h => hc h.2.2)]
        repeat ((fail_if_success refine s_at 22 ?_); first
          | (refine g_ops ?_; first | refine sO ?_ | refine s_n (fun _ => ?_) | refine s_app (fun _ _ => ?_) | refine s_b0 (fun _ => ?_) | ((fail_if_success refine g_lit rfl rfl rfl ?_); first | apply g_partM rfl rfl rfl | apply g_partMB rfl rfl rfl | fail))
          | refine gS ?_ | exact s_m | intro _)
        first
          | (refine g_ops ?_; first | refine sO ?_ | refine s_n (fun _ => ?_) | refine s_app (fun _ _ => ?_) | refine s_b0 (fun _ => ?_) | ((fail_if_success refine g_lit rfl rfl rfl ?_); first | apply g_partM rfl rfl rfl | apply g_partMB rfl rfl rfl | fail))
          | refine gS ?_ | exact s_m | intro _
        refine g_as 22 (v' := .bool false) rfl (congrArg Value.bool (decide_eq_false (by rw [hz]; omega))) ?_
        repeat (first
          | (refine g_ops ?_; first | refine sO ?_ | refine s_n (fun _ => ?_) | refine s_app (fun _ _ => ?_) | refine s_b0 (fun _ => ?_) | ((fail_if_success refine g_lit rfl rfl rfl ?_); first | apply g_partM rfl rfl rfl | apply g_partMB rfl rfl rfl | fail) | refine s_k (hw) ?_)
          | refine gS ?_ | exact s_m | intro _)
        refine g_as 29 (v' := .bool true) rfl (congrArg Value.bool (by simp [hc])) ?_
        repeat (first
          | (refine g_ops ?_; first | refine sO ?_ | refine s_n (fun _ => ?_) | refine s_app (fun _ _ => ?_) | refine s_b0 (fun _ => ?_) | ((fail_if_success refine g_lit rfl rfl rfl ?_); first | apply g_partM rfl rfl rfl | apply g_partMB rfl rfl rfl | fail))
          | refine gS ?_ | exact s_m | intro _)
        exact gR (H2, vc0 0 false 0 ByteArray.empty) ⟨hs2, fun v' h => (hno v' (fun h => hc h.2.2) h).elim⟩
    · rw [hnn (fun h => hi h.2.1)]
      repeat ((fail_if_success refine s_at 22 ?_); first
        | (refine g_ops ?_; first | refine sO ?_ | refine s_n (fun _ => ?_) | refine s_app (fun _ _ => ?_) | refine s_b0 (fun _ => ?_) | ((fail_if_success refine g_lit rfl rfl rfl ?_); first | apply g_partM rfl rfl rfl | apply g_partMB rfl rfl rfl | fail))
        | refine gS ?_ | exact s_m | intro _)
      first
        | (refine g_ops ?_; first | refine sO ?_ | refine s_n (fun _ => ?_) | refine s_app (fun _ _ => ?_) | refine s_b0 (fun _ => ?_) | ((fail_if_success refine g_lit rfl rfl rfl ?_); first | apply g_partM rfl rfl rfl | apply g_partMB rfl rfl rfl | fail))
        | refine gS ?_ | exact s_m | intro _
      refine g_as 22 (v' := .bool true) rfl (congrArg Value.bool (decide_eq_true (by rw [hz]; omega))) ?_
      repeat (first
        | (refine g_ops ?_; first | refine sO ?_ | refine s_n (fun _ => ?_) | refine s_app (fun _ _ => ?_) | refine s_b0 (fun _ => ?_) | ((fail_if_success refine g_lit rfl rfl rfl ?_); first | apply g_partM rfl rfl rfl | apply g_partMB rfl rfl rfl | fail))
        | refine gS ?_ | exact s_m | intro _)
      exact gR (H2, vc0 0 false 0 ByteArray.empty) ⟨hs2, fun v' h => (hno v' (fun h => hi h.2.1) h).elim⟩
  · rw [hnn (fun h => by cases h.1)]
    repeat (first
      | (refine g_ops ?_; first | refine sO ?_ | refine s_n (fun _ => ?_) | refine s_app (fun _ _ => ?_) | refine s_b0 (fun _ => ?_) | ((fail_if_success refine g_lit rfl rfl rfl ?_); first | apply g_partM rfl rfl rfl | apply g_partMB rfl rfl rfl | fail))
      | refine gS ?_ | exact s_m | intro _)
    exact gR (H2, vc0 0 false 0 ByteArray.empty) ⟨hs2, fun v' h => (hno v' (fun h => by cases h.1) h).elim⟩
theorem texts_ {H : HP} (p p' : Option Addr) (c c' : Nat) (l : List ByteArray) (hS : SlAt (Pile H) 1 p l.length (l.map .string)) (hS' : SlAt (Pile H) 1 p' l.length (l.map .string)) (hl : l.length ≤ 9223372036854775807) : Does1 Tryd.prog 43 [.slice p l.length c, .slice p' l.length c'] [Pile H] (.bool true) := by
  refine fn_intro Tryd.func43 rfl Tryd.ntmps43 rfl (by simp only [argFr, Nat.zero_add, Nat.reduceAdd]; rfl) (fun Γ => ?_)
  repeat (first
    | (refine g_ops ?_; first | refine sO ?_ | refine s_n (fun _ => ?_) | refine s_app (fun _ _ => ?_) | refine s_b0 (fun _ => ?_) | ((fail_if_success refine g_lit rfl rfl rfl ?_); first | apply g_partM rfl rfl rfl | apply g_partMB rfl rfl rfl | fail))
    | refine gS ?_ | exact s_m | intro _)
  refine g_as 10 (v' := .bool false) rfl (congrArg Value.bool (by simp)) ?_
  repeat (first
    | (refine g_ops ?_; first | refine sO ?_ | refine s_n (fun _ => ?_) | refine s_app (fun _ _ => ?_) | refine s_b0 (fun _ => ?_) | ((fail_if_success refine g_lit rfl rfl rfl ?_); first | apply g_partM rfl rfl rfl | apply g_partMB rfl rfl rfl | fail))
    | refine gS ?_ | exact s_m | intro _)
  refine g_loop (X := Nat) (fun i => [(0, .slice p l.length c), (1, .slice p' l.length c'), (5, int i)]) (fun _ => [Pile H]) (fun i => i ≤ l.length) (fun i => l.length - i) 0 (Nat.zero_le _) (by (repeat (first | exact FrSub.nil | refine FrSub.cons rfl ?_)); first | done | fail) (by (repeat (first | exact Take.nil | apply Take.cons | exact Sel.here | apply Sel.there)); first | done | fail) (fun i hi => ?_)
  repeat (first
    | (refine g_ops ?_; first | refine sO ?_ | refine s_n (fun _ => ?_) | refine s_app (fun _ _ => ?_) | refine s_b0 (fun _ => ?_) | ((fail_if_success refine g_lit rfl rfl rfl ?_); first | apply g_partM rfl rfl rfl | apply g_partMB rfl rfl rfl | fail))
    | refine gS ?_ | exact s_m | intro _)
  refine g_cond_dec rfl (fun h => ?_) (fun h => ?_)
  · have hi' : i < l.length := by omega
    obtain ⟨pb, po, rfl, hr0⟩ := slAt_cell hS (i := i) (v := .string l[i]) (by simp [hi'])
    obtain ⟨pb', po', rfl, hr0'⟩ := slAt_cell hS' (i := i) (v := .string l[i]) (by simp [hi'])
    have hr : ∀ k, k = i → Reads (Pile H) ⟨pb, po + k, none⟩ (.string l[i]) := fun _ e => e ▸ hr0
    have hr2 : ∀ k, k = i → Reads (Pile H) ⟨pb', po' + k, none⟩ (.string l[i]) := fun _ e => e ▸ hr0'
    generalize l[i] = v at hr hr2
    repeat (first
      | (refine g_ops ?_; first | refine sO ?_ | refine s_n (fun _ => ?_) | refine s_app (fun _ _ => ?_) | refine s_b0 (fun _ => ?_) | ((fail_if_success refine g_lit rfl rfl rfl ?_); first | apply g_partM rfl rfl rfl | apply g_partMB rfl rfl rfl | fail))
      | refine g_draw (id := 6) (.take 0 (.take 1 (.take 2 (.see 3 [] (.take 4 (.take 5 (.take 6 (.see 7 [] (.take 8 .done))))))))) (by kernel_rfl) (take_all _) (fun k hd hk => ?_)
      | refine gS ?_ | exact s_m | intro _ | (refine gp_take ?_; first | refine pT ?_ | ((fail_if_success refine gp_lit rfl rfl rfl rfl ?_); first | apply gp_guard_dec rfl rfl rfl rfl | apply gp_guard rfl rfl rfl rfl | fail))
      | (refine gp_see ?_; first | refine p_f ?_ | refine pS ?_ | ((fail_if_success refine gp_lit rfl rfl rfl rfl ?_); first | apply gp_guard_dec rfl rfl rfl rfl | apply gp_guard rfl rfl rfl rfl | fail))
      | (refine gp_one ?_; first | refine pO ?_ | refine p_n (fun _ => ?_) | refine p_app (fun _ _ => ?_) | refine p_b0 (fun _ => ?_) | ((fail_if_success refine gp_lit rfl rfl rfl rfl ?_); first | apply gp_guard_dec rfl rfl rfl rfl | apply gp_guard rfl rfl rfl rfl | fail))
      | refine gp_two ?_ ?_ | refine gp_done hd hk ?_ | intro _ | refine p_ta hd hk (fun _ _ _ hd hk => ?_) | refine p_ts hd hk (fun _ hd hk => ?_))
    dsimp only [List.cons_append, List.nil_append]
    refine g_as 25 (v' := .bool false) rfl (congrArg Value.bool (by simp)) ?_
    repeat (first
      | (refine g_ops ?_; first | refine sO ?_ | refine s_n (fun _ => ?_) | refine s_app (fun _ _ => ?_) | refine s_b0 (fun _ => ?_) | ((fail_if_success refine g_lit rfl rfl rfl ?_); first | apply g_partM rfl rfl rfl | apply g_partMB rfl rfl rfl | fail))
      | refine gS ?_ | exact s_m | intro _)
    refine g_as 5 (v' := int ((i + 1 : Nat) : Int)) rfl (congrArg (Value.int .i64) (by push_cast; rfl)) ?_
    exact gA (i + 1) (by omega) hi'
  · repeat (first
      | (refine g_ops ?_; first | refine sO ?_ | refine s_n (fun _ => ?_) | refine s_app (fun _ _ => ?_) | refine s_b0 (fun _ => ?_) | ((fail_if_success refine g_lit rfl rfl rfl ?_); first | apply g_partM rfl rfl rfl | apply g_partMB rfl rfl rfl | fail))
      | refine gS ?_ | exact s_m | intro _)
    exact gR () trivial
set_option maxHeartbeats 4000000 in
theorem same_ (v : V) : ∀ (H : HP) (u1 u2 : Vc), VAt (Pile H) v u1 → VAt (Pile H) v u2 → Does1 Tryd.prog 28 [.agg u1.cells.toArray, .agg u2.cells.toArray] [Pile H] (.bool true) := by
  refine V.ind (Q := fun v => ∀ (H : HP) (u1 u2 : Vc), VAt (Pile H) v u1 → VAt (Pile H) v u2 → Does1 Tryd.prog 28 [.agg u1.cells.toArray, .agg u2.cells.toArray] [Pile H] (.bool true)) (fun k y n s ks l ih H u1 u2 hu1 hu2 => ?_) v
  cases hu1 with
  | @mk _ _ _ _ _ _ kp kc p c us hki hn0 hs hkl hks hkS hl hul hS h =>
  cases hu2 with
  | @mk _ _ _ _ _ _ kp' kc' p' c' us' _ _ _ _ _ hkS' _ hul' hS' h' =>
    have htx := texts_ kp kp' kc kc' ks hkS hkS' hkl
    dsimp only [Vc.cells]
    refine fn_intro Tryd.func28 rfl Tryd.ntmps28 rfl (by simp only [argFr, Nat.zero_add, Nat.reduceAdd]; rfl) (fun Γ => ?_)
    repeat ((fail_if_success refine s_at 11 ?_); first
      | (refine g_ops ?_; first | refine sO ?_ | refine s_n (fun _ => ?_) | refine s_app (fun _ _ => ?_) | refine s_b0 (fun _ => ?_) | ((fail_if_success refine g_lit rfl rfl rfl ?_); first | apply g_partM rfl rfl rfl | apply g_partMB rfl rfl rfl | fail))
      | refine gS ?_ | exact s_m | intro _)
    first
      | (refine g_ops ?_; first | refine sO ?_ | refine s_n (fun _ => ?_) | refine s_app (fun _ _ => ?_) | refine s_b0 (fun _ => ?_) | ((fail_if_success refine g_lit rfl rfl rfl ?_); first | apply g_partM rfl rfl rfl | apply g_partMB rfl rfl rfl | fail))
      | refine gS ?_ | exact s_m | intro _
    rename_i b1 b2
    refine g_as 11 (v' := .bool false) rfl (congrArg Value.bool (by simp)) ?_
    repeat (first
      | (refine g_ops ?_; first | refine sO ?_ | refine s_n (fun _ => ?_) | refine s_app (fun _ _ => ?_) | refine s_b0 (fun _ => ?_) | ((fail_if_success refine g_lit rfl rfl rfl ?_); first | apply g_partM rfl rfl rfl | apply g_partMB rfl rfl rfl | fail))
      | refine gS ?_ | exact s_m | intro _)
    refine g_as 19 (v' := .bool false) rfl (congrArg Value.bool (by simp)) ?_
    repeat (first | refine g_cond_false rfl ?_ | refine g_then_normal ?_ | refine g_skip ?_ | refine g_block ?_ | refine g_seq ?_)
    refine g_cutX (X := Unit) (fun _ => [(2, ptr b1), (3, ptr b2), (4, .bool false), (20, .bool false)]) (fun _ => [.row b1 [int k, .bool y, int n, .string s, .slice kp ks.length kc, .slice p l.length c] 25, .row b2 [int k, .bool y, int n, .string s, .slice kp' ks.length kc', .slice p' l.length c'] 25, Pile H]) (fun _ => True) ?_ (fun _ _ => ?_)
    · repeat ((fail_if_success refine s_at 24 ?_); first
        | (refine g_ops ?_; first | refine sO ?_ | refine s_n (fun _ => ?_) | refine s_app (fun _ _ => ?_) | refine s_b0 (fun _ => ?_) | ((fail_if_success refine g_lit rfl rfl rfl ?_); first | apply g_partM rfl rfl rfl | apply g_partMB rfl rfl rfl | fail))
        | refine gS ?_ | exact s_m | intro _)
      first
        | (refine g_ops ?_; first | refine sO ?_ | refine s_n (fun _ => ?_) | refine s_app (fun _ _ => ?_) | refine s_b0 (fun _ => ?_) | ((fail_if_success refine g_lit rfl rfl rfl ?_); first | apply g_partM rfl rfl rfl | apply g_partMB rfl rfl rfl | fail))
        | refine gS ?_ | exact s_m | intro _
      by_cases k1 : k = 2
      · subst k1
        refine g_as 24 (v' := .bool true) rfl rfl ?_
        repeat (first
          | (refine g_ops ?_; first | refine sO ?_ | refine s_n (fun _ => ?_) | refine s_app (fun _ _ => ?_) | refine s_b0 (fun _ => ?_) | ((fail_if_success refine g_lit rfl rfl rfl ?_); first | apply g_partM rfl rfl rfl | apply g_partMB rfl rfl rfl | fail))
          | refine gS ?_ | exact s_m | intro _)
        refine g_as 20 (v' := .bool false) rfl (congrArg Value.bool (by simp)) ?_
        exact gM () trivial
      · refine g_as 24 (v' := .bool false) rfl (congrArg Value.bool (decide_eq_false k1)) ?_
        repeat (first
          | (refine g_ops ?_; first | refine sO ?_ | refine s_n (fun _ => ?_) | refine s_app (fun _ _ => ?_) | refine s_b0 (fun _ => ?_) | ((fail_if_success refine g_lit rfl rfl rfl ?_); first | apply g_partM rfl rfl rfl | apply g_partMB rfl rfl rfl | fail))
          | refine gS ?_ | exact s_m | intro _)
        exact gM () trivial
    repeat (first | refine g_cond_false rfl ?_ | refine g_then_normal ?_ | refine g_seq ?_)
    refine g_cutX (X := Unit) (fun _ => [(2, ptr b1), (3, ptr b2), (4, .bool false), (31, .bool false)]) (fun _ => [.row b1 [int k, .bool y, int n, .string s, .slice kp ks.length kc, .slice p l.length c] 25, .row b2 [int k, .bool y, int n, .string s, .slice kp' ks.length kc', .slice p' l.length c'] 25, Pile H]) (fun _ => True) ?_ (fun _ _ => ?_)
    · repeat ((fail_if_success refine s_at 35 ?_); first
        | (refine g_ops ?_; first | refine sO ?_ | refine s_n (fun _ => ?_) | refine s_app (fun _ _ => ?_) | refine s_b0 (fun _ => ?_) | ((fail_if_success refine g_lit rfl rfl rfl ?_); first | apply g_partM rfl rfl rfl | apply g_partMB rfl rfl rfl | fail))
        | refine gS ?_ | exact s_m | intro _)
      first
        | (refine g_ops ?_; first | refine sO ?_ | refine s_n (fun _ => ?_) | refine s_app (fun _ _ => ?_) | refine s_b0 (fun _ => ?_) | ((fail_if_success refine g_lit rfl rfl rfl ?_); first | apply g_partM rfl rfl rfl | apply g_partMB rfl rfl rfl | fail))
        | refine gS ?_ | exact s_m | intro _
      by_cases k1 : k = 3
      · subst k1
        refine g_as 35 (v' := .bool true) rfl rfl ?_
        repeat (first
          | (refine g_ops ?_; first | refine sO ?_ | refine s_n (fun _ => ?_) | refine s_app (fun _ _ => ?_) | refine s_b0 (fun _ => ?_) | ((fail_if_success refine g_lit rfl rfl rfl ?_); first | apply g_partM rfl rfl rfl | apply g_partMB rfl rfl rfl | fail))
          | refine gS ?_ | exact s_m | intro _)
        refine g_as 31 (v' := .bool false) rfl (congrArg Value.bool (by simp)) ?_
        exact gM () trivial
      · refine g_as 35 (v' := .bool false) rfl (congrArg Value.bool (decide_eq_false k1)) ?_
        repeat (first
          | (refine g_ops ?_; first | refine sO ?_ | refine s_n (fun _ => ?_) | refine s_app (fun _ _ => ?_) | refine s_b0 (fun _ => ?_) | ((fail_if_success refine g_lit rfl rfl rfl ?_); first | apply g_partM rfl rfl rfl | apply g_partMB rfl rfl rfl | fail))
          | refine gS ?_ | exact s_m | intro _)
        exact gM () trivial
    repeat (first | refine g_cond_false rfl ?_ | refine g_then_normal ?_ | refine g_seq ?_)
    refine g_cutX (X := Unit) (fun _ => [(2, ptr b1), (3, ptr b2), (4, .bool false), (42, .bool false)]) (fun _ => [.row b1 [int k, .bool y, int n, .string s, .slice kp ks.length kc, .slice p l.length c] 25, .row b2 [int k, .bool y, int n, .string s, .slice kp' ks.length kc', .slice p' l.length c'] 25, Pile H]) (fun _ => True) ?_ (fun _ _ => ?_)
    · repeat ((fail_if_success refine s_at 46 ?_); first
        | (refine g_ops ?_; first | refine sO ?_ | refine s_n (fun _ => ?_) | refine s_app (fun _ _ => ?_) | refine s_b0 (fun _ => ?_) | ((fail_if_success refine g_lit rfl rfl rfl ?_); first | apply g_partM rfl rfl rfl | apply g_partMB rfl rfl rfl | fail))
        | refine gS ?_ | exact s_m | intro _)
      first
        | (refine g_ops ?_; first | refine sO ?_ | refine s_n (fun _ => ?_) | refine s_app (fun _ _ => ?_) | refine s_b0 (fun _ => ?_) | ((fail_if_success refine g_lit rfl rfl rfl ?_); first | apply g_partM rfl rfl rfl | apply g_partMB rfl rfl rfl | fail))
        | refine gS ?_ | exact s_m | intro _
      by_cases k1 : k = 4
      · subst k1
        refine g_as 46 (v' := .bool true) rfl rfl ?_
        repeat (first
          | (refine g_ops ?_; first | refine sO ?_ | refine s_n (fun _ => ?_) | refine s_app (fun _ _ => ?_) | refine s_b0 (fun _ => ?_) | ((fail_if_success refine g_lit rfl rfl rfl ?_); first | apply g_partM rfl rfl rfl | apply g_partMB rfl rfl rfl | fail))
          | refine gS ?_ | exact s_m | intro _)
        refine g_as 42 (v' := .bool false) rfl (congrArg Value.bool (by simp)) ?_
        exact gM () trivial
      · refine g_as 46 (v' := .bool false) rfl (congrArg Value.bool (decide_eq_false k1)) ?_
        repeat (first
          | (refine g_ops ?_; first | refine sO ?_ | refine s_n (fun _ => ?_) | refine s_app (fun _ _ => ?_) | refine s_b0 (fun _ => ?_) | ((fail_if_success refine g_lit rfl rfl rfl ?_); first | apply g_partM rfl rfl rfl | apply g_partMB rfl rfl rfl | fail))
          | refine gS ?_ | exact s_m | intro _)
        exact gM () trivial
    repeat (first | refine g_cond_false rfl ?_ | refine g_then_normal ?_ | refine g_seq ?_)
    refine g_cutX (X := Unit) (fun _ => [(2, ptr b1), (3, ptr b2), (4, .bool false), (53, .bool false)]) (fun _ => [.row b1 [int k, .bool y, int n, .string s, .slice kp ks.length kc, .slice p l.length c] 25, .row b2 [int k, .bool y, int n, .string s, .slice kp' ks.length kc', .slice p' l.length c'] 25, Pile H]) (fun _ => True) ?_ (fun _ _ => ?_)
    · repeat ((fail_if_success refine s_at 57 ?_); first
        | (refine g_ops ?_; first | refine sO ?_ | refine s_n (fun _ => ?_) | refine s_app (fun _ _ => ?_) | refine s_b0 (fun _ => ?_) | ((fail_if_success refine g_lit rfl rfl rfl ?_); first | apply g_partM rfl rfl rfl | apply g_partMB rfl rfl rfl | fail))
        | refine gS ?_ | exact s_m | intro _)
      first
        | (refine g_ops ?_; first | refine sO ?_ | refine s_n (fun _ => ?_) | refine s_app (fun _ _ => ?_) | refine s_b0 (fun _ => ?_) | ((fail_if_success refine g_lit rfl rfl rfl ?_); first | apply g_partM rfl rfl rfl | apply g_partMB rfl rfl rfl | fail))
        | refine gS ?_ | exact s_m | intro _
      by_cases k1 : k = 6
      · subst k1
        refine g_as 57 (v' := .bool true) rfl rfl ?_
        repeat (first
          | (refine g_ops ?_; first | refine sO ?_ | refine s_n (fun _ => ?_) | refine s_app (fun _ _ => ?_) | refine s_b0 (fun _ => ?_) | ((fail_if_success refine g_lit rfl rfl rfl ?_); first | apply g_partM rfl rfl rfl | apply g_partMB rfl rfl rfl | fail) | refine s_k (htx) ?_)
          | refine gS ?_ | exact s_m | intro _)
        refine g_as 53 (v' := .bool false) rfl (congrArg Value.bool (by simp)) ?_
        exact gM () trivial
      · refine g_as 57 (v' := .bool false) rfl (congrArg Value.bool (decide_eq_false k1)) ?_
        repeat (first
          | (refine g_ops ?_; first | refine sO ?_ | refine s_n (fun _ => ?_) | refine s_app (fun _ _ => ?_) | refine s_b0 (fun _ => ?_) | ((fail_if_success refine g_lit rfl rfl rfl ?_); first | apply g_partM rfl rfl rfl | apply g_partMB rfl rfl rfl | fail))
          | refine gS ?_ | exact s_m | intro _)
        exact gM () trivial
    repeat (first | refine g_cond_false rfl ?_ | refine g_then_normal ?_ | refine g_seq ?_)
    repeat (first
      | (refine g_ops ?_; first | refine sO ?_ | refine s_n (fun _ => ?_) | refine s_app (fun _ _ => ?_) | refine s_b0 (fun _ => ?_) | ((fail_if_success refine g_lit rfl rfl rfl ?_); first | apply g_partM rfl rfl rfl | apply g_partMB rfl rfl rfl | fail))
      | refine gS ?_ | exact s_m | intro _)
    refine g_loop (X := Nat) (fun i => [(2, ptr b1), (3, ptr b2), (4, .bool false), (5, int i)]) (fun _ => [.row b1 [int k, .bool y, int n, .string s, .slice kp ks.length kc, .slice p l.length c] 25, .row b2 [int k, .bool y, int n, .string s, .slice kp' ks.length kc', .slice p' l.length c'] 25, Pile H]) (fun i => i ≤ l.length) (fun i => l.length - i) 0 (Nat.zero_le _) (by (repeat (first | exact FrSub.nil | refine FrSub.cons rfl ?_)); first | done | fail) (by (repeat (first | exact Take.nil | apply Take.cons | exact Sel.here | apply Sel.there)); first | done | fail) (fun i hi => ?_)
    repeat (first
      | (refine g_ops ?_; first | refine sO ?_ | refine s_n (fun _ => ?_) | refine s_app (fun _ _ => ?_) | refine s_b0 (fun _ => ?_) | ((fail_if_success refine g_lit rfl rfl rfl ?_); first | apply g_partM rfl rfl rfl | apply g_partMB rfl rfl rfl | fail))
      | refine gS ?_ | exact s_m | intro _)
    refine g_cond_dec rfl (fun h3 => ?_) (fun h3 => ?_)
    · have hi' : i < l.length := by omega
      have hgl : l[i]? = some l[i] := List.getElem?_eq_getElem hi'
      have hgu : us[i]? = some (us[i]'(by omega)) := List.getElem?_eq_getElem _
      have hgu' : us'[i]? = some (us'[i]'(by omega)) := List.getElem?_eq_getElem _
      have hmem : l[i] ∈ l := List.getElem_mem _
      have hat := h i _ _ hgl hgu
      have hat' := h' i _ _ hgl hgu'
      obtain ⟨b3, o, rfl, hrow⟩ := slAt_elem hS Vc.len (by decide) hgu
      obtain ⟨b4, o4, rfl, hrow2⟩ := slAt_elem hS' Vc.len (by decide) hgu'
      generalize l[i] = x at hat hat' hmem
      generalize us[i]'_ = w at hat hrow
      generalize us'[i]'_ = w' at hat' hrow2
      have hc := ih x hmem H w w' hat hat'
      clear h h' hgl hgu hgu' ih hS hS' hkS hkS' htx
      repeat (first | refine gS ?_ | refine g_cond_true rfl ?_)
      refine g_draw (.take 0 (.see 1 [] (.take 2 (.take 3 (.see 4 [] (.take 5 (.see 6 [] (.take 7 (.take 8 (.see 9 [] (.one 10 (.take 11 .done)))))))))))) (by kernel_rfl) (take_all _) (fun m hd hk => ?_)
      repeat (first
        | (refine gp_take ?_; first | refine pT ?_ | ((fail_if_success refine gp_lit rfl rfl rfl rfl ?_); first | apply gp_guard_dec rfl rfl rfl rfl | apply gp_guard rfl rfl rfl rfl | fail))
        | (refine gp_see ?_; first | refine p_f ?_ | refine pS ?_ | ((fail_if_success refine gp_lit rfl rfl rfl rfl ?_); first | apply gp_guard_dec rfl rfl rfl rfl | apply gp_guard rfl rfl rfl rfl | fail))
        | (refine gp_one ?_; first | refine pO ?_ | refine p_n (fun _ => ?_) | refine p_app (fun _ _ => ?_) | refine p_b0 (fun _ => ?_) | ((fail_if_success refine gp_lit rfl rfl rfl rfl ?_); first | apply gp_guard_dec rfl rfl rfl rfl | apply gp_guard rfl rfl rfl rfl | fail) | refine p_cP (hc) hd hk (fun _ _ => ?_))
        | refine gp_two ?_ ?_ | refine gp_done hd hk ?_ | intro _ | refine p_ta hd hk (fun _ _ _ hd hk => ?_) | refine p_ts hd hk (fun _ hd hk => ?_))
      repeat (first
        | (refine g_ops ?_; first | refine sO ?_ | refine s_n (fun _ => ?_) | refine s_app (fun _ _ => ?_) | refine s_b0 (fun _ => ?_) | ((fail_if_success refine g_lit rfl rfl rfl ?_); first | apply g_partM rfl rfl rfl | apply g_partMB rfl rfl rfl | fail))
        | refine gS ?_ | exact s_m | intro _)
      refine g_as 5 (v' := int ((i + 1 : Nat) : Int)) rfl (congrArg (Value.int .i64) (by push_cast; rfl)) ?_
      exact gA (i + 1) (by omega) hi'
    · repeat (first
        | (refine g_ops ?_; first | refine sO ?_ | refine s_n (fun _ => ?_) | refine s_app (fun _ _ => ?_) | refine s_b0 (fun _ => ?_) | ((fail_if_success refine g_lit rfl rfl rfl ?_); first | apply g_partM rfl rfl rfl | apply g_partMB rfl rfl rfl | fail))
        | refine gS ?_ | exact s_m | intro _)
      exact gR () trivial
theorem nrmL_map : ∀ l : List V, nrmL l = l.map nrm
  | [] => by rw [nrmL_nil]; rfl
  | x :: l => by rw [nrmL_cons, nrmL_map l]; rfl
theorem nrmL_len (l : List V) : (nrmL l).length = l.length := by rw [nrmL_map, List.length_map]
theorem vatL {H : HP} {k : Int} (hk : inI k) {ks : List ByteArray} {kq : Option Addr} {kc : Nat} {us : List Vc} {q : Option Addr} {c : Nat} {l : List V} (hkl : ks.length ≤ 9223372036854775807) (hkz : ∀ x ∈ ks, x.size ≤ 9223372036854775807) (hkS : SlAt (Pile H) 1 kq ks.length (ks.map .string)) (hl : l.length ≤ 9223372036854775807) (hul : us.length = l.length) (hS : SlAt (Pile H) 6 q l.length (us.flatMap Vc.cells)) (h : ∀ (j : Nat) a u, (nrmL l)[j]? = some a → us[j]? = some u → VAt (Pile H) a u) : VAt (Pile H) (.mk k false 0 ByteArray.empty ks (nrmL l)) ⟨k, false, 0, ByteArray.empty, kq, ks.length, kc, q, l.length, c⟩ := by
  have := VAt.mk (C := Pile H) (k := k) (y := false) (n := 0) (s := ByteArray.empty) (ks := ks) (l := nrmL l) (kp := kq) (kc := kc) (p := q) (c := c) us hk in0 (by decide) hkl hkz hkS (by rw [nrmL_len]; exact hl) (by rw [nrmL_len]; exact hul) (by rw [nrmL_len]; exact hS) h
  rwa [nrmL_len] at this
structure FpX where
  i : Nat
  kl : List ByteArray
  kq : Option Addr
  kc : Nat
  q : Option Addr
  c : Nat
  us : List Vc
  H : HP
structure FlX where
  i : Nat
  q : Option Addr
  c : Nat
  us : List Vc
  H : HP
theorem KOk.kind {v : V} (h : KOk v) : 1 ≤ v.kind ∧ v.kind ≤ 6 := by cases h <;> assumption
theorem vats_at {H H' : HP} {l : List V} {us : List Vc} {i : Nat} {x : V} {u : Vc} (hs : HP.sub H H') (hl : us.length = i) (h : ∀ (j : Nat) a u, l[j]? = some a → us[j]? = some u → VAt (Pile H) a u) (hx : l[i]? = some x) (hu : VAt (Pile H') x u) : ∀ (j : Nat) a u', l[j]? = some a → (us ++ [u])[j]? = some u' → VAt (Pile H') a u' := fun j a u' h1 h2 => by
  rcases Nat.lt_or_ge j us.length with hlt | hge
  · rw [List.getElem?_append_left hlt] at h2
    exact (h j a u' h1 h2).grow hs
  · rw [List.getElem?_append_right hge] at h2
    have hj : j = i := by
      have := (List.getElem?_eq_some_iff.1 h2).1
      simp only [List.length_singleton] at this
      omega
    subst hj
    rw [hl, Nat.sub_self] at h2
    rw [hx] at h1
    cases h1
    cases h2
    exact hu
set_option maxHeartbeats 4000000 in
theorem flat_ (v : V) : ∀ (H : HP) (x : Value), TAt H v x → szV v ≤ 100000000 → 1 ≤ v.kind ∧ v.kind ≤ 6 → KOk v → Does Tryd.prog 29 [x] [Pile H] (X := HP × Vc) (fun y => .agg y.2.cells.toArray) (fun y => [Pile y.1]) (fun y => HP.sub H y.1 ∧ VAt (Pile y.1) (nrm v) y.2) := by
  refine V.ind (Q := fun v => ∀ (H : HP) (x : Value), TAt H v x → szV v ≤ 100000000 → 1 ≤ v.kind ∧ v.kind ≤ 6 → KOk v → Does Tryd.prog 29 [x] [Pile H] (X := HP × Vc) (fun y => .agg y.2.cells.toArray) (fun y => [Pile y.1]) (fun y => HP.sub H y.1 ∧ VAt (Pile y.1) (nrm v) y.2)) (fun k y n s ks l ih H x hx hsz hki hko => ?_) v
  rw [nrm_mk]
  cases hx with
  | nil =>
    rw [if_pos rfl]
    refine fn_intro Tryd.func29 rfl Tryd.ntmps29 rfl (by simp only [argFr, Nat.zero_add, Nat.reduceAdd]; rfl) (fun Γ => ?_)
    repeat (first
      | (refine g_ops ?_; first | refine sO ?_ | refine s_n (fun _ => ?_) | refine s_app (fun _ _ => ?_) | refine s_b0 (fun _ => ?_) | ((fail_if_success refine g_lit rfl rfl rfl ?_); first | apply g_partM rfl rfl rfl | apply g_partMB rfl rfl rfl | fail))
      | refine gS ?_ | exact s_m | intro _)
    exact gR (H, vc0 1 false 0 ByteArray.empty) ⟨HP.sub.refl _, vat0 H false ⟨by decide, by decide⟩ in0 (by decide)⟩
  | bool =>
    rw [if_neg (by decide), if_pos rfl]
    refine fn_intro Tryd.func29 rfl Tryd.ntmps29 rfl (by simp only [argFr, Nat.zero_add, Nat.reduceAdd]; rfl) (fun Γ => ?_)
    repeat (first
      | (refine g_ops ?_; first | refine sO ?_ | refine s_n (fun _ => ?_) | refine s_app (fun _ _ => ?_) | refine s_b0 (fun _ => ?_) | ((fail_if_success refine g_lit rfl rfl rfl ?_); first | apply g_partM rfl rfl rfl | apply g_partMB rfl rfl rfl | fail))
      | refine gS ?_ | exact s_m | intro _)
    exact gR (H, vc0 2 y 0 ByteArray.empty) ⟨HP.sub.refl _, vat0 H y ⟨by decide, by decide⟩ in0 (by decide)⟩
  | int hn =>
    rw [if_neg (by decide), if_neg (by decide), if_pos rfl]
    refine fn_intro Tryd.func29 rfl Tryd.ntmps29 rfl (by simp only [argFr, Nat.zero_add, Nat.reduceAdd]; rfl) (fun Γ => ?_)
    repeat (first
      | (refine g_ops ?_; first | refine sO ?_ | refine s_n (fun _ => ?_) | refine s_app (fun _ _ => ?_) | refine s_b0 (fun _ => ?_) | ((fail_if_success refine g_lit rfl rfl rfl ?_); first | apply g_partM rfl rfl rfl | apply g_partMB rfl rfl rfl | fail))
      | refine gS ?_ | exact s_m | intro _)
    exact gR (H, vc0 3 false n ByteArray.empty) ⟨HP.sub.refl _, vat0 H false ⟨by decide, by decide⟩ hn (by decide)⟩
  | text hs =>
    rw [if_neg (by decide), if_neg (by decide), if_neg (by decide), if_pos rfl]
    refine fn_intro Tryd.func29 rfl Tryd.ntmps29 rfl (by simp only [argFr, Nat.zero_add, Nat.reduceAdd]; rfl) (fun Γ => ?_)
    repeat (first
      | (refine g_ops ?_; first | refine sO ?_ | refine s_n (fun _ => ?_) | refine s_app (fun _ _ => ?_) | refine s_b0 (fun _ => ?_) | ((fail_if_success refine g_lit rfl rfl rfl ?_); first | apply g_partM rfl rfl rfl | apply g_partMB rfl rfl rfl | fail))
      | refine gS ?_ | exact s_m | intro _)
    exact gR (H, vc0 4 false 0 s) ⟨HP.sub.refl _, vat0 H false ⟨by decide, by decide⟩ in0 hs⟩
  | list vs hv hl hS h =>
    rename_i p c
    rw [if_neg (by decide), if_neg (by decide), if_neg (by decide), if_neg (by decide), if_pos rfl]
    have hkk := hko
    obtain ⟨_, hkk⟩ := hkk
    rw [szV_mk] at hsz
    have hsl := szK_len l
    refine fn_intro Tryd.func29 rfl Tryd.ntmps29 rfl (by simp only [argFr, Nat.zero_add, Nat.reduceAdd]; rfl) (fun Γ => ?_)
    repeat (first
      | (refine g_ops ?_; first | refine sO ?_ | refine s_n (fun _ => ?_) | refine s_app (fun _ _ => ?_) | refine s_b0 (fun _ => ?_) | ((fail_if_success refine g_lit rfl rfl rfl ?_); first | apply g_partM rfl rfl rfl | apply g_partMB rfl rfl rfl | fail))
      | refine gS ?_ | exact s_m | intro _)
    rename_i rb b
    refine g_own_nil none 6 25 ?_
    refine g_loop (X := FlX) (fun x => [(2, ptr rb), (7, .slice p l.length c), (8, ptr b), (9, int x.i)]) (fun x => [.row rb [int 0, .bool false, int 0, .string ByteArray.empty, .slice none 0 0, .slice none 0 0] 25, .row b [int 5, .bool false, int 0, .string ByteArray.empty, .slice none 0 0, .slice x.q x.us.length x.c] 25, .own x.q x.us.length x.c 6 (x.us.flatMap Vc.cells) 25, Pile x.H])
      (fun x => x.i ≤ l.length ∧ x.us.length = x.i ∧ HP.sub H x.H ∧ ∀ (j : Nat) a u, (nrmL l)[j]? = some a → x.us[j]? = some u → VAt (Pile x.H) a u) (fun x => l.length - x.i) ⟨0, none, 0, [], H⟩ ⟨Nat.zero_le _, rfl, HP.sub.refl _, fun j a w _ hw => (nil_get hw).elim⟩ (by (repeat (first | exact FrSub.nil | refine FrSub.cons rfl ?_)); first | done | fail) (by (repeat (first | exact Take.nil | apply Take.cons | exact Sel.here | apply Sel.there)); first | done | fail) (fun x hx => ?_)
    obtain ⟨i, q, c2, us, H1⟩ := x
    obtain ⟨hi, hul, hs1, hus⟩ := hx
    dsimp only at hi hul hs1 hus ⊢
    repeat (first
      | (refine g_ops ?_; first | refine sO ?_ | refine s_n (fun _ => ?_) | refine s_app (fun _ _ => ?_) | refine s_b0 (fun _ => ?_) | ((fail_if_success refine g_lit rfl rfl rfl ?_); first | apply g_partM rfl rfl rfl | apply g_partMB rfl rfl rfl | fail))
      | refine gS ?_ | exact s_m | intro _)
    refine g_cond_dec rfl (fun h2 => ?_) (fun h2 => ?_)
    · have hi' : i < l.length := by omega
      have hgl : l[i]? = some l[i] := List.getElem?_eq_getElem hi'
      have hgv : vs[i]? = some (vs[i]'(by omega)) := List.getElem?_eq_getElem _
      have hmem : l[i] ∈ l := List.getElem_mem _
      have hat := (h i _ _ hgl hgv).grow hs1
      obtain ⟨b3, o, rfl, hr0⟩ := slAt_cell (hS.grow hs1) hgv
      have hsx := szK_mem hmem
      have hgn : (nrmL l)[i]? = some (nrm l[i]) := by rw [nrmL_map, List.getElem?_map, hgl]; rfl
      generalize l[i] = x at hat hmem hsx hgn
      generalize vs[i]'_ = w at hat hr0
      have hr : ∀ k', k' = i → Reads (Pile H1) ⟨b3, o + k', none⟩ w := fun _ e => e ▸ hr0
      have hkx := hkk x hmem
      have hc := ih x hmem H1 w hat (by omega) hkx.kind hkx
      repeat (first | refine gS ?_ | refine g_cond_true rfl ?_)
      refine g_draw (.take 0 (.see 1 [8,9,10] (.take 2 (.take 3 (.take 4 (.one 5 (.one 6 (.one 7 (.one 8 (.take 9 (.thaw 10 .done))))))))))) (by kernel_rfl) (C := [.row b [int 5, .bool false, int 0, .string ByteArray.empty, .slice none 0 0, .slice q us.length c2] 25]) (by (repeat (first | exact Take.nil | apply Take.cons | exact Sel.here | apply Sel.there)); first | done | fail) (fun m hd hk => ?_)
      repeat (first
        | (refine gp_take ?_; first | refine pT ?_ | ((fail_if_success refine gp_lit rfl rfl rfl rfl ?_); first | apply gp_guard_dec rfl rfl rfl rfl | apply gp_guard rfl rfl rfl rfl | fail))
        | (refine gp_see ?_; first | refine p_f ?_ | refine pS ?_ | ((fail_if_success refine gp_lit rfl rfl rfl rfl ?_); first | apply gp_guard_dec rfl rfl rfl rfl | apply gp_guard rfl rfl rfl rfl | fail))
        | (refine gp_one ?_; first | refine pO ?_ | refine p_n (fun _ => ?_) | refine p_app (fun _ _ => ?_) | refine p_b0 (fun _ => ?_) | ((fail_if_success refine gp_lit rfl rfl rfl rfl ?_); first | apply gp_guard_dec rfl rfl rfl rfl | apply gp_guard rfl rfl rfl rfl | fail) | refine p_c (hc) (fun _ _ => ?_))
        | refine gp_two ?_ ?_ | refine gp_done hd hk ?_ | intro _ | refine p_ta hd hk (fun _ _ _ hd hk => ?_) | refine p_ts hd hk (fun _ hd hk => ?_))
      rename_i y hy _ q' c' _
      obtain ⟨H2, u⟩ := y
      obtain ⟨hs2, hu⟩ := hy
      dsimp only [List.cons_append, List.nil_append, List.append_eq] at hs2 hu ⊢
      rw [show us.length + 1 = (us ++ [u]).length by simp, show us.flatMap Vc.cells ++ [.int .i64 u.k, .bool u.y, .int .i64 u.n, .string u.s, .slice u.kp u.kn u.kc, .slice u.p u.m u.c] = (us ++ [u]).flatMap Vc.cells by simp [Vc.cells]]
      repeat (first
        | (refine g_ops ?_; first | refine sO ?_ | refine s_n (fun _ => ?_) | refine s_app (fun _ _ => ?_) | refine s_b0 (fun _ => ?_) | ((fail_if_success refine g_lit rfl rfl rfl ?_); first | apply g_partM rfl rfl rfl | apply g_partMB rfl rfl rfl | fail))
        | refine gS ?_ | exact s_m | intro _)
      refine g_as 9 (v' := int ((i + 1 : Nat) : Int)) rfl (congrArg (Value.int .i64) (by push_cast; rfl)) ?_
      refine gA ⟨i + 1, q', c', us ++ [u], H2⟩ (by simp only; omega) ⟨hi', by simp [hul], hs1.trans hs2, vats_at hs2 hul hus hgn hu⟩
    · obtain rfl : i = l.length := by omega
      repeat (first
        | (refine g_ops ?_; first | refine sO ?_ | refine s_n (fun _ => ?_) | refine s_app (fun _ _ => ?_) | refine s_b0 (fun _ => ?_) | ((fail_if_success refine g_lit rfl rfl rfl ?_); first | apply g_partM rfl rfl rfl | apply g_partMB rfl rfl rfl | fail))
        | refine gS ?_ | exact s_m | intro _)
      refine g_pile (n := 6) (by (repeat (first | exact Sel.here | apply Sel.there)); first | done | fail) (by (repeat (first | exact Sel.here | apply Sel.there)); first | done | fail) (fun H2 hs2 hS2 => ?_)
      rw [hul] at hS2
      exact g_ret (H2, ⟨5, false, 0, ByteArray.empty, none, 0, 0, q, l.length, c2⟩) rfl (by (repeat (first | exact RVs.nil | apply RVs.tmp rfl | apply RVs.cellA rfl (by (repeat (first | exact Sel.here | apply Sel.there)); first | done | fail) (by (repeat (first | exact Cut.zero | apply Cut.take | apply Cut.skip)); first | done | fail) | apply RVs.cell1 rfl (by (repeat (first | exact Sel.here | apply Sel.there)); first | done | fail) rfl)); first | done | fail) (by (repeat (first | exact Take.nil | apply Take.cons | exact Sel.here | apply Sel.there)); first | done | fail) (by simp only [pack, hul, Vc.cells]) ⟨hs1.trans hs2, vatL (ks := []) ⟨by decide, by decide⟩ (Nat.zero_le _) (fun _ h => by cases h) ⟨rfl, rfl, fun _ => rfl, fun j v hv => by simp at hv⟩ hl hul hS2 fun j a u h1 h2 => (hus j a u h1 h2).grow hs2⟩
  | pairs ps hv hl hk hz hS h =>
    rename_i p c
    rw [if_neg (by decide), if_neg (by decide), if_neg (by decide), if_neg (by decide), if_neg (by decide)]
    have hkk := hko
    obtain ⟨_, hkk⟩ := hkk
    rw [szV_mk] at hsz
    have hsl := szK_len l
    have hkl : ks.length = l.length := by rw [hk, List.length_map, hv]
    have hkz : ∀ x ∈ ks, x.size ≤ 9223372036854775807 := fun x hx => by
      rw [hk] at hx
      obtain ⟨q, hq, rfl⟩ := List.mem_map.1 hx
      exact hz q hq
    refine fn_intro Tryd.func29 rfl Tryd.ntmps29 rfl (by simp only [argFr, Nat.zero_add, Nat.reduceAdd]; rfl) (fun Γ => ?_)
    repeat (first
      | (refine g_ops ?_; first | refine sO ?_ | refine s_n (fun _ => ?_) | refine s_app (fun _ _ => ?_) | refine s_b0 (fun _ => ?_) | ((fail_if_success refine g_lit rfl rfl rfl ?_); first | apply g_partM rfl rfl rfl | apply g_partMB rfl rfl rfl | fail))
      | refine gS ?_ | exact s_m | intro _)
    rename_i rb b
    refine g_own_nil none 1 9 ?_
    refine g_own_nil none 6 25 ?_
    refine g_loop (X := FpX) (fun x => [(2, ptr rb), (10, .slice p l.length c), (11, ptr b), (12, int x.i)]) (fun x => [.row rb [int 0, .bool false, int 0, .string ByteArray.empty, .slice none 0 0, .slice none 0 0] 25, .row b [int 6, .bool false, int 0, .string ByteArray.empty, .slice x.kq x.kl.length x.kc, .slice x.q x.us.length x.c] 25, .own x.kq x.kl.length x.kc 1 (x.kl.map .string) 9, .own x.q x.us.length x.c 6 (x.us.flatMap Vc.cells) 25, Pile x.H])
      (fun x => x.i ≤ l.length ∧ x.kl = ks.take x.i ∧ x.us.length = x.i ∧ HP.sub H x.H ∧ ∀ (j : Nat) a u, (nrmL l)[j]? = some a → x.us[j]? = some u → VAt (Pile x.H) a u) (fun x => l.length - x.i) ⟨0, [], none, 0, none, 0, [], H⟩ ⟨Nat.zero_le _, rfl, rfl, HP.sub.refl _, fun j a w _ hw => (nil_get hw).elim⟩ (by (repeat (first | exact FrSub.nil | refine FrSub.cons rfl ?_)); first | done | fail) (by (repeat (first | exact Take.nil | apply Take.cons | exact Sel.here | apply Sel.there)); first | done | fail) (fun x hx => ?_)
    obtain ⟨i, kl, kq, kc, q, c2, us, H1⟩ := x
    obtain ⟨hi, hkt, hul, hs1, hus⟩ := hx
    dsimp only at hi hkt hul hs1 hus ⊢
    have hkll : kl.length = i := by rw [hkt, List.length_take]; omega
    repeat (first
      | (refine g_ops ?_; first | refine sO ?_ | refine s_n (fun _ => ?_) | refine s_app (fun _ _ => ?_) | refine s_b0 (fun _ => ?_) | ((fail_if_success refine g_lit rfl rfl rfl ?_); first | apply g_partM rfl rfl rfl | apply g_partMB rfl rfl rfl | fail))
      | refine gS ?_ | exact s_m | intro _)
    refine g_cond_dec rfl (fun h2 => ?_) (fun h2 => ?_)
    · have hi' : i < l.length := by omega
      have hgl : l[i]? = some l[i] := List.getElem?_eq_getElem hi'
      have hgv : ps[i]? = some (ps[i]'(by omega)) := List.getElem?_eq_getElem _
      have hmem : l[i] ∈ l := List.getElem_mem _
      have hat := (h i _ _ hgl hgv).grow hs1
      obtain ⟨b3, o, rfl, hr0⟩ := slAt_elem (hS.grow hs1) Pr.len (by decide) hgv
      have hsx := szK_mem hmem
      have hgn : (nrmL l)[i]? = some (nrm l[i]) := by rw [nrmL_map, List.getElem?_map, hgl]; rfl
      generalize l[i] = x at hat hmem hsx hgn
      generalize ps[i]'_ = w at hat hr0 hgv
      have htake : ks.take (i + 1) = ks.take i ++ [w.k] := by rw [List.take_add_one, hk, List.getElem?_map, hgv]; rfl
      obtain ⟨wk, wv⟩ := w
      have hr : ∀ a, a = o + i * 2 → Reads (Pile H1) ⟨b3, a, none⟩ (.string wk) := fun a e => by have := hr0 0 (.string wk) rfl; rw [e]; exact this
      have hr2 : ∀ a, a = o + i * 2 + 1 → Reads (Pile H1) ⟨b3, a, none⟩ wv := fun a e => by have := hr0 1 wv rfl; rw [e]; exact this
      dsimp only at hat htake
      have hkx := hkk x hmem
      have hc := ih x hmem H1 wv hat (by omega) hkx.kind hkx
      repeat (first | refine gS ?_ | refine g_cond_true rfl ?_)
      refine g_draw (.take 0 (.see 1 [8,9,10] (.take 2 (.take 3 (.take 4 (.take 5 (.see 6 [7,8,9,10] (.one 7 (.one 8 (.take 9 (.thaw 10 .done))))))))))) (by kernel_rfl) (C := [.row b [int 6, .bool false, int 0, .string ByteArray.empty, .slice kq kl.length kc, .slice q us.length c2] 25, Pile H1]) (by (repeat (first | exact Take.nil | apply Take.cons | exact Sel.here | apply Sel.there)); first | done | fail) (fun m hd hk => ?_)
      repeat (first
        | (refine gp_take ?_; first | refine pT ?_ | ((fail_if_success refine gp_lit rfl rfl rfl rfl ?_); first | apply gp_guard_dec rfl rfl rfl rfl | apply gp_guard rfl rfl rfl rfl | fail))
        | (refine gp_see ?_; first | refine p_f ?_ | refine pS ?_ | ((fail_if_success refine gp_lit rfl rfl rfl rfl ?_); first | apply gp_guard_dec rfl rfl rfl rfl | apply gp_guard rfl rfl rfl rfl | fail))
        | (refine gp_one ?_; first | refine pO ?_ | refine p_n (fun _ => ?_) | refine p_app (fun _ _ => ?_) | refine p_b0 (fun _ => ?_) | ((fail_if_success refine gp_lit rfl rfl rfl rfl ?_); first | apply gp_guard_dec rfl rfl rfl rfl | apply gp_guard rfl rfl rfl rfl | fail))
        | refine gp_two ?_ ?_ | refine gp_done hd hk ?_ | intro _ | refine p_ta hd hk (fun _ _ _ hd hk => ?_) | refine p_ts hd hk (fun _ hd hk => ?_))
      rename_i kq2 kc2 _
      rw [show kl.length + 1 = (kl ++ [wk]).length by simp, show kl.map Value.string ++ [Value.string wk] = (kl ++ [wk]).map Value.string by simp]
      repeat (first | refine gS ?_ | refine g_cond_true rfl ?_)
      dsimp only [List.cons_append, List.nil_append, List.append_eq]
      refine g_draw (.take 0 (.see 1 [9,10,11] (.take 2 (.take 3 (.take 4 (.take 5 (.one 6 (.one 7 (.one 8 (.one 9 (.take 10 (.thaw 11 .done)))))))))))) (by kernel_rfl) (C := [.row b [int 6, .bool false, int 0, .string ByteArray.empty, .slice kq2 (kl ++ [wk]).length kc2, .slice q us.length c2] 25]) (by (repeat (first | exact Take.nil | apply Take.cons | exact Sel.here | apply Sel.there)); first | done | fail) (fun m hd hk => ?_)
      repeat (first
        | (refine gp_take ?_; first | refine pT ?_ | ((fail_if_success refine gp_lit rfl rfl rfl rfl ?_); first | apply gp_guard_dec rfl rfl rfl rfl | apply gp_guard rfl rfl rfl rfl | fail))
        | (refine gp_see ?_; first | refine p_f ?_ | refine pS ?_ | ((fail_if_success refine gp_lit rfl rfl rfl rfl ?_); first | apply gp_guard_dec rfl rfl rfl rfl | apply gp_guard rfl rfl rfl rfl | fail))
        | (refine gp_one ?_; first | refine pO ?_ | refine p_n (fun _ => ?_) | refine p_app (fun _ _ => ?_) | refine p_b0 (fun _ => ?_) | ((fail_if_success refine gp_lit rfl rfl rfl rfl ?_); first | apply gp_guard_dec rfl rfl rfl rfl | apply gp_guard rfl rfl rfl rfl | fail) | refine p_c (hc) (fun _ _ => ?_))
        | refine gp_two ?_ ?_ | refine gp_done hd hk ?_ | intro _ | refine p_ta hd hk (fun _ _ _ hd hk => ?_) | refine p_ts hd hk (fun _ hd hk => ?_))
      rename_i y hy _ q' c' _
      obtain ⟨H2, u⟩ := y
      obtain ⟨hs2, hu⟩ := hy
      dsimp only [List.cons_append, List.nil_append, List.append_eq] at hs2 hu ⊢
      rw [show us.length + 1 = (us ++ [u]).length by simp, show us.flatMap Vc.cells ++ [.int .i64 u.k, .bool u.y, .int .i64 u.n, .string u.s, .slice u.kp u.kn u.kc, .slice u.p u.m u.c] = (us ++ [u]).flatMap Vc.cells by simp [Vc.cells]]
      repeat (first
        | (refine g_ops ?_; first | refine sO ?_ | refine s_n (fun _ => ?_) | refine s_app (fun _ _ => ?_) | refine s_b0 (fun _ => ?_) | ((fail_if_success refine g_lit rfl rfl rfl ?_); first | apply g_partM rfl rfl rfl | apply g_partMB rfl rfl rfl | fail))
        | refine gS ?_ | exact s_m | intro _)
      refine g_as 12 (v' := int ((i + 1 : Nat) : Int)) rfl (congrArg (Value.int .i64) (by push_cast; rfl)) ?_
      refine gA ⟨i + 1, kl ++ [wk], kq2, kc2, q', c', us ++ [u], H2⟩ (by simp only; omega) ⟨hi', by dsimp only; rw [hkt, htake], by simp [hul], hs1.trans hs2, vats_at hs2 hul hus hgn hu⟩
    · obtain rfl : i = l.length := by omega
      obtain rfl : kl = ks := by rw [hkt]; exact List.take_of_length_le (by omega)
      repeat (first
        | (refine g_ops ?_; first | refine sO ?_ | refine s_n (fun _ => ?_) | refine s_app (fun _ _ => ?_) | refine s_b0 (fun _ => ?_) | ((fail_if_success refine g_lit rfl rfl rfl ?_); first | apply g_partM rfl rfl rfl | apply g_partMB rfl rfl rfl | fail))
        | refine gS ?_ | exact s_m | intro _)
      refine g_pile (n := 1) (by (repeat (first | exact Sel.here | apply Sel.there)); first | done | fail) (by (repeat (first | exact Sel.here | apply Sel.there)); first | done | fail) (fun H2 hs2 hS2 => ?_)
      refine g_pile (n := 6) (by (repeat (first | exact Sel.here | apply Sel.there)); first | done | fail) (by (repeat (first | exact Sel.here | apply Sel.there)); first | done | fail) (fun H3 hs3 hS3 => ?_)
      rw [hul] at hS3
      exact g_ret (H3, ⟨6, false, 0, ByteArray.empty, kq, kl.length, kc, q, l.length, c2⟩) rfl (by (repeat (first | exact RVs.nil | apply RVs.tmp rfl | apply RVs.cellA rfl (by (repeat (first | exact Sel.here | apply Sel.there)); first | done | fail) (by (repeat (first | exact Cut.zero | apply Cut.take | apply Cut.skip)); first | done | fail) | apply RVs.cell1 rfl (by (repeat (first | exact Sel.here | apply Sel.there)); first | done | fail) rfl)); first | done | fail) (by (repeat (first | exact Take.nil | apply Take.cons | exact Sel.here | apply Sel.there)); first | done | fail) (by simp only [pack, hul, Vc.cells]) ⟨(hs1.trans hs2).trans hs3, vatL ⟨by decide, by decide⟩ (by omega) hkz (hS2.grow hs3) hl hul hS3 fun j a u h1 h2 => (hus j a u h1 h2).grow (hs2.trans hs3)⟩
  | other hk h1 h2 h3 h4 h5 => exact absurd hki (by simp only [V.kind]; omega)
end Go.Proofs.YtpilcncdgjnbeaaDoor

namespace Go.Proofs.YtpilcncdgjnbeaaDoor
open Go.Sl facts
attribute [local irreducible] Code.wp wpList Exit.then Exit.inBlock bodyPost Back MidQ G GP QStep VStep CStep SStep Does Post Reads
attribute [local irreducible] textB parsP
theorem szGood {v : V} {L : List UInt8} (h : parsP L = some v) : szV v ≤ 1001 * Kz L := by
  have := (rdD_good L).2.2
  rwa [(okD_of h).2] at this
set_option maxHeartbeats 4000000 in
theorem parses {H : HP} (hT : Tb H) (hE : ErrH H) (s : ByteArray) : Does1 Tryd.prog 7 [.string s] [Pile H] (.bool true) := by
  obtain ⟨L, rfl⟩ : ∃ L, s = txt L := ⟨s.data.toList, by unfold txt; simp⟩
  have hz : (txt L).size = L.length := txt_size L
  have aw := awake1 hT
  refine fn_intro Tryd.func7 rfl Tryd.ntmps7 rfl (by simp only [argFr, Nat.zero_add, Nat.reduceAdd]; rfl) (fun Γ => ?_)
  repeat (first
    | (refine g_ops ?_; first | refine sO ?_ | refine s_n (fun _ => ?_) | refine s_app (fun _ _ => ?_) | refine s_b0 (fun _ => ?_) | ((fail_if_success refine g_lit rfl rfl rfl ?_); first | apply g_partM rfl rfl rfl | apply g_partMB rfl rfl rfl | fail))
    | refine gS ?_ | exact s_m | intro _)
  refine g_cond_dec rfl (fun h1 => ?_) (fun h1 => ?_)
  · repeat (first
      | (refine g_ops ?_; first | refine sO ?_ | refine s_n (fun _ => ?_) | refine s_app (fun _ _ => ?_) | refine s_b0 (fun _ => ?_) | ((fail_if_success refine g_lit rfl rfl rfl ?_); first | apply g_partM rfl rfl rfl | apply g_partMB rfl rfl rfl | fail) | refine s_k (aw) ?_)
      | refine gS ?_ | exact s_m | intro _)
    exact s_r ()
  rw [hz] at h1
  have hp1 := parse1 hT hE L (by omega)
  have hps := @parsP_some L
  have hsz := @szGood
  have hsz := fun v => @hsz v L
  have hd1 := fun H2 => parseD (H := H2) L (by omega)
  generalize parsP L = r at hp1 hps hsz hd1
  cases r with
  | none =>
    dsimp only [Option.isSome] at hp1 hd1
    repeat (first
      | (refine g_ops ?_; first | refine sO ?_ | refine s_n (fun _ => ?_) | refine s_app (fun _ _ => ?_) | refine s_b0 (fun _ => ?_) | ((fail_if_success refine g_lit rfl rfl rfl ?_); first | apply g_partM rfl rfl rfl | apply g_partMB rfl rfl rfl | fail) | refine s_c (hp1) (fun _ _ => ?_))
      | refine gS ?_ | exact s_m | intro _)
    rename_i y hy
    obtain ⟨H2, x⟩ := y
    obtain ⟨hs2, _, hx2⟩ := hy
    dsimp only [List.cons_append, List.nil_append, List.append_eq] at hs2 hx2 ⊢
    obtain rfl := hx2 rfl
    have hd2 := hd1 H2
    repeat (first
      | (refine g_ops ?_; first | refine sO ?_ | refine s_n (fun _ => ?_) | refine s_app (fun _ _ => ?_) | refine s_b0 (fun _ => ?_) | ((fail_if_success refine g_lit rfl rfl rfl ?_); first | apply g_partM rfl rfl rfl | apply g_partMB rfl rfl rfl | fail) | refine s_c (hd2) (fun _ _ => ?_))
      | refine gS ?_ | exact s_m | intro _)
    rename_i y hy vb
    obtain ⟨H3, u⟩ := y
    obtain ⟨hs3, _⟩ := hy
    dsimp only [List.cons_append, List.nil_append, List.append_eq] at hs3 ⊢
    have aw3 := awake1 (hT.grow (hs2.trans hs3))
    repeat (first
      | (refine g_ops ?_; first | refine sO ?_ | refine s_n (fun _ => ?_) | refine s_app (fun _ _ => ?_) | refine s_b0 (fun _ => ?_) | ((fail_if_success refine g_lit rfl rfl rfl ?_); first | apply g_partM rfl rfl rfl | apply g_partMB rfl rfl rfl | fail) | refine s_k (aw3) ?_)
      | refine gS ?_ | exact s_m | intro _)
    refine g_unpile (hs2.trans hs3) (by (repeat (first | exact Sel.here | apply Sel.there)); first | done | fail) ?_
    exact s_r ()
  | some v =>
    dsimp only [Option.isSome] at hp1 hd1
    repeat (first
      | (refine g_ops ?_; first | refine sO ?_ | refine s_n (fun _ => ?_) | refine s_app (fun _ _ => ?_) | refine s_b0 (fun _ => ?_) | ((fail_if_success refine g_lit rfl rfl rfl ?_); first | apply g_partM rfl rfl rfl | apply g_partMB rfl rfl rfl | fail) | refine s_c (hp1) (fun _ _ => ?_))
      | refine gS ?_ | exact s_m | intro _)
    rename_i y hy
    obtain ⟨H2, x⟩ := y
    obtain ⟨hs2, hx2, _⟩ := hy
    dsimp only [List.cons_append, List.nil_append, List.append_eq] at hs2 hx2 ⊢
    have hd2 := hd1 H2
    obtain ⟨hw, _, hg, hn⟩ := hps rfl
    have hz2 := hsz v rfl
    have hko := kok v hg.1 0 0 hw
    repeat (first
      | (refine g_ops ?_; first | refine sO ?_ | refine s_n (fun _ => ?_) | refine s_app (fun _ _ => ?_) | refine s_b0 (fun _ => ?_) | ((fail_if_success refine g_lit rfl rfl rfl ?_); first | apply g_partM rfl rfl rfl | apply g_partMB rfl rfl rfl | fail) | refine s_c (hd2) (fun _ _ => ?_))
      | refine gS ?_ | exact s_m | intro _)
    rename_i y hy vb
    obtain ⟨H3, u⟩ := y
    obtain ⟨hs3, hu⟩ := hy
    dsimp only [List.cons_append, List.nil_append, List.append_eq] at hs3 hu ⊢
    have hu := hu v rfl
    have hfl := flat_ v H3 x ((hx2 v rfl).grow hs3) (by unfold Kz at hz2; omega) hko.kind hko
    rw [hn] at hfl
    refine g_draw (.take 0 (.see 2 [] (.one 1 (.one 3 (.take 4 (.one 5 (.take 6 (.take 7 .done)))))))) (by kernel_rfl) (C := [.row vb u.cells 25]) (by (repeat (first | exact Take.nil | apply Take.cons | exact Sel.here | apply Sel.there)); first | done | fail) (fun m hd hk => ?_)
    repeat (first
      | (refine gp_take ?_; first | refine pT ?_ | ((fail_if_success refine gp_lit rfl rfl rfl rfl ?_); first | apply gp_guard_dec rfl rfl rfl rfl | apply gp_guard rfl rfl rfl rfl | fail))
      | (refine gp_see ?_; first | refine p_f ?_ | refine pS ?_ | ((fail_if_success refine gp_lit rfl rfl rfl rfl ?_); first | apply gp_guard_dec rfl rfl rfl rfl | apply gp_guard rfl rfl rfl rfl | fail))
      | (refine gp_one ?_; first | refine pO ?_ | refine p_n (fun _ => ?_) | refine p_app (fun _ _ => ?_) | refine p_b0 (fun _ => ?_) | ((fail_if_success refine gp_lit rfl rfl rfl rfl ?_); first | apply gp_guard_dec rfl rfl rfl rfl | apply gp_guard rfl rfl rfl rfl | fail) | refine p_c (hfl) (fun _ _ => ?_))
      | refine gp_two ?_ ?_ | refine gp_done hd hk ?_ | intro _ | refine p_ta hd hk (fun _ _ _ hd hk => ?_) | refine p_ts hd hk (fun _ hd hk => ?_))
    rename_i z hz
    obtain ⟨H4, u4⟩ := z
    obtain ⟨hs4, hu4⟩ := hz
    dsimp only [List.cons_append, List.nil_append, List.append_eq] at hs4 hu4 ⊢
    have hsm := same_ v H4 u4 u hu4 (hu.grow hs4)
    have aw4 := awake1 (hT.grow ((hs2.trans hs3).trans hs4))
    repeat (first
      | (refine gp_take ?_; first | refine pT ?_ | ((fail_if_success refine gp_lit rfl rfl rfl rfl ?_); first | apply gp_guard_dec rfl rfl rfl rfl | apply gp_guard rfl rfl rfl rfl | fail))
      | (refine gp_see ?_; first | refine p_f ?_ | refine pS ?_ | ((fail_if_success refine gp_lit rfl rfl rfl rfl ?_); first | apply gp_guard_dec rfl rfl rfl rfl | apply gp_guard rfl rfl rfl rfl | fail) | refine p_h (hsm) hd hk ?_ | refine p_h (aw4) hd hk ?_)
      | (refine gp_one ?_; first | refine pO ?_ | refine p_n (fun _ => ?_) | refine p_app (fun _ _ => ?_) | refine p_b0 (fun _ => ?_) | ((fail_if_success refine gp_lit rfl rfl rfl rfl ?_); first | apply gp_guard_dec rfl rfl rfl rfl | apply gp_guard rfl rfl rfl rfl | fail) | refine p_k (hsm) ?_ | refine p_k (aw4) ?_)
      | refine gp_two ?_ ?_ | refine gp_done hd hk ?_ | intro _ | refine p_ta hd hk (fun _ _ _ hd hk => ?_) | refine p_ts hd hk (fun _ hd hk => ?_))
    repeat (first
      | (refine g_ops ?_; first | refine sO ?_ | refine s_n (fun _ => ?_) | refine s_app (fun _ _ => ?_) | refine s_b0 (fun _ => ?_) | ((fail_if_success refine g_lit rfl rfl rfl ?_); first | apply g_partM rfl rfl rfl | apply g_partMB rfl rfl rfl | fail))
      | refine gS ?_ | exact s_m | intro _)
    refine g_unpile ((hs2.trans hs3).trans hs4) (by (repeat (first | exact Sel.here | apply Sel.there)); first | done | fail) ?_
    exact s_r ()
end Go.Proofs.YtpilcncdgjnbeaaDoor
