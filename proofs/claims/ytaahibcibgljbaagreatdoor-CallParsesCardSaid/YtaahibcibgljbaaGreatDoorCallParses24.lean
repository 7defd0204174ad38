/- Contracts and laws that the proof stands on. -/
import Derived.Test.YtaahibcibgljbaaGreatDoorCallParses23
set_option linter.unusedSimpArgs false
set_option linter.unusedVariables false
namespace Go.Proofs.YtaahibcibgljbaaGreatDoor
open Go.Sl facts
theorem VAt.kS {C : Chunk} {v : V} {u : Vc} (h : VAt C v u) : u.k = v.kind ∧ u.y = v.yes ∧ u.n = v.n ∧ u.s = v.s ∧ u.kn = v.keys.length ∧ u.m = v.kids.length ∧ inI v.n ∧ v.s.size ≤ 9223372036854775807 ∧ inI v.kind := by
  cases h with
  | mk us hk hn hs => exact ⟨rfl, rfl, rfl, rfl, rfl, rfl, hn, hs, hk⟩
attribute [local irreducible] Code.wp wpList Exit.then Exit.inBlock bodyPost Back MidQ G GP QStep VStep CStep SStep Does Post Reads
set_option maxHeartbeats 4000000 in
theorem keyed_ {H : HP} (v : V) (u : Vc) (hu : VAt (Pile H) v u) (b : Nat) (ks : List ByteArray) (hkn : ks.length ≤ 100) (B : Bool) (hB : B = true ↔ v.kind = 6 ∧ v.keys = ks) : Does1 Tryz.prog 22 [.agg u.cells.toArray, .slice (some ⟨b, 0, none⟩) ks.length ks.length] [.row b (ks.map .string) 9, Pile H] (.bool B) := by
  cases hu with
  | @mk k y n s ks' l kp kc p c us hki hn hs hkl hks hkS hl hul hS h =>
    dsimp only [V.kind, V.keys] at hB
    dsimp only [Vc.cells]
    by_cases h6 : k = 6
    · subst h6
      by_cases hlen : ks'.length = ks.length
      · refine fn_intro Tryz.func22 rfl Tryz.ntmps22 rfl (by simp only [argFr, Nat.zero_add, Nat.reduceAdd]; rfl) (fun Γ => ?_)
        repeat (first
          | (refine g_ops ?_; first | refine sO ?_ | refine s_n (fun _ => ?_) | refine s_app (fun _ _ => ?_) | refine s_b0 (fun _ => ?_) | ((fail_if_success refine g_lit rfl rfl rfl ?_); first | apply g_partM rfl rfl rfl | apply g_partMB rfl rfl rfl | fail))
          | refine gS ?_ | exact s_m | intro _)
        rename_i rb
        refine g_as 16 (v' := .bool false) rfl (congrArg Value.bool (by simp [hlen])) ?_
        repeat (first
          | (refine g_ops ?_; first | refine sO ?_ | refine s_n (fun _ => ?_) | refine s_app (fun _ _ => ?_) | refine s_b0 (fun _ => ?_) | ((fail_if_success refine g_lit rfl rfl rfl ?_); first | apply g_partM rfl rfl rfl | apply g_partMB rfl rfl rfl | fail))
          | refine gS ?_ | exact s_m | intro _)
        rw [hlen]
        refine g_loop (X := Nat) (fun i => [(1, .slice (some ⟨b, 0, none⟩) ks.length ks.length), (2, ptr rb), (4, .bool false), (5, int i)]) (fun _ => [.row rb [.int .i64 6, .bool y, .int .i64 n, .string s, .slice kp ks.length kc, .slice p l.length c] 40, .row b (ks.map .string) 9, Pile H])
          (fun i => i ≤ ks.length ∧ ks'.take i = ks.take i) (fun i => ks.length - i) 0 ⟨Nat.zero_le _, rfl⟩ (by (repeat (first | exact FrSub.nil | refine FrSub.cons rfl ?_)); first | done | fail) (by (repeat (first | exact Take.nil | apply Take.cons | exact Sel.here | apply Sel.there)); first | done | fail) (fun i hi => ?_)
        obtain ⟨hi, htk⟩ := hi
        repeat (first
          | (refine g_ops ?_; first | refine sO ?_ | refine s_n (fun _ => ?_) | refine s_app (fun _ _ => ?_) | refine s_b0 (fun _ => ?_) | ((fail_if_success refine g_lit rfl rfl rfl ?_); first | apply g_partM rfl rfl rfl | apply g_partMB rfl rfl rfl | fail))
          | refine gS ?_ | exact s_m | intro _)
        refine g_cond_dec rfl (fun h2 => ?_) (fun h2 => ?_)
        · have hi' : i < ks.length := by omega
          obtain ⟨pb, po, rfl, hr0⟩ := slAt_cell hkS (i := i) (v := .string (ks'[i]'(by omega))) (by simp [hlen, hi'])
          have hr : ∀ k, k = i → Reads (Pile H) ⟨pb, po + k, none⟩ (.string (ks'[i]'(by omega))) := fun _ e => e ▸ hr0
          have hr2 : ∀ k, k = i → Reads (.row b (ks.map .string) 9) ⟨b, 0 + k, none⟩ (.string ks[i]) := fun k e => by
            subst e; rw [Nat.zero_add]; exact reads_row (by simp [hi'])
          have e1 : ks'.take (i + 1) = ks'.take i ++ [ks'[i]'(by omega)] := by rw [List.take_add_one, List.getElem?_eq_getElem (by omega)]; rfl
          have e2 : ks.take (i + 1) = ks.take i ++ [ks[i]] := by rw [List.take_add_one, List.getElem?_eq_getElem hi']; rfl
          generalize ks'[i]'_ = x1 at hr e1
          generalize ks[i] = x2 at hr2 e2
          repeat (first
            | (refine g_ops ?_; first | refine sO ?_ | refine s_n (fun _ => ?_) | refine s_app (fun _ _ => ?_) | refine s_b0 (fun _ => ?_) | ((fail_if_success refine g_lit rfl rfl rfl ?_); first | apply g_partM rfl rfl rfl | apply g_partMB rfl rfl rfl | fail))
            | apply g_regB (id := 1) 16 | refine g_draw (id := 6) (.take 0 (.see 1 [] (.take 2 (.take 3 (.see 4 [] (.take 5 (.take 6 (.take 7 (.see 8 [] (.take 9 .done)))))))))) (by kernel_rfl) (take_all _) (fun k hd hk => ?_)
            | refine gS ?_ | exact s_m | intro _ | (refine gp_take ?_; first | refine pT ?_ | ((fail_if_success refine gp_lit rfl rfl rfl rfl ?_); first | apply gp_guard_dec rfl rfl rfl rfl | apply gp_guard rfl rfl rfl rfl | fail))
            | (refine gp_see ?_; first | refine p_f ?_ | refine pS ?_ | ((fail_if_success refine gp_lit rfl rfl rfl rfl ?_); first | apply gp_guard_dec rfl rfl rfl rfl | apply gp_guard rfl rfl rfl rfl | fail))
            | (refine gp_one ?_; first | refine pO ?_ | refine p_n (fun _ => ?_) | refine p_app (fun _ _ => ?_) | refine p_b0 (fun _ => ?_) | ((fail_if_success refine gp_lit rfl rfl rfl rfl ?_); first | apply gp_guard_dec rfl rfl rfl rfl | apply gp_guard rfl rfl rfl rfl | fail))
            | refine gp_two ?_ ?_ | refine gp_done hd hk ?_ | intro _ | refine p_ta hd hk (fun _ _ _ hd hk => ?_) | refine p_ts hd hk (fun _ hd hk => ?_))
          dsimp only [List.cons_append, List.nil_append]
          refine g_cond_dec rfl (fun h3 => ?_) (fun h3 => ?_)
          · obtain rfl : B = false := by
              cases B; rfl
              have := (hB.1 rfl).2
              rw [this, e2, List.append_cancel_left_eq] at e1
              exact absurd (by simpa using e1.symm) h3
            repeat (first
              | (refine g_ops ?_; first | refine sO ?_ | refine s_n (fun _ => ?_) | refine s_app (fun _ _ => ?_) | refine s_b0 (fun _ => ?_) | ((fail_if_success refine g_lit rfl rfl rfl ?_); first | apply g_partM rfl rfl rfl | apply g_partMB rfl rfl rfl | fail))
              | refine gS ?_ | exact s_m | intro _)
            exact gR () trivial
          · have hx : x1 = x2 := Classical.not_not.1 h3
            repeat (first
              | (refine g_ops ?_; first | refine sO ?_ | refine s_n (fun _ => ?_) | refine s_app (fun _ _ => ?_) | refine s_b0 (fun _ => ?_) | ((fail_if_success refine g_lit rfl rfl rfl ?_); first | apply g_partM rfl rfl rfl | apply g_partMB rfl rfl rfl | fail))
              | refine gS ?_ | exact s_m | intro _)
            refine g_as 5 (v' := int ((i + 1 : Nat) : Int)) rfl (congrArg (Value.int .i64) (by push_cast; rfl)) ?_
            exact gA (i + 1) (by omega) ⟨hi', by rw [e1, e2, htk, hx]⟩
        · obtain rfl : i = ks.length := by omega
          have : ks' = ks := by rw [← List.take_length (l := ks), ← htk, ← hlen, List.take_length]
          obtain rfl : B = true := hB.2 ⟨rfl, this⟩
          repeat (first
            | (refine g_ops ?_; first | refine sO ?_ | refine s_n (fun _ => ?_) | refine s_app (fun _ _ => ?_) | refine s_b0 (fun _ => ?_) | ((fail_if_success refine g_lit rfl rfl rfl ?_); first | apply g_partM rfl rfl rfl | apply g_partMB rfl rfl rfl | fail))
            | refine gS ?_ | exact s_m | intro _)
          exact gR () trivial
      · obtain rfl : B = false := by cases B; rfl; exact absurd (by rw [(hB.1 rfl).2]) hlen
        refine fn_intro Tryz.func22 rfl Tryz.ntmps22 rfl (by simp only [argFr, Nat.zero_add, Nat.reduceAdd]; rfl) (fun Γ => ?_)
        repeat (first
          | (refine g_ops ?_; first | refine sO ?_ | refine s_n (fun _ => ?_) | refine s_app (fun _ _ => ?_) | refine s_b0 (fun _ => ?_) | ((fail_if_success refine g_lit rfl rfl rfl ?_); first | apply g_partM rfl rfl rfl | apply g_partMB rfl rfl rfl | fail))
          | refine gS ?_ | exact s_m | intro _)
        refine g_as 16 (v' := .bool true) rfl (congrArg Value.bool (by simp; omega)) ?_
        repeat (first
          | (refine g_ops ?_; first | refine sO ?_ | refine s_n (fun _ => ?_) | refine s_app (fun _ _ => ?_) | refine s_b0 (fun _ => ?_) | ((fail_if_success refine g_lit rfl rfl rfl ?_); first | apply g_partM rfl rfl rfl | apply g_partMB rfl rfl rfl | fail))
          | refine gS ?_ | exact s_m | intro _)
        exact gR () trivial
    · obtain rfl : B = false := by cases B; rfl; exact absurd (hB.1 rfl).1 h6
      refine fn_intro Tryz.func22 rfl Tryz.ntmps22 rfl (by simp only [argFr, Nat.zero_add, Nat.reduceAdd]; rfl) (fun Γ => ?_)
      repeat ((fail_if_success refine s_at 9 ?_); first
        | (refine g_ops ?_; first | refine sO ?_ | refine s_n (fun _ => ?_) | refine s_app (fun _ _ => ?_) | refine s_b0 (fun _ => ?_) | ((fail_if_success refine g_lit rfl rfl rfl ?_); first | apply g_partM rfl rfl rfl | apply g_partMB rfl rfl rfl | fail))
        | refine gS ?_ | exact s_m | intro _)
      first
        | (refine g_ops ?_; first | refine sO ?_ | refine s_n (fun _ => ?_) | refine s_app (fun _ _ => ?_) | refine s_b0 (fun _ => ?_) | ((fail_if_success refine g_lit rfl rfl rfl ?_); first | apply g_partM rfl rfl rfl | apply g_partMB rfl rfl rfl | fail))
        | refine gS ?_ | exact s_m | intro _
      refine g_as 9 (v' := .bool true) rfl (congrArg Value.bool (decide_eq_true h6)) ?_
      repeat (first
        | (refine g_ops ?_; first | refine sO ?_ | refine s_n (fun _ => ?_) | refine s_app (fun _ _ => ?_) | refine s_b0 (fun _ => ?_) | ((fail_if_success refine g_lit rfl rfl rfl ?_); first | apply g_partM rfl rfl rfl | apply g_partMB rfl rfl rfl | fail))
        | refine gS ?_ | exact s_m | intro _)
      exact gR () trivial
set_option maxHeartbeats 4000000 in
theorem kinds_ {H : HP} (v : V) (u : Vc) (hu : VAt (Pile H) v u) (b : Nat) (ks : List Int) (hkn : ks.length ≤ v.kids.length) (B : Bool) (hB : B = true ↔ (v.kids.take ks.length).map V.kind = ks) : Does1 Tryz.prog 23 [.agg u.cells.toArray, .slice (some ⟨b, 0, none⟩) ks.length ks.length] [.row b (ks.map fun (n : Int) => int n) 3, Pile H] (.bool B) := by
  cases hu with
  | @mk k y n s ks' l kp kc p c us hki hn hs hkl hks hkS hl hul hS h =>
    dsimp only [V.kids] at hB hkn
    dsimp only [Vc.cells]
    refine fn_intro Tryz.func23 rfl Tryz.ntmps23 rfl (by simp only [argFr, Nat.zero_add, Nat.reduceAdd]; rfl) (fun Γ => ?_)
    repeat (first
      | (refine g_ops ?_; first | refine sO ?_ | refine s_n (fun _ => ?_) | refine s_app (fun _ _ => ?_) | refine s_b0 (fun _ => ?_) | ((fail_if_success refine g_lit rfl rfl rfl ?_); first | apply g_partM rfl rfl rfl | apply g_partMB rfl rfl rfl | fail))
      | refine gS ?_ | exact s_m | intro _)
    rename_i rb
    refine g_loop (X := Nat) (fun i => [(1, .slice (some ⟨b, 0, none⟩) ks.length ks.length), (2, ptr rb), (4, .bool false), (5, int i)]) (fun _ => [.row rb [.int .i64 k, .bool y, .int .i64 n, .string s, .slice kp ks'.length kc, .slice p l.length c] 40, .row b (ks.map fun (n : Int) => int n) 3, Pile H])
      (fun i => i ≤ ks.length ∧ (l.take i).map V.kind = ks.take i) (fun i => ks.length - i) 0 ⟨Nat.zero_le _, rfl⟩ (by (repeat (first | exact FrSub.nil | refine FrSub.cons rfl ?_)); first | done | fail) (by (repeat (first | exact Take.nil | apply Take.cons | exact Sel.here | apply Sel.there)); first | done | fail) (fun i hi => ?_)
    obtain ⟨hi, htk⟩ := hi
    repeat (first
      | (refine g_ops ?_; first | refine sO ?_ | refine s_n (fun _ => ?_) | refine s_app (fun _ _ => ?_) | refine s_b0 (fun _ => ?_) | ((fail_if_success refine g_lit rfl rfl rfl ?_); first | apply g_partM rfl rfl rfl | apply g_partMB rfl rfl rfl | fail))
      | refine gS ?_ | exact s_m | intro _)
    refine g_cond_dec rfl (fun h2 => ?_) (fun h2 => ?_)
    · have hi' : i < ks.length := by omega
      have hgl : l[i]? = some (l[i]'(by omega)) := List.getElem?_eq_getElem _
      have hgu : us[i]? = some (us[i]'(by omega)) := List.getElem?_eq_getElem _
      have hat := VAt.kS (h i _ _ hgl hgu)
      obtain ⟨pb, po, rfl, hr0⟩ := slAt_elem hS Vc.len (by decide) hgu
      have hr : ∀ a, a = i → Reads (Pile H) ⟨pb, po + a * 6 + 0, none⟩ (int (us[i]'(by omega)).k) := fun a e => by subst e; exact hr0 0 _ rfl
      have hr2 : ∀ k, k = i → Reads (.row b (ks.map fun (n : Int) => int n) 3) ⟨b, 0 + k, none⟩ (int ks[i]) := fun k e => by
        subst e; rw [Nat.zero_add]; exact reads_row (by simp [hi'])
      have e1 : l.take (i + 1) = l.take i ++ [l[i]'(by omega)] := by rw [List.take_add_one, hgl]; rfl
      have e2 : ks.take (i + 1) = ks.take i ++ [ks[i]] := by rw [List.take_add_one, List.getElem?_eq_getElem hi']; rfl
      rw [hat.1] at hr
      generalize l[i]'_ = x1 at hr e1
      generalize ks[i] = x2 at hr2 e2
      repeat (first
        | (refine g_ops ?_; first | refine sO ?_ | refine s_n (fun _ => ?_) | refine s_app (fun _ _ => ?_) | refine s_b0 (fun _ => ?_) | ((fail_if_success refine g_lit rfl rfl rfl ?_); first | apply g_partM rfl rfl rfl | apply g_partMB rfl rfl rfl | fail))
        | refine g_draw (id := 4) (.take 0 (.see 1 [] (.take 2 (.take 3 (.take 4 (.see 5 [] (.take 6 (.take 7 (.take 8 (.see 9 [] (.take 10 .done))))))))))) (by kernel_rfl) (take_all _) (fun k hd hk => ?_)
        | refine gS ?_ | exact s_m | intro _ | (refine gp_take ?_; first | refine pT ?_ | ((fail_if_success refine gp_lit rfl rfl rfl rfl ?_); first | apply gp_guard_dec rfl rfl rfl rfl | apply gp_guard rfl rfl rfl rfl | fail))
        | (refine gp_see ?_; first | refine p_f ?_ | refine pS ?_ | ((fail_if_success refine gp_lit rfl rfl rfl rfl ?_); first | apply gp_guard_dec rfl rfl rfl rfl | apply gp_guard rfl rfl rfl rfl | fail))
        | (refine gp_one ?_; first | refine pO ?_ | refine p_n (fun _ => ?_) | refine p_app (fun _ _ => ?_) | refine p_b0 (fun _ => ?_) | ((fail_if_success refine gp_lit rfl rfl rfl rfl ?_); first | apply gp_guard_dec rfl rfl rfl rfl | apply gp_guard rfl rfl rfl rfl | fail))
        | refine gp_two ?_ ?_ | refine gp_done hd hk ?_ | intro _ | refine p_ta hd hk (fun _ _ _ hd hk => ?_) | refine p_ts hd hk (fun _ hd hk => ?_))
      dsimp only [List.cons_append, List.nil_append]
      refine g_cond_dec rfl (fun h3 => ?_) (fun h3 => ?_)
      · obtain rfl : B = false := by
          cases B; rfl
          have h4 := congrArg (List.take (i + 1)) (hB.1 rfl)
          rw [← List.map_take, List.take_take, Nat.min_eq_left (by omega), e1, e2, List.map_append, htk, List.append_cancel_left_eq] at h4
          exact absurd (by simpa using h4) h3
        repeat (first
          | (refine g_ops ?_; first | refine sO ?_ | refine s_n (fun _ => ?_) | refine s_app (fun _ _ => ?_) | refine s_b0 (fun _ => ?_) | ((fail_if_success refine g_lit rfl rfl rfl ?_); first | apply g_partM rfl rfl rfl | apply g_partMB rfl rfl rfl | fail))
          | refine gS ?_ | exact s_m | intro _)
        exact gR () trivial
      · have hx : x1.kind = x2 := Classical.not_not.1 h3
        repeat (first
          | (refine g_ops ?_; first | refine sO ?_ | refine s_n (fun _ => ?_) | refine s_app (fun _ _ => ?_) | refine s_b0 (fun _ => ?_) | ((fail_if_success refine g_lit rfl rfl rfl ?_); first | apply g_partM rfl rfl rfl | apply g_partMB rfl rfl rfl | fail))
          | refine gS ?_ | exact s_m | intro _)
        refine g_as 5 (v' := int ((i + 1 : Nat) : Int)) rfl (congrArg (Value.int .i64) (by push_cast; rfl)) ?_
        exact gA (i + 1) (by omega) ⟨hi', by rw [e1, e2, List.map_append, htk]; simp [hx]⟩
    · obtain rfl : i = ks.length := by omega
      obtain rfl : B = true := hB.2 (by rw [htk, List.take_length])
      repeat (first
        | (refine g_ops ?_; first | refine sO ?_ | refine s_n (fun _ => ?_) | refine s_app (fun _ _ => ?_) | refine s_b0 (fun _ => ?_) | ((fail_if_success refine g_lit rfl rfl rfl ?_); first | apply g_partM rfl rfl rfl | apply g_partMB rfl rfl rfl | fail))
        | refine gS ?_ | exact s_m | intro _)
      exact gR () trivial
structure PdX where
  k : Nat
  q : Option Addr
  c : Nat
set_option maxHeartbeats 8000000 in
theorem putD {H : HP} (v : V) (u : Vc) (hu : VAt (Pile H) v u) (hz : v.kids.length ≤ 1000000000) : Does Tryz.prog 24 [.agg u.cells.toArray] [Pile H] (X := HP × Pt) (fun y => .tuple #[.agg y.2.cells.toArray, .bool (putV v).isSome]) (fun y => [Pile y.1]) (fun y => HP.sub H y.1 ∧ PtAt (Pile y.1) y.2 ∧ ∀ d, putV v = some d → y.2.d = d) := by
  obtain ⟨B2, hB2⟩ : ∃ B : Bool, (B = true ↔ (v.kids.take 2).map V.kind = [4, 3]) := ⟨decide ((v.kids.take 2).map V.kind = [4, 3]), by simp⟩
  have hkd := fun (b : Nat) (hl : 2 ≤ v.kids.length) => kinds_ v u hu b [4, 3] hl B2 hB2
  have hu0 := hu
  cases hu with
  | @mk k y n s ks' l kp kc p c us hki hn hs hkl hks hkS hl hul hS h =>
    dsimp only [V.kids] at hkd hz hB2
    dsimp only [Vc.cells] at hkd ⊢
    by_cases h5 : k = 5
    · subst h5
      by_cases hlen : l.length < 2
      · have e : putV (.mk 5 y n s ks' l) = none := by
          unfold putV
          simp only [V.kids]
          match l, hlen with
          | [], _ => rfl
          | [_], _ => rfl
          | _ :: _ :: _, h => simp at h; omega
        rw [e]
        refine fn_intro Tryz.func24 rfl Tryz.ntmps24 rfl (by simp only [argFr, Nat.zero_add, Nat.reduceAdd]; rfl) (fun Γ => ?_)
        repeat (first
          | (refine g_ops ?_; first | refine sO ?_ | refine s_n (fun _ => ?_) | refine s_app (fun _ _ => ?_) | refine s_b0 (fun _ => ?_) | ((fail_if_success refine g_lit rfl rfl rfl ?_); first | apply g_partM rfl rfl rfl | apply g_partMB rfl rfl rfl | fail))
          | refine gS ?_ | exact s_m | intro _)
        refine g_as 15 (v' := .bool true) rfl (congrArg Value.bool (by simp; omega)) ?_
        repeat (first
          | (refine g_ops ?_; first | refine sO ?_ | refine s_n (fun _ => ?_) | refine s_app (fun _ _ => ?_) | refine s_b0 (fun _ => ?_) | ((fail_if_success refine g_lit rfl rfl rfl ?_); first | apply g_partM rfl rfl rfl | apply g_partMB rfl rfl rfl | fail))
          | refine gS ?_ | exact s_m | intro _)
        exact gR (H, ⟨ByteArray.empty, 0, none, 0, []⟩) ⟨HP.sub.refl _, ⟨SlAt.none, by simp⟩, fun d h => by cases h⟩
      · have hkd2 := fun b => hkd b (by omega)
        refine fn_intro Tryz.func24 rfl Tryz.ntmps24 rfl (by simp only [argFr, Nat.zero_add, Nat.reduceAdd]; rfl) (fun Γ => ?_)
        repeat (first
          | (refine g_ops ?_; first | refine sO ?_ | refine s_n (fun _ => ?_) | refine s_app (fun _ _ => ?_) | refine s_b0 (fun _ => ?_) | ((fail_if_success refine g_lit rfl rfl rfl ?_); first | apply g_partM rfl rfl rfl | apply g_partMB rfl rfl rfl | fail))
          | refine gS ?_ | exact s_m | intro _)
        refine g_as 15 (v' := .bool false) rfl (congrArg Value.bool (by simp; omega)) ?_
        repeat (first
          | (refine g_ops ?_; first | refine sO ?_ | refine s_n (fun _ => ?_) | refine s_app (fun _ _ => ?_) | refine s_b0 (fun _ => ?_) | ((fail_if_success refine g_lit rfl rfl rfl ?_); first | apply g_partM rfl rfl rfl | apply g_partMB rfl rfl rfl | fail))
          | refine gS ?_ | exact s_m | intro _)
        rename_i ub pb nb
        have hkd3 := hkd2 nb
        repeat (first
          | (refine g_ops ?_; first | refine sO ?_ | refine s_n (fun _ => ?_) | refine s_app (fun _ _ => ?_) | refine s_b0 (fun _ => ?_) | ((fail_if_success refine g_lit rfl rfl rfl ?_); first | apply g_partM rfl rfl rfl | apply g_partMB rfl rfl rfl | fail) | refine s_k (hkd3) ?_)
          | refine gS ?_ | exact s_m | intro _)
        dsimp only [List.cons_append, List.nil_append]
        by_cases hk2 : (l.take 2).map V.kind = [4, 3]
        · have hB2t := hB2.2 hk2
          obtain ⟨a, b2, r, rfl⟩ : ∃ a b r, l = a :: b :: r := by
            match l, hlen with
            | [], h => exact absurd (by simp) h
            | [_], h => exact absurd (by simp) h
            | a :: b :: r, _ => exact ⟨a, b, r, rfl⟩
          obtain ⟨ua, ub2, ur, rfl⟩ : ∃ a b r, us = a :: b :: r := by
            match us, hul with
            | [], h => simp at h
            | [_], h => simp at h
            | a :: b :: r, _ => exact ⟨a, b, r, rfl⟩
          · simp only [List.take_succ_cons, List.take_zero, List.map_cons, List.map_nil, List.cons.injEq, and_true] at hk2
            obtain ⟨hk4, hk3⟩ := hk2
            have hpv : putV (.mk 5 y n s ks' (a :: b2 :: r)) = if ∀ x ∈ r, x.kind = 4 then some ⟨a.s, b2.n, r.map V.s⟩ else none := by
              have e5 : (V.mk 5 y n s ks' (a :: b2 :: r)).kind = 5 := rfl
              unfold putV
              simp only [V.kids, e5, hk4, hk3, true_and]
            have hua := VAt.kS (h 0 a ua rfl rfl)
            have hub := VAt.kS (h 1 b2 ub2 rfl rfl)
            have hrl : ur.length = r.length := by simpa using hul
            have hS0 := hS
            obtain ⟨qb, qo, rfl, hr0⟩ := slAt_elem hS Vc.len (by decide) (i := 0) (a := ua) rfl
            obtain ⟨_, _, epp, hr1⟩ := slAt_elem hS Vc.len (by decide) (i := 1) (a := ub2) rfl
            simp only [Option.some.injEq, Addr.mk.injEq, and_true] at epp
            obtain ⟨rfl, rfl⟩ := epp
            have hr : ∀ k, k = qo + 3 → Reads (Pile H) ⟨qb, k, none⟩ (.string a.s) := fun k e => by rw [e, ← hua.2.2.2.1]; exact hr0 3 _ rfl
            have hr2 : ∀ k, k = qo + 8 → Reads (Pile H) ⟨qb, k, none⟩ (int b2.n) := fun k e => by rw [e, ← hub.2.2.1]; exact hr1 2 _ rfl
            simp only [List.length_cons] at hl hz ⊢
            refine g_as 20 (v' := .bool false) rfl (congrArg Value.bool (by rw [hB2t]; rfl)) ?_
            repeat (first
              | (refine g_ops ?_; first | refine sO ?_ | refine s_n (fun _ => ?_) | refine s_app (fun _ _ => ?_) | refine s_b0 (fun _ => ?_) | ((fail_if_success refine g_lit rfl rfl rfl ?_); first | apply g_partM rfl rfl rfl | apply g_partMB rfl rfl rfl | fail))
              | apply g_regB (id := 1) 20 | refine g_draw (id := 3) (.take 0 (.see 1 [] (.take 2 (.take 3 (.see 4 [] (.take 5 (.see 6 [] (.take 7 (.take 8 (.see 9 [] (.take 10 (.one 11 (.one 12 .done))))))))))))) (by kernel_rfl) (take_all _) (fun k hd hk => ?_)
              | refine g_draw (id := 9) (.take 0 (.see 1 [] (.take 2 (.see 3 [] (.take 4 (.take 5 (.take 6 (.see 7 [] (.one 8 (.one 9 (.take 10 (.one 11 .done)))))))))))) (by kernel_rfl) (take_all _) (fun k hd hk => ?_)
              | refine gS ?_ | exact s_m | intro _ | (refine gp_take ?_; first | refine pT ?_ | ((fail_if_success refine gp_lit rfl rfl rfl rfl ?_); first | apply gp_guard_dec rfl rfl rfl rfl | apply gp_guard rfl rfl rfl rfl | fail))
              | (refine gp_see ?_; first | refine p_f ?_ | refine pS ?_ | ((fail_if_success refine gp_lit rfl rfl rfl rfl ?_); first | apply gp_guard_dec rfl rfl rfl rfl | apply gp_guard rfl rfl rfl rfl | fail))
              | (refine gp_one ?_; first | refine pO ?_ | refine p_n (fun _ => ?_) | refine p_app (fun _ _ => ?_) | refine p_b0 (fun _ => ?_) | ((fail_if_success refine gp_lit rfl rfl rfl rfl ?_); first | apply gp_guard_dec rfl rfl rfl rfl | apply gp_guard rfl rfl rfl rfl | fail))
              | refine gp_two ?_ ?_ | refine gp_done hd hk ?_ | intro _ | refine p_ta hd hk (fun _ _ _ hd hk => ?_) | refine p_ts hd hk (fun _ hd hk => ?_))
            rename_i tb
            dsimp only [List.cons_append, List.nil_append]
            refine g_own_nil none 1 9 ?_
            refine g_loop (X := PdX) (fun x => [(1, ptr ub), (2, ptr pb), (4, ptr tb), (5, int ((x.k + 2 : Nat) : Int))]) (fun x => [.own x.q x.k x.c 1 (((r.take x.k).map V.s).map .string) 9, .row tb [.string a.s, int b2.n, .slice x.q x.k x.c] 73, .row ub [.int .i64 5, .bool y, .int .i64 n, .string s, .slice kp ks'.length kc, .slice (some ⟨qb, qo, none⟩) (r.length + 1 + 1) c] 40, .row pb [.string ByteArray.empty, .int .i64 0, .slice none 0 0] 73, Pile H])
              (fun x => x.k ≤ r.length ∧ ∀ y ∈ r.take x.k, y.kind = 4) (fun x => r.length - x.k) ⟨0, none, 0⟩ ⟨Nat.zero_le _, fun _ h => by simp at h⟩ (by (repeat (first | exact FrSub.nil | refine FrSub.cons rfl ?_)); first | done | fail) (by (repeat (first | exact Take.nil | apply Take.cons | exact Sel.here | apply Sel.there)); first | done | fail) (fun x hx => ?_)
            obtain ⟨k, q, c4⟩ := x
            obtain ⟨hk1, hall⟩ := hx
            dsimp only at hk1 hall ⊢
            repeat (first
              | (refine g_ops ?_; first | refine sO ?_ | refine s_n (fun _ => ?_) | refine s_app (fun _ _ => ?_) | refine s_b0 (fun _ => ?_) | ((fail_if_success refine g_lit rfl rfl rfl ?_); first | apply g_partM rfl rfl rfl | apply g_partMB rfl rfl rfl | fail))
              | refine gS ?_ | exact s_m | intro _)
            refine g_cond_dec rfl (fun h2 => ?_) (fun h2 => ?_)
            · have hk' : k < r.length := by omega
              have hgl : r[k]? = some r[k] := List.getElem?_eq_getElem hk'
              have hgu : (ua :: ub2 :: ur)[k + 2]? = some (ur[k]'(by omega)) := by simp
              have hat := VAt.kS (h (k + 2) r[k] (ur[k]'(by omega)) (by simp) hgu)
              obtain ⟨_, _, epp, hr3⟩ := slAt_elem hS Vc.len (by decide) hgu
              simp only [Option.some.injEq, Addr.mk.injEq, and_true] at epp
              obtain ⟨rfl, rfl⟩ := epp
              have htk : r.take (k + 1) = r.take k ++ [r[k]] := by rw [List.take_add_one, hgl]; rfl
              have hmem : r[k] ∈ r := List.getElem_mem _
              generalize r[k] = z at hat htk hmem
              generalize ur[k]'_ = uz at hat hr3
              have hr : ∀ a, a = k + 2 → Reads (Pile H) ⟨qb, qo + a * 6 + 0, none⟩ (int z.kind) := fun a e => by rw [e, ← hat.1]; exact hr3 0 _ rfl
              have hr2 : ∀ a, a = qo + (k + 2) * 6 + 3 → Reads (Pile H) ⟨qb, a, none⟩ (.string z.s) := fun a e => by rw [e, ← hat.2.2.2.1]; exact hr3 3 _ rfl
              repeat (first
                | (refine g_ops ?_; first | refine sO ?_ | refine s_n (fun _ => ?_) | refine s_app (fun _ _ => ?_) | refine s_b0 (fun _ => ?_) | ((fail_if_success refine g_lit rfl rfl rfl ?_); first | apply g_partM rfl rfl rfl | apply g_partMB rfl rfl rfl | fail))
                | refine gS ?_ | exact s_m | intro _)
              refine g_cond_dec rfl (fun h3 => ?_) (fun h3 => ?_)
              · have e : putV (.mk 5 y n s ks' (a :: b2 :: r)) = none := by rw [hpv, if_neg (fun h' => h3 (h' z hmem))]
                rw [e]
                repeat (first
                  | (refine g_ops ?_; first | refine sO ?_ | refine s_n (fun _ => ?_) | refine s_app (fun _ _ => ?_) | refine s_b0 (fun _ => ?_) | ((fail_if_success refine g_lit rfl rfl rfl ?_); first | apply g_partM rfl rfl rfl | apply g_partMB rfl rfl rfl | fail))
                  | refine gS ?_ | exact s_m | intro _)
                exact gR (H, ⟨ByteArray.empty, 0, none, 0, []⟩) ⟨HP.sub.refl _, ⟨SlAt.none, by simp⟩, fun d h => by cases h⟩
              · have hz4 : z.kind = 4 := Classical.not_not.1 h3
                repeat (first | refine gS ?_ | refine g_cond_false rfl ?_)
                refine g_draw (.take 0 (.see 1 [9,10,11] (.take 2 (.see 3 [5,6,7,8,9,10,11] (.take 4 (.take 5 (.take 6 (.one 7 (.one 8 (.one 9 (.take 10 (.thaw 11 .done)))))))))))) (by kernel_rfl) (C := [.row tb [.string a.s, int b2.n, .slice q k c4] 73, .row ub [.int .i64 5, .bool y, .int .i64 n, .string s, .slice kp ks'.length kc, .slice (some ⟨qb, qo, none⟩) (r.length + 1 + 1) c] 40]) (by (repeat (first | exact Take.nil | apply Take.cons | exact Sel.here | apply Sel.there)); first | done | fail) (fun m hd hk => ?_)
                repeat (first
                  | (refine gp_take ?_; first | refine pT ?_ | ((fail_if_success refine gp_lit rfl rfl rfl rfl ?_); first | apply gp_guard_dec rfl rfl rfl rfl | apply gp_guard rfl rfl rfl rfl | fail))
                  | (refine gp_see ?_; first | refine p_f ?_ | refine pS ?_ | ((fail_if_success refine gp_lit rfl rfl rfl rfl ?_); first | apply gp_guard_dec rfl rfl rfl rfl | apply gp_guard rfl rfl rfl rfl | fail))
                  | (refine gp_one ?_; first | refine pO ?_ | refine p_n (fun _ => ?_) | refine p_app (fun _ _ => ?_) | refine p_b0 (fun _ => ?_) | ((fail_if_success refine gp_lit rfl rfl rfl rfl ?_); first | apply gp_guard_dec rfl rfl rfl rfl | apply gp_guard rfl rfl rfl rfl | fail))
                  | refine gp_two ?_ ?_ | refine gp_done hd hk ?_ | intro _ | refine p_ta hd hk (fun _ _ _ hd hk => ?_) | refine p_ts hd hk (fun _ hd hk => ?_))
                rename_i q5 c5 _
                dsimp only [List.cons_append, List.nil_append]
                repeat (first
                  | (refine g_ops ?_; first | refine sO ?_ | refine s_n (fun _ => ?_) | refine s_app (fun _ _ => ?_) | refine s_b0 (fun _ => ?_) | ((fail_if_success refine g_lit rfl rfl rfl ?_); first | apply g_partM rfl rfl rfl | apply g_partMB rfl rfl rfl | fail))
                  | refine gS ?_ | exact s_m | intro _)
                refine g_as 5 (v' := int ((k + 1 + 2 : Nat) : Int)) rfl (congrArg (Value.int .i64) (by push_cast; omega)) ?_
                rw [show ((r.take k).map V.s).map Value.string ++ [.string z.s] = ((r.take (k + 1)).map V.s).map .string by rw [htk]; simp]
                exact g_again ⟨k + 1, q5, c5⟩ (by simp only; omega) ⟨hk', fun y hy => by
                  rw [htk] at hy
                  rcases List.mem_append.1 hy with hy | hy
                  · exact hall y hy
                  · rw [List.mem_singleton] at hy; rw [hy]; exact hz4⟩ (by (repeat (first | exact FrSub.nil | refine FrSub.cons rfl ?_)); first | done | fail) (by (repeat (first | exact Take.nil | apply Take.cons | exact Sel.here | apply Sel.there)); first | done | fail)
            · obtain rfl : k = r.length := by omega
              rw [List.take_length] at hall ⊢
              have e : putV (.mk 5 y n s ks' (a :: b2 :: r)) = some ⟨a.s, b2.n, r.map V.s⟩ := by rw [hpv, if_pos hall]
              rw [e]
              repeat (first
                | (refine g_ops ?_; first | refine sO ?_ | refine s_n (fun _ => ?_) | refine s_app (fun _ _ => ?_) | refine s_b0 (fun _ => ?_) | ((fail_if_success refine g_lit rfl rfl rfl ?_); first | apply g_partM rfl rfl rfl | apply g_partMB rfl rfl rfl | fail))
                | refine gS ?_ | exact s_m | intro _)
              obtain ⟨D, hD⟩ : ∃ D, D = r.map V.s := ⟨_, rfl⟩
              have hDl : r.length = D.length := by rw [hD]; simp
              rw [← hD]
              refine g_pile (n := 1) (by (repeat (first | exact Sel.here | apply Sel.there)); first | done | fail) (by (repeat (first | exact Sel.here | apply Sel.there)); first | done | fail) (fun H2 hs2 hS2 => ?_)
              rw [hDl] at hS2 ⊢
              exact gR (H2, ⟨a.s, b2.n, q, c4, D⟩) ⟨hs2, ⟨hS2, by dsimp only; omega⟩, fun d h => by cases h; rfl⟩
        · have e : putV (.mk 5 y n s ks' l) = none := by
            unfold putV
            simp only [V.kids]
            match l, hk2 with
            | [], _ => rfl
            | [_], _ => rfl
            | a :: b :: r, hk2 =>
              dsimp only
              rw [if_neg]
              exact fun h' => hk2 (by simp only [List.take_succ_cons, List.take_zero, List.map_cons, List.map_nil, h'.2.1, h'.2.2.1])
          rw [e]
          refine g_as 20 (v' := .bool true) rfl (congrArg Value.bool (by rw [show B2 = false by cases hb : B2; rfl; exact absurd (hB2.1 hb) hk2]; rfl)) ?_
          repeat (first
            | (refine g_ops ?_; first | refine sO ?_ | refine s_n (fun _ => ?_) | refine s_app (fun _ _ => ?_) | refine s_b0 (fun _ => ?_) | ((fail_if_success refine g_lit rfl rfl rfl ?_); first | apply g_partM rfl rfl rfl | apply g_partMB rfl rfl rfl | fail))
            | refine gS ?_ | exact s_m | intro _)
          exact gR (H, ⟨ByteArray.empty, 0, none, 0, []⟩) ⟨HP.sub.refl _, ⟨SlAt.none, by simp⟩, fun d h => by cases h⟩
    · have e : putV (.mk k y n s ks' l) = none := by unfold putV; split <;> simp [V.kind, h5]
      rw [e]
      refine fn_intro Tryz.func24 rfl Tryz.ntmps24 rfl (by simp only [argFr, Nat.zero_add, Nat.reduceAdd]; rfl) (fun Γ => ?_)
      repeat ((fail_if_success refine s_at 8 ?_); first
        | (refine g_ops ?_; first | refine sO ?_ | refine s_n (fun _ => ?_) | refine s_app (fun _ _ => ?_) | refine s_b0 (fun _ => ?_) | ((fail_if_success refine g_lit rfl rfl rfl ?_); first | apply g_partM rfl rfl rfl | apply g_partMB rfl rfl rfl | fail))
        | refine gS ?_ | exact s_m | intro _)
      first
        | (refine g_ops ?_; first | refine sO ?_ | refine s_n (fun _ => ?_) | refine s_app (fun _ _ => ?_) | refine s_b0 (fun _ => ?_) | ((fail_if_success refine g_lit rfl rfl rfl ?_); first | apply g_partM rfl rfl rfl | apply g_partMB rfl rfl rfl | fail))
        | refine gS ?_ | exact s_m | intro _
      refine g_as 8 (v' := .bool true) rfl (congrArg Value.bool (decide_eq_true h5)) ?_
      repeat (first
        | (refine g_ops ?_; first | refine sO ?_ | refine s_n (fun _ => ?_) | refine s_app (fun _ _ => ?_) | refine s_b0 (fun _ => ?_) | ((fail_if_success refine g_lit rfl rfl rfl ?_); first | apply g_partM rfl rfl rfl | apply g_partMB rfl rfl rfl | fail))
        | refine gS ?_ | exact s_m | intro _)
      exact gR (H, ⟨ByteArray.empty, 0, none, 0, []⟩) ⟨HP.sub.refl _, ⟨SlAt.none, by simp⟩, fun d h => by cases h⟩
end Go.Proofs.YtaahibcibgljbaaGreatDoor
