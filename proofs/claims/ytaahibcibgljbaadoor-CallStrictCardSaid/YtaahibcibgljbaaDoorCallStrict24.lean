/- Contracts and laws that the proof stands on. -/
import Derived.Test.YtaahibcibgljbaaDoorCallStrict23
set_option linter.unusedSimpArgs false
set_option linter.unusedVariables false
namespace Go.Proofs.YtaahibcibgljbaaDoor
open Go.Sl facts
attribute [local irreducible] Code.wp wpList Exit.then Exit.inBlock bodyPost Back MidQ G GP QStep VStep CStep SStep Does Post Reads
attribute [local irreducible] weigh weighL callS ofOk ofC docOf
theorem round28 (p n : Int) (h : 0 < n) (hn : n ≤ 1000000000) : Does1 Tryd.prog 18 [int p, int n] [] (int (lf p n)) := by
  have hb := lf_in p n h
  refine fn_intro Tryd.func18 rfl Tryd.ntmps18 rfl (by simp only [argFr, Nat.zero_add, Nat.reduceAdd]; rfl) (fun Γ => ?_)
  repeat (first
    | (refine g_ops ?_; first | refine sO ?_ | refine s_n (fun _ => ?_) | refine s_app (fun _ _ => ?_) | refine s_b0 (fun _ => ?_) | ((fail_if_success refine g_lit rfl rfl rfl ?_); first | apply g_partM rfl rfl rfl | apply g_partMB rfl rfl rfl | fail))
    | refine gS ?_ | exact s_m | intro _)
  refine s_q (q := by exact qs_rem rfl rfl (by omega)) ?_
  repeat (first
    | (refine g_ops ?_; first | refine sO ?_ | refine s_n (fun _ => ?_) | refine s_app (fun _ _ => ?_) | refine s_b0 (fun _ => ?_) | ((fail_if_success refine g_lit rfl rfl rfl ?_); first | apply g_partM rfl rfl rfl | apply g_partMB rfl rfl rfl | fail))
    | refine gS ?_ | exact s_m | intro _)
  refine g_cond_dec rfl (fun h2 => ?_) (fun h2 => ?_)
  · have e : lf p n = p.tmod n + n := if_pos h2
    rw [e] at hb
    repeat (first
      | (refine g_ops ?_; first | refine sO ?_ | refine s_n (fun _ => ?_) | refine s_app (fun _ _ => ?_) | refine s_b0 (fun _ => ?_) | ((fail_if_success refine g_lit rfl rfl rfl ?_); first | apply g_partM rfl rfl rfl | apply g_partMB rfl rfl rfl | fail))
      | refine gS ?_ | exact s_m | intro _)
    exact g_ret () rfl (by (repeat (first | exact RVs.nil | apply RVs.tmp rfl | apply RVs.cellA rfl (by (repeat (first | exact Sel.here | apply Sel.there)); first | done | fail) (by (repeat (first | exact Cut.zero | apply Cut.take | apply Cut.skip)); first | done | fail) | apply RVs.cell1 rfl (by (repeat (first | exact Sel.here | apply Sel.there)); first | done | fail) rfl)); first | done | fail) (by (repeat (first | exact Take.nil | apply Take.cons | exact Sel.here | apply Sel.there)); first | done | fail) (by simp [pack, e]) trivial
  · have e : lf p n = p.tmod n := if_neg h2
    repeat (first
      | (refine g_ops ?_; first | refine sO ?_ | refine s_n (fun _ => ?_) | refine s_app (fun _ _ => ?_) | refine s_b0 (fun _ => ?_) | ((fail_if_success refine g_lit rfl rfl rfl ?_); first | apply g_partM rfl rfl rfl | apply g_partMB rfl rfl rfl | fail))
      | refine gS ?_ | exact s_m | intro _)
    exact g_ret () rfl (by (repeat (first | exact RVs.nil | apply RVs.tmp rfl | apply RVs.cellA rfl (by (repeat (first | exact Sel.here | apply Sel.there)); first | done | fail) (by (repeat (first | exact Cut.zero | apply Cut.take | apply Cut.skip)); first | done | fail) | apply RVs.cell1 rfl (by (repeat (first | exact Sel.here | apply Sel.there)); first | done | fail) rfl)); first | done | fail) (by (repeat (first | exact Take.nil | apply Take.cons | exact Sel.here | apply Sel.there)); first | done | fail) (by simp [pack, e]) trivial
theorem TAt.one_list {H : HP} {x : V} {w : Value} {b : Nat} (hw : TAt H x w) (hS : SlAt (Pile H) 1 (some ⟨b, 0, none⟩) 1 [w]) : TAt H (listV [x]) (.iface 60 (.slice (some ⟨b, 0, none⟩) 1 1)) := by
  refine .list [w] rfl (by simp) hS fun i a q h1 h2 => ?_
  match i with
  | 0 => cases h1; cases h2; exact hw
  | i + 1 => simp at h1
theorem st_sz (n : Int) (k : Nat) (hk : k < 15) : szV (stV n k) ≤ 100000 := by
  match k, hk with
  | 0, _ | 1, _ | 2, _ | 3, _ | 4, _ | 5, _ | 6, _ | 7, _ | 8, _ | 9, _ | 10, _ | 11, _ | 12, _ | 13, _ | 14, _ =>
    unfold stV
    try unfold pairsV
    try unfold listV
    try unfold textV
    try unfold intV
    try unfold nilV
    simp only [szV_mk, szK_cons, szK_nil, szS_cons, szS_nil]
    decide
theorem st_lk (n : Int) (k : Nat) (hk : k < 15) : (stV n k).kind = 6 → (stV n k).keys.length = (stV n k).kids.length := by
  match k, hk with
  | 0, _ | 1, _ | 2, _ | 3, _ | 4, _ | 5, _ | 6, _ | 7, _ | 8, _ | 12, _ | 13, _ | 14, _ => exact fun _ => rfl
  | 9, _ => exact fun h => absurd h (show ¬ (5 : Int) = 6 by decide)
  | 10, _ => exact fun h => absurd h (show ¬ (4 : Int) = 6 by decide)
  | 11, _ => exact fun h => absurd h (show ¬ (1 : Int) = 6 by decide)
theorem st_zero (n : Int) (k : Nat) (hk : k < 15) (h : stOk k = false) : ofC (stV n k) = {} := by
  have h2 := st_doc n k hk
  rw [h] at h2
  rw [(of_same (st_lk n k hk)).2]
  cases hd : docOf (stV n k) with
  | none => rfl
  | some d => rw [hd] at h2; cases h2
set_option maxHeartbeats 16000000 in
theorem strict {H : HP} (hT : Tb H) (hE : ErrH H) (how n : Int) (hh : inI how) (hn : inI n) : Does1 Tryd.prog 5 [int how, int n] [Pile H] (.bool true) := by
  have hlf := lf_in how 15 (by decide)
  have hrd := round28 how 15 (by decide) (by decide)
  have aw := awake28 hT hE
  obtain ⟨k, hk, hk15⟩ : ∃ k : Nat, lf how 15 = (k : Int) ∧ k < 15 := ⟨(lf how 15).toNat, by omega, by omega⟩
  rw [hk] at hrd
  refine fn_intro Tryd.func5 rfl Tryd.ntmps5 rfl (by simp only [argFr, Nat.zero_add, Nat.reduceAdd]; rfl) (fun Γ => ?_)
  repeat ((fail_if_success refine s_at 93 ?_); first
    | (refine g_ops ?_; first | refine sO ?_ | refine s_n (fun _ => ?_) | refine s_app (fun _ _ => ?_) | refine s_b0 (fun _ => ?_) | ((fail_if_success refine g_lit rfl rfl rfl ?_); first | apply g_partM rfl rfl rfl | apply g_partMB rfl rfl rfl | fail) | refine s_k (hrd) ?_)
    | refine gS ?_ | exact s_m | intro _)
  rename_i r0 r1 r2 r3 r4 r5 r6 r7 r8 r9 ra rb r12 rc rd r13 re r14 rL rok
  try dsimp only [List.cons_append, List.nil_append, List.append_eq]
  match k, hk, hk15 with
  | 0, _, _ =>
    repeat (first
      | (refine g_ops ?_; first | refine sO ?_ | refine s_n (fun _ => ?_) | refine s_app (fun _ _ => ?_) | refine s_b0 (fun _ => ?_) | ((fail_if_success refine g_lit rfl rfl rfl ?_); first | apply g_partM rfl rfl rfl | apply g_partMB rfl rfl rfl | fail))
      | refine gS ?_ | exact s_m | intro _)
    refine g_toOwn (b := r0) (len := 1) (n := 2) (by (repeat (first | exact Sel.here | apply Sel.there)); first | done | fail) rfl rfl ?_
    refine g_pile (n := 2) (by (repeat (first | exact Sel.here | apply Sel.there)); first | done | fail) (by (repeat (first | exact Sel.here | apply Sel.there)); first | done | fail) (fun H1 hs1 hS => ?_)
    have hw : TAt H1 (stV n 0) (.iface 59 (.slice (some ⟨r0, 0, none⟩) 1 1)) := by
      refine .pairs [⟨kMap, .nilIface⟩] rfl (by simp) rfl (fun q hq => ?_) hS fun i a q h1 h2 => ?_
      · simp only [List.mem_cons, List.not_mem_nil, or_false] at hq
        subst hq; dsimp only; decide
      · match i with
        | 0 => cases h1; cases h2; exact .nil
        | i + 1 => simp at h1
    have hof := of1 (hT.grow hs1).vs hw (.of (st_sz n 0 (by decide)))
    rw [(of_same (st_lk n 0 (by decide))).1, st_doc n 0 (by decide)] at hof
    repeat (first
      | (refine g_ops ?_; first | refine sO ?_ | refine s_n (fun _ => ?_) | refine s_app (fun _ _ => ?_) | refine s_b0 (fun _ => ?_) | ((fail_if_success refine g_lit rfl rfl rfl ?_); first | apply g_partM rfl rfl rfl | apply g_partMB rfl rfl rfl | fail) | refine s_c (hof) (fun _ _ => ?_))
      | refine gS ?_ | exact s_m | intro _)
    rename_i y1 hy1 b8
    obtain ⟨H5, c1⟩ := y1
    obtain ⟨hs5, hc1⟩ := hy1
    dsimp only at hs5 hc1 ⊢
    try dsimp only [List.cons_append, List.nil_append, List.append_eq]
    have hs6 := hs1.trans hs5
    have aw5 := awake28 (hT.grow hs6) (hE.grow hs6)
    repeat (first
      | (refine g_ops ?_; first | refine sO ?_ | refine s_n (fun _ => ?_) | refine s_app (fun _ _ => ?_) | refine s_b0 (fun _ => ?_) | ((fail_if_success refine g_lit rfl rfl rfl ?_); first | apply g_partM rfl rfl rfl | apply g_partMB rfl rfl rfl | fail) | refine s_k (aw5) ?_)
      | refine gS ?_ | exact s_m | intro _)
    refine g_unpile hs6 (by (repeat (first | exact Sel.here | apply Sel.there)); first | done | fail) ?_
    exact s_r ()
  | 1, _, _ =>
    repeat (first
      | (refine g_ops ?_; first | refine sO ?_ | refine s_n (fun _ => ?_) | refine s_app (fun _ _ => ?_) | refine s_b0 (fun _ => ?_) | ((fail_if_success refine g_lit rfl rfl rfl ?_); first | apply g_partM rfl rfl rfl | apply g_partMB rfl rfl rfl | fail))
      | refine gS ?_ | exact s_m | intro _)
    refine g_toOwn (b := r1) (len := 1) (n := 2) (by (repeat (first | exact Sel.here | apply Sel.there)); first | done | fail) rfl rfl ?_
    refine g_pile (n := 2) (by (repeat (first | exact Sel.here | apply Sel.there)); first | done | fail) (by (repeat (first | exact Sel.here | apply Sel.there)); first | done | fail) (fun H1 hs1 hS => ?_)
    have hw : TAt H1 (stV n 1) (.iface 59 (.slice (some ⟨r1, 0, none⟩) 1 1)) := by
      refine .pairs [⟨kMap, .iface 3 (int n)⟩] rfl (by simp) rfl (fun q hq => ?_) hS fun i a q h1 h2 => ?_
      · simp only [List.mem_cons, List.not_mem_nil, or_false] at hq
        subst hq; dsimp only; decide
      · match i with
        | 0 => cases h1; cases h2; exact .int hn
        | i + 1 => simp at h1
    have hof := of1 (hT.grow hs1).vs hw (.of (st_sz n 1 (by decide)))
    rw [(of_same (st_lk n 1 (by decide))).1, st_doc n 1 (by decide)] at hof
    repeat (first
      | (refine g_ops ?_; first | refine sO ?_ | refine s_n (fun _ => ?_) | refine s_app (fun _ _ => ?_) | refine s_b0 (fun _ => ?_) | ((fail_if_success refine g_lit rfl rfl rfl ?_); first | apply g_partM rfl rfl rfl | apply g_partMB rfl rfl rfl | fail) | refine s_c (hof) (fun _ _ => ?_))
      | refine gS ?_ | exact s_m | intro _)
    rename_i y1 hy1 b8
    obtain ⟨H5, c1⟩ := y1
    obtain ⟨hs5, hc1⟩ := hy1
    dsimp only at hs5 hc1 ⊢
    try dsimp only [List.cons_append, List.nil_append, List.append_eq]
    have hs6 := hs1.trans hs5
    have aw5 := awake28 (hT.grow hs6) (hE.grow hs6)
    have hz : ofC (stV n 1) = {} := st_zero n 1 (by decide) rfl
    rw [hz] at hc1
    have hsm := same28 hc1 (ClAt.zero (H := H5)) (fun _ h => by cases h) (Nat.zero_le _)
    dsimp only [Cl.cells] at hsm
    repeat (first
      | (refine g_ops ?_; first | refine sO ?_ | refine s_n (fun _ => ?_) | refine s_app (fun _ _ => ?_) | refine s_b0 (fun _ => ?_) | ((fail_if_success refine g_lit rfl rfl rfl ?_); first | apply g_partM rfl rfl rfl | apply g_partMB rfl rfl rfl | fail) | refine s_k (hsm) ?_ | refine s_k (aw5) ?_)
      | refine gS ?_ | exact s_m | intro _)
    refine g_unpile hs6 (by (repeat (first | exact Sel.here | apply Sel.there)); first | done | fail) ?_
    exact s_r ()
  | 2, _, _ =>
    repeat (first
      | (refine g_ops ?_; first | refine sO ?_ | refine s_n (fun _ => ?_) | refine s_app (fun _ _ => ?_) | refine s_b0 (fun _ => ?_) | ((fail_if_success refine g_lit rfl rfl rfl ?_); first | apply g_partM rfl rfl rfl | apply g_partMB rfl rfl rfl | fail))
      | refine gS ?_ | exact s_m | intro _)
    refine g_toOwn (b := r2) (len := 2) (n := 2) (by (repeat (first | exact Sel.here | apply Sel.there)); first | done | fail) rfl rfl ?_
    refine g_pile (n := 2) (by (repeat (first | exact Sel.here | apply Sel.there)); first | done | fail) (by (repeat (first | exact Sel.here | apply Sel.there)); first | done | fail) (fun H1 hs1 hS => ?_)
    have hw : TAt H1 (stV n 2) (.iface 59 (.slice (some ⟨r2, 0, none⟩) 2 2)) := by
      refine .pairs [⟨kMap, .nilIface⟩, ⟨kMore, .iface 3 (int n)⟩] rfl (by simp) rfl (fun q hq => ?_) hS fun i a q h1 h2 => ?_
      · simp only [List.mem_cons, List.not_mem_nil, or_false] at hq
        rcases hq with rfl | rfl <;> (dsimp only; decide)
      · match i with
        | 0 => cases h1; cases h2; exact .nil
        | 1 => cases h1; cases h2; exact .int hn
        | i + 2 => simp at h1
    have hof := of1 (hT.grow hs1).vs hw (.of (st_sz n 2 (by decide)))
    rw [(of_same (st_lk n 2 (by decide))).1, st_doc n 2 (by decide)] at hof
    repeat (first
      | (refine g_ops ?_; first | refine sO ?_ | refine s_n (fun _ => ?_) | refine s_app (fun _ _ => ?_) | refine s_b0 (fun _ => ?_) | ((fail_if_success refine g_lit rfl rfl rfl ?_); first | apply g_partM rfl rfl rfl | apply g_partMB rfl rfl rfl | fail) | refine s_c (hof) (fun _ _ => ?_))
      | refine gS ?_ | exact s_m | intro _)
    rename_i y1 hy1 b8
    obtain ⟨H5, c1⟩ := y1
    obtain ⟨hs5, hc1⟩ := hy1
    dsimp only at hs5 hc1 ⊢
    try dsimp only [List.cons_append, List.nil_append, List.append_eq]
    have hs6 := hs1.trans hs5
    have aw5 := awake28 (hT.grow hs6) (hE.grow hs6)
    have hz : ofC (stV n 2) = {} := st_zero n 2 (by decide) rfl
    rw [hz] at hc1
    have hsm := same28 hc1 (ClAt.zero (H := H5)) (fun _ h => by cases h) (Nat.zero_le _)
    dsimp only [Cl.cells] at hsm
    repeat (first
      | (refine g_ops ?_; first | refine sO ?_ | refine s_n (fun _ => ?_) | refine s_app (fun _ _ => ?_) | refine s_b0 (fun _ => ?_) | ((fail_if_success refine g_lit rfl rfl rfl ?_); first | apply g_partM rfl rfl rfl | apply g_partMB rfl rfl rfl | fail) | refine s_k (hsm) ?_ | refine s_k (aw5) ?_)
      | refine gS ?_ | exact s_m | intro _)
    refine g_unpile hs6 (by (repeat (first | exact Sel.here | apply Sel.there)); first | done | fail) ?_
    exact s_r ()
  | 3, _, _ =>
    repeat (first
      | (refine g_ops ?_; first | refine sO ?_ | refine s_n (fun _ => ?_) | refine s_app (fun _ _ => ?_) | refine s_b0 (fun _ => ?_) | ((fail_if_success refine g_lit rfl rfl rfl ?_); first | apply g_partM rfl rfl rfl | apply g_partMB rfl rfl rfl | fail))
      | refine gS ?_ | exact s_m | intro _)
    refine g_toOwn (b := r3) (len := 2) (n := 2) (by (repeat (first | exact Sel.here | apply Sel.there)); first | done | fail) rfl rfl ?_
    refine g_pile (n := 2) (by (repeat (first | exact Sel.here | apply Sel.there)); first | done | fail) (by (repeat (first | exact Sel.here | apply Sel.there)); first | done | fail) (fun H1 hs1 hS => ?_)
    have hw : TAt H1 (stV n 3) (.iface 59 (.slice (some ⟨r3, 0, none⟩) 2 2)) := by
      refine .pairs [⟨kMax, .iface 3 (int 5)⟩, ⟨kPoll, .iface 9 (.string tStar)⟩] rfl (by simp) rfl (fun q hq => ?_) hS fun i a q h1 h2 => ?_
      · simp only [List.mem_cons, List.not_mem_nil, or_false] at hq
        rcases hq with rfl | rfl <;> (dsimp only; decide)
      · match i with
        | 0 => cases h1; cases h2; exact .int ⟨by decide, by decide⟩
        | 1 => cases h1; cases h2; exact .text (by decide)
        | i + 2 => simp at h1
    have hof := of1 (hT.grow hs1).vs hw (.of (st_sz n 3 (by decide)))
    rw [(of_same (st_lk n 3 (by decide))).1, st_doc n 3 (by decide)] at hof
    repeat (first
      | (refine g_ops ?_; first | refine sO ?_ | refine s_n (fun _ => ?_) | refine s_app (fun _ _ => ?_) | refine s_b0 (fun _ => ?_) | ((fail_if_success refine g_lit rfl rfl rfl ?_); first | apply g_partM rfl rfl rfl | apply g_partMB rfl rfl rfl | fail) | refine s_c (hof) (fun _ _ => ?_))
      | refine gS ?_ | exact s_m | intro _)
    rename_i y1 hy1 b8
    obtain ⟨H5, c1⟩ := y1
    obtain ⟨hs5, hc1⟩ := hy1
    dsimp only at hs5 hc1 ⊢
    try dsimp only [List.cons_append, List.nil_append, List.append_eq]
    have hs6 := hs1.trans hs5
    have aw5 := awake28 (hT.grow hs6) (hE.grow hs6)
    repeat (first
      | (refine g_ops ?_; first | refine sO ?_ | refine s_n (fun _ => ?_) | refine s_app (fun _ _ => ?_) | refine s_b0 (fun _ => ?_) | ((fail_if_success refine g_lit rfl rfl rfl ?_); first | apply g_partM rfl rfl rfl | apply g_partMB rfl rfl rfl | fail) | refine s_k (aw5) ?_)
      | refine gS ?_ | exact s_m | intro _)
    refine g_unpile hs6 (by (repeat (first | exact Sel.here | apply Sel.there)); first | done | fail) ?_
    exact s_r ()
  | 4, _, _ =>
    repeat (first
      | (refine g_ops ?_; first | refine sO ?_ | refine s_n (fun _ => ?_) | refine s_app (fun _ _ => ?_) | refine s_b0 (fun _ => ?_) | ((fail_if_success refine g_lit rfl rfl rfl ?_); first | apply g_partM rfl rfl rfl | apply g_partMB rfl rfl rfl | fail))
      | refine gS ?_ | exact s_m | intro _)
    refine g_toOwn (b := r4) (len := 2) (n := 2) (by (repeat (first | exact Sel.here | apply Sel.there)); first | done | fail) rfl rfl ?_
    refine g_pile (n := 2) (by (repeat (first | exact Sel.here | apply Sel.there)); first | done | fail) (by (repeat (first | exact Sel.here | apply Sel.there)); first | done | fail) (fun H1 hs1 hS => ?_)
    have hw : TAt H1 (stV n 4) (.iface 59 (.slice (some ⟨r4, 0, none⟩) 2 2)) := by
      refine .pairs [⟨kMax, .iface 9 (.string tFive)⟩, ⟨kPoll, .iface 9 (.string tStar)⟩] rfl (by simp) rfl (fun q hq => ?_) hS fun i a q h1 h2 => ?_
      · simp only [List.mem_cons, List.not_mem_nil, or_false] at hq
        rcases hq with rfl | rfl <;> (dsimp only; decide)
      · match i with
        | 0 => cases h1; cases h2; exact .text (by decide)
        | 1 => cases h1; cases h2; exact .text (by decide)
        | i + 2 => simp at h1
    have hof := of1 (hT.grow hs1).vs hw (.of (st_sz n 4 (by decide)))
    rw [(of_same (st_lk n 4 (by decide))).1, st_doc n 4 (by decide)] at hof
    repeat (first
      | (refine g_ops ?_; first | refine sO ?_ | refine s_n (fun _ => ?_) | refine s_app (fun _ _ => ?_) | refine s_b0 (fun _ => ?_) | ((fail_if_success refine g_lit rfl rfl rfl ?_); first | apply g_partM rfl rfl rfl | apply g_partMB rfl rfl rfl | fail) | refine s_c (hof) (fun _ _ => ?_))
      | refine gS ?_ | exact s_m | intro _)
    rename_i y1 hy1 b8
    obtain ⟨H5, c1⟩ := y1
    obtain ⟨hs5, hc1⟩ := hy1
    dsimp only at hs5 hc1 ⊢
    try dsimp only [List.cons_append, List.nil_append, List.append_eq]
    have hs6 := hs1.trans hs5
    have aw5 := awake28 (hT.grow hs6) (hE.grow hs6)
    have hz : ofC (stV n 4) = {} := st_zero n 4 (by decide) rfl
    rw [hz] at hc1
    have hsm := same28 hc1 (ClAt.zero (H := H5)) (fun _ h => by cases h) (Nat.zero_le _)
    dsimp only [Cl.cells] at hsm
    repeat (first
      | (refine g_ops ?_; first | refine sO ?_ | refine s_n (fun _ => ?_) | refine s_app (fun _ _ => ?_) | refine s_b0 (fun _ => ?_) | ((fail_if_success refine g_lit rfl rfl rfl ?_); first | apply g_partM rfl rfl rfl | apply g_partMB rfl rfl rfl | fail) | refine s_k (hsm) ?_ | refine s_k (aw5) ?_)
      | refine gS ?_ | exact s_m | intro _)
    refine g_unpile hs6 (by (repeat (first | exact Sel.here | apply Sel.there)); first | done | fail) ?_
    exact s_r ()
  | 5, _, _ =>
    repeat (first
      | (refine g_ops ?_; first | refine sO ?_ | refine s_n (fun _ => ?_) | refine s_app (fun _ _ => ?_) | refine s_b0 (fun _ => ?_) | ((fail_if_success refine g_lit rfl rfl rfl ?_); first | apply g_partM rfl rfl rfl | apply g_partMB rfl rfl rfl | fail))
      | refine gS ?_ | exact s_m | intro _)
    refine g_toOwn (b := r5) (len := 1) (n := 2) (by (repeat (first | exact Sel.here | apply Sel.there)); first | done | fail) rfl rfl ?_
    refine g_pile (n := 2) (by (repeat (first | exact Sel.here | apply Sel.there)); first | done | fail) (by (repeat (first | exact Sel.here | apply Sel.there)); first | done | fail) (fun H1 hs1 hS => ?_)
    have hw : TAt H1 (stV n 5) (.iface 59 (.slice (some ⟨r5, 0, none⟩) 1 1)) := by
      refine .pairs [⟨kPoll, .iface 9 (.string tStar)⟩] rfl (by simp) rfl (fun q hq => ?_) hS fun i a q h1 h2 => ?_
      · simp only [List.mem_cons, List.not_mem_nil, or_false] at hq
        subst hq; dsimp only; decide
      · match i with
        | 0 => cases h1; cases h2; exact .text (by decide)
        | i + 1 => simp at h1
    have hof := of1 (hT.grow hs1).vs hw (.of (st_sz n 5 (by decide)))
    rw [(of_same (st_lk n 5 (by decide))).1, st_doc n 5 (by decide)] at hof
    repeat (first
      | (refine g_ops ?_; first | refine sO ?_ | refine s_n (fun _ => ?_) | refine s_app (fun _ _ => ?_) | refine s_b0 (fun _ => ?_) | ((fail_if_success refine g_lit rfl rfl rfl ?_); first | apply g_partM rfl rfl rfl | apply g_partMB rfl rfl rfl | fail) | refine s_c (hof) (fun _ _ => ?_))
      | refine gS ?_ | exact s_m | intro _)
    rename_i y1 hy1 b8
    obtain ⟨H5, c1⟩ := y1
    obtain ⟨hs5, hc1⟩ := hy1
    dsimp only at hs5 hc1 ⊢
    try dsimp only [List.cons_append, List.nil_append, List.append_eq]
    have hs6 := hs1.trans hs5
    have aw5 := awake28 (hT.grow hs6) (hE.grow hs6)
    have hz : ofC (stV n 5) = {} := st_zero n 5 (by decide) rfl
    rw [hz] at hc1
    have hsm := same28 hc1 (ClAt.zero (H := H5)) (fun _ h => by cases h) (Nat.zero_le _)
    dsimp only [Cl.cells] at hsm
    repeat (first
      | (refine g_ops ?_; first | refine sO ?_ | refine s_n (fun _ => ?_) | refine s_app (fun _ _ => ?_) | refine s_b0 (fun _ => ?_) | ((fail_if_success refine g_lit rfl rfl rfl ?_); first | apply g_partM rfl rfl rfl | apply g_partMB rfl rfl rfl | fail) | refine s_k (hsm) ?_ | refine s_k (aw5) ?_)
      | refine gS ?_ | exact s_m | intro _)
    refine g_unpile hs6 (by (repeat (first | exact Sel.here | apply Sel.there)); first | done | fail) ?_
    exact s_r ()
  | 6, _, _ =>
    repeat (first
      | (refine g_ops ?_; first | refine sO ?_ | refine s_n (fun _ => ?_) | refine s_app (fun _ _ => ?_) | refine s_b0 (fun _ => ?_) | ((fail_if_success refine g_lit rfl rfl rfl ?_); first | apply g_partM rfl rfl rfl | apply g_partMB rfl rfl rfl | fail))
      | refine gS ?_ | exact s_m | intro _)
    refine g_toOwn (b := r6) (len := 1) (n := 2) (by (repeat (first | exact Sel.here | apply Sel.there)); first | done | fail) rfl rfl ?_
    refine g_pile (n := 2) (by (repeat (first | exact Sel.here | apply Sel.there)); first | done | fail) (by (repeat (first | exact Sel.here | apply Sel.there)); first | done | fail) (fun H1 hs1 hS => ?_)
    have hw : TAt H1 (stV n 6) (.iface 59 (.slice (some ⟨r6, 0, none⟩) 1 1)) := by
      refine .pairs [⟨kSplit, .iface 3 (int n)⟩] rfl (by simp) rfl (fun q hq => ?_) hS fun i a q h1 h2 => ?_
      · simp only [List.mem_cons, List.not_mem_nil, or_false] at hq
        subst hq; dsimp only; decide
      · match i with
        | 0 => cases h1; cases h2; exact .int hn
        | i + 1 => simp at h1
    have hof := of1 (hT.grow hs1).vs hw (.of (st_sz n 6 (by decide)))
    rw [(of_same (st_lk n 6 (by decide))).1, st_doc n 6 (by decide)] at hof
    repeat (first
      | (refine g_ops ?_; first | refine sO ?_ | refine s_n (fun _ => ?_) | refine s_app (fun _ _ => ?_) | refine s_b0 (fun _ => ?_) | ((fail_if_success refine g_lit rfl rfl rfl ?_); first | apply g_partM rfl rfl rfl | apply g_partMB rfl rfl rfl | fail) | refine s_c (hof) (fun _ _ => ?_))
      | refine gS ?_ | exact s_m | intro _)
    rename_i y1 hy1 b8
    obtain ⟨H5, c1⟩ := y1
    obtain ⟨hs5, hc1⟩ := hy1
    dsimp only at hs5 hc1 ⊢
    try dsimp only [List.cons_append, List.nil_append, List.append_eq]
    have hs6 := hs1.trans hs5
    have aw5 := awake28 (hT.grow hs6) (hE.grow hs6)
    repeat (first
      | (refine g_ops ?_; first | refine sO ?_ | refine s_n (fun _ => ?_) | refine s_app (fun _ _ => ?_) | refine s_b0 (fun _ => ?_) | ((fail_if_success refine g_lit rfl rfl rfl ?_); first | apply g_partM rfl rfl rfl | apply g_partMB rfl rfl rfl | fail) | refine s_k (aw5) ?_)
      | refine gS ?_ | exact s_m | intro _)
    refine g_unpile hs6 (by (repeat (first | exact Sel.here | apply Sel.there)); first | done | fail) ?_
    exact s_r ()
  | 7, _, _ =>
    repeat (first
      | (refine g_ops ?_; first | refine sO ?_ | refine s_n (fun _ => ?_) | refine s_app (fun _ _ => ?_) | refine s_b0 (fun _ => ?_) | ((fail_if_success refine g_lit rfl rfl rfl ?_); first | apply g_partM rfl rfl rfl | apply g_partMB rfl rfl rfl | fail))
      | refine gS ?_ | exact s_m | intro _)
    refine g_toOwn (b := r7) (len := 1) (n := 2) (by (repeat (first | exact Sel.here | apply Sel.there)); first | done | fail) rfl rfl ?_
    refine g_pile (n := 2) (by (repeat (first | exact Sel.here | apply Sel.there)); first | done | fail) (by (repeat (first | exact Sel.here | apply Sel.there)); first | done | fail) (fun H1 hs1 hS => ?_)
    have hw : TAt H1 (stV n 7) (.iface 59 (.slice (some ⟨r7, 0, none⟩) 1 1)) := by
      refine .pairs [⟨kSplit, .nilIface⟩] rfl (by simp) rfl (fun q hq => ?_) hS fun i a q h1 h2 => ?_
      · simp only [List.mem_cons, List.not_mem_nil, or_false] at hq
        subst hq; dsimp only; decide
      · match i with
        | 0 => cases h1; cases h2; exact .nil
        | i + 1 => simp at h1
    have hof := of1 (hT.grow hs1).vs hw (.of (st_sz n 7 (by decide)))
    rw [(of_same (st_lk n 7 (by decide))).1, st_doc n 7 (by decide)] at hof
    repeat (first
      | (refine g_ops ?_; first | refine sO ?_ | refine s_n (fun _ => ?_) | refine s_app (fun _ _ => ?_) | refine s_b0 (fun _ => ?_) | ((fail_if_success refine g_lit rfl rfl rfl ?_); first | apply g_partM rfl rfl rfl | apply g_partMB rfl rfl rfl | fail) | refine s_c (hof) (fun _ _ => ?_))
      | refine gS ?_ | exact s_m | intro _)
    rename_i y1 hy1 b8
    obtain ⟨H5, c1⟩ := y1
    obtain ⟨hs5, hc1⟩ := hy1
    dsimp only at hs5 hc1 ⊢
    try dsimp only [List.cons_append, List.nil_append, List.append_eq]
    have hs6 := hs1.trans hs5
    have aw5 := awake28 (hT.grow hs6) (hE.grow hs6)
    have hz : ofC (stV n 7) = {} := st_zero n 7 (by decide) rfl
    rw [hz] at hc1
    have hsm := same28 hc1 (ClAt.zero (H := H5)) (fun _ h => by cases h) (Nat.zero_le _)
    dsimp only [Cl.cells] at hsm
    repeat (first
      | (refine g_ops ?_; first | refine sO ?_ | refine s_n (fun _ => ?_) | refine s_app (fun _ _ => ?_) | refine s_b0 (fun _ => ?_) | ((fail_if_success refine g_lit rfl rfl rfl ?_); first | apply g_partM rfl rfl rfl | apply g_partMB rfl rfl rfl | fail) | refine s_k (hsm) ?_ | refine s_k (aw5) ?_)
      | refine gS ?_ | exact s_m | intro _)
    refine g_unpile hs6 (by (repeat (first | exact Sel.here | apply Sel.there)); first | done | fail) ?_
    exact s_r ()
  | 8, _, _ =>
    repeat (first
      | (refine g_ops ?_; first | refine sO ?_ | refine s_n (fun _ => ?_) | refine s_app (fun _ _ => ?_) | refine s_b0 (fun _ => ?_) | ((fail_if_success refine g_lit rfl rfl rfl ?_); first | apply g_partM rfl rfl rfl | apply g_partMB rfl rfl rfl | fail))
      | refine gS ?_ | exact s_m | intro _)
    refine g_pile (p := some ⟨r8, 0, none⟩) (n := 2) (by (repeat (first | exact Sel.here | apply Sel.there)); first | done | fail) (by (repeat (first | exact Sel.here | apply Sel.there)); first | done | fail) (fun H1 hs1 hS => ?_)
    have hw : TAt H1 (stV n 8) (.iface 59 (.slice (some ⟨r8, 0, none⟩) 0 0)) := .pairs [] rfl (by simp) rfl (fun q hq => by cases hq) hS fun i a q h1 h2 => by simp at h1
    have hof := of1 (hT.grow hs1).vs hw (.of (st_sz n 8 (by decide)))
    rw [(of_same (st_lk n 8 (by decide))).1, st_doc n 8 (by decide)] at hof
    repeat (first
      | (refine g_ops ?_; first | refine sO ?_ | refine s_n (fun _ => ?_) | refine s_app (fun _ _ => ?_) | refine s_b0 (fun _ => ?_) | ((fail_if_success refine g_lit rfl rfl rfl ?_); first | apply g_partM rfl rfl rfl | apply g_partMB rfl rfl rfl | fail) | refine s_c (hof) (fun _ _ => ?_))
      | refine gS ?_ | exact s_m | intro _)
    rename_i y1 hy1 b8
    obtain ⟨H5, c1⟩ := y1
    obtain ⟨hs5, hc1⟩ := hy1
    dsimp only at hs5 hc1 ⊢
    try dsimp only [List.cons_append, List.nil_append, List.append_eq]
    have hs6 := hs1.trans hs5
    have aw5 := awake28 (hT.grow hs6) (hE.grow hs6)
    have hz : ofC (stV n 8) = {} := st_zero n 8 (by decide) rfl
    rw [hz] at hc1
    have hsm := same28 hc1 (ClAt.zero (H := H5)) (fun _ h => by cases h) (Nat.zero_le _)
    dsimp only [Cl.cells] at hsm
    repeat (first
      | (refine g_ops ?_; first | refine sO ?_ | refine s_n (fun _ => ?_) | refine s_app (fun _ _ => ?_) | refine s_b0 (fun _ => ?_) | ((fail_if_success refine g_lit rfl rfl rfl ?_); first | apply g_partM rfl rfl rfl | apply g_partMB rfl rfl rfl | fail) | refine s_k (hsm) ?_ | refine s_k (aw5) ?_)
      | refine gS ?_ | exact s_m | intro _)
    refine g_unpile hs6 (by (repeat (first | exact Sel.here | apply Sel.there)); first | done | fail) ?_
    exact s_r ()
  | 9, _, _ =>
    repeat (first
      | (refine g_ops ?_; first | refine sO ?_ | refine s_n (fun _ => ?_) | refine s_app (fun _ _ => ?_) | refine s_b0 (fun _ => ?_) | ((fail_if_success refine g_lit rfl rfl rfl ?_); first | apply g_partM rfl rfl rfl | apply g_partMB rfl rfl rfl | fail))
      | refine gS ?_ | exact s_m | intro _)
    refine g_pile (p := some ⟨r9, 0, none⟩) (n := 1) (by (repeat (first | exact Sel.here | apply Sel.there)); first | done | fail) (by (repeat (first | exact Sel.here | apply Sel.there)); first | done | fail) (fun H1 hs1 hS => ?_)
    have hw : TAt H1 (stV n 9) (.iface 60 (.slice (some ⟨r9, 0, none⟩) 0 0)) := .list [] rfl (by simp) hS fun i a q h1 h2 => by simp at h1
    have hof := of1 (hT.grow hs1).vs hw (.of (st_sz n 9 (by decide)))
    rw [(of_same (st_lk n 9 (by decide))).1, st_doc n 9 (by decide)] at hof
    repeat (first
      | (refine g_ops ?_; first | refine sO ?_ | refine s_n (fun _ => ?_) | refine s_app (fun _ _ => ?_) | refine s_b0 (fun _ => ?_) | ((fail_if_success refine g_lit rfl rfl rfl ?_); first | apply g_partM rfl rfl rfl | apply g_partMB rfl rfl rfl | fail) | refine s_c (hof) (fun _ _ => ?_))
      | refine gS ?_ | exact s_m | intro _)
    rename_i y1 hy1 b8
    obtain ⟨H5, c1⟩ := y1
    obtain ⟨hs5, hc1⟩ := hy1
    dsimp only at hs5 hc1 ⊢
    try dsimp only [List.cons_append, List.nil_append, List.append_eq]
    have hs6 := hs1.trans hs5
    have aw5 := awake28 (hT.grow hs6) (hE.grow hs6)
    have hz : ofC (stV n 9) = {} := st_zero n 9 (by decide) rfl
    rw [hz] at hc1
    have hsm := same28 hc1 (ClAt.zero (H := H5)) (fun _ h => by cases h) (Nat.zero_le _)
    dsimp only [Cl.cells] at hsm
    repeat (first
      | (refine g_ops ?_; first | refine sO ?_ | refine s_n (fun _ => ?_) | refine s_app (fun _ _ => ?_) | refine s_b0 (fun _ => ?_) | ((fail_if_success refine g_lit rfl rfl rfl ?_); first | apply g_partM rfl rfl rfl | apply g_partMB rfl rfl rfl | fail) | refine s_k (hsm) ?_ | refine s_k (aw5) ?_)
      | refine gS ?_ | exact s_m | intro _)
    refine g_unpile hs6 (by (repeat (first | exact Sel.here | apply Sel.there)); first | done | fail) ?_
    exact s_r ()
  | 10, _, _ =>
    repeat (first
      | (refine g_ops ?_; first | refine sO ?_ | refine s_n (fun _ => ?_) | refine s_app (fun _ _ => ?_) | refine s_b0 (fun _ => ?_) | ((fail_if_success refine g_lit rfl rfl rfl ?_); first | apply g_partM rfl rfl rfl | apply g_partMB rfl rfl rfl | fail))
      | refine gS ?_ | exact s_m | intro _)
    have hs1 : HP.sub H H := HP.sub.refl _
    have hw : TAt H (stV n 10) (.iface 9 (.string kMap)) := .text (by decide)
    have hof := of1 (hT.grow hs1).vs hw (.of (st_sz n 10 (by decide)))
    rw [(of_same (st_lk n 10 (by decide))).1, st_doc n 10 (by decide)] at hof
    repeat (first
      | (refine g_ops ?_; first | refine sO ?_ | refine s_n (fun _ => ?_) | refine s_app (fun _ _ => ?_) | refine s_b0 (fun _ => ?_) | ((fail_if_success refine g_lit rfl rfl rfl ?_); first | apply g_partM rfl rfl rfl | apply g_partMB rfl rfl rfl | fail) | refine s_c (hof) (fun _ _ => ?_))
      | refine gS ?_ | exact s_m | intro _)
    rename_i y1 hy1 b8
    obtain ⟨H5, c1⟩ := y1
    obtain ⟨hs5, hc1⟩ := hy1
    dsimp only at hs5 hc1 ⊢
    try dsimp only [List.cons_append, List.nil_append, List.append_eq]
    have hs6 := hs1.trans hs5
    have aw5 := awake28 (hT.grow hs6) (hE.grow hs6)
    have hz : ofC (stV n 10) = {} := st_zero n 10 (by decide) rfl
    rw [hz] at hc1
    have hsm := same28 hc1 (ClAt.zero (H := H5)) (fun _ h => by cases h) (Nat.zero_le _)
    dsimp only [Cl.cells] at hsm
    repeat (first
      | (refine g_ops ?_; first | refine sO ?_ | refine s_n (fun _ => ?_) | refine s_app (fun _ _ => ?_) | refine s_b0 (fun _ => ?_) | ((fail_if_success refine g_lit rfl rfl rfl ?_); first | apply g_partM rfl rfl rfl | apply g_partMB rfl rfl rfl | fail) | refine s_k (hsm) ?_ | refine s_k (aw5) ?_)
      | refine gS ?_ | exact s_m | intro _)
    refine g_unpile hs6 (by (repeat (first | exact Sel.here | apply Sel.there)); first | done | fail) ?_
    exact s_r ()
  | 11, _, _ =>
    repeat (first
      | (refine g_ops ?_; first | refine sO ?_ | refine s_n (fun _ => ?_) | refine s_app (fun _ _ => ?_) | refine s_b0 (fun _ => ?_) | ((fail_if_success refine g_lit rfl rfl rfl ?_); first | apply g_partM rfl rfl rfl | apply g_partMB rfl rfl rfl | fail))
      | refine gS ?_ | exact s_m | intro _)
    have hs1 : HP.sub H H := HP.sub.refl _
    have hw : TAt H (stV n 11) .nilIface := .nil
    have hof := of1 (hT.grow hs1).vs hw (.of (st_sz n 11 (by decide)))
    rw [(of_same (st_lk n 11 (by decide))).1, st_doc n 11 (by decide)] at hof
    repeat (first
      | (refine g_ops ?_; first | refine sO ?_ | refine s_n (fun _ => ?_) | refine s_app (fun _ _ => ?_) | refine s_b0 (fun _ => ?_) | ((fail_if_success refine g_lit rfl rfl rfl ?_); first | apply g_partM rfl rfl rfl | apply g_partMB rfl rfl rfl | fail) | refine s_c (hof) (fun _ _ => ?_))
      | refine gS ?_ | exact s_m | intro _)
    rename_i y1 hy1 b8
    obtain ⟨H5, c1⟩ := y1
    obtain ⟨hs5, hc1⟩ := hy1
    dsimp only at hs5 hc1 ⊢
    try dsimp only [List.cons_append, List.nil_append, List.append_eq]
    have hs6 := hs1.trans hs5
    have aw5 := awake28 (hT.grow hs6) (hE.grow hs6)
    have hz : ofC (stV n 11) = {} := st_zero n 11 (by decide) rfl
    rw [hz] at hc1
    have hsm := same28 hc1 (ClAt.zero (H := H5)) (fun _ h => by cases h) (Nat.zero_le _)
    dsimp only [Cl.cells] at hsm
    repeat (first
      | (refine g_ops ?_; first | refine sO ?_ | refine s_n (fun _ => ?_) | refine s_app (fun _ _ => ?_) | refine s_b0 (fun _ => ?_) | ((fail_if_success refine g_lit rfl rfl rfl ?_); first | apply g_partM rfl rfl rfl | apply g_partMB rfl rfl rfl | fail) | refine s_k (hsm) ?_ | refine s_k (aw5) ?_)
      | refine gS ?_ | exact s_m | intro _)
    refine g_unpile hs6 (by (repeat (first | exact Sel.here | apply Sel.there)); first | done | fail) ?_
    exact s_r ()
  | 12, _, _ =>
    repeat (first
      | (refine g_ops ?_; first | refine sO ?_ | refine s_n (fun _ => ?_) | refine s_app (fun _ _ => ?_) | refine s_b0 (fun _ => ?_) | ((fail_if_success refine g_lit rfl rfl rfl ?_); first | apply g_partM rfl rfl rfl | apply g_partMB rfl rfl rfl | fail))
      | refine gS ?_ | exact s_m | intro _)
    refine g_toOwn (b := ra) (len := 3) (n := 1) (by (repeat (first | exact Sel.here | apply Sel.there)); first | done | fail) rfl rfl ?_
    refine g_pile (n := 1) (by (repeat (first | exact Sel.here | apply Sel.there)); first | done | fail) (by (repeat (first | exact Sel.here | apply Sel.there)); first | done | fail) (fun Ha hsa hSa => ?_)
    have hwa : TAt Ha (listV [textV tA, intV (-1), textV tX]) (.iface 60 (.slice (some ⟨ra, 0, none⟩) 3 3)) := by
      refine .list [.iface 9 (.string tA), .iface 3 (int (-1)), .iface 9 (.string tX)] rfl (by simp) hSa fun i a q h1 h2 => ?_
      match i with
      | 0 => cases h1; cases h2; exact .text (by decide)
      | 1 => cases h1; cases h2; exact .int ⟨by decide, by decide⟩
      | 2 => cases h1; cases h2; exact .text (by decide)
      | i + 3 => simp at h1
    refine g_toOwn (b := rb) (len := 1) (n := 1) (by (repeat (first | exact Sel.here | apply Sel.there)); first | done | fail) rfl rfl ?_
    refine g_pile (n := 1) (by (repeat (first | exact Sel.here | apply Sel.there)); first | done | fail) (by (repeat (first | exact Sel.here | apply Sel.there)); first | done | fail) (fun Hb hsb hSb => ?_)
    have hwb := TAt.one_list (hwa.grow hsb) hSb
    refine g_toOwn (b := r12) (len := 2) (n := 2) (by (repeat (first | exact Sel.here | apply Sel.there)); first | done | fail) rfl rfl ?_
    refine g_pile (n := 2) (by (repeat (first | exact Sel.here | apply Sel.there)); first | done | fail) (by (repeat (first | exact Sel.here | apply Sel.there)); first | done | fail) (fun H1 hsc hS => ?_)
    have hs1 := (hsa.trans hsb).trans hsc
    have hw : TAt H1 (stV n 12) (.iface 59 (.slice (some ⟨r12, 0, none⟩) 2 2)) := by
      refine .pairs [⟨kAppend, .iface 60 (.slice (some ⟨rb, 0, none⟩) 1 1)⟩, ⟨kKey, .iface 9 (.string tNone)⟩] rfl (by simp) rfl (fun q hq => ?_) hS fun i a q h1 h2 => ?_
      · simp only [List.mem_cons, List.not_mem_nil, or_false] at hq
        rcases hq with rfl | rfl <;> (dsimp only; decide)
      · match i with
        | 0 => cases h1; cases h2; exact hwb.grow hsc
        | 1 => cases h1; cases h2; exact .text (by decide)
        | i + 2 => simp at h1
    have hof := of1 (hT.grow hs1).vs hw (.of (st_sz n 12 (by decide)))
    rw [(of_same (st_lk n 12 (by decide))).1, st_doc n 12 (by decide)] at hof
    repeat (first
      | (refine g_ops ?_; first | refine sO ?_ | refine s_n (fun _ => ?_) | refine s_app (fun _ _ => ?_) | refine s_b0 (fun _ => ?_) | ((fail_if_success refine g_lit rfl rfl rfl ?_); first | apply g_partM rfl rfl rfl | apply g_partMB rfl rfl rfl | fail) | refine s_c (hof) (fun _ _ => ?_))
      | refine gS ?_ | exact s_m | intro _)
    rename_i y1 hy1 b8
    obtain ⟨H5, c1⟩ := y1
    obtain ⟨hs5, hc1⟩ := hy1
    dsimp only at hs5 hc1 ⊢
    try dsimp only [List.cons_append, List.nil_append, List.append_eq]
    have hs6 := hs1.trans hs5
    have aw5 := awake28 (hT.grow hs6) (hE.grow hs6)
    repeat (first
      | (refine g_ops ?_; first | refine sO ?_ | refine s_n (fun _ => ?_) | refine s_app (fun _ _ => ?_) | refine s_b0 (fun _ => ?_) | ((fail_if_success refine g_lit rfl rfl rfl ?_); first | apply g_partM rfl rfl rfl | apply g_partMB rfl rfl rfl | fail) | refine s_k (aw5) ?_)
      | refine gS ?_ | exact s_m | intro _)
    refine g_unpile hs6 (by (repeat (first | exact Sel.here | apply Sel.there)); first | done | fail) ?_
    exact s_r ()
  | 13, _, _ =>
    repeat (first
      | (refine g_ops ?_; first | refine sO ?_ | refine s_n (fun _ => ?_) | refine s_app (fun _ _ => ?_) | refine s_b0 (fun _ => ?_) | ((fail_if_success refine g_lit rfl rfl rfl ?_); first | apply g_partM rfl rfl rfl | apply g_partMB rfl rfl rfl | fail))
      | refine gS ?_ | exact s_m | intro _)
    refine g_toOwn (b := rc) (len := 2) (n := 1) (by (repeat (first | exact Sel.here | apply Sel.there)); first | done | fail) rfl rfl ?_
    refine g_pile (n := 1) (by (repeat (first | exact Sel.here | apply Sel.there)); first | done | fail) (by (repeat (first | exact Sel.here | apply Sel.there)); first | done | fail) (fun Ha hsa hSa => ?_)
    have hwa : TAt Ha (listV [textV tA, textV tX]) (.iface 60 (.slice (some ⟨rc, 0, none⟩) 2 2)) := by
      refine .list [.iface 9 (.string tA), .iface 9 (.string tX)] rfl (by simp) hSa fun i a q h1 h2 => ?_
      match i with
      | 0 => cases h1; cases h2; exact .text (by decide)
      | 1 => cases h1; cases h2; exact .text (by decide)
      | i + 2 => simp at h1
    refine g_toOwn (b := rd) (len := 1) (n := 1) (by (repeat (first | exact Sel.here | apply Sel.there)); first | done | fail) rfl rfl ?_
    refine g_pile (n := 1) (by (repeat (first | exact Sel.here | apply Sel.there)); first | done | fail) (by (repeat (first | exact Sel.here | apply Sel.there)); first | done | fail) (fun Hb hsb hSb => ?_)
    have hwb := TAt.one_list (hwa.grow hsb) hSb
    refine g_toOwn (b := r13) (len := 2) (n := 2) (by (repeat (first | exact Sel.here | apply Sel.there)); first | done | fail) rfl rfl ?_
    refine g_pile (n := 2) (by (repeat (first | exact Sel.here | apply Sel.there)); first | done | fail) (by (repeat (first | exact Sel.here | apply Sel.there)); first | done | fail) (fun H1 hsc hS => ?_)
    have hs1 := (hsa.trans hsb).trans hsc
    have hw : TAt H1 (stV n 13) (.iface 59 (.slice (some ⟨r13, 0, none⟩) 2 2)) := by
      refine .pairs [⟨kAppend, .iface 60 (.slice (some ⟨rd, 0, none⟩) 1 1)⟩, ⟨kKey, .iface 9 (.string tNone)⟩] rfl (by simp) rfl (fun q hq => ?_) hS fun i a q h1 h2 => ?_
      · simp only [List.mem_cons, List.not_mem_nil, or_false] at hq
        rcases hq with rfl | rfl <;> (dsimp only; decide)
      · match i with
        | 0 => cases h1; cases h2; exact hwb.grow hsc
        | 1 => cases h1; cases h2; exact .text (by decide)
        | i + 2 => simp at h1
    have hof := of1 (hT.grow hs1).vs hw (.of (st_sz n 13 (by decide)))
    rw [(of_same (st_lk n 13 (by decide))).1, st_doc n 13 (by decide)] at hof
    repeat (first
      | (refine g_ops ?_; first | refine sO ?_ | refine s_n (fun _ => ?_) | refine s_app (fun _ _ => ?_) | refine s_b0 (fun _ => ?_) | ((fail_if_success refine g_lit rfl rfl rfl ?_); first | apply g_partM rfl rfl rfl | apply g_partMB rfl rfl rfl | fail) | refine s_c (hof) (fun _ _ => ?_))
      | refine gS ?_ | exact s_m | intro _)
    rename_i y1 hy1 b8
    obtain ⟨H5, c1⟩ := y1
    obtain ⟨hs5, hc1⟩ := hy1
    dsimp only at hs5 hc1 ⊢
    try dsimp only [List.cons_append, List.nil_append, List.append_eq]
    have hs6 := hs1.trans hs5
    have aw5 := awake28 (hT.grow hs6) (hE.grow hs6)
    have hz : ofC (stV n 13) = {} := st_zero n 13 (by decide) rfl
    rw [hz] at hc1
    have hsm := same28 hc1 (ClAt.zero (H := H5)) (fun _ h => by cases h) (Nat.zero_le _)
    dsimp only [Cl.cells] at hsm
    repeat (first
      | (refine g_ops ?_; first | refine sO ?_ | refine s_n (fun _ => ?_) | refine s_app (fun _ _ => ?_) | refine s_b0 (fun _ => ?_) | ((fail_if_success refine g_lit rfl rfl rfl ?_); first | apply g_partM rfl rfl rfl | apply g_partMB rfl rfl rfl | fail) | refine s_k (hsm) ?_ | refine s_k (aw5) ?_)
      | refine gS ?_ | exact s_m | intro _)
    refine g_unpile hs6 (by (repeat (first | exact Sel.here | apply Sel.there)); first | done | fail) ?_
    exact s_r ()
  | 14, _, _ =>
    repeat (first
      | (refine g_ops ?_; first | refine sO ?_ | refine s_n (fun _ => ?_) | refine s_app (fun _ _ => ?_) | refine s_b0 (fun _ => ?_) | ((fail_if_success refine g_lit rfl rfl rfl ?_); first | apply g_partM rfl rfl rfl | apply g_partMB rfl rfl rfl | fail))
      | refine gS ?_ | exact s_m | intro _)
    refine g_toOwn (b := re) (len := 1) (n := 1) (by (repeat (first | exact Sel.here | apply Sel.there)); first | done | fail) rfl rfl ?_
    refine g_pile (n := 1) (by (repeat (first | exact Sel.here | apply Sel.there)); first | done | fail) (by (repeat (first | exact Sel.here | apply Sel.there)); first | done | fail) (fun Hb hsb hSb => ?_)
    have hwb := TAt.one_list (x := textV tA) (.text (by decide)) hSb
    refine g_toOwn (b := r14) (len := 2) (n := 2) (by (repeat (first | exact Sel.here | apply Sel.there)); first | done | fail) rfl rfl ?_
    refine g_pile (n := 2) (by (repeat (first | exact Sel.here | apply Sel.there)); first | done | fail) (by (repeat (first | exact Sel.here | apply Sel.there)); first | done | fail) (fun H1 hsc hS => ?_)
    have hs1 := hsb.trans hsc
    have hw : TAt H1 (stV n 14) (.iface 59 (.slice (some ⟨r14, 0, none⟩) 2 2)) := by
      refine .pairs [⟨kAppend, .iface 60 (.slice (some ⟨re, 0, none⟩) 1 1)⟩, ⟨kKey, .iface 9 (.string tNone)⟩] rfl (by simp) rfl (fun q hq => ?_) hS fun i a q h1 h2 => ?_
      · simp only [List.mem_cons, List.not_mem_nil, or_false] at hq
        rcases hq with rfl | rfl <;> (dsimp only; decide)
      · match i with
        | 0 => cases h1; cases h2; exact hwb.grow hsc
        | 1 => cases h1; cases h2; exact .text (by decide)
        | i + 2 => simp at h1
    have hof := of1 (hT.grow hs1).vs hw (.of (st_sz n 14 (by decide)))
    rw [(of_same (st_lk n 14 (by decide))).1, st_doc n 14 (by decide)] at hof
    repeat (first
      | (refine g_ops ?_; first | refine sO ?_ | refine s_n (fun _ => ?_) | refine s_app (fun _ _ => ?_) | refine s_b0 (fun _ => ?_) | ((fail_if_success refine g_lit rfl rfl rfl ?_); first | apply g_partM rfl rfl rfl | apply g_partMB rfl rfl rfl | fail) | refine s_c (hof) (fun _ _ => ?_))
      | refine gS ?_ | exact s_m | intro _)
    rename_i y1 hy1 b8
    obtain ⟨H5, c1⟩ := y1
    obtain ⟨hs5, hc1⟩ := hy1
    dsimp only at hs5 hc1 ⊢
    try dsimp only [List.cons_append, List.nil_append, List.append_eq]
    have hs6 := hs1.trans hs5
    have aw5 := awake28 (hT.grow hs6) (hE.grow hs6)
    have hz : ofC (stV n 14) = {} := st_zero n 14 (by decide) rfl
    rw [hz] at hc1
    have hsm := same28 hc1 (ClAt.zero (H := H5)) (fun _ h => by cases h) (Nat.zero_le _)
    dsimp only [Cl.cells] at hsm
    repeat (first
      | (refine g_ops ?_; first | refine sO ?_ | refine s_n (fun _ => ?_) | refine s_app (fun _ _ => ?_) | refine s_b0 (fun _ => ?_) | ((fail_if_success refine g_lit rfl rfl rfl ?_); first | apply g_partM rfl rfl rfl | apply g_partMB rfl rfl rfl | fail) | refine s_k (hsm) ?_ | refine s_k (aw5) ?_)
      | refine gS ?_ | exact s_m | intro _)
    refine g_unpile hs6 (by (repeat (first | exact Sel.here | apply Sel.there)); first | done | fail) ?_
    exact s_r ()
end Go.Proofs.YtaahibcibgljbaaDoor
