/- Contracts and laws that the proof stands on. -/
import Derived.Test.YtaahibcibgljbaaGreatDoorCallParses22
set_option linter.unusedSimpArgs false
set_option linter.unusedVariables false
namespace Go.Proofs.YtaahibcibgljbaaGreatDoor
open Go.Sl facts
def tk (L : List UInt8) (c : UInt8) (σ : RS) : RS := if isT L c σ = true then adv σ 1 else ⟨σ.at_, σ.n, true⟩
def nx (L : List UInt8) (σ : RS) : UInt8 := if σ.bad = false ∧ σ.at_ < L.length then L.getD σ.at_ 0 else 0
def qd (L : List UInt8) : Nat → Nat → Nat × Bool
  | 0, i => (i, true)
  | f + 1, i => if i < L.length ∧ L.getD i 0 = 34 then (i, false) else if L.length ≤ i + (if i < L.length ∧ L.getD i 0 = 92 then 2 else 1) then (i + (if i < L.length ∧ L.getD i 0 = 92 then 2 else 1), true) else qd L f (i + (if i < L.length ∧ L.getD i 0 = 92 then 2 else 1))
def qt (L : List UInt8) (σ : RS) : RS := if (tk L 34 σ).bad = true then tk L 34 σ else ⟨(qd L (L.length + 1) (tk L 34 σ).at_).1, σ.n, (qd L (L.length + 1) (tk L 34 σ).at_).2⟩
def quotedT (L : List UInt8) (σ : RS) : ByteArray × RS :=
  if (tk L 34 (qt L σ)).bad = true then (ByteArray.empty, tk L 34 (qt L σ))
  else ((unqS ((L.drop σ.at_).take ((tk L 34 (qt L σ)).at_ - σ.at_))).1, ⟨(tk L 34 (qt L σ)).at_, σ.n, !(unqS ((L.drop σ.at_).take ((tk L 34 (qt L σ)).at_ - σ.at_))).2⟩)
abbrev rdD (b : Nat) (L : List UInt8) (σ : RS) : Chunk := .row b [.string (txt L), int σ.at_, .bool σ.bad, int σ.n] 65
theorem tk_at (L : List UInt8) (c : UInt8) (σ : RS) : (tk L c σ).n = σ.n ∧ ((tk L c σ).bad = false → isT L c σ = true ∧ tk L c σ = adv σ 1 ∧ σ.at_ < L.length ∧ σ.bad = false) ∧ ((tk L c σ).bad = true → tk L c σ = ⟨σ.at_, σ.n, true⟩) := by
  unfold tk
  cases h : isT L c σ with
  | true =>
    have := isT_at h
    rw [if_pos rfl]
    exact ⟨rfl, fun _ => ⟨rfl, rfl, this.2.1, this.1⟩, fun hb => by have : σ.bad = true := hb; simp_all⟩
  | false =>
    rw [if_neg Bool.false_ne_true]
    exact ⟨rfl, fun h => (by cases h), fun _ => rfl⟩
theorem qd_at (L : List UInt8) : ∀ f i, i ≤ L.length → L.length < i + f → i ≤ (qd L f i).1 ∧ (qd L f i).1 ≤ L.length + 1 ∧ ((qd L f i).2 = false → (qd L f i).1 < L.length)
  | 0, i, h, hf => by omega
  | f + 1, i, h, hf => by
    rw [qd]
    obtain ⟨s, hs⟩ : ∃ s : Nat, s = if i < L.length ∧ L.getD i 0 = 92 then 2 else 1 := ⟨_, rfl⟩
    have h3 : 1 ≤ s ∧ s ≤ 2 ∧ (s = 2 → i < L.length) := by
      rw [hs]
      by_cases h9 : i < L.length ∧ L.getD i 0 = 92
      · rw [if_pos h9]; exact ⟨by decide, by decide, fun _ => h9.1⟩
      · rw [if_neg h9]; exact ⟨by decide, by decide, fun h => by cases h⟩
    rw [← hs]
    by_cases h1 : i < L.length ∧ L.getD i 0 = 34
    · rw [if_pos h1]; exact ⟨Nat.le_refl _, by dsimp only; omega, fun _ => h1.1⟩
    rw [if_neg h1]
    by_cases h2 : L.length ≤ i + s
    · rw [if_pos h2]
      exact ⟨Nat.le_add_right _ _, by dsimp only; omega, fun h => by cases h⟩
    · rw [if_neg h2]
      have := qd_at L f (i + s) (by omega) (by omega)
      exact ⟨by omega, this.2⟩
attribute [local irreducible] Code.wp wpList Exit.then Exit.inBlock bodyPost Back MidQ G GP QStep VStep CStep SStep Does Post Reads
theorem takes_ (b : Nat) (L : List UInt8) (hL : L.length ≤ 1000000000) (c : UInt8) (σ : RS) (hat : σ.at_ ≤ L.length + 1) : Does Tryz.prog 38 [ptr b, u8v c] [rdD b L σ] (X := Unit) (fun _ => .tuple #[]) (fun _ => [rdD b L (tk L c σ)]) (fun _ => True) := by
  have hz : (txt L).size = L.length := txt_size L
  obtain ⟨i, n, bad⟩ := σ
  dsimp only [rdD] at hat ⊢
  refine fn_intro Tryz.func38 rfl Tryz.ntmps38 rfl (by simp only [argFr, Nat.zero_add, Nat.reduceAdd]; rfl) (fun Γ => ?_)
  repeat (first
    | (refine g_ops ?_; first | refine sO ?_ | refine s_n (fun _ => ?_) | refine s_app (fun _ _ => ?_) | refine s_b0 (fun _ => ?_) | ((fail_if_success refine g_lit rfl rfl rfl ?_); first | apply g_partM rfl rfl rfl | apply g_partMB rfl rfl rfl | fail))
    | refine gS ?_ | exact s_m | intro _)
  refine g_cutX (X := Unit) (fun _ => [(0, ptr b), (1, u8v c), (32, .bool (!isT L c ⟨i, n, bad⟩))]) (fun _ => [.row b [.string (txt L), int i, .bool bad, int n] 65]) (fun _ => True) ?_ (fun _ _ => ?_)
  · refine g_draw (.take 0 (.take 1 (.take 2 (.see 3 [] (.take 4 (.take 5 (.take 6 (.take 7 (.see 8 [] (.take 9 (.take 10 (.take 11 (.see 12 [] (.take 13 (.take 14 (.take 15 (.take 16 (.take 17 (.take 18 (.take 19 (.see 20 [] (.take 21 (.take 22 (.take 23 (.see 24 [] (.take 25 (.take 26 (.take 27 (.take 28 .done))))))))))))))))))))))))))))) (by kernel_rfl) (C := [.row b [.string (txt L), int i, .bool bad, int n] 65]) (by (repeat (first | exact Take.nil | apply Take.cons | exact Sel.here | apply Sel.there)); first | done | fail) (fun m hd hk => ?_)
    cases bad
    · repeat (first
        | (refine gp_take ?_; first | refine pT ?_ | ((fail_if_success refine gp_lit rfl rfl rfl rfl ?_); first | apply gp_guard_dec rfl rfl rfl rfl | apply gp_guard rfl rfl rfl rfl | fail))
        | (refine gp_see ?_; first | refine p_f ?_ | refine pS ?_ | ((fail_if_success refine gp_lit rfl rfl rfl rfl ?_); first | apply gp_guard_dec rfl rfl rfl rfl | apply gp_guard rfl rfl rfl rfl | fail))
        | (refine gp_one ?_; first | refine pO ?_ | refine p_n (fun _ => ?_) | refine p_app (fun _ _ => ?_) | refine p_b0 (fun _ => ?_) | ((fail_if_success refine gp_lit rfl rfl rfl rfl ?_); first | apply gp_guard_dec rfl rfl rfl rfl | apply gp_guard rfl rfl rfl rfl | fail))
        | refine gp_two ?_ ?_ | refine gp_done hd hk ?_ | intro _ | refine p_ta hd hk (fun _ _ _ hd hk => ?_) | refine p_ts hd hk (fun _ hd hk => ?_))
      by_cases h1 : i < L.length
      · refine gp_as 20 (v' := .bool false) rfl (congrArg Value.bool (decide_eq_false (by rw [hz]; omega))) ?_
        repeat (first
          | (refine gp_take ?_; first | refine pT ?_ | ((fail_if_success refine gp_lit rfl rfl rfl rfl ?_); first | apply gp_guard_dec rfl rfl rfl rfl | apply gp_guard rfl rfl rfl rfl | fail))
          | (refine gp_see ?_; first | refine p_f ?_ | refine pS ?_ | ((fail_if_success refine gp_lit rfl rfl rfl rfl ?_); first | apply gp_guard_dec rfl rfl rfl rfl | apply gp_guard rfl rfl rfl rfl | fail))
          | (refine gp_one ?_; first | refine pO ?_ | refine p_n (fun _ => ?_) | refine p_app (fun _ _ => ?_) | refine p_b0 (fun _ => ?_) | ((fail_if_success refine gp_lit rfl rfl rfl rfl ?_); first | apply gp_guard_dec rfl rfl rfl rfl | apply gp_guard rfl rfl rfl rfl | fail))
          | refine gp_two ?_ ?_ | refine gp_done hd hk ?_ | intro _ | refine p_ta hd hk (fun _ _ _ hd hk => ?_) | refine p_ts hd hk (fun _ hd hk => ?_))
        refine p_q (q := by intro Δ; exact qs_indexStr (i := i) inferInstance rfl rfl (by rw [hz]; omega)) ?_
        refine gp_as 29 (v' := u8v (L.getD i 0)) rfl (by rw [at8_txt]) ?_
        repeat (first
          | (refine gp_take ?_; first | refine pT ?_ | ((fail_if_success refine gp_lit rfl rfl rfl rfl ?_); first | apply gp_guard_dec rfl rfl rfl rfl | apply gp_guard rfl rfl rfl rfl | fail))
          | (refine gp_see ?_; first | refine p_f ?_ | refine pS ?_ | ((fail_if_success refine gp_lit rfl rfl rfl rfl ?_); first | apply gp_guard_dec rfl rfl rfl rfl | apply gp_guard rfl rfl rfl rfl | fail))
          | (refine gp_one ?_; first | refine pO ?_ | refine p_n (fun _ => ?_) | refine p_app (fun _ _ => ?_) | refine p_b0 (fun _ => ?_) | ((fail_if_success refine gp_lit rfl rfl rfl rfl ?_); first | apply gp_guard_dec rfl rfl rfl rfl | apply gp_guard rfl rfl rfl rfl | fail))
          | refine gp_two ?_ ?_ | refine gp_done hd hk ?_ | intro _ | refine p_ta hd hk (fun _ _ _ hd hk => ?_) | refine p_ts hd hk (fun _ hd hk => ?_))
        refine g_as 32 (v' := .bool (!isT L c ⟨i, n, false⟩)) rfl (congrArg Value.bool (by
          unfold isT
          simp only [Bool.not_false, Bool.true_and]
          rw [Bool.eq_iff_iff]
          simp only [decide_eq_true_eq, Bool.not_eq_true', decide_eq_false_iff_not]
          exact ⟨fun h h2 => h (by rw [h2.2]), fun h h2 => h ⟨h1, UInt8.toNat_inj.1 (by omega)⟩⟩)) ?_
        exact gM () trivial
      · refine gp_as 20 (v' := .bool true) rfl (congrArg Value.bool (decide_eq_true (by rw [hz]; omega))) ?_
        repeat (first
          | (refine gp_take ?_; first | refine pT ?_ | ((fail_if_success refine gp_lit rfl rfl rfl rfl ?_); first | apply gp_guard_dec rfl rfl rfl rfl | apply gp_guard rfl rfl rfl rfl | fail))
          | (refine gp_see ?_; first | refine p_f ?_ | refine pS ?_ | ((fail_if_success refine gp_lit rfl rfl rfl rfl ?_); first | apply gp_guard_dec rfl rfl rfl rfl | apply gp_guard rfl rfl rfl rfl | fail))
          | (refine gp_one ?_; first | refine pO ?_ | refine p_n (fun _ => ?_) | refine p_app (fun _ _ => ?_) | refine p_b0 (fun _ => ?_) | ((fail_if_success refine gp_lit rfl rfl rfl rfl ?_); first | apply gp_guard_dec rfl rfl rfl rfl | apply gp_guard rfl rfl rfl rfl | fail))
          | refine gp_two ?_ ?_ | refine gp_done hd hk ?_ | intro _ | refine p_ta hd hk (fun _ _ _ hd hk => ?_) | refine p_ts hd hk (fun _ hd hk => ?_))
        refine g_as 32 (v' := .bool (!isT L c ⟨i, n, false⟩)) rfl (congrArg Value.bool (by
          have : isT L c ⟨i, n, false⟩ = false := by
            unfold isT
            simp only [Bool.not_false, Bool.true_and]
            exact decide_eq_false (fun h => h1 h.1)
          rw [this]; rfl)) ?_
        exact gM () trivial
    · repeat (first
        | (refine gp_take ?_; first | refine pT ?_ | ((fail_if_success refine gp_lit rfl rfl rfl rfl ?_); first | apply gp_guard_dec rfl rfl rfl rfl | apply gp_guard rfl rfl rfl rfl | fail))
        | (refine gp_see ?_; first | refine p_f ?_ | refine pS ?_ | ((fail_if_success refine gp_lit rfl rfl rfl rfl ?_); first | apply gp_guard_dec rfl rfl rfl rfl | apply gp_guard rfl rfl rfl rfl | fail))
        | (refine gp_one ?_; first | refine pO ?_ | refine p_n (fun _ => ?_) | refine p_app (fun _ _ => ?_) | refine p_b0 (fun _ => ?_) | ((fail_if_success refine gp_lit rfl rfl rfl rfl ?_); first | apply gp_guard_dec rfl rfl rfl rfl | apply gp_guard rfl rfl rfl rfl | fail))
        | refine gp_two ?_ ?_ | refine gp_done hd hk ?_ | intro _ | refine p_ta hd hk (fun _ _ _ hd hk => ?_) | refine p_ts hd hk (fun _ hd hk => ?_))
      exact gM () trivial
  have ht : tk L c ⟨i, n, bad⟩ = if isT L c ⟨i, n, bad⟩ = true then ⟨i + 1, n, bad⟩ else ⟨i, n, true⟩ := rfl
  rw [ht]
  cases hi : isT L c ⟨i, n, bad⟩
  · repeat (first
      | (refine g_ops ?_; first | refine sO ?_ | refine s_n (fun _ => ?_) | refine s_app (fun _ _ => ?_) | refine s_b0 (fun _ => ?_) | ((fail_if_success refine g_lit rfl rfl rfl ?_); first | apply g_partM rfl rfl rfl | apply g_partMB rfl rfl rfl | fail))
      | refine gS ?_ | exact s_m | intro _)
    exact gR () trivial
  · have h1 := (isT_at hi).2.1
    dsimp only at h1
    repeat (first
      | (refine g_ops ?_; first | refine sO ?_ | refine s_n (fun _ => ?_) | refine s_app (fun _ _ => ?_) | refine s_b0 (fun _ => ?_) | ((fail_if_success refine g_lit rfl rfl rfl ?_); first | apply g_partM rfl rfl rfl | apply g_partMB rfl rfl rfl | fail))
      | refine gS ?_ | exact s_m | intro _)
    rw [show (i : Int) + 1 = ((i + 1 : Nat) : Int) by push_cast; rfl]
    exact g_end () rfl (by (repeat (first | exact RVs.nil | apply RVs.tmp rfl | apply RVs.cellA rfl (by (repeat (first | exact Sel.here | apply Sel.there)); first | done | fail) (by (repeat (first | exact Cut.zero | apply Cut.take | apply Cut.skip)); first | done | fail) | apply RVs.cell1 rfl (by (repeat (first | exact Sel.here | apply Sel.there)); first | done | fail) rfl)); first | done | fail) (by (repeat (first | exact Take.nil | apply Take.cons | exact Sel.here | apply Sel.there)); first | done | fail) rfl trivial
theorem next_ (b : Nat) (L : List UInt8) (hL : L.length ≤ 1000000000) (σ : RS) (hat : σ.at_ ≤ L.length + 1) : Does1 Tryz.prog 34 [ptr b] [rdD b L σ] (u8v (nx L σ)) := by
  have hz : (txt L).size = L.length := txt_size L
  obtain ⟨i, n, bad⟩ := σ
  dsimp only [rdD] at hat ⊢
  refine fn_intro Tryz.func34 rfl Tryz.ntmps34 rfl (by simp only [argFr, Nat.zero_add, Nat.reduceAdd]; rfl) (fun Γ => ?_)
  repeat (first
    | (refine g_ops ?_; first | refine sO ?_ | refine s_n (fun _ => ?_) | refine s_app (fun _ _ => ?_) | refine s_b0 (fun _ => ?_) | ((fail_if_success refine g_lit rfl rfl rfl ?_); first | apply g_partM rfl rfl rfl | apply g_partMB rfl rfl rfl | fail))
    | refine gS ?_ | exact s_m | intro _)
  refine g_cutX (X := Unit) (fun _ => [(0, ptr b), (18, .bool (decide (¬ (bad = false ∧ i < L.length))))]) (fun _ => [.row b [.string (txt L), int i, .bool bad, int n] 65]) (fun _ => True) ?_ (fun _ _ => ?_)
  · refine g_draw (.take 0 (.take 1 (.take 2 (.see 3 [] (.take 4 (.take 5 (.take 6 (.take 7 (.see 8 [] (.take 9 (.take 10 (.take 11 (.see 12 [] (.take 13 (.take 14 (.take 15 .done)))))))))))))))) (by kernel_rfl) (C := [.row b [.string (txt L), int i, .bool bad, int n] 65]) (by (repeat (first | exact Take.nil | apply Take.cons | exact Sel.here | apply Sel.there)); first | done | fail) (fun m hd hk => ?_)
    cases bad
    · repeat (first
        | (refine gp_take ?_; first | refine pT ?_ | ((fail_if_success refine gp_lit rfl rfl rfl rfl ?_); first | apply gp_guard_dec rfl rfl rfl rfl | apply gp_guard rfl rfl rfl rfl | fail))
        | (refine gp_see ?_; first | refine p_f ?_ | refine pS ?_ | ((fail_if_success refine gp_lit rfl rfl rfl rfl ?_); first | apply gp_guard_dec rfl rfl rfl rfl | apply gp_guard rfl rfl rfl rfl | fail))
        | (refine gp_one ?_; first | refine pO ?_ | refine p_n (fun _ => ?_) | refine p_app (fun _ _ => ?_) | refine p_b0 (fun _ => ?_) | ((fail_if_success refine gp_lit rfl rfl rfl rfl ?_); first | apply gp_guard_dec rfl rfl rfl rfl | apply gp_guard rfl rfl rfl rfl | fail))
        | refine gp_two ?_ ?_ | refine gp_done hd hk ?_ | intro _ | refine p_ta hd hk (fun _ _ _ hd hk => ?_) | refine p_ts hd hk (fun _ hd hk => ?_))
      refine g_as 18 (v' := .bool (decide (¬ (false = false ∧ i < L.length)))) rfl (congrArg Value.bool (decide_eq_decide.2 (by rw [hz]; simp))) ?_
      exact gM () trivial
    · repeat (first
        | (refine gp_take ?_; first | refine pT ?_ | ((fail_if_success refine gp_lit rfl rfl rfl rfl ?_); first | apply gp_guard_dec rfl rfl rfl rfl | apply gp_guard rfl rfl rfl rfl | fail))
        | (refine gp_see ?_; first | refine p_f ?_ | refine pS ?_ | ((fail_if_success refine gp_lit rfl rfl rfl rfl ?_); first | apply gp_guard_dec rfl rfl rfl rfl | apply gp_guard rfl rfl rfl rfl | fail))
        | (refine gp_one ?_; first | refine pO ?_ | refine p_n (fun _ => ?_) | refine p_app (fun _ _ => ?_) | refine p_b0 (fun _ => ?_) | ((fail_if_success refine gp_lit rfl rfl rfl rfl ?_); first | apply gp_guard_dec rfl rfl rfl rfl | apply gp_guard rfl rfl rfl rfl | fail))
        | refine gp_two ?_ ?_ | refine gp_done hd hk ?_ | intro _ | refine p_ta hd hk (fun _ _ _ hd hk => ?_) | refine p_ts hd hk (fun _ hd hk => ?_))
      exact gM () trivial
  by_cases h : bad = false ∧ i < L.length
  · have e : nx L ⟨i, n, bad⟩ = L.getD i 0 := if_pos h
    rw [decide_eq_false (fun hn => hn h), e]
    repeat (first
      | (refine g_ops ?_; first | refine sO ?_ | refine s_n (fun _ => ?_) | refine s_app (fun _ _ => ?_) | refine s_b0 (fun _ => ?_) | ((fail_if_success refine g_lit rfl rfl rfl ?_); first | apply g_partM rfl rfl rfl | apply g_partMB rfl rfl rfl | fail))
      | refine gS ?_ | exact s_m | intro _)
    refine g_draw (.take 0 (.take 1 (.take 2 (.see 3 [] (.take 4 (.take 5 (.take 6 (.see 7 [] (.take 8 (.take 9 .done)))))))))) (by kernel_rfl) (C := [.row b [.string (txt L), int i, .bool bad, int n] 65]) (by (repeat (first | exact Take.nil | apply Take.cons | exact Sel.here | apply Sel.there)); first | done | fail) (fun m hd hk => ?_)
    repeat (first
      | (refine gp_take ?_; first | refine pT ?_ | ((fail_if_success refine gp_lit rfl rfl rfl rfl ?_); first | apply gp_guard_dec rfl rfl rfl rfl | apply gp_guard rfl rfl rfl rfl | fail))
      | (refine gp_see ?_; first | refine p_f ?_ | refine pS ?_ | ((fail_if_success refine gp_lit rfl rfl rfl rfl ?_); first | apply gp_guard_dec rfl rfl rfl rfl | apply gp_guard rfl rfl rfl rfl | fail))
      | (refine gp_one ?_; first | refine pO ?_ | refine p_n (fun _ => ?_) | refine p_app (fun _ _ => ?_) | refine p_b0 (fun _ => ?_) | ((fail_if_success refine gp_lit rfl rfl rfl rfl ?_); first | apply gp_guard_dec rfl rfl rfl rfl | apply gp_guard rfl rfl rfl rfl | fail))
      | refine gp_two ?_ ?_ | refine gp_done hd hk ?_ | intro _ | refine p_ta hd hk (fun _ _ _ hd hk => ?_) | refine p_ts hd hk (fun _ hd hk => ?_))
    refine p_q (q := by intro Δ; exact qs_indexStr (i := i) inferInstance rfl rfl (by rw [hz]; omega)) ?_
    refine gp_as 27 (v' := u8v (L.getD i 0)) rfl (by rw [at8_txt]) ?_
    repeat (first
      | (refine gp_take ?_; first | refine pT ?_ | ((fail_if_success refine gp_lit rfl rfl rfl rfl ?_); first | apply gp_guard_dec rfl rfl rfl rfl | apply gp_guard rfl rfl rfl rfl | fail))
      | (refine gp_see ?_; first | refine p_f ?_ | refine pS ?_ | ((fail_if_success refine gp_lit rfl rfl rfl rfl ?_); first | apply gp_guard_dec rfl rfl rfl rfl | apply gp_guard rfl rfl rfl rfl | fail))
      | (refine gp_one ?_; first | refine pO ?_ | refine p_n (fun _ => ?_) | refine p_app (fun _ _ => ?_) | refine p_b0 (fun _ => ?_) | ((fail_if_success refine gp_lit rfl rfl rfl rfl ?_); first | apply gp_guard_dec rfl rfl rfl rfl | apply gp_guard rfl rfl rfl rfl | fail))
      | refine gp_two ?_ ?_ | refine gp_done hd hk ?_ | intro _ | refine p_ta hd hk (fun _ _ _ hd hk => ?_) | refine p_ts hd hk (fun _ hd hk => ?_))
    repeat (first
      | (refine g_ops ?_; first | refine sO ?_ | refine s_n (fun _ => ?_) | refine s_app (fun _ _ => ?_) | refine s_b0 (fun _ => ?_) | ((fail_if_success refine g_lit rfl rfl rfl ?_); first | apply g_partM rfl rfl rfl | apply g_partMB rfl rfl rfl | fail))
      | refine gS ?_ | exact s_m | intro _)
    exact s_r ()
  · have e : nx L ⟨i, n, bad⟩ = 0 := if_neg h
    rw [decide_eq_true h, e]
    repeat (first
      | (refine g_ops ?_; first | refine sO ?_ | refine s_n (fun _ => ?_) | refine s_app (fun _ _ => ?_) | refine s_b0 (fun _ => ?_) | ((fail_if_success refine g_lit rfl rfl rfl ?_); first | apply g_partM rfl rfl rfl | apply g_partMB rfl rfl rfl | fail))
      | refine gS ?_ | exact s_m | intro _)
    exact s_r ()
theorem wordD_ (b : Nat) (L w : List UInt8) (hL : L.length ≤ 1000000000) (hw : 0 < w.length ∧ w.length ≤ 1000) (σ : RS) (hat : σ.at_ ≤ L.length + 1) : Does Tryz.prog 35 [ptr b, .string (txt w)] [rdD b L σ] (X := Unit) (fun _ => .bool (wordT L w σ)) (fun _ => [rdD b L (if wordT L w σ = true then adv σ w.length else σ)]) (fun _ => True) := by
  have hz : (txt L).size = L.length := txt_size L
  have hzw : (txt w).size = w.length := txt_size w
  obtain ⟨i, n, bad⟩ := σ
  dsimp only [rdD] at hat ⊢
  refine fn_intro Tryz.func35 rfl Tryz.ntmps35 rfl (by simp only [argFr, Nat.zero_add, Nat.reduceAdd]; rfl) (fun Γ => ?_)
  repeat (first
    | (refine g_ops ?_; first | refine sO ?_ | refine s_n (fun _ => ?_) | refine s_app (fun _ _ => ?_) | refine s_b0 (fun _ => ?_) | ((fail_if_success refine g_lit rfl rfl rfl ?_); first | apply g_partM rfl rfl rfl | apply g_partMB rfl rfl rfl | fail))
    | refine gS ?_ | exact s_m | intro _)
  refine g_cutX (X := Unit) (fun _ => [(0, ptr b), (1, .string (txt w)), (44, .bool (wordT L w ⟨i, n, bad⟩))]) (fun _ => [.row b [.string (txt L), int i, .bool bad, int n] 65]) (fun _ => True) ?_ (fun _ _ => ?_)
  · refine g_draw (.take 0 (.take 1 (.take 2 (.see 3 [] (.take 4 (.take 5 (.take 6 (.take 7 (.take 8 (.see 9 [] (.take 10 (.take 11 (.take 12 (.take 13 (.see 14 [] (.take 15 (.take 16 (.take 17 (.take 18 (.take 19 (.take 20 (.take 21 (.take 22 (.take 23 (.see 24 [] (.take 25 (.take 26 (.take 27 (.see 28 [] (.take 29 (.take 30 (.take 31 (.see 32 [] (.take 33 (.take 34 (.take 35 (.take 36 (.take 37 (.take 38 (.take 39 .done)))))))))))))))))))))))))))))))))))))))) (by kernel_rfl) (C := [.row b [.string (txt L), int i, .bool bad, int n] 65]) (by (repeat (first | exact Take.nil | apply Take.cons | exact Sel.here | apply Sel.there)); first | done | fail) (fun m hd hk => ?_)
    cases bad
    · repeat (first
        | (refine gp_take ?_; first | refine pT ?_ | ((fail_if_success refine gp_lit rfl rfl rfl rfl ?_); first | apply gp_guard_dec rfl rfl rfl rfl | apply gp_guard rfl rfl rfl rfl | fail))
        | (refine gp_see ?_; first | refine p_f ?_ | refine pS ?_ | ((fail_if_success refine gp_lit rfl rfl rfl rfl ?_); first | apply gp_guard_dec rfl rfl rfl rfl | apply gp_guard rfl rfl rfl rfl | fail))
        | (refine gp_one ?_; first | refine pO ?_ | refine p_n (fun _ => ?_) | refine p_app (fun _ _ => ?_) | refine p_b0 (fun _ => ?_) | ((fail_if_success refine gp_lit rfl rfl rfl rfl ?_); first | apply gp_guard_dec rfl rfl rfl rfl | apply gp_guard rfl rfl rfl rfl | fail))
        | refine gp_two ?_ ?_ | refine gp_done hd hk ?_ | intro _ | refine p_ta hd hk (fun _ _ _ hd hk => ?_) | refine p_ts hd hk (fun _ hd hk => ?_))
      by_cases h1 : i + w.length ≤ L.length
      · refine gp_as 25 (v' := .bool true) rfl (congrArg Value.bool (decide_eq_true (by rw [hz, hzw]; omega))) ?_
        repeat (first
          | (refine gp_take ?_; first | refine pT ?_ | ((fail_if_success refine gp_lit rfl rfl rfl rfl ?_); first | apply gp_guard_dec rfl rfl rfl rfl | apply gp_guard rfl rfl rfl rfl | fail))
          | (refine gp_see ?_; first | refine p_f ?_ | refine pS ?_ | ((fail_if_success refine gp_lit rfl rfl rfl rfl ?_); first | apply gp_guard_dec rfl rfl rfl rfl | apply gp_guard rfl rfl rfl rfl | fail))
          | (refine gp_one ?_; first | refine pO ?_ | refine p_n (fun _ => ?_) | refine p_app (fun _ _ => ?_) | refine p_b0 (fun _ => ?_) | ((fail_if_success refine gp_lit rfl rfl rfl rfl ?_); first | apply gp_guard_dec rfl rfl rfl rfl | apply gp_guard rfl rfl rfl rfl | fail))
          | refine gp_two ?_ ?_ | refine gp_done hd hk ?_ | intro _ | refine p_ta hd hk (fun _ _ _ hd hk => ?_) | refine p_ts hd hk (fun _ hd hk => ?_))
        refine gp_as 40 (v' := int ((i + w.length : Nat) : Int)) rfl (congrArg (Value.int .i64) (by rw [hzw]; push_cast; rfl)) ?_
        refine p_q (q := by intro Δ; exact qs_sliceStr (l := i) (h := i + w.length) inferInstance rfl (.some rfl rfl) (.some rfl rfl) (by omega) (by rw [hz]; omega)) ?_
        refine gp_as 41 (v' := .string (txt ((L.drop i).take w.length))) rfl (by rw [ext_txt, show i + w.length - i = w.length by omega]) ?_
        repeat (first
          | (refine gp_take ?_; first | refine pT ?_ | ((fail_if_success refine gp_lit rfl rfl rfl rfl ?_); first | apply gp_guard_dec rfl rfl rfl rfl | apply gp_guard rfl rfl rfl rfl | fail))
          | (refine gp_see ?_; first | refine p_f ?_ | refine pS ?_ | ((fail_if_success refine gp_lit rfl rfl rfl rfl ?_); first | apply gp_guard_dec rfl rfl rfl rfl | apply gp_guard rfl rfl rfl rfl | fail))
          | (refine gp_one ?_; first | refine pO ?_ | refine p_n (fun _ => ?_) | refine p_app (fun _ _ => ?_) | refine p_b0 (fun _ => ?_) | ((fail_if_success refine gp_lit rfl rfl rfl rfl ?_); first | apply gp_guard_dec rfl rfl rfl rfl | apply gp_guard rfl rfl rfl rfl | fail))
          | refine gp_two ?_ ?_ | refine gp_done hd hk ?_ | intro _ | refine p_ta hd hk (fun _ _ _ hd hk => ?_) | refine p_ts hd hk (fun _ hd hk => ?_))
        refine g_as 44 (v' := .bool (wordT L w ⟨i, n, false⟩)) rfl (congrArg Value.bool (by
          unfold wordT
          simp only [Bool.not_false, Bool.true_and]
          exact decide_eq_decide.2 ⟨txt_inj, fun h => by rw [h]⟩)) ?_
        exact gM () trivial
      · refine gp_as 25 (v' := .bool false) rfl (congrArg Value.bool (decide_eq_false (by rw [hz, hzw]; omega))) ?_
        repeat (first
          | (refine gp_take ?_; first | refine pT ?_ | ((fail_if_success refine gp_lit rfl rfl rfl rfl ?_); first | apply gp_guard_dec rfl rfl rfl rfl | apply gp_guard rfl rfl rfl rfl | fail))
          | (refine gp_see ?_; first | refine p_f ?_ | refine pS ?_ | ((fail_if_success refine gp_lit rfl rfl rfl rfl ?_); first | apply gp_guard_dec rfl rfl rfl rfl | apply gp_guard rfl rfl rfl rfl | fail))
          | (refine gp_one ?_; first | refine pO ?_ | refine p_n (fun _ => ?_) | refine p_app (fun _ _ => ?_) | refine p_b0 (fun _ => ?_) | ((fail_if_success refine gp_lit rfl rfl rfl rfl ?_); first | apply gp_guard_dec rfl rfl rfl rfl | apply gp_guard rfl rfl rfl rfl | fail))
          | refine gp_two ?_ ?_ | refine gp_done hd hk ?_ | intro _ | refine p_ta hd hk (fun _ _ _ hd hk => ?_) | refine p_ts hd hk (fun _ hd hk => ?_))
        have e : wordT L w ⟨i, n, false⟩ = false := by
          cases hw' : wordT L w ⟨i, n, false⟩ with
          | false => rfl
          | true => exact absurd (wordT_at hw' hw.1).2.1 h1
        rw [e]
        exact gM () trivial
    · repeat (first
        | (refine gp_take ?_; first | refine pT ?_ | ((fail_if_success refine gp_lit rfl rfl rfl rfl ?_); first | apply gp_guard_dec rfl rfl rfl rfl | apply gp_guard rfl rfl rfl rfl | fail))
        | (refine gp_see ?_; first | refine p_f ?_ | refine pS ?_ | ((fail_if_success refine gp_lit rfl rfl rfl rfl ?_); first | apply gp_guard_dec rfl rfl rfl rfl | apply gp_guard rfl rfl rfl rfl | fail))
        | (refine gp_one ?_; first | refine pO ?_ | refine p_n (fun _ => ?_) | refine p_app (fun _ _ => ?_) | refine p_b0 (fun _ => ?_) | ((fail_if_success refine gp_lit rfl rfl rfl rfl ?_); first | apply gp_guard_dec rfl rfl rfl rfl | apply gp_guard rfl rfl rfl rfl | fail))
        | refine gp_two ?_ ?_ | refine gp_done hd hk ?_ | intro _ | refine p_ta hd hk (fun _ _ _ hd hk => ?_) | refine p_ts hd hk (fun _ hd hk => ?_))
      exact gM () trivial
  cases hi : wordT L w ⟨i, n, bad⟩
  · repeat (first
      | (refine g_ops ?_; first | refine sO ?_ | refine s_n (fun _ => ?_) | refine s_app (fun _ _ => ?_) | refine s_b0 (fun _ => ?_) | ((fail_if_success refine g_lit rfl rfl rfl ?_); first | apply g_partM rfl rfl rfl | apply g_partMB rfl rfl rfl | fail))
      | refine gS ?_ | exact s_m | intro _)
    exact gR () trivial
  · have h1 := (wordT_at hi hw.1).2.1
    dsimp only at h1
    repeat (first
      | (refine g_ops ?_; first | refine sO ?_ | refine s_n (fun _ => ?_) | refine s_app (fun _ _ => ?_) | refine s_b0 (fun _ => ?_) | ((fail_if_success refine g_lit rfl rfl rfl ?_); first | apply g_partM rfl rfl rfl | apply g_partMB rfl rfl rfl | fail))
      | refine gS ?_ | exact s_m | intro _)
    rw [show (i : Int) + ((txt w).size : Int) = ((i + w.length : Nat) : Int) by rw [hzw]; push_cast; rfl]
    exact gR () trivial
theorem qd_step (L : List UInt8) (f i : Nat) : qd L (f + 1) i = if i < L.length ∧ L.getD i 0 = 34 then (i, false) else if L.length ≤ i + (if i < L.length ∧ L.getD i 0 = 92 then 2 else 1) then (i + (if i < L.length ∧ L.getD i 0 = 92 then 2 else 1), true) else qd L f (i + (if i < L.length ∧ L.getD i 0 = 92 then 2 else 1)) := by rw [qd]
structure QaX where
  i : Nat
  f : Nat
  bad : Bool
set_option maxHeartbeats 4000000 in
theorem quoted_ (H : HP) (b : Nat) (L : List UInt8) (hL : L.length ≤ 100000000) (σ : RS) (hat : σ.at_ ≤ L.length + 1) : Does Tryz.prog 36 [ptr b] [rdD b L σ, Pile H] (X := Unit) (fun _ => .string (quotedT L σ).1) (fun _ => [rdD b L (quotedT L σ).2, Pile H]) (fun _ => True) := by
  have hz : (txt L).size = L.length := txt_size L
  have h1 := takes_ b L (by omega) 34 σ hat
  have t1 := tk_at L 34 σ
  have hq : quotedT L σ = if (tk L 34 (qt L σ)).bad = true then (ByteArray.empty, tk L 34 (qt L σ)) else ((unqS ((L.drop σ.at_).take ((tk L 34 (qt L σ)).at_ - σ.at_))).1, ⟨(tk L 34 (qt L σ)).at_, σ.n, !(unqS ((L.drop σ.at_).take ((tk L 34 (qt L σ)).at_ - σ.at_))).2⟩) := rfl
  have hqt : qt L σ = if (tk L 34 σ).bad = true then tk L 34 σ else ⟨(qd L (L.length + 1) (tk L 34 σ).at_).1, σ.n, (qd L (L.length + 1) (tk L 34 σ).at_).2⟩ := rfl
  have hat1 : (tk L 34 σ).at_ ≤ L.length + 1 := by
    cases hb : (tk L 34 σ).bad with
    | true => rw [t1.2.2 hb]; exact hat
    | false => rw [(t1.2.1 hb).2.1]; have := (t1.2.1 hb).2.2.1; show σ.at_ + 1 ≤ _; omega
  have hlo : σ.at_ ≤ (tk L 34 σ).at_ := by
    cases hb : (tk L 34 σ).bad with
    | true => rw [t1.2.2 hb]; exact Nat.le_refl _
    | false => rw [(t1.2.1 hb).2.1]; exact Nat.le_add_right _ _
  have hin1 : (tk L 34 σ).bad = false → (tk L 34 σ).at_ ≤ L.length := fun hb => by rw [(t1.2.1 hb).2.1]; have := (t1.2.1 hb).2.2.1; exact this
  rw [hq]
  clear hq
  obtain ⟨i0, n, bad0⟩ := σ
  dsimp only [rdD] at hat h1 hlo hqt t1 ⊢
  refine fn_intro Tryz.func36 rfl Tryz.ntmps36 rfl (by simp only [argFr, Nat.zero_add, Nat.reduceAdd]; rfl) (fun Γ => ?_)
  repeat (first | (refine g_ops ?_; first | refine sO ?_ | refine s_c (h1) (fun _ _ => ?_)) | refine g_seq ?_ | refine g_region ?_ | refine g_nil ?_ | refine g_then_normal ?_ | intro _)
  have tn : (tk L 34 ⟨i0, n, bad0⟩).n = n := t1.1
  generalize tk L 34 ⟨i0, n, bad0⟩ = τ at hqt hat1 hlo hin1 tn ⊢
  obtain ⟨i1, n1, bad1⟩ := τ
  dsimp only at hqt hat1 hlo hin1 tn ⊢
  subst tn
  refine g_cutX (X := RS) (fun _ => [(0, ptr b), (3, int i0)]) (fun x => [.row b [.string (txt L), int x.at_, .bool x.bad, int x.n] 65, Pile H]) (fun x => qt L ⟨i0, n1, bad0⟩ = x ∧ x.at_ ≤ L.length + 1 ∧ i0 ≤ x.at_ ∧ x.n = n1) ?_ (fun x hx => ?_)
  · repeat (first
      | (refine g_ops ?_; first | refine sO ?_ | refine s_n (fun _ => ?_) | refine s_app (fun _ _ => ?_) | refine s_b0 (fun _ => ?_) | ((fail_if_success refine g_lit rfl rfl rfl ?_); first | apply g_partM rfl rfl rfl | apply g_partMB rfl rfl rfl | fail))
      | refine gS ?_ | exact s_m | intro _)
    refine g_loop (X := QaX) (fun x => [(0, ptr b), (3, int i0)]) (fun x => [.row b [.string (txt L), int x.i, .bool x.bad, int n1] 65, Pile H])
      (fun x => x.i ≤ L.length + 1 ∧ i0 ≤ x.i ∧ (x.bad = false → x.i ≤ L.length ∧ L.length < x.i + x.f) ∧ qt L ⟨i0, n1, bad0⟩ = (if x.bad = true then ⟨x.i, n1, true⟩ else ⟨(qd L x.f x.i).1, n1, (qd L x.f x.i).2⟩)) (fun x => x.f) ⟨i1, L.length + 1, bad1⟩ ⟨hat1, hlo, fun h => ⟨hin1 h, by dsimp only; omega⟩, by rw [hqt]; cases bad1 <;> rfl⟩ (by (repeat (first | exact FrSub.nil | refine FrSub.cons rfl ?_)); first | done | fail) (by (repeat (first | exact Take.nil | apply Take.cons | exact Sel.here | apply Sel.there)); first | done | fail) (fun x hx => ?_)
    clear hqt hin1 hat1 hlo
    obtain ⟨i, f, bad⟩ := x
    obtain ⟨hi, hlo, hin, he⟩ := hx
    dsimp only at hi hlo hin he ⊢
    have hnx := next_ b L (by omega) ⟨i, n1, bad⟩ hi
    dsimp only [rdD] at hnx
    cases bad
    case true =>
      repeat (first
        | (refine g_ops ?_; first | refine sO ?_ | refine s_n (fun _ => ?_) | refine s_app (fun _ _ => ?_) | refine s_b0 (fun _ => ?_) | ((fail_if_success refine g_lit rfl rfl rfl ?_); first | apply g_partM rfl rfl rfl | apply g_partMB rfl rfl rfl | fail))
        | refine gS ?_ | exact s_m | intro _)
      exact gM ⟨i, n1, true⟩ ⟨he, hi, hlo, rfl⟩
    obtain ⟨hi2, hif⟩ := hin rfl
    obtain ⟨f, rfl⟩ : ∃ f', f = f' + 1 := ⟨f - 1, by omega⟩
    rw [if_neg Bool.false_ne_true, qd_step] at he
    have hnv : nx L ⟨i, n1, false⟩ = if i < L.length then L.getD i 0 else 0 := by
      unfold nx
      by_cases h : i < L.length
      · rw [if_pos ⟨rfl, h⟩, if_pos h]
      · rw [if_neg (fun hh => h hh.2), if_neg h]
    rw [hnv] at hnx
    repeat (first
      | (refine g_ops ?_; first | refine sO ?_ | refine s_n (fun _ => ?_) | refine s_app (fun _ _ => ?_) | refine s_b0 (fun _ => ?_) | ((fail_if_success refine g_lit rfl rfl rfl ?_); first | apply g_partM rfl rfl rfl | apply g_partMB rfl rfl rfl | fail) | refine s_k (hnx) ?_)
      | refine gS ?_ | exact s_m | intro _)
    by_cases k1 : i < L.length ∧ L.getD i 0 = 34
    · rw [if_pos k1] at he
      refine g_as 21 (v' := .bool false) rfl (congrArg Value.bool (by rw [if_pos k1.1, k1.2]; rfl)) ?_
      repeat (first
        | (refine g_ops ?_; first | refine sO ?_ | refine s_n (fun _ => ?_) | refine s_app (fun _ _ => ?_) | refine s_b0 (fun _ => ?_) | ((fail_if_success refine g_lit rfl rfl rfl ?_); first | apply g_partM rfl rfl rfl | apply g_partMB rfl rfl rfl | fail))
        | refine gS ?_ | exact s_m | intro _)
      exact gM ⟨i, n1, false⟩ ⟨he, hi, hlo, rfl⟩
    rw [if_neg k1] at he
    refine g_as 21 (v' := .bool true) rfl (congrArg Value.bool (decide_eq_true (by
      split
      · rename_i h
        exact fun e => k1 ⟨h, UInt8.toNat_inj.1 (by have : (34 : UInt8).toNat = 34 := rfl; omega)⟩
      · decide))) ?_
    obtain ⟨s, hs⟩ : ∃ s : Nat, s = if i < L.length ∧ L.getD i 0 = 92 then 2 else 1 := ⟨_, rfl⟩
    rw [← hs] at he
    repeat (first
      | (refine g_ops ?_; first | refine sO ?_ | refine s_n (fun _ => ?_) | refine s_app (fun _ _ => ?_) | refine s_b0 (fun _ => ?_) | ((fail_if_success refine g_lit rfl rfl rfl ?_); first | apply g_partM rfl rfl rfl | apply g_partMB rfl rfl rfl | fail) | refine s_k (hnx) ?_)
      | refine gS ?_ | exact s_m | intro _)
    refine g_cutX (X := Unit) (fun _ => [(0, ptr b), (3, int i0)]) (fun _ => [.row b [.string (txt L), int ((i + (s - 1) : Nat) : Int), .bool false, int n1] 65, Pile H]) (fun _ => True) ?_ (fun _ _ => ?_)
    · by_cases k2 : i < L.length ∧ L.getD i 0 = 92
      · rw [if_pos k2] at hs
        subst hs
        refine g_as 24 (v' := .bool true) rfl (congrArg Value.bool (by rw [if_pos k2.1, k2.2]; rfl)) ?_
        repeat (first
          | (refine g_ops ?_; first | refine sO ?_ | refine s_n (fun _ => ?_) | refine s_app (fun _ _ => ?_) | refine s_b0 (fun _ => ?_) | ((fail_if_success refine g_lit rfl rfl rfl ?_); first | apply g_partM rfl rfl rfl | apply g_partMB rfl rfl rfl | fail))
          | refine gS ?_ | exact s_m | intro _)
        rw [show (i : Int) + 1 = ((i + (2 - 1) : Nat) : Int) by push_cast; rfl]
        exact gM () trivial
      · rw [if_neg k2] at hs
        subst hs
        refine g_as 24 (v' := .bool false) rfl (congrArg Value.bool (decide_eq_false (by
          split
          · rename_i h
            exact fun e => k2 ⟨h, UInt8.toNat_inj.1 (by have : (92 : UInt8).toNat = 92 := rfl; omega)⟩
          · decide))) ?_
        repeat (first
          | (refine g_ops ?_; first | refine sO ?_ | refine s_n (fun _ => ?_) | refine s_app (fun _ _ => ?_) | refine s_b0 (fun _ => ?_) | ((fail_if_success refine g_lit rfl rfl rfl ?_); first | apply g_partM rfl rfl rfl | apply g_partMB rfl rfl rfl | fail))
          | refine gS ?_ | exact s_m | intro _)
        exact gM () trivial
    have hs2 : 1 ≤ s ∧ s ≤ 2 ∧ (s = 2 → i < L.length) := by
      rw [hs]
      by_cases h9 : i < L.length ∧ L.getD i 0 = 92
      · rw [if_pos h9]; exact ⟨by decide, by decide, fun _ => h9.1⟩
      · rw [if_neg h9]; exact ⟨by decide, by decide, fun h => by cases h⟩
    repeat (first
      | (refine g_ops ?_; first | refine sO ?_ | refine s_n (fun _ => ?_) | refine s_app (fun _ _ => ?_) | refine s_b0 (fun _ => ?_) | ((fail_if_success refine g_lit rfl rfl rfl ?_); first | apply g_partM rfl rfl rfl | apply g_partMB rfl rfl rfl | fail))
      | refine gS ?_ | exact s_m | intro _)
    rw [show ((i + (s - 1) : Nat) : Int) + 1 = ((i + s : Nat) : Int) by push_cast; omega]
    refine g_cutX (X := Unit) (fun _ => [(0, ptr b), (3, int i0), (48, .bool (decide (L.length ≤ i + s)))]) (fun _ => [.row b [.string (txt L), int ((i + s : Nat) : Int), .bool false, int n1] 65, Pile H]) (fun _ => True) ?_ (fun _ _ => ?_)
    · refine g_draw (.take 0 (.take 1 (.take 2 (.see 3 [] (.take 4 (.take 5 (.take 6 (.see 7 [] (.take 8 (.take 9 .done)))))))))) (by kernel_rfl) (C := [.row b [.string (txt L), int ((i + s : Nat) : Int), .bool false, int n1] 65]) (by (repeat (first | exact Take.nil | apply Take.cons | exact Sel.here | apply Sel.there)); first | done | fail) (fun m hd hk => ?_)
      repeat (first
        | (refine gp_take ?_; first | refine pT ?_ | ((fail_if_success refine gp_lit rfl rfl rfl rfl ?_); first | apply gp_guard_dec rfl rfl rfl rfl | apply gp_guard rfl rfl rfl rfl | fail))
        | (refine gp_see ?_; first | refine p_f ?_ | refine pS ?_ | ((fail_if_success refine gp_lit rfl rfl rfl rfl ?_); first | apply gp_guard_dec rfl rfl rfl rfl | apply gp_guard rfl rfl rfl rfl | fail))
        | (refine gp_one ?_; first | refine pO ?_ | refine p_n (fun _ => ?_) | refine p_app (fun _ _ => ?_) | refine p_b0 (fun _ => ?_) | ((fail_if_success refine gp_lit rfl rfl rfl rfl ?_); first | apply gp_guard_dec rfl rfl rfl rfl | apply gp_guard rfl rfl rfl rfl | fail))
        | refine gp_two ?_ ?_ | refine gp_done hd hk ?_ | intro _ | refine p_ta hd hk (fun _ _ _ hd hk => ?_) | refine p_ts hd hk (fun _ hd hk => ?_))
      refine g_as 48 (v' := .bool (decide (L.length ≤ i + s))) rfl (congrArg Value.bool (decide_eq_decide.2 (by rw [hz]; omega))) ?_
      exact gM () trivial
    by_cases k3 : L.length ≤ i + s
    · rw [if_pos k3] at he
      rw [decide_eq_true k3]
      repeat (first
        | (refine g_ops ?_; first | refine sO ?_ | refine s_n (fun _ => ?_) | refine s_app (fun _ _ => ?_) | refine s_b0 (fun _ => ?_) | ((fail_if_success refine g_lit rfl rfl rfl ?_); first | apply g_partM rfl rfl rfl | apply g_partMB rfl rfl rfl | fail))
        | refine gS ?_ | exact s_m | intro _)
      exact gA ⟨i + s, f, true⟩ (by simp only; omega) ⟨by dsimp only; omega, by dsimp only; omega, fun h => (by cases h), he⟩
    · rw [if_neg k3] at he
      rw [decide_eq_false k3]
      repeat (first
        | (refine g_ops ?_; first | refine sO ?_ | refine s_n (fun _ => ?_) | refine s_app (fun _ _ => ?_) | refine s_b0 (fun _ => ?_) | ((fail_if_success refine g_lit rfl rfl rfl ?_); first | apply g_partM rfl rfl rfl | apply g_partMB rfl rfl rfl | fail))
        | refine gS ?_ | exact s_m | intro _)
      exact gA ⟨i + s, f, false⟩ (by simp only; omega) ⟨by dsimp only; omega, by dsimp only; omega, fun _ => ⟨by dsimp only; omega, by dsimp only; omega⟩, he⟩
  clear hqt hin1 hat1 hlo
  obtain ⟨hx0, hxa, hxl, hxn⟩ := hx
  rw [hx0]
  clear hx0
  obtain ⟨i2, n2, bad2⟩ := x
  dsimp only at hxa hxl hxn ⊢
  subst hxn
  have h2 := takes_ b L (by omega) 34 ⟨i2, n2, bad2⟩ hxa
  have t2 := tk_at L 34 ⟨i2, n2, bad2⟩
  dsimp only [rdD] at h2
  repeat (first
    | (refine g_ops ?_; first | refine sO ?_ | refine s_n (fun _ => ?_) | refine s_app (fun _ _ => ?_) | refine s_b0 (fun _ => ?_) | ((fail_if_success refine g_lit rfl rfl rfl ?_); first | apply g_partM rfl rfl rfl | apply g_partMB rfl rfl rfl | fail) | refine s_c (h2) (fun _ _ => ?_))
    | refine gS ?_ | exact s_m | intro _)
  have tn2 : (tk L 34 ⟨i2, n2, bad2⟩).n = n2 := t2.1
  have hok : (tk L 34 ⟨i2, n2, bad2⟩).bad = false → (tk L 34 ⟨i2, n2, bad2⟩).at_ = i2 + 1 ∧ i2 < L.length := fun hb => by
    rw [(t2.2.1 hb).2.1]
    exact ⟨rfl, (t2.2.1 hb).2.2.1⟩
  generalize tk L 34 ⟨i2, n2, bad2⟩ = ρ at tn2 hok ⊢
  obtain ⟨i3, n3, bad3⟩ := ρ
  dsimp only at tn2 hok ⊢
  subst tn2
  cases bad3
  case true =>
    rw [if_pos rfl]
    repeat (first
      | (refine g_ops ?_; first | refine sO ?_ | refine s_n (fun _ => ?_) | refine s_app (fun _ _ => ?_) | refine s_b0 (fun _ => ?_) | ((fail_if_success refine g_lit rfl rfl rfl ?_); first | apply g_partM rfl rfl rfl | apply g_partMB rfl rfl rfl | fail))
      | refine gS ?_ | exact s_m | intro _)
    exact gR () trivial
  obtain ⟨e3, e4⟩ := hok rfl
  subst e3
  rw [if_neg Bool.false_ne_true]
  have hu := unquote2 H ((L.drop i0).take (i2 + 1 - i0)) (by rw [List.length_take, List.length_drop]; omega)
  generalize unqS ((L.drop i0).take (i2 + 1 - i0)) = u at hu ⊢
  obtain ⟨u1, u2⟩ := u
  dsimp only at hu ⊢
  repeat (first
    | (refine g_ops ?_; first | refine sO ?_ | refine s_n (fun _ => ?_) | refine s_app (fun _ _ => ?_) | refine s_b0 (fun _ => ?_) | ((fail_if_success refine g_lit rfl rfl rfl ?_); first | apply g_partM rfl rfl rfl | apply g_partMB rfl rfl rfl | fail))
    | refine gS ?_ | exact s_m | intro _)
  refine g_cutX (X := Unit) (fun _ => [(0, ptr b), (4, .string u1), (5, .bool u2)]) (fun _ => [.row b [.string (txt L), int ((i2 + 1 : Nat) : Int), .bool false, int n3] 65, Pile H]) (fun _ => True) ?_ (fun _ _ => ?_)
  · refine g_draw (.take 0 (.take 1 (.take 2 (.see 3 [] (.take 4 (.take 5 (.take 6 (.take 7 (.see 8 [] (.take 9 (.one 10 (.take 11 (.take 12 (.take 13 (.take 14 (.take 15 .done)))))))))))))))) (by kernel_rfl) (C := [.row b [.string (txt L), int ((i2 + 1 : Nat) : Int), .bool false, int n3] 65, Pile H]) (by (repeat (first | exact Take.nil | apply Take.cons | exact Sel.here | apply Sel.there)); first | done | fail) (fun m hd hk => ?_)
    repeat (first
      | (refine gp_take ?_; first | refine pT ?_ | ((fail_if_success refine gp_lit rfl rfl rfl rfl ?_); first | apply gp_guard_dec rfl rfl rfl rfl | apply gp_guard rfl rfl rfl rfl | fail))
      | (refine gp_see ?_; first | refine p_f ?_ | refine pS ?_ | ((fail_if_success refine gp_lit rfl rfl rfl rfl ?_); first | apply gp_guard_dec rfl rfl rfl rfl | apply gp_guard rfl rfl rfl rfl | fail))
      | (refine gp_one ?_; first | refine pO ?_ | refine p_n (fun _ => ?_) | refine p_app (fun _ _ => ?_) | refine p_b0 (fun _ => ?_) | ((fail_if_success refine gp_lit rfl rfl rfl rfl ?_); first | apply gp_guard_dec rfl rfl rfl rfl | apply gp_guard rfl rfl rfl rfl | fail))
      | refine gp_two ?_ ?_ | refine gp_done hd hk ?_ | intro _ | refine p_ta hd hk (fun _ _ _ hd hk => ?_) | refine p_ts hd hk (fun _ hd hk => ?_))
    refine p_q (q := by intro Δ; exact qs_sliceStr (l := i0) (h := i2 + 1) inferInstance rfl (.some rfl rfl) (.some rfl rfl) (by omega) (by rw [hz]; omega)) ?_
    refine gp_as 68 (v' := .string (txt ((L.drop i0).take (i2 + 1 - i0)))) rfl (by rw [ext_txt]) ?_
    repeat (first
      | (refine gp_take ?_; first | refine pT ?_ | ((fail_if_success refine gp_lit rfl rfl rfl rfl ?_); first | apply gp_guard_dec rfl rfl rfl rfl | apply gp_guard rfl rfl rfl rfl | fail))
      | (refine gp_see ?_; first | refine p_f ?_ | refine pS ?_ | ((fail_if_success refine gp_lit rfl rfl rfl rfl ?_); first | apply gp_guard_dec rfl rfl rfl rfl | apply gp_guard rfl rfl rfl rfl | fail))
      | (refine gp_one ?_; first | refine pO ?_ | refine p_n (fun _ => ?_) | refine p_app (fun _ _ => ?_) | refine p_b0 (fun _ => ?_) | ((fail_if_success refine gp_lit rfl rfl rfl rfl ?_); first | apply gp_guard_dec rfl rfl rfl rfl | apply gp_guard rfl rfl rfl rfl | fail) | refine p_cP (hu) hd hk (fun _ _ => ?_))
      | refine gp_two ?_ ?_ | refine gp_done hd hk ?_ | intro _ | refine p_ta hd hk (fun _ _ _ hd hk => ?_) | refine p_ts hd hk (fun _ hd hk => ?_))
    exact gM () trivial
  repeat (first
    | (refine g_ops ?_; first | refine sO ?_ | refine s_n (fun _ => ?_) | refine s_app (fun _ _ => ?_) | refine s_b0 (fun _ => ?_) | ((fail_if_success refine g_lit rfl rfl rfl ?_); first | apply g_partM rfl rfl rfl | apply g_partMB rfl rfl rfl | fail))
    | refine gS ?_ | exact s_m | intro _)
  exact gR () trivial
end Go.Proofs.YtaahibcibgljbaaGreatDoor
