/- Contracts and laws that the proof stands on. -/
import Derived.Test.YtaahibcibgljbaaGreatDoorCallTold18
set_option linter.unusedSimpArgs false
set_option linter.unusedVariables false
namespace Go.Proofs.YtaahibcibgljbaaGreatDoor
open Go.Sl facts
attribute [local irreducible] Code.wp wpList Exit.then Exit.inBlock bodyPost Back MidQ G GP QStep VStep CStep SStep Does Post Reads
theorem is_yes {b : Nat} {L : List UInt8} (hL : L.length ≤ 1000000000) {c : UInt8} {σ : RS} (h : isT L c σ = true) : Does Tryz.prog 42 [ptr b, u8v c] [rdC b L σ] (X := Unit) (fun _ => .bool true) (fun _ => [rdC b L (adv σ 1)]) (fun _ => True) := by
  have := is_ b L hL c σ
  rwa [h, if_pos rfl] at this
theorem is_no {b : Nat} {L : List UInt8} (hL : L.length ≤ 1000000000) {c : UInt8} {σ : RS} (h : isT L c σ = false) : Does Tryz.prog 42 [ptr b, u8v c] [rdC b L σ] (X := Unit) (fun _ => .bool false) (fun _ => [rdC b L σ]) (fun _ => True) := by
  have := is_ b L hL c σ
  rwa [h, if_neg Bool.false_ne_true] at this
theorem word_yes {b : Nat} {L w : List UInt8} (hL : L.length ≤ 1000000000) (hw : 0 < w.length ∧ w.length ≤ 1000) {σ : RS} (hat : σ.at_ ≤ L.length) (h : wordT L w σ = true) : Does Tryz.prog 41 [ptr b, .string (txt w)] [rdC b L σ] (X := Unit) (fun _ => .bool true) (fun _ => [rdC b L (adv σ w.length)]) (fun _ => True) := by
  have := word_ b L w hL hw σ hat
  rwa [h, if_pos rfl] at this
theorem word_no {b : Nat} {L w : List UInt8} (hL : L.length ≤ 1000000000) (hw : 0 < w.length ∧ w.length ≤ 1000) {σ : RS} (hat : σ.at_ ≤ L.length) (h : wordT L w σ = false) : Does Tryz.prog 41 [ptr b, .string (txt w)] [rdC b L σ] (X := Unit) (fun _ => .bool false) (fun _ => [rdC b L σ]) (fun _ => True) := by
  have := word_ b L w hL hw σ hat
  rwa [h, if_neg Bool.false_ne_true] at this
abbrev RdD (f : FuncId) (L : List UInt8) (H : HP) (b dp : Nat) (σ : RS) (r : V × RS) : Prop :=
  Does Tryz.prog f [ptr b, int dp] [rdC b L σ, Pile H] (X := HP × Value) (fun y => y.2) (fun y => [rdC b L r.2, Pile y.1]) (fun y => HP.sub H y.1 ∧ TAt y.1 r.1 y.2)
set_option maxHeartbeats 4000000 in
theorem value_ (L : List UInt8) (hL : L.length ≤ 1000000000) (F : Nat)
    (hl : ∀ (H : HP) (b dp : Nat) (σ : RS), Tb H → ErrH H → σ.at_ ≤ L.length → σ.n ≤ 1001 → (σ.bad = false → σ.n ≤ 1000) → dp ≤ 20 → 2 * (1002 - σ.n) + 1 ≤ F → RdD 43 L H b dp σ (listV (lsS L F dp true [] σ).1, (lsS L F dp true [] σ).2))
    (hp : ∀ (H : HP) (b dp : Nat) (σ : RS), Tb H → ErrH H → σ.at_ ≤ L.length → σ.n ≤ 1001 → (σ.bad = false → σ.n ≤ 1000) → dp ≤ 20 → 2 * (1002 - σ.n) + 1 ≤ F → RdD 44 L H b dp σ (pairsV (prS L F dp true [] [] σ).1 (prS L F dp true [] [] σ).2.1, (prS L F dp true [] [] σ).2.2))
    (H : HP) (b dp : Nat) (σ : RS) (hT : Tb H) (hE : ErrH H) (hat : σ.at_ ≤ L.length) (hn : σ.n ≤ 1000) (hdp : dp ≤ 21) (hF : 2 * (1002 - σ.n) ≤ F + 1) : RdD 25 L H b dp σ (valS L (F + 1) dp σ) := by
  have hz : (txt L).size = L.length := txt_size L
  rw [valS]
  have hbo := fun h => @beg_ok σ dp h
  have hbi : (beg σ dp).at_ = σ.at_ := rfl
  have hbn : (beg σ dp).n = σ.n + 1 := rfl
  have hbb : (beg σ dp).bad = (σ.bad || (decide (1000 < σ.n + 1) || decide (20 < dp))) := rfl
  obtain ⟨i, n, bad⟩ := σ
  dsimp only at hat hn hF hbo hbi hbn hbb
  have hne : ((n : Int) + 1) = ((n + 1 : Nat) : Int) := by push_cast; rfl
  unfold RdD
  dsimp only [rdC]
  cases bad
  case true =>
    have e : beg ⟨i, n, true⟩ dp = ⟨i, n + 1, true⟩ := rfl
    rw [e, if_pos (show (RS.mk i (n + 1) true).bad = true from rfl)]
    refine fn_intro Tryz.func25 rfl Tryz.ntmps25 rfl (by simp only [argFr, Nat.zero_add, Nat.reduceAdd]; rfl) (fun Γ => ?_)
    repeat (first
      | (refine g_ops ?_; first | refine sO ?_ | refine s_n (fun _ => ?_) | refine s_app (fun _ _ => ?_) | refine s_b0 (fun _ => ?_) | ((fail_if_success refine g_lit rfl rfl rfl ?_); first | apply g_partM rfl rfl rfl | apply g_partMB rfl rfl rfl | fail))
      | refine gS ?_ | exact s_m | intro _)
    rw [hne]
    exact gR (H, .nilIface) ⟨HP.sub.refl _, .nil⟩
  rw [Bool.false_or] at hbb
  by_cases h1 : 1000 < n + 1
  · rw [decide_eq_true h1, Bool.true_or] at hbb
    have e : beg ⟨i, n, false⟩ dp = ⟨i, n + 1, true⟩ := by unfold beg; rw [decide_eq_true h1]; rfl
    rw [e, if_pos (show (RS.mk i (n + 1) true).bad = true from rfl)]
    refine fn_intro Tryz.func25 rfl Tryz.ntmps25 rfl (by simp only [argFr, Nat.zero_add, Nat.reduceAdd]; rfl) (fun Γ => ?_)
    repeat (first
      | (refine g_ops ?_; first | refine sO ?_ | refine s_n (fun _ => ?_) | refine s_app (fun _ _ => ?_) | refine s_b0 (fun _ => ?_) | ((fail_if_success refine g_lit rfl rfl rfl ?_); first | apply g_partM rfl rfl rfl | apply g_partMB rfl rfl rfl | fail))
      | refine gS ?_ | exact s_m | intro _)
    refine g_as 24 (v' := .bool true) rfl (congrArg Value.bool (decide_eq_true (by omega))) ?_
    repeat (first
      | (refine g_ops ?_; first | refine sO ?_ | refine s_n (fun _ => ?_) | refine s_app (fun _ _ => ?_) | refine s_b0 (fun _ => ?_) | ((fail_if_success refine g_lit rfl rfl rfl ?_); first | apply g_partM rfl rfl rfl | apply g_partMB rfl rfl rfl | fail))
      | refine gS ?_ | exact s_m | intro _)
    rw [hne]
    exact gR (H, .nilIface) ⟨HP.sub.refl _, .nil⟩
  by_cases h2 : 20 < dp
  · have e : beg ⟨i, n, false⟩ dp = ⟨i, n + 1, true⟩ := by unfold beg; rw [decide_eq_true h2, Bool.or_true, Bool.or_true]
    rw [e, if_pos (show (RS.mk i (n + 1) true).bad = true from rfl)]
    refine fn_intro Tryz.func25 rfl Tryz.ntmps25 rfl (by simp only [argFr, Nat.zero_add, Nat.reduceAdd]; rfl) (fun Γ => ?_)
    repeat (first
      | (refine g_ops ?_; first | refine sO ?_ | refine s_n (fun _ => ?_) | refine s_app (fun _ _ => ?_) | refine s_b0 (fun _ => ?_) | ((fail_if_success refine g_lit rfl rfl rfl ?_); first | apply g_partM rfl rfl rfl | apply g_partMB rfl rfl rfl | fail))
      | refine gS ?_ | exact s_m | intro _)
    refine g_as 24 (v' := .bool false) rfl (congrArg Value.bool (decide_eq_false (by omega))) ?_
    repeat (first
      | (refine g_ops ?_; first | refine sO ?_ | refine s_n (fun _ => ?_) | refine s_app (fun _ _ => ?_) | refine s_b0 (fun _ => ?_) | ((fail_if_success refine g_lit rfl rfl rfl ?_); first | apply g_partM rfl rfl rfl | apply g_partMB rfl rfl rfl | fail))
      | refine gS ?_ | exact s_m | intro _)
    rw [show decide (20 < (dp : Int)) = true from decide_eq_true (by omega)]
    repeat (first
      | (refine g_ops ?_; first | refine sO ?_ | refine s_n (fun _ => ?_) | refine s_app (fun _ _ => ?_) | refine s_b0 (fun _ => ?_) | ((fail_if_success refine g_lit rfl rfl rfl ?_); first | apply g_partM rfl rfl rfl | apply g_partMB rfl rfl rfl | fail))
      | refine gS ?_ | exact s_m | intro _)
    rw [hne]
    exact gR (H, .nilIface) ⟨HP.sub.refl _, .nil⟩
  have e : beg ⟨i, n, false⟩ dp = ⟨i, n + 1, false⟩ := by unfold beg; rw [decide_eq_false h1, decide_eq_false h2]; rfl
  rw [e, if_neg (show ¬ (RS.mk i (n + 1) false).bad = true from Bool.false_ne_true)]
  clear hbo hbi hbn hbb e
  refine fn_intro Tryz.func25 rfl Tryz.ntmps25 rfl (by simp only [argFr, Nat.zero_add, Nat.reduceAdd]; rfl) (fun Γ => ?_)
  repeat (first
    | (refine g_ops ?_; first | refine sO ?_ | refine s_n (fun _ => ?_) | refine s_app (fun _ _ => ?_) | refine s_b0 (fun _ => ?_) | ((fail_if_success refine g_lit rfl rfl rfl ?_); first | apply g_partM rfl rfl rfl | apply g_partMB rfl rfl rfl | fail))
    | refine gS ?_ | exact s_m | intro _)
  refine g_as 24 (v' := .bool false) rfl (congrArg Value.bool (decide_eq_false (by omega))) ?_
  repeat (first
    | (refine g_ops ?_; first | refine sO ?_ | refine s_n (fun _ => ?_) | refine s_app (fun _ _ => ?_) | refine s_b0 (fun _ => ?_) | ((fail_if_success refine g_lit rfl rfl rfl ?_); first | apply g_partM rfl rfl rfl | apply g_partMB rfl rfl rfl | fail))
    | refine gS ?_ | exact s_m | intro _)
  rw [show decide (20 < (dp : Int)) = false from decide_eq_false (by omega), hne]
  have hat' : (RS.mk i (n + 1) false).at_ ≤ L.length := hat
  generalize hσ : RS.mk i (n + 1) false = τ at hat' ⊢
  have hτ : [.string (txt L), int i, int ((n + 1 : Nat) : Int), .bool false] = [.string (txt L), int τ.at_, int τ.n, .bool τ.bad] := by rw [← hσ]
  have hτb : τ.bad = false := by rw [← hσ]
  have hτn : τ.n = n + 1 := by rw [← hσ]
  rw [show Value.int .i64 ((n + 1 : Nat) : Int) = int ((n + 1 : Nat) : Int) from rfl, hτ]
  cases w1 : wordT L wNil τ
  case true =>
    have hw := word_yes (b := b) hL (by decide) hat' w1
    rw [if_pos rfl]
    repeat (first
      | (refine g_ops ?_; first | refine sO ?_ | refine s_n (fun _ => ?_) | refine s_app (fun _ _ => ?_) | refine s_b0 (fun _ => ?_) | ((fail_if_success refine g_lit rfl rfl rfl ?_); first | apply g_partM rfl rfl rfl | apply g_partMB rfl rfl rfl | fail) | refine s_c (hw) (fun _ _ => ?_))
      | refine gS ?_ | exact s_m | intro _)
    exact gR (H, .nilIface) ⟨HP.sub.refl _, .nil⟩
  have hw1 := word_no (b := b) hL (by decide) hat' w1
  rw [if_neg Bool.false_ne_true]
  cases w2 : wordT L wTrue τ
  case true =>
    have hw := word_yes (b := b) hL (by decide) hat' w2
    rw [if_pos rfl]
    repeat (first
      | (refine g_ops ?_; first | refine sO ?_ | refine s_n (fun _ => ?_) | refine s_app (fun _ _ => ?_) | refine s_b0 (fun _ => ?_) | ((fail_if_success refine g_lit rfl rfl rfl ?_); first | apply g_partM rfl rfl rfl | apply g_partMB rfl rfl rfl | fail) | refine s_c (hw1) (fun _ _ => ?_) | refine s_c (hw) (fun _ _ => ?_))
      | refine gS ?_ | exact s_m | intro _)
    exact gR (H, .iface 4 (.bool true)) ⟨HP.sub.refl _, .bool⟩
  have hw2 := word_no (b := b) hL (by decide) hat' w2
  rw [if_neg Bool.false_ne_true]
  cases w3 : wordT L wFalse τ
  case true =>
    have hw := word_yes (b := b) hL (by decide) hat' w3
    rw [if_pos rfl]
    repeat (first
      | (refine g_ops ?_; first | refine sO ?_ | refine s_n (fun _ => ?_) | refine s_app (fun _ _ => ?_) | refine s_b0 (fun _ => ?_) | ((fail_if_success refine g_lit rfl rfl rfl ?_); first | apply g_partM rfl rfl rfl | apply g_partMB rfl rfl rfl | fail) | refine s_c (hw1) (fun _ _ => ?_) | refine s_c (hw2) (fun _ _ => ?_) | refine s_c (hw) (fun _ _ => ?_))
      | refine gS ?_ | exact s_m | intro _)
    exact gR (H, .iface 4 (.bool false)) ⟨HP.sub.refl _, .bool⟩
  have hw3 := word_no (b := b) hL (by decide) hat' w3
  rw [if_neg Bool.false_ne_true]
  cases i1 : isT L 91 τ
  case true =>
    have hi := is_yes (b := b) hL i1
    have hc := hl H b dp (adv τ 1) hT hE (isT_at i1).2.1 (by show τ.n ≤ 1001; omega) (fun _ => by show τ.n ≤ 1000; omega) (by omega) (by show 2 * (1002 - τ.n) + 1 ≤ F; omega)
    unfold RdD at hc
    rw [if_pos rfl]
    repeat (first
      | (refine g_ops ?_; first | refine sO ?_ | refine s_n (fun _ => ?_) | refine s_app (fun _ _ => ?_) | refine s_b0 (fun _ => ?_) | ((fail_if_success refine g_lit rfl rfl rfl ?_); first | apply g_partM rfl rfl rfl | apply g_partMB rfl rfl rfl | fail) | refine s_c (hw1) (fun _ _ => ?_) | refine s_c (hw2) (fun _ _ => ?_) | refine s_c (hw3) (fun _ _ => ?_) | refine s_c (hi) (fun _ _ => ?_) | refine s_c (hc) (fun _ _ => ?_))
      | refine gS ?_ | exact s_m | intro _)
    rename_i y hy
    exact gR y hy
  have hi1 := is_no (b := b) hL i1
  rw [if_neg Bool.false_ne_true]
  cases i2 : isT L 123 τ
  case true =>
    have hi := is_yes (b := b) hL i2
    have hc := hp H b dp (adv τ 1) hT hE (isT_at i2).2.1 (by show τ.n ≤ 1001; omega) (fun _ => by show τ.n ≤ 1000; omega) (by omega) (by show 2 * (1002 - τ.n) + 1 ≤ F; omega)
    unfold RdD at hc
    rw [if_pos rfl]
    repeat (first
      | (refine g_ops ?_; first | refine sO ?_ | refine s_n (fun _ => ?_) | refine s_app (fun _ _ => ?_) | refine s_b0 (fun _ => ?_) | ((fail_if_success refine g_lit rfl rfl rfl ?_); first | apply g_partM rfl rfl rfl | apply g_partMB rfl rfl rfl | fail) | refine s_c (hw1) (fun _ _ => ?_) | refine s_c (hw2) (fun _ _ => ?_) | refine s_c (hw3) (fun _ _ => ?_) | refine s_c (hi1) (fun _ _ => ?_) | refine s_c (hi) (fun _ _ => ?_) | refine s_c (hc) (fun _ _ => ?_))
      | refine gS ?_ | exact s_m | intro _)
    rename_i y hy
    exact gR y hy
  have hi2 := is_no (b := b) hL i2
  rw [if_neg Bool.false_ne_true]
  have hpr := hasPrefix (L.drop τ.at_) [34] (by rw [List.length_drop]; omega) (by decide)
  repeat (first
    | (refine g_ops ?_; first | refine sO ?_ | refine s_n (fun _ => ?_) | refine s_app (fun _ _ => ?_) | refine s_b0 (fun _ => ?_) | ((fail_if_success refine g_lit rfl rfl rfl ?_); first | apply g_partM rfl rfl rfl | apply g_partMB rfl rfl rfl | fail) | refine s_c (hw1) (fun _ _ => ?_) | refine s_c (hw2) (fun _ _ => ?_) | refine s_c (hw3) (fun _ _ => ?_) | refine s_c (hi1) (fun _ _ => ?_) | refine s_c (hi2) (fun _ _ => ?_))
    | refine gS ?_ | exact s_m | intro _)
  refine g_cutX (X := Unit) (fun _ => [(0, ptr b), (57, .bool (decide ((L.drop τ.at_).take 1 = [34])))]) (fun _ => [.row b [.string (txt L), int τ.at_, int τ.n, .bool τ.bad] 78, Pile H]) (fun _ => True) ?_ (fun _ _ => ?_)
  · refine g_draw (.take 0 (.take 1 (.take 2 (.see 3 [] (.take 4 (.take 5 (.take 6 (.see 7 [] (.take 8 (.see 9 [] (.take 10 .done))))))))))) (by kernel_rfl) (C := [.row b [.string (txt L), int τ.at_, int τ.n, .bool τ.bad] 78]) (by (repeat (first | exact Take.nil | apply Take.cons | exact Sel.here | apply Sel.there)); first | done | fail) (fun m hd hk => ?_)
    repeat (first
      | (refine gp_take ?_; first | refine pT ?_ | ((fail_if_success refine gp_lit rfl rfl rfl rfl ?_); first | apply gp_guard_dec rfl rfl rfl rfl | apply gp_guard rfl rfl rfl rfl | fail))
      | (refine gp_see ?_; first | refine p_f ?_ | refine pS ?_ | ((fail_if_success refine gp_lit rfl rfl rfl rfl ?_); first | apply gp_guard_dec rfl rfl rfl rfl | apply gp_guard rfl rfl rfl rfl | fail))
      | (refine gp_one ?_; first | refine pO ?_ | refine p_n (fun _ => ?_) | refine p_app (fun _ _ => ?_) | refine p_b0 (fun _ => ?_) | ((fail_if_success refine gp_lit rfl rfl rfl rfl ?_); first | apply gp_guard_dec rfl rfl rfl rfl | apply gp_guard rfl rfl rfl rfl | fail))
      | refine gp_two ?_ ?_ | refine gp_done hd hk ?_ | intro _ | refine p_ta hd hk (fun _ _ _ hd hk => ?_) | refine p_ts hd hk (fun _ hd hk => ?_))
    refine p_q (q := by intro Δ; exact qs_sliceStr (l := τ.at_) (h := (txt L).size) inferInstance rfl (.some rfl rfl) .none (by rw [hz]; omega) (Nat.le_refl _)) ?_
    refine gp_as 66 (v' := .string (txt (L.drop τ.at_))) rfl (by rw [ext_txt, hz, List.take_of_length_le (by rw [List.length_drop]; omega)]) ?_
    repeat (first
      | (refine gp_take ?_; first | refine pT ?_ | ((fail_if_success refine gp_lit rfl rfl rfl rfl ?_); first | apply gp_guard_dec rfl rfl rfl rfl | apply gp_guard rfl rfl rfl rfl | fail) | refine p_p (hpr) ?_)
      | (refine gp_see ?_; first | refine p_f ?_ | refine pS ?_ | ((fail_if_success refine gp_lit rfl rfl rfl rfl ?_); first | apply gp_guard_dec rfl rfl rfl rfl | apply gp_guard rfl rfl rfl rfl | fail) | refine p_sp (hpr) ?_)
      | (refine gp_one ?_; first | refine pO ?_ | refine p_n (fun _ => ?_) | refine p_app (fun _ _ => ?_) | refine p_b0 (fun _ => ?_) | ((fail_if_success refine gp_lit rfl rfl rfl rfl ?_); first | apply gp_guard_dec rfl rfl rfl rfl | apply gp_guard rfl rfl rfl rfl | fail))
      | refine gp_two ?_ ?_ | refine gp_done hd hk ?_ | intro _ | refine p_ta hd hk (fun _ _ _ hd hk => ?_) | refine p_ts hd hk (fun _ hd hk => ?_))
    exact gM () trivial
  by_cases h5 : (L.drop τ.at_).take 1 = [34]
  · rw [if_pos h5, decide_eq_true h5]
    have ht := text_ hT b L hL τ hat'
    have hts := (textT_at L τ hat').2.2.2
    repeat (first
      | (refine g_ops ?_; first | refine sO ?_ | refine s_n (fun _ => ?_) | refine s_app (fun _ _ => ?_) | refine s_b0 (fun _ => ?_) | ((fail_if_success refine g_lit rfl rfl rfl ?_); first | apply g_partM rfl rfl rfl | apply g_partMB rfl rfl rfl | fail) | refine s_c (ht) (fun _ _ => ?_))
      | refine gS ?_ | exact s_m | intro _)
    exact gR (H, .iface 9 (.string (textT L τ).1)) ⟨HP.sub.refl _, .text (by omega)⟩
  · rw [if_neg h5, decide_eq_false h5]
    have hnm := number_ hE b L hL τ hat'
    repeat (first
      | (refine g_ops ?_; first | refine sO ?_ | refine s_n (fun _ => ?_) | refine s_app (fun _ _ => ?_) | refine s_b0 (fun _ => ?_) | ((fail_if_success refine g_lit rfl rfl rfl ?_); first | apply g_partM rfl rfl rfl | apply g_partMB rfl rfl rfl | fail) | refine s_c (hnm) (fun _ _ => ?_))
      | refine gS ?_ | exact s_m | intro _)
    exact gR (H, .iface 3 (int (numT L τ).1)) ⟨HP.sub.refl _, .int (atoiV_in _)⟩
structure LsX where
  f : Nat
  first : Bool
  acc : List V
  σ : RS
  q : Option Addr
  c : Nat
  vs : List Value
  H : HP
abbrev ValC (L : List UInt8) (F : Nat) : Prop := ∀ (H : HP) (b dp : Nat) (σ : RS), Tb H → ErrH H → σ.at_ ≤ L.length → σ.n ≤ 1000 → dp ≤ 21 → 2 * (1002 - σ.n) ≤ F → RdD 25 L H b dp σ (valS L F dp σ)
theorem lsS_bad {L : List UInt8} {F dp : Nat} {first : Bool} {acc : List V} {σ : RS} (h : σ.bad = true) : lsS L (F + 1) dp first acc σ = (acc, σ) := by rw [lsS, if_pos h]
theorem lsS_end {L : List UInt8} {F dp : Nat} {first : Bool} {acc : List V} {σ : RS} (h : isT L 93 σ = true) : lsS L (F + 1) dp first acc σ = (acc, adv σ 1) := by rw [lsS, if_neg (by rw [(isT_at h).1]; decide), if_pos h]
theorem lsS_no {L : List UInt8} {F dp : Nat} {acc : List V} {σ : RS} (hb : σ.bad = false) (h : isT L 93 σ = false) (hc : isT L 44 σ = false) : lsS L (F + 1) dp false acc σ = (acc, ⟨σ.at_, σ.n, true⟩) := by
  rw [lsS, if_neg (by rw [hb]; decide), if_neg (by rw [h]; decide), if_pos ⟨rfl, hc⟩]
theorem lsS_one {L : List UInt8} {F dp : Nat} {acc : List V} {σ : RS} (hb : σ.bad = false) (h : isT L 93 σ = false) : lsS L (F + 1) dp true acc σ = lsS L F dp false (acc ++ [(valS L F (dp + 1) σ).1]) (valS L F (dp + 1) σ).2 := by
  rw [lsS, if_neg (by rw [hb]; decide), if_neg (by rw [h]; decide), if_neg (fun h => by cases h.1)]; rfl
theorem lsS_more {L : List UInt8} {F dp : Nat} {acc : List V} {σ : RS} (hb : σ.bad = false) (h : isT L 93 σ = false) (hc : isT L 44 σ = true) : lsS L (F + 1) dp false acc σ = lsS L F dp false (acc ++ [(valS L F (dp + 1) (adv σ 1)).1]) (valS L F (dp + 1) (adv σ 1)).2 := by
  rw [lsS, if_neg (by rw [hb]; decide), if_neg (by rw [h]; decide), if_neg (fun h => by rw [hc] at h; cases h.2)]; rfl
theorem tats_snoc {H H' : HP} {acc : List V} {vs : List Value} (hs : HP.sub H H') (hl : vs.length = acc.length) (h : ∀ (j : Nat) a w, acc[j]? = some a → vs[j]? = some w → TAt H a w) {a : V} {w : Value} (ha : TAt H' a w) : ∀ (j : Nat) a' w', (acc ++ [a])[j]? = some a' → (vs ++ [w])[j]? = some w' → TAt H' a' w' := fun j a' w' h1 h2 => by
  rcases Nat.lt_or_ge j acc.length with hlt | hge
  · rw [List.getElem?_append_left hlt] at h1
    rw [List.getElem?_append_left (by omega)] at h2
    exact (h j a' w' h1 h2).grow hs
  · rw [List.getElem?_append_right hge] at h1
    rw [List.getElem?_append_right (by omega)] at h2
    have hj : j = acc.length := by
      have := (List.getElem?_eq_some_iff.1 h1).1
      simp only [List.length_singleton] at this
      omega
    subst hj
    rw [Nat.sub_self] at h1
    rw [show acc.length - vs.length = 0 by omega] at h2
    cases h1
    cases h2
    exact ha
set_option maxHeartbeats 4000000 in
theorem list_ (L : List UInt8) (hL : L.length ≤ 1000000000) (F : Nat) (hv : ∀ F', F' < F → ValC L F') (H : HP) (b dp : Nat) (σ : RS) (hT : Tb H) (hE : ErrH H) (hat : σ.at_ ≤ L.length) (hn : σ.n ≤ 1001) (hbn : σ.bad = false → σ.n ≤ 1000) (hdp : dp ≤ 20) (hF : 2 * (1002 - σ.n) + 1 ≤ F) :
    RdD 43 L H b dp σ (listV (lsS L F dp true [] σ).1, (lsS L F dp true [] σ).2) := by
  unfold RdD
  dsimp only
  refine fn_intro Tryz.func43 rfl Tryz.ntmps43 rfl (by simp only [argFr, Nat.zero_add, Nat.reduceAdd]; rfl) (fun Γ => ?_)
  repeat (first
    | (refine g_ops ?_; first | refine sO ?_ | refine s_n (fun _ => ?_) | refine s_app (fun _ _ => ?_) | refine s_b0 (fun _ => ?_) | ((fail_if_success refine g_lit rfl rfl rfl ?_); first | apply g_partM rfl rfl rfl | apply g_partMB rfl rfl rfl | fail))
    | refine gS ?_ | exact s_m | intro _)
  rename_i b0
  refine g_loop (X := LsX) (fun x => [(0, ptr b), (1, int dp), (5, .slice x.q x.vs.length x.c), (6, .bool x.first)]) (fun x => [.own x.q x.vs.length x.c 1 x.vs 20, rdC b L x.σ, Pile x.H])
    (fun x => lsS L F dp true [] σ = lsS L x.f dp x.first x.acc x.σ ∧ x.f ≤ F ∧ x.σ.at_ ≤ L.length ∧ x.σ.n ≤ 1001 ∧ (x.σ.bad = false → x.σ.n ≤ 1000) ∧ 2 * (1002 - x.σ.n) + 1 ≤ x.f ∧ x.vs.length = x.acc.length ∧ x.acc.length ≤ x.σ.n ∧ HP.sub H x.H ∧ ∀ (j : Nat) a w, x.acc[j]? = some a → x.vs[j]? = some w → TAt x.H a w) (fun x => x.f)
    ⟨F, true, [], σ, some ⟨b0, 0, none⟩, 0, [], H⟩ ⟨rfl, Nat.le_refl _, hat, hn, hbn, hF, rfl, Nat.zero_le _, HP.sub.refl _, fun j a w h _ => by simp at h⟩ (by (repeat (first | exact FrSub.nil | refine FrSub.cons rfl ?_)); first | done | fail) (by (repeat (first | exact Take.nil | apply Take.cons | exact Sel.here | apply Sel.there)); first | done | fail) (fun x hx => ?_)
  clear hat hn hbn hF
  obtain ⟨f, first, acc, τ, q, c, vs, H1⟩ := x
  obtain ⟨he, hfF, hat, hn, hbn, hf, hvl, hal, hs1, hts⟩ := hx
  dsimp only at he hfF hat hn hbn hf hvl hal hs1 hts ⊢
  obtain ⟨f, rfl⟩ : ∃ f', f = f' + 1 := ⟨f - 1, by omega⟩
  have hvf := hv f (by omega)
  have hT1 := hT.grow hs1
  have hE1 := hE.grow hs1
  rw [he]
  have fin : ∀ (H2 : HP), HP.sub H1 H2 → SlAt (Pile H2) 1 q vs.length vs → vs.length ≤ c → TAt H2 (listV acc) (.iface 105 (.slice q vs.length c)) := fun H2 hs2 hS2 hcap => by
    rw [hvl] at hS2 hcap ⊢
    exact .list vs hvl (by omega) hS2 fun j a w h1 h2 => (hts j a w h1 h2).grow hs2
  cases hb : τ.bad
  case true =>
    rw [lsS_bad hb]
    repeat (first
      | (refine g_ops ?_; first | refine sO ?_ | refine s_n (fun _ => ?_) | refine s_app (fun _ _ => ?_) | refine s_b0 (fun _ => ?_) | ((fail_if_success refine g_lit rfl rfl rfl ?_); first | apply g_partM rfl rfl rfl | apply g_partMB rfl rfl rfl | fail))
      | refine gS ?_ | exact s_m | intro _)
    refine g_as 13 (v' := .bool false) rfl (by rw [hb]; rfl) ?_
    repeat (first
      | (refine g_ops ?_; first | refine sO ?_ | refine s_n (fun _ => ?_) | refine s_app (fun _ _ => ?_) | refine s_b0 (fun _ => ?_) | ((fail_if_success refine g_lit rfl rfl rfl ?_); first | apply g_partM rfl rfl rfl | apply g_partMB rfl rfl rfl | fail))
      | refine gS ?_ | exact s_m | intro _)
    refine g_capO (by (repeat (first | exact Sel.here | apply Sel.there)); first | done | fail) (fun hcap => ?_)
    refine g_pile (by (repeat (first | exact Sel.here | apply Sel.there)); first | done | fail) (by (repeat (first | exact Sel.here | apply Sel.there)); first | done | fail) (fun H2 hs2 hS2 => ?_)
    exact gR (H2, .iface 105 (.slice q vs.length c)) ⟨hs1.trans hs2, fin H2 hs2 hS2 hcap⟩
  have hbn' := hbn hb
  cases e1 : isT L 93 τ
  case true =>
    have hi := is_yes (b := b) hL e1
    rw [lsS_end e1]
    repeat (first
      | (refine g_ops ?_; first | refine sO ?_ | refine s_n (fun _ => ?_) | refine s_app (fun _ _ => ?_) | refine s_b0 (fun _ => ?_) | ((fail_if_success refine g_lit rfl rfl rfl ?_); first | apply g_partM rfl rfl rfl | apply g_partMB rfl rfl rfl | fail))
      | refine gS ?_ | exact s_m | intro _)
    refine g_as 13 (v' := .bool true) rfl (by rw [hb]; rfl) ?_
    repeat (first
      | (refine g_ops ?_; first | refine sO ?_ | refine s_n (fun _ => ?_) | refine s_app (fun _ _ => ?_) | refine s_b0 (fun _ => ?_) | ((fail_if_success refine g_lit rfl rfl rfl ?_); first | apply g_partM rfl rfl rfl | apply g_partMB rfl rfl rfl | fail) | refine s_c (hi) (fun _ _ => ?_))
      | refine gS ?_ | exact s_m | intro _)
    refine g_capO (by (repeat (first | exact Sel.here | apply Sel.there)); first | done | fail) (fun hcap => ?_)
    refine g_pile (by (repeat (first | exact Sel.here | apply Sel.there)); first | done | fail) (by (repeat (first | exact Sel.here | apply Sel.there)); first | done | fail) (fun H2 hs2 hS2 => ?_)
    exact gR (H2, .iface 105 (.slice q vs.length c)) ⟨hs1.trans hs2, fin H2 hs2 hS2 hcap⟩
  have hi := is_no (b := b) hL e1
  have step : ∀ (τ1 : RS) (H2 : HP) (w : Value) (q' : Option Addr) (c' : Nat), lsS L (f + 1) dp first acc τ = lsS L f dp false (acc ++ [(valS L f (dp + 1) τ1).1]) (valS L f (dp + 1) τ1).2 → τ1.at_ ≤ L.length → τ1.n = τ.n → HP.sub H1 H2 → TAt H2 (valS L f (dp + 1) τ1).1 w →
      lsS L (f + 1) dp first acc τ = lsS L f dp false (acc ++ [(valS L f (dp + 1) τ1).1]) (valS L f (dp + 1) τ1).2 ∧ f ≤ F ∧ (valS L f (dp + 1) τ1).2.at_ ≤ L.length ∧ (valS L f (dp + 1) τ1).2.n ≤ 1001 ∧ ((valS L f (dp + 1) τ1).2.bad = false → (valS L f (dp + 1) τ1).2.n ≤ 1000) ∧ 2 * (1002 - (valS L f (dp + 1) τ1).2.n) + 1 ≤ f ∧ (vs ++ [w]).length = (acc ++ [(valS L f (dp + 1) τ1).1]).length ∧ (acc ++ [(valS L f (dp + 1) τ1).1]).length ≤ (valS L f (dp + 1) τ1).2.n ∧ HP.sub H H2 ∧ ∀ (j : Nat) a w', (acc ++ [(valS L f (dp + 1) τ1).1])[j]? = some a → (vs ++ [w])[j]? = some w' → TAt H2 a w' := fun τ1 H2 w q' c' h1 h2 h3 h4 h5 => by
    obtain ⟨g1, g2, _, _⟩ := (fine_ L f).1 (dp + 1) τ1 h2 (by omega)
    exact ⟨h1, by omega, g1.at_, g1.m, g1.ok, by omega, by simp [hvl], by rw [List.length_append, List.length_singleton]; omega, hs1.trans h4, tats_snoc h4 hvl hts h5⟩
  cases first
  case true =>
    have hc := hvf H1 b (dp + 1) τ hT1 hE1 hat hbn' (by omega) (by omega)
    unfold RdD at hc
    repeat (first
      | (refine g_ops ?_; first | refine sO ?_ | refine s_n (fun _ => ?_) | refine s_app (fun _ _ => ?_) | refine s_b0 (fun _ => ?_) | ((fail_if_success refine g_lit rfl rfl rfl ?_); first | apply g_partM rfl rfl rfl | apply g_partMB rfl rfl rfl | fail))
      | refine gS ?_ | exact s_m | intro _)
    refine g_as 13 (v' := .bool true) rfl (by rw [hb]; rfl) ?_
    repeat (first
      | (refine g_ops ?_; first | refine sO ?_ | refine s_n (fun _ => ?_) | refine s_app (fun _ _ => ?_) | refine s_b0 (fun _ => ?_) | ((fail_if_success refine g_lit rfl rfl rfl ?_); first | apply g_partM rfl rfl rfl | apply g_partMB rfl rfl rfl | fail) | refine s_c (hi) (fun _ _ => ?_) | refine s_c (hc) (fun _ _ => ?_))
      | refine gS ?_ | exact s_m | intro _)
    rename_i y hy
    obtain ⟨H2, w⟩ := y
    obtain ⟨hs2, hw⟩ := hy
    dsimp only [List.cons_append, List.nil_append] at hs2 hw ⊢
    have st := fun q' c' => step τ H2 w q' c' (lsS_one hb e1) hat rfl hs2 hw
    rcases hw.shape with rfl | ⟨t, v', rfl⟩
    · repeat (first
        | (refine g_ops ?_; first | refine sO ?_ | refine s_n (fun _ => ?_) | refine s_app (fun _ _ => ?_) | refine s_b0 (fun _ => ?_) | ((fail_if_success refine g_lit rfl rfl rfl ?_); first | apply g_partM rfl rfl rfl | apply g_partMB rfl rfl rfl | fail))
        | refine gS ?_ | exact s_m | intro _)
      rename_i q' c'
      rw [show vs.length + 1 = (vs ++ [Value.nilIface]).length by simp]
      exact gA ⟨f, false, acc ++ [(valS L f (dp + 1) τ).1], (valS L f (dp + 1) τ).2, q', c', vs ++ [.nilIface], H2⟩ (by simp only; omega) (st q' c')
    · repeat (first
        | (refine g_ops ?_; first | refine sO ?_ | refine s_n (fun _ => ?_) | refine s_app (fun _ _ => ?_) | refine s_b0 (fun _ => ?_) | ((fail_if_success refine g_lit rfl rfl rfl ?_); first | apply g_partM rfl rfl rfl | apply g_partMB rfl rfl rfl | fail))
        | refine gS ?_ | exact s_m | intro _)
      rename_i q' c'
      rw [show vs.length + 1 = (vs ++ [Value.iface t v']).length by simp]
      exact gA ⟨f, false, acc ++ [(valS L f (dp + 1) τ).1], (valS L f (dp + 1) τ).2, q', c', vs ++ [.iface t v'], H2⟩ (by simp only; omega) (st q' c')
  cases e2 : isT L 44 τ
  case false =>
    have hi2 := is_no (b := b) hL e2
    rw [lsS_no hb e1 e2]
    repeat (first
      | (refine g_ops ?_; first | refine sO ?_ | refine s_n (fun _ => ?_) | refine s_app (fun _ _ => ?_) | refine s_b0 (fun _ => ?_) | ((fail_if_success refine g_lit rfl rfl rfl ?_); first | apply g_partM rfl rfl rfl | apply g_partMB rfl rfl rfl | fail))
      | refine gS ?_ | exact s_m | intro _)
    refine g_as 13 (v' := .bool true) rfl (by rw [hb]; rfl) ?_
    repeat (first
      | (refine g_ops ?_; first | refine sO ?_ | refine s_n (fun _ => ?_) | refine s_app (fun _ _ => ?_) | refine s_b0 (fun _ => ?_) | ((fail_if_success refine g_lit rfl rfl rfl ?_); first | apply g_partM rfl rfl rfl | apply g_partMB rfl rfl rfl | fail) | refine s_c (hi) (fun _ _ => ?_) | refine s_c (hi2) (fun _ _ => ?_))
      | refine gS ?_ | exact s_m | intro _)
    refine g_capO (by (repeat (first | exact Sel.here | apply Sel.there)); first | done | fail) (fun hcap => ?_)
    refine g_pile (by (repeat (first | exact Sel.here | apply Sel.there)); first | done | fail) (by (repeat (first | exact Sel.here | apply Sel.there)); first | done | fail) (fun H2 hs2 hS2 => ?_)
    exact gR (H2, .iface 105 (.slice q vs.length c)) ⟨hs1.trans hs2, fin H2 hs2 hS2 hcap⟩
  have hi2 := is_yes (b := b) hL e2
  have hc := hvf H1 b (dp + 1) (adv τ 1) hT1 hE1 (isT_at e2).2.1 hbn' (by omega) (by show 2 * (1002 - τ.n) ≤ f; omega)
  unfold RdD at hc
  repeat (first
    | (refine g_ops ?_; first | refine sO ?_ | refine s_n (fun _ => ?_) | refine s_app (fun _ _ => ?_) | refine s_b0 (fun _ => ?_) | ((fail_if_success refine g_lit rfl rfl rfl ?_); first | apply g_partM rfl rfl rfl | apply g_partMB rfl rfl rfl | fail))
    | refine gS ?_ | exact s_m | intro _)
  refine g_as 13 (v' := .bool true) rfl (by rw [hb]; rfl) ?_
  repeat (first
    | (refine g_ops ?_; first | refine sO ?_ | refine s_n (fun _ => ?_) | refine s_app (fun _ _ => ?_) | refine s_b0 (fun _ => ?_) | ((fail_if_success refine g_lit rfl rfl rfl ?_); first | apply g_partM rfl rfl rfl | apply g_partMB rfl rfl rfl | fail) | refine s_c (hi) (fun _ _ => ?_) | refine s_c (hi2) (fun _ _ => ?_) | refine s_c (hc) (fun _ _ => ?_))
    | refine gS ?_ | exact s_m | intro _)
  rename_i y hy
  obtain ⟨H2, w⟩ := y
  obtain ⟨hs2, hw⟩ := hy
  dsimp only [List.cons_append, List.nil_append] at hs2 hw ⊢
  have st := fun q' c' => step (adv τ 1) H2 w q' c' (lsS_more hb e1 e2) (isT_at e2).2.1 rfl hs2 hw
  rcases hw.shape with rfl | ⟨t, v', rfl⟩
  · repeat (first
      | (refine g_ops ?_; first | refine sO ?_ | refine s_n (fun _ => ?_) | refine s_app (fun _ _ => ?_) | refine s_b0 (fun _ => ?_) | ((fail_if_success refine g_lit rfl rfl rfl ?_); first | apply g_partM rfl rfl rfl | apply g_partMB rfl rfl rfl | fail))
      | refine gS ?_ | exact s_m | intro _)
    rename_i q' c'
    rw [show vs.length + 1 = (vs ++ [Value.nilIface]).length by simp]
    exact gA ⟨f, false, acc ++ [(valS L f (dp + 1) (adv τ 1)).1], (valS L f (dp + 1) (adv τ 1)).2, q', c', vs ++ [.nilIface], H2⟩ (by simp only; omega) (st q' c')
  · repeat (first
      | (refine g_ops ?_; first | refine sO ?_ | refine s_n (fun _ => ?_) | refine s_app (fun _ _ => ?_) | refine s_b0 (fun _ => ?_) | ((fail_if_success refine g_lit rfl rfl rfl ?_); first | apply g_partM rfl rfl rfl | apply g_partMB rfl rfl rfl | fail))
      | refine gS ?_ | exact s_m | intro _)
    rename_i q' c'
    rw [show vs.length + 1 = (vs ++ [Value.iface t v']).length by simp]
    exact gA ⟨f, false, acc ++ [(valS L f (dp + 1) (adv τ 1)).1], (valS L f (dp + 1) (adv τ 1)).2, q', c', vs ++ [.iface t v'], H2⟩ (by simp only; omega) (st q' c')
structure PrX where
  f : Nat
  first : Bool
  acc : List V
  σ : RS
  q : Option Addr
  c : Nat
  ps : List Pr
  H : HP
theorem prS_bad {L : List UInt8} {F dp : Nat} {first : Bool} {ks : List ByteArray} {acc : List V} {σ : RS} (h : σ.bad = true) : prS L (F + 1) dp first ks acc σ = (ks, acc, σ) := by rw [prS, if_pos h]
theorem prS_end {L : List UInt8} {F dp : Nat} {first : Bool} {ks : List ByteArray} {acc : List V} {σ : RS} (h : isT L 125 σ = true) : prS L (F + 1) dp first ks acc σ = (ks, acc, adv σ 1) := by rw [prS, if_neg (by rw [(isT_at h).1]; decide), if_pos h]
theorem prS_no {L : List UInt8} {F dp : Nat} {ks : List ByteArray} {acc : List V} {σ : RS} (hb : σ.bad = false) (h : isT L 125 σ = false) (hc : isT L 44 σ = false) : prS L (F + 1) dp false ks acc σ = (ks, acc, ⟨σ.at_, σ.n, true⟩) := by
  rw [prS, if_neg (by rw [hb]; decide), if_neg (by rw [h]; decide), if_pos ⟨rfl, hc⟩]
theorem prS_one {L : List UInt8} {F dp : Nat} {ks : List ByteArray} {acc : List V} {σ : RS} (hb : σ.bad = false) (h : isT L 125 σ = false) : prS L (F + 1) dp true ks acc σ = prS L F dp false (ks ++ [(textT L σ).1]) (acc ++ [(valS L F (dp + 1) (col L (textT L σ).2)).1]) (valS L F (dp + 1) (col L (textT L σ).2)).2 := by
  rw [prS, if_neg (by rw [hb]; decide), if_neg (by rw [h]; decide), if_neg (fun h => by cases h.1)]; rfl
theorem prS_more {L : List UInt8} {F dp : Nat} {ks : List ByteArray} {acc : List V} {σ : RS} (hb : σ.bad = false) (h : isT L 125 σ = false) (hc : isT L 44 σ = true) : prS L (F + 1) dp false ks acc σ = prS L F dp false (ks ++ [(textT L (adv σ 1)).1]) (acc ++ [(valS L F (dp + 1) (col L (textT L (adv σ 1)).2)).1]) (valS L F (dp + 1) (col L (textT L (adv σ 1)).2)).2 := by
  rw [prS, if_neg (by rw [hb]; decide), if_neg (by rw [h]; decide), if_neg (fun h => by rw [hc] at h; cases h.2)]; rfl
theorem tatp_snoc {H H' : HP} {acc : List V} {ps : List Pr} (hs : HP.sub H H') (hl : ps.length = acc.length) (h : ∀ (j : Nat) a q, acc[j]? = some a → ps[j]? = some q → TAt H a q.v) {a : V} {k : ByteArray} {w : Value} (ha : TAt H' a w) : ∀ (j : Nat) a' q', (acc ++ [a])[j]? = some a' → (ps ++ [(⟨k, w⟩ : Pr)])[j]? = some q' → TAt H' a' q'.v := fun j a' q' h1 h2 => by
  rcases Nat.lt_or_ge j acc.length with hlt | hge
  · rw [List.getElem?_append_left hlt] at h1
    rw [List.getElem?_append_left (by omega)] at h2
    exact (h j a' q' h1 h2).grow hs
  · rw [List.getElem?_append_right hge] at h1
    rw [List.getElem?_append_right (by omega)] at h2
    have hj : j = acc.length := by
      have := (List.getElem?_eq_some_iff.1 h1).1
      simp only [List.length_singleton] at this
      omega
    subst hj
    rw [Nat.sub_self] at h1
    rw [show acc.length - ps.length = 0 by omega] at h2
    cases h1
    cases h2
    exact ha
set_option maxHeartbeats 4000000 in
theorem pairs_ (L : List UInt8) (hL : L.length ≤ 1000000000) (F : Nat) (hv : ∀ F', F' < F → ValC L F') (H : HP) (b dp : Nat) (σ : RS) (hT : Tb H) (hE : ErrH H) (hat : σ.at_ ≤ L.length) (hn : σ.n ≤ 1001) (hbn : σ.bad = false → σ.n ≤ 1000) (hdp : dp ≤ 20) (hF : 2 * (1002 - σ.n) + 1 ≤ F) :
    RdD 44 L H b dp σ (pairsV (prS L F dp true [] [] σ).1 (prS L F dp true [] [] σ).2.1, (prS L F dp true [] [] σ).2.2) := by
  unfold RdD
  dsimp only
  refine fn_intro Tryz.func44 rfl Tryz.ntmps44 rfl (by simp only [argFr, Nat.zero_add, Nat.reduceAdd]; rfl) (fun Γ => ?_)
  repeat (first
    | (refine g_ops ?_; first | refine sO ?_ | refine s_n (fun _ => ?_) | refine s_app (fun _ _ => ?_) | refine s_b0 (fun _ => ?_) | ((fail_if_success refine g_lit rfl rfl rfl ?_); first | apply g_partM rfl rfl rfl | apply g_partMB rfl rfl rfl | fail))
    | refine gS ?_ | exact s_m | intro _)
  rename_i b0
  refine g_loop (X := PrX) (fun x => [(0, ptr b), (1, int dp), (5, .slice x.q x.ps.length x.c), (6, .bool x.first)]) (fun x => [.own x.q x.ps.length x.c 2 (x.ps.flatMap Pr.cells) 104, rdC b L x.σ, Pile x.H])
    (fun x => prS L F dp true [] [] σ = prS L x.f dp x.first (x.ps.map Pr.k) x.acc x.σ ∧ x.f ≤ F ∧ x.σ.at_ ≤ L.length ∧ x.σ.n ≤ 1001 ∧ (x.σ.bad = false → x.σ.n ≤ 1000) ∧ 2 * (1002 - x.σ.n) + 1 ≤ x.f ∧ x.ps.length = x.acc.length ∧ x.acc.length ≤ x.σ.n ∧ HP.sub H x.H ∧ (∀ q ∈ x.ps, q.k.size ≤ 9223372036854775807) ∧ ∀ (j : Nat) a q, x.acc[j]? = some a → x.ps[j]? = some q → TAt x.H a q.v) (fun x => x.f)
    ⟨F, true, [], σ, some ⟨b0, 0, none⟩, 0, [], H⟩ ⟨rfl, Nat.le_refl _, hat, hn, hbn, hF, rfl, Nat.zero_le _, HP.sub.refl _, (fun _ h => by cases h), fun j a w h _ => by simp at h⟩ (by (repeat (first | exact FrSub.nil | refine FrSub.cons rfl ?_)); first | done | fail) (by (repeat (first | exact Take.nil | apply Take.cons | exact Sel.here | apply Sel.there)); first | done | fail) (fun x hx => ?_)
  clear hat hn hbn hF
  obtain ⟨f, first, acc, τ, q, c, ps, H1⟩ := x
  obtain ⟨he, hfF, hat, hn, hbn, hf, hvl, hal, hs1, hkz, hts⟩ := hx
  dsimp only at he hfF hat hn hbn hf hvl hal hs1 hkz hts ⊢
  obtain ⟨f, rfl⟩ : ∃ f', f = f' + 1 := ⟨f - 1, by omega⟩
  have hvf := hv f (by omega)
  have hT1 := hT.grow hs1
  have hE1 := hE.grow hs1
  rw [he]
  have fin : ∀ (H2 : HP), HP.sub H1 H2 → SlAt (Pile H2) 2 q ps.length (ps.flatMap Pr.cells) → ps.length ≤ c → TAt H2 (pairsV (ps.map Pr.k) acc) (.iface 89 (.slice q ps.length c)) := fun H2 hs2 hS2 hcap => by
    rw [hvl] at hS2 hcap ⊢
    exact .pairs ps hvl (by omega) rfl hkz hS2 fun j a w h1 h2 => (hts j a w h1 h2).grow hs2
  cases hb : τ.bad
  case true =>
    rw [prS_bad hb]
    repeat (first
      | (refine g_ops ?_; first | refine sO ?_ | refine s_n (fun _ => ?_) | refine s_app (fun _ _ => ?_) | refine s_b0 (fun _ => ?_) | ((fail_if_success refine g_lit rfl rfl rfl ?_); first | apply g_partM rfl rfl rfl | apply g_partMB rfl rfl rfl | fail))
      | refine gS ?_ | exact s_m | intro _)
    refine g_as 14 (v' := .bool false) rfl (by rw [hb]; rfl) ?_
    repeat (first
      | (refine g_ops ?_; first | refine sO ?_ | refine s_n (fun _ => ?_) | refine s_app (fun _ _ => ?_) | refine s_b0 (fun _ => ?_) | ((fail_if_success refine g_lit rfl rfl rfl ?_); first | apply g_partM rfl rfl rfl | apply g_partMB rfl rfl rfl | fail))
      | refine gS ?_ | exact s_m | intro _)
    refine g_capO (by (repeat (first | exact Sel.here | apply Sel.there)); first | done | fail) (fun hcap => ?_)
    refine g_pile (by (repeat (first | exact Sel.here | apply Sel.there)); first | done | fail) (by (repeat (first | exact Sel.here | apply Sel.there)); first | done | fail) (fun H2 hs2 hS2 => ?_)
    exact gR (H2, .iface 89 (.slice q ps.length c)) ⟨hs1.trans hs2, fin H2 hs2 hS2 hcap⟩
  have hbn' := hbn hb
  cases e1 : isT L 125 τ
  case true =>
    have hi := is_yes (b := b) hL e1
    rw [prS_end e1]
    repeat (first
      | (refine g_ops ?_; first | refine sO ?_ | refine s_n (fun _ => ?_) | refine s_app (fun _ _ => ?_) | refine s_b0 (fun _ => ?_) | ((fail_if_success refine g_lit rfl rfl rfl ?_); first | apply g_partM rfl rfl rfl | apply g_partMB rfl rfl rfl | fail))
      | refine gS ?_ | exact s_m | intro _)
    refine g_as 14 (v' := .bool true) rfl (by rw [hb]; rfl) ?_
    repeat (first
      | (refine g_ops ?_; first | refine sO ?_ | refine s_n (fun _ => ?_) | refine s_app (fun _ _ => ?_) | refine s_b0 (fun _ => ?_) | ((fail_if_success refine g_lit rfl rfl rfl ?_); first | apply g_partM rfl rfl rfl | apply g_partMB rfl rfl rfl | fail) | refine s_c (hi) (fun _ _ => ?_))
      | refine gS ?_ | exact s_m | intro _)
    refine g_capO (by (repeat (first | exact Sel.here | apply Sel.there)); first | done | fail) (fun hcap => ?_)
    refine g_pile (by (repeat (first | exact Sel.here | apply Sel.there)); first | done | fail) (by (repeat (first | exact Sel.here | apply Sel.there)); first | done | fail) (fun H2 hs2 hS2 => ?_)
    exact gR (H2, .iface 89 (.slice q ps.length c)) ⟨hs1.trans hs2, fin H2 hs2 hS2 hcap⟩
  have hi := is_no (b := b) hL e1
  have step : ∀ (τ1 : RS) (H2 : HP) (w : Value), prS L (f + 1) dp first (ps.map Pr.k) acc τ = prS L f dp false (ps.map Pr.k ++ [(textT L τ1).1]) (acc ++ [(valS L f (dp + 1) (col L (textT L τ1).2)).1]) (valS L f (dp + 1) (col L (textT L τ1).2)).2 → τ1.at_ ≤ L.length → τ1.n = τ.n → HP.sub H1 H2 → TAt H2 (valS L f (dp + 1) (col L (textT L τ1).2)).1 w →
      prS L (f + 1) dp first (ps.map Pr.k) acc τ = prS L f dp false ((ps ++ [(⟨(textT L τ1).1, w⟩ : Pr)]).map Pr.k) (acc ++ [(valS L f (dp + 1) (col L (textT L τ1).2)).1]) (valS L f (dp + 1) (col L (textT L τ1).2)).2 ∧ f ≤ F ∧ (valS L f (dp + 1) (col L (textT L τ1).2)).2.at_ ≤ L.length ∧ (valS L f (dp + 1) (col L (textT L τ1).2)).2.n ≤ 1001 ∧ ((valS L f (dp + 1) (col L (textT L τ1).2)).2.bad = false → (valS L f (dp + 1) (col L (textT L τ1).2)).2.n ≤ 1000) ∧ 2 * (1002 - (valS L f (dp + 1) (col L (textT L τ1).2)).2.n) + 1 ≤ f ∧ (ps ++ [(⟨(textT L τ1).1, w⟩ : Pr)]).length = (acc ++ [(valS L f (dp + 1) (col L (textT L τ1).2)).1]).length ∧ (acc ++ [(valS L f (dp + 1) (col L (textT L τ1).2)).1]).length ≤ (valS L f (dp + 1) (col L (textT L τ1).2)).2.n ∧ HP.sub H H2 ∧ (∀ q ∈ ps ++ [(⟨(textT L τ1).1, w⟩ : Pr)], q.k.size ≤ 9223372036854775807) ∧ ∀ (j : Nat) a q', (acc ++ [(valS L f (dp + 1) (col L (textT L τ1).2)).1])[j]? = some a → (ps ++ [(⟨(textT L τ1).1, w⟩ : Pr)])[j]? = some q' → TAt H2 a q'.v := fun τ1 H2 w h1 h2 h3 h4 h5 => by
    obtain ⟨t1, t2, _, t4⟩ := textT_at L τ1 h2
    obtain ⟨c1, c2, _⟩ := col_at L (textT L τ1).2 t1
    obtain ⟨g1, g2, _, _⟩ := (fine_ L f).1 (dp + 1) (col L (textT L τ1).2) c1 (by omega)
    exact ⟨by rw [h1, List.map_append]; rfl, by omega, g1.at_, g1.m, g1.ok, by omega, by simp [hvl], by rw [List.length_append, List.length_singleton]; omega, hs1.trans h4, (fun x hx => by
      rcases List.mem_append.1 hx with hx | hx
      · exact hkz x hx
      · rw [List.mem_singleton] at hx; rw [hx]; show (textT L τ1).1.size ≤ _; omega), tatp_snoc h4 hvl hts h5⟩
  cases first
  case true =>
    have ht := text_ hT1 b L hL τ hat
    obtain ⟨t1, t2, t3, t4⟩ := textT_at L τ hat
    have st := fun H2 w => step τ H2 w (prS_one hb e1) hat rfl
    generalize textT L τ = tt at ht t1 t2 t3 t4 st
    obtain ⟨kk, ρ⟩ := tt
    dsimp only at ht t1 t2 t3 t4 st
    have c1 := col_at L ρ t1
    have cn : (col L ρ).n ≤ 1000 := by rw [c1.2.1, t2]; exact hbn'
    have hc := hvf H1 b (dp + 1) (col L ρ) hT1 hE1 c1.1 cn (by omega) (by rw [c1.2.1, t2]; show 2 * (1002 - τ.n) ≤ f; omega)
    unfold RdD at hc
    have hcol : ∀ Q : Prop, ((∀ (X : Does Tryz.prog 42 [ptr b, u8v 58] [rdC b L ρ] (X := Unit) (fun _ => .bool true) (fun _ => [rdC b L (adv ρ 1)]) (fun _ => True)), ρ.bad = false → col L ρ = adv ρ 1 → Q) ∧ (∀ (X : Does Tryz.prog 42 [ptr b, u8v 58] [rdC b L ρ] (X := Unit) (fun _ => .bool false) (fun _ => [rdC b L ρ]) (fun _ => True)), col L ρ = ⟨ρ.at_, ρ.n, true⟩ → Q)) → Q := fun Q hQ => by
      cases e3 : isT L 58 ρ with
      | true => exact hQ.1 (is_yes hL e3) (isT_at e3).1 (by unfold col; rw [if_pos e3])
      | false => exact hQ.2 (is_no hL e3) (by unfold col; rw [if_neg (by rw [e3]; decide)])
    repeat (first
      | (refine g_ops ?_; first | refine sO ?_ | refine s_n (fun _ => ?_) | refine s_app (fun _ _ => ?_) | refine s_b0 (fun _ => ?_) | ((fail_if_success refine g_lit rfl rfl rfl ?_); first | apply g_partM rfl rfl rfl | apply g_partMB rfl rfl rfl | fail))
      | refine gS ?_ | exact s_m | intro _)
    refine g_as 14 (v' := .bool true) rfl (by rw [hb]; rfl) ?_
    refine hcol _ ⟨fun h3 hb3 hq => ?_, fun h3 hq => ?_⟩
    · rw [hq] at hc st
      repeat (first
        | (refine g_ops ?_; first | refine sO ?_ | refine s_n (fun _ => ?_) | refine s_app (fun _ _ => ?_) | refine s_b0 (fun _ => ?_) | ((fail_if_success refine g_lit rfl rfl rfl ?_); first | apply g_partM rfl rfl rfl | apply g_partMB rfl rfl rfl | fail) | refine s_c (hi) (fun _ _ => ?_) | refine s_c (ht) (fun _ _ => ?_) | refine s_c (h3) (fun _ _ => ?_) | refine s_c (hc) (fun _ _ => ?_))
        | refine gS ?_ | exact s_m | intro _)
      rename_i y hy
      obtain ⟨H2, w⟩ := y
      obtain ⟨hs2, hw⟩ := hy
      dsimp only [List.cons_append, List.nil_append, List.append_eq] at hs2 hw ⊢
      have st' := st H2 w hs2 hw
      rcases hw.shape with rfl | ⟨t, v', rfl⟩
      · repeat (first
          | (refine g_ops ?_; first | refine sO ?_ | refine s_n (fun _ => ?_) | refine s_app (fun _ _ => ?_) | refine s_b0 (fun _ => ?_) | ((fail_if_success refine g_lit rfl rfl rfl ?_); first | apply g_partM rfl rfl rfl | apply g_partMB rfl rfl rfl | fail))
          | refine gS ?_ | exact s_m | intro _)
        rename_i q' c'
        rw [show ps.length + 1 = (ps ++ [(⟨kk, .nilIface⟩ : Pr)]).length by simp, show ps.flatMap Pr.cells ++ [.string kk, .nilIface] = (ps ++ [(⟨kk, .nilIface⟩ : Pr)]).flatMap Pr.cells by simp [Pr.cells]]
        exact gA ⟨f, false, acc ++ [(valS L f (dp + 1) (adv ρ 1)).1], (valS L f (dp + 1) (adv ρ 1)).2, q', c', ps ++ [⟨kk, .nilIface⟩], H2⟩ (by simp only; omega) st'
      · repeat (first
          | (refine g_ops ?_; first | refine sO ?_ | refine s_n (fun _ => ?_) | refine s_app (fun _ _ => ?_) | refine s_b0 (fun _ => ?_) | ((fail_if_success refine g_lit rfl rfl rfl ?_); first | apply g_partM rfl rfl rfl | apply g_partMB rfl rfl rfl | fail))
          | refine gS ?_ | exact s_m | intro _)
        rename_i q' c'
        rw [show ps.length + 1 = (ps ++ [(⟨kk, .iface t v'⟩ : Pr)]).length by simp, show ps.flatMap Pr.cells ++ [.string kk, .iface t v'] = (ps ++ [(⟨kk, .iface t v'⟩ : Pr)]).flatMap Pr.cells by simp [Pr.cells]]
        exact gA ⟨f, false, acc ++ [(valS L f (dp + 1) (adv ρ 1)).1], (valS L f (dp + 1) (adv ρ 1)).2, q', c', ps ++ [⟨kk, .iface t v'⟩], H2⟩ (by simp only; omega) st'
    · rw [hq] at hc st
      repeat (first
        | (refine g_ops ?_; first | refine sO ?_ | refine s_n (fun _ => ?_) | refine s_app (fun _ _ => ?_) | refine s_b0 (fun _ => ?_) | ((fail_if_success refine g_lit rfl rfl rfl ?_); first | apply g_partM rfl rfl rfl | apply g_partMB rfl rfl rfl | fail) | refine s_c (hi) (fun _ _ => ?_) | refine s_c (ht) (fun _ _ => ?_) | refine s_c (h3) (fun _ _ => ?_) | refine s_c (hc) (fun _ _ => ?_))
        | refine gS ?_ | exact s_m | intro _)
      rename_i y hy
      obtain ⟨H2, w⟩ := y
      obtain ⟨hs2, hw⟩ := hy
      dsimp only [List.cons_append, List.nil_append, List.append_eq] at hs2 hw ⊢
      have st' := st H2 w hs2 hw
      rcases hw.shape with rfl | ⟨t, v', rfl⟩
      · repeat (first
          | (refine g_ops ?_; first | refine sO ?_ | refine s_n (fun _ => ?_) | refine s_app (fun _ _ => ?_) | refine s_b0 (fun _ => ?_) | ((fail_if_success refine g_lit rfl rfl rfl ?_); first | apply g_partM rfl rfl rfl | apply g_partMB rfl rfl rfl | fail))
          | refine gS ?_ | exact s_m | intro _)
        rename_i q' c'
        rw [show ps.length + 1 = (ps ++ [(⟨kk, .nilIface⟩ : Pr)]).length by simp, show ps.flatMap Pr.cells ++ [.string kk, .nilIface] = (ps ++ [(⟨kk, .nilIface⟩ : Pr)]).flatMap Pr.cells by simp [Pr.cells]]
        exact gA ⟨f, false, acc ++ [(valS L f (dp + 1) ⟨ρ.at_, ρ.n, true⟩).1], (valS L f (dp + 1) ⟨ρ.at_, ρ.n, true⟩).2, q', c', ps ++ [⟨kk, .nilIface⟩], H2⟩ (by simp only; omega) st'
      · repeat (first
          | (refine g_ops ?_; first | refine sO ?_ | refine s_n (fun _ => ?_) | refine s_app (fun _ _ => ?_) | refine s_b0 (fun _ => ?_) | ((fail_if_success refine g_lit rfl rfl rfl ?_); first | apply g_partM rfl rfl rfl | apply g_partMB rfl rfl rfl | fail))
          | refine gS ?_ | exact s_m | intro _)
        rename_i q' c'
        rw [show ps.length + 1 = (ps ++ [(⟨kk, .iface t v'⟩ : Pr)]).length by simp, show ps.flatMap Pr.cells ++ [.string kk, .iface t v'] = (ps ++ [(⟨kk, .iface t v'⟩ : Pr)]).flatMap Pr.cells by simp [Pr.cells]]
        exact gA ⟨f, false, acc ++ [(valS L f (dp + 1) ⟨ρ.at_, ρ.n, true⟩).1], (valS L f (dp + 1) ⟨ρ.at_, ρ.n, true⟩).2, q', c', ps ++ [⟨kk, .iface t v'⟩], H2⟩ (by simp only; omega) st'
  cases e2 : isT L 44 τ
  case false =>
    have hi2 := is_no (b := b) hL e2
    rw [prS_no hb e1 e2]
    repeat (first
      | (refine g_ops ?_; first | refine sO ?_ | refine s_n (fun _ => ?_) | refine s_app (fun _ _ => ?_) | refine s_b0 (fun _ => ?_) | ((fail_if_success refine g_lit rfl rfl rfl ?_); first | apply g_partM rfl rfl rfl | apply g_partMB rfl rfl rfl | fail))
      | refine gS ?_ | exact s_m | intro _)
    refine g_as 14 (v' := .bool true) rfl (by rw [hb]; rfl) ?_
    repeat (first
      | (refine g_ops ?_; first | refine sO ?_ | refine s_n (fun _ => ?_) | refine s_app (fun _ _ => ?_) | refine s_b0 (fun _ => ?_) | ((fail_if_success refine g_lit rfl rfl rfl ?_); first | apply g_partM rfl rfl rfl | apply g_partMB rfl rfl rfl | fail) | refine s_c (hi) (fun _ _ => ?_) | refine s_c (hi2) (fun _ _ => ?_))
      | refine gS ?_ | exact s_m | intro _)
    refine g_capO (by (repeat (first | exact Sel.here | apply Sel.there)); first | done | fail) (fun hcap => ?_)
    refine g_pile (by (repeat (first | exact Sel.here | apply Sel.there)); first | done | fail) (by (repeat (first | exact Sel.here | apply Sel.there)); first | done | fail) (fun H2 hs2 hS2 => ?_)
    exact gR (H2, .iface 89 (.slice q ps.length c)) ⟨hs1.trans hs2, fin H2 hs2 hS2 hcap⟩
  have hi2 := is_yes (b := b) hL e2
  have hat2 : (adv τ 1).at_ ≤ L.length := (isT_at e2).2.1
  have ht := text_ hT1 b L hL (adv τ 1) hat2
  obtain ⟨t1, t2, t3, t4⟩ := textT_at L (adv τ 1) hat2
  have st := fun H2 w => step (adv τ 1) H2 w (prS_more hb e1 e2) hat2 rfl
  generalize textT L (adv τ 1) = tt at ht t1 t2 t3 t4 st
  obtain ⟨kk, ρ⟩ := tt
  dsimp only at ht t1 t2 t3 t4 st
  have c1 := col_at L ρ t1
  have cn : (col L ρ).n ≤ 1000 := by rw [c1.2.1, t2]; exact hbn'
  have hc := hvf H1 b (dp + 1) (col L ρ) hT1 hE1 c1.1 cn (by omega) (by rw [c1.2.1, t2]; show 2 * (1002 - τ.n) ≤ f; omega)
  unfold RdD at hc
  have hcol : ∀ Q : Prop, ((∀ (X : Does Tryz.prog 42 [ptr b, u8v 58] [rdC b L ρ] (X := Unit) (fun _ => .bool true) (fun _ => [rdC b L (adv ρ 1)]) (fun _ => True)), ρ.bad = false → col L ρ = adv ρ 1 → Q) ∧ (∀ (X : Does Tryz.prog 42 [ptr b, u8v 58] [rdC b L ρ] (X := Unit) (fun _ => .bool false) (fun _ => [rdC b L ρ]) (fun _ => True)), col L ρ = ⟨ρ.at_, ρ.n, true⟩ → Q)) → Q := fun Q hQ => by
    cases e3 : isT L 58 ρ with
    | true => exact hQ.1 (is_yes hL e3) (isT_at e3).1 (by unfold col; rw [if_pos e3])
    | false => exact hQ.2 (is_no hL e3) (by unfold col; rw [if_neg (by rw [e3]; decide)])
  repeat (first
    | (refine g_ops ?_; first | refine sO ?_ | refine s_n (fun _ => ?_) | refine s_app (fun _ _ => ?_) | refine s_b0 (fun _ => ?_) | ((fail_if_success refine g_lit rfl rfl rfl ?_); first | apply g_partM rfl rfl rfl | apply g_partMB rfl rfl rfl | fail))
    | refine gS ?_ | exact s_m | intro _)
  refine g_as 14 (v' := .bool true) rfl (by rw [hb]; rfl) ?_
  refine hcol _ ⟨fun h3 hb3 hq => ?_, fun h3 hq => ?_⟩
  · rw [hq] at hc st
    repeat (first
      | (refine g_ops ?_; first | refine sO ?_ | refine s_n (fun _ => ?_) | refine s_app (fun _ _ => ?_) | refine s_b0 (fun _ => ?_) | ((fail_if_success refine g_lit rfl rfl rfl ?_); first | apply g_partM rfl rfl rfl | apply g_partMB rfl rfl rfl | fail) | refine s_c (hi) (fun _ _ => ?_) | refine s_c (hi2) (fun _ _ => ?_) | refine s_c (ht) (fun _ _ => ?_) | refine s_c (h3) (fun _ _ => ?_) | refine s_c (hc) (fun _ _ => ?_))
      | refine gS ?_ | exact s_m | intro _)
    rename_i y hy
    obtain ⟨H2, w⟩ := y
    obtain ⟨hs2, hw⟩ := hy
    dsimp only [List.cons_append, List.nil_append, List.append_eq] at hs2 hw ⊢
    have st' := st H2 w hs2 hw
    rcases hw.shape with rfl | ⟨t, v', rfl⟩
    · repeat (first
        | (refine g_ops ?_; first | refine sO ?_ | refine s_n (fun _ => ?_) | refine s_app (fun _ _ => ?_) | refine s_b0 (fun _ => ?_) | ((fail_if_success refine g_lit rfl rfl rfl ?_); first | apply g_partM rfl rfl rfl | apply g_partMB rfl rfl rfl | fail))
        | refine gS ?_ | exact s_m | intro _)
      rename_i q' c'
      rw [show ps.length + 1 = (ps ++ [(⟨kk, .nilIface⟩ : Pr)]).length by simp, show ps.flatMap Pr.cells ++ [.string kk, .nilIface] = (ps ++ [(⟨kk, .nilIface⟩ : Pr)]).flatMap Pr.cells by simp [Pr.cells]]
      exact gA ⟨f, false, acc ++ [(valS L f (dp + 1) (adv ρ 1)).1], (valS L f (dp + 1) (adv ρ 1)).2, q', c', ps ++ [⟨kk, .nilIface⟩], H2⟩ (by simp only; omega) st'
    · repeat (first
        | (refine g_ops ?_; first | refine sO ?_ | refine s_n (fun _ => ?_) | refine s_app (fun _ _ => ?_) | refine s_b0 (fun _ => ?_) | ((fail_if_success refine g_lit rfl rfl rfl ?_); first | apply g_partM rfl rfl rfl | apply g_partMB rfl rfl rfl | fail))
        | refine gS ?_ | exact s_m | intro _)
      rename_i q' c'
      rw [show ps.length + 1 = (ps ++ [(⟨kk, .iface t v'⟩ : Pr)]).length by simp, show ps.flatMap Pr.cells ++ [.string kk, .iface t v'] = (ps ++ [(⟨kk, .iface t v'⟩ : Pr)]).flatMap Pr.cells by simp [Pr.cells]]
      exact gA ⟨f, false, acc ++ [(valS L f (dp + 1) (adv ρ 1)).1], (valS L f (dp + 1) (adv ρ 1)).2, q', c', ps ++ [⟨kk, .iface t v'⟩], H2⟩ (by simp only; omega) st'
  · rw [hq] at hc st
    repeat (first
      | (refine g_ops ?_; first | refine sO ?_ | refine s_n (fun _ => ?_) | refine s_app (fun _ _ => ?_) | refine s_b0 (fun _ => ?_) | ((fail_if_success refine g_lit rfl rfl rfl ?_); first | apply g_partM rfl rfl rfl | apply g_partMB rfl rfl rfl | fail) | refine s_c (hi) (fun _ _ => ?_) | refine s_c (hi2) (fun _ _ => ?_) | refine s_c (ht) (fun _ _ => ?_) | refine s_c (h3) (fun _ _ => ?_) | refine s_c (hc) (fun _ _ => ?_))
      | refine gS ?_ | exact s_m | intro _)
    rename_i y hy
    obtain ⟨H2, w⟩ := y
    obtain ⟨hs2, hw⟩ := hy
    dsimp only [List.cons_append, List.nil_append, List.append_eq] at hs2 hw ⊢
    have st' := st H2 w hs2 hw
    rcases hw.shape with rfl | ⟨t, v', rfl⟩
    · repeat (first
        | (refine g_ops ?_; first | refine sO ?_ | refine s_n (fun _ => ?_) | refine s_app (fun _ _ => ?_) | refine s_b0 (fun _ => ?_) | ((fail_if_success refine g_lit rfl rfl rfl ?_); first | apply g_partM rfl rfl rfl | apply g_partMB rfl rfl rfl | fail))
        | refine gS ?_ | exact s_m | intro _)
      rename_i q' c'
      rw [show ps.length + 1 = (ps ++ [(⟨kk, .nilIface⟩ : Pr)]).length by simp, show ps.flatMap Pr.cells ++ [.string kk, .nilIface] = (ps ++ [(⟨kk, .nilIface⟩ : Pr)]).flatMap Pr.cells by simp [Pr.cells]]
      exact gA ⟨f, false, acc ++ [(valS L f (dp + 1) ⟨ρ.at_, ρ.n, true⟩).1], (valS L f (dp + 1) ⟨ρ.at_, ρ.n, true⟩).2, q', c', ps ++ [⟨kk, .nilIface⟩], H2⟩ (by simp only; omega) st'
    · repeat (first
        | (refine g_ops ?_; first | refine sO ?_ | refine s_n (fun _ => ?_) | refine s_app (fun _ _ => ?_) | refine s_b0 (fun _ => ?_) | ((fail_if_success refine g_lit rfl rfl rfl ?_); first | apply g_partM rfl rfl rfl | apply g_partMB rfl rfl rfl | fail))
        | refine gS ?_ | exact s_m | intro _)
      rename_i q' c'
      rw [show ps.length + 1 = (ps ++ [(⟨kk, .iface t v'⟩ : Pr)]).length by simp, show ps.flatMap Pr.cells ++ [.string kk, .iface t v'] = (ps ++ [(⟨kk, .iface t v'⟩ : Pr)]).flatMap Pr.cells by simp [Pr.cells]]
      exact gA ⟨f, false, acc ++ [(valS L f (dp + 1) ⟨ρ.at_, ρ.n, true⟩).1], (valS L f (dp + 1) ⟨ρ.at_, ρ.n, true⟩).2, q', c', ps ++ [⟨kk, .iface t v'⟩], H2⟩ (by simp only; omega) st'
end Go.Proofs.YtaahibcibgljbaaGreatDoor
