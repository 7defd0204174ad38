/- The law's walk: ValueParses. -/
import Derived.Test.YtpilcncdgjnbeaaDoorDocG
set_option linter.unusedSimpArgs false
set_option linter.unusedVariables false
namespace Go.Proofs.YtpilcncdgjnbeaaDoor
open Go.Sl facts
attribute [local irreducible] Code.wp wpList Exit.then Exit.inBlock bodyPost Back MidQ G GP QStep VStep CStep SStep Does Post Reads
attribute [local irreducible] textB parsP
theorem szGood {v : V} {L : List UInt8} (h : parsP L = some v) : szV v ≤ 1001 * Kz L := by
  have := (rdD_good L).2.2
  rwa [(okD_of h).2] at this
set_option maxHeartbeats 4000000 in
theorem parses {H : HP} (hT : Tb H) (hE : ErrH H) (s : ByteArray) : Does1 Tryd.prog 7 [.string s] [Pile H] (.bool true) := by
  obtain ⟨L, rfl⟩ : ∃ L, s = txt L := ⟨s.data.toList, by unfold txt; simp⟩
  have hz : (txt L).size = L.length := txt_size L
  have aw := awake1 hT
  refine fn_intro Tryd.func7 rfl Tryd.ntmps7 rfl (by simp only [argFr, Nat.zero_add, Nat.reduceAdd]; rfl) (fun Γ => ?_)
  repeat (first
    | (refine g_ops ?_; first | refine sO ?_ | refine s_n (fun _ => ?_) | refine s_app (fun _ _ => ?_) | refine s_b0 (fun _ => ?_) | ((fail_if_success refine g_lit rfl rfl rfl ?_); first | apply g_partM rfl rfl rfl | apply g_partMB rfl rfl rfl | fail))
    | refine gS ?_ | exact s_m | intro _)
  refine g_cond_dec rfl (fun h1 => ?_) (fun h1 => ?_)
  · repeat (first
      | (refine g_ops ?_; first | refine sO ?_ | refine s_n (fun _ => ?_) | refine s_app (fun _ _ => ?_) | refine s_b0 (fun _ => ?_) | ((fail_if_success refine g_lit rfl rfl rfl ?_); first | apply g_partM rfl rfl rfl | apply g_partMB rfl rfl rfl | fail) | refine s_k (aw) ?_)
      | refine gS ?_ | exact s_m | intro _)
    exact s_r ()
  rw [hz] at h1
  have hp1 := parse1 hT hE L (by omega)
  have hps := @parsP_some L
  have hsz := @szGood
  have hsz := fun v => @hsz v L
  have hd1 := fun H2 => parseD (H := H2) L (by omega)
  generalize parsP L = r at hp1 hps hsz hd1
  cases r with
  | none =>
    dsimp only [Option.isSome] at hp1 hd1
    repeat (first
      | (refine g_ops ?_; first | refine sO ?_ | refine s_n (fun _ => ?_) | refine s_app (fun _ _ => ?_) | refine s_b0 (fun _ => ?_) | ((fail_if_success refine g_lit rfl rfl rfl ?_); first | apply g_partM rfl rfl rfl | apply g_partMB rfl rfl rfl | fail) | refine s_c (hp1) (fun _ _ => ?_))
      | refine gS ?_ | exact s_m | intro _)
    rename_i y hy
    obtain ⟨H2, x⟩ := y
    obtain ⟨hs2, _, hx2⟩ := hy
    dsimp only [List.cons_append, List.nil_append, List.append_eq] at hs2 hx2 ⊢
    obtain rfl := hx2 rfl
    have hd2 := hd1 H2
    repeat (first
      | (refine g_ops ?_; first | refine sO ?_ | refine s_n (fun _ => ?_) | refine s_app (fun _ _ => ?_) | refine s_b0 (fun _ => ?_) | ((fail_if_success refine g_lit rfl rfl rfl ?_); first | apply g_partM rfl rfl rfl | apply g_partMB rfl rfl rfl | fail) | refine s_c (hd2) (fun _ _ => ?_))
      | refine gS ?_ | exact s_m | intro _)
    rename_i y hy vb
    obtain ⟨H3, u⟩ := y
    obtain ⟨hs3, _⟩ := hy
    dsimp only [List.cons_append, List.nil_append, List.append_eq] at hs3 ⊢
    have aw3 := awake1 (hT.grow (hs2.trans hs3))
    repeat (first
      | (refine g_ops ?_; first | refine sO ?_ | refine s_n (fun _ => ?_) | refine s_app (fun _ _ => ?_) | refine s_b0 (fun _ => ?_) | ((fail_if_success refine g_lit rfl rfl rfl ?_); first | apply g_partM rfl rfl rfl | apply g_partMB rfl rfl rfl | fail) | refine s_k (aw3) ?_)
      | refine gS ?_ | exact s_m | intro _)
    refine g_unpile (hs2.trans hs3) (by (repeat (first | exact Sel.here | apply Sel.there)); first | done | fail) ?_
    exact s_r ()
  | some v =>
    dsimp only [Option.isSome] at hp1 hd1
    repeat (first
      | (refine g_ops ?_; first | refine sO ?_ | refine s_n (fun _ => ?_) | refine s_app (fun _ _ => ?_) | refine s_b0 (fun _ => ?_) | ((fail_if_success refine g_lit rfl rfl rfl ?_); first | apply g_partM rfl rfl rfl | apply g_partMB rfl rfl rfl | fail) | refine s_c (hp1) (fun _ _ => ?_))
      | refine gS ?_ | exact s_m | intro _)
    rename_i y hy
    obtain ⟨H2, x⟩ := y
    obtain ⟨hs2, hx2, _⟩ := hy
    dsimp only [List.cons_append, List.nil_append, List.append_eq] at hs2 hx2 ⊢
    have hd2 := hd1 H2
    obtain ⟨hw, _, hg, hn⟩ := hps rfl
    have hz2 := hsz v rfl
    have hko := kok v hg.1 0 0 hw
    repeat (first
      | (refine g_ops ?_; first | refine sO ?_ | refine s_n (fun _ => ?_) | refine s_app (fun _ _ => ?_) | refine s_b0 (fun _ => ?_) | ((fail_if_success refine g_lit rfl rfl rfl ?_); first | apply g_partM rfl rfl rfl | apply g_partMB rfl rfl rfl | fail) | refine s_c (hd2) (fun _ _ => ?_))
      | refine gS ?_ | exact s_m | intro _)
    rename_i y hy vb
    obtain ⟨H3, u⟩ := y
    obtain ⟨hs3, hu⟩ := hy
    dsimp only [List.cons_append, List.nil_append, List.append_eq] at hs3 hu ⊢
    have hu := hu v rfl
    have hfl := flat_ v H3 x ((hx2 v rfl).grow hs3) (by unfold Kz at hz2; omega) hko.kind hko
    rw [hn] at hfl
    refine g_draw (.take 0 (.see 2 [] (.one 1 (.one 3 (.take 4 (.one 5 (.take 6 (.take 7 .done)))))))) (by kernel_rfl) (C := [.row vb u.cells 25]) (by (repeat (first | exact Take.nil | apply Take.cons | exact Sel.here | apply Sel.there)); first | done | fail) (fun m hd hk => ?_)
    repeat (first
      | (refine gp_take ?_; first | refine pT ?_ | ((fail_if_success refine gp_lit rfl rfl rfl rfl ?_); first | apply gp_guard_dec rfl rfl rfl rfl | apply gp_guard rfl rfl rfl rfl | fail))
      | (refine gp_see ?_; first | refine p_f ?_ | refine pS ?_ | ((fail_if_success refine gp_lit rfl rfl rfl rfl ?_); first | apply gp_guard_dec rfl rfl rfl rfl | apply gp_guard rfl rfl rfl rfl | fail))
      | (refine gp_one ?_; first | refine pO ?_ | refine p_n (fun _ => ?_) | refine p_app (fun _ _ => ?_) | refine p_b0 (fun _ => ?_) | ((fail_if_success refine gp_lit rfl rfl rfl rfl ?_); first | apply gp_guard_dec rfl rfl rfl rfl | apply gp_guard rfl rfl rfl rfl | fail) | refine p_c (hfl) (fun _ _ => ?_))
      | refine gp_two ?_ ?_ | refine gp_done hd hk ?_ | intro _ | refine p_ta hd hk (fun _ _ _ hd hk => ?_) | refine p_ts hd hk (fun _ hd hk => ?_))
    rename_i z hz
    obtain ⟨H4, u4⟩ := z
    obtain ⟨hs4, hu4⟩ := hz
    dsimp only [List.cons_append, List.nil_append, List.append_eq] at hs4 hu4 ⊢
    have hsm := same_ v H4 u4 u hu4 (hu.grow hs4)
    have aw4 := awake1 (hT.grow ((hs2.trans hs3).trans hs4))
    repeat (first
      | (refine gp_take ?_; first | refine pT ?_ | ((fail_if_success refine gp_lit rfl rfl rfl rfl ?_); first | apply gp_guard_dec rfl rfl rfl rfl | apply gp_guard rfl rfl rfl rfl | fail))
      | (refine gp_see ?_; first | refine p_f ?_ | refine pS ?_ | ((fail_if_success refine gp_lit rfl rfl rfl rfl ?_); first | apply gp_guard_dec rfl rfl rfl rfl | apply gp_guard rfl rfl rfl rfl | fail) | refine p_h (hsm) hd hk ?_ | refine p_h (aw4) hd hk ?_)
      | (refine gp_one ?_; first | refine pO ?_ | refine p_n (fun _ => ?_) | refine p_app (fun _ _ => ?_) | refine p_b0 (fun _ => ?_) | ((fail_if_success refine gp_lit rfl rfl rfl rfl ?_); first | apply gp_guard_dec rfl rfl rfl rfl | apply gp_guard rfl rfl rfl rfl | fail) | refine p_k (hsm) ?_ | refine p_k (aw4) ?_)
      | refine gp_two ?_ ?_ | refine gp_done hd hk ?_ | intro _ | refine p_ta hd hk (fun _ _ _ hd hk => ?_) | refine p_ts hd hk (fun _ hd hk => ?_))
    repeat (first
      | (refine g_ops ?_; first | refine sO ?_ | refine s_n (fun _ => ?_) | refine s_app (fun _ _ => ?_) | refine s_b0 (fun _ => ?_) | ((fail_if_success refine g_lit rfl rfl rfl ?_); first | apply g_partM rfl rfl rfl | apply g_partMB rfl rfl rfl | fail))
      | refine gS ?_ | exact s_m | intro _)
    refine g_unpile ((hs2.trans hs3).trans hs4) (by (repeat (first | exact Sel.here | apply Sel.there)); first | done | fail) ?_
    exact s_r ()
end Go.Proofs.YtpilcncdgjnbeaaDoor
