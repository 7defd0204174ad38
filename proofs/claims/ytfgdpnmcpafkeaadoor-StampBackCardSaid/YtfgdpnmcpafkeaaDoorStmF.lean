/- Contracts: what the document fixes (awake). -/
import Derived.Test.YtfgdpnmcpafkeaaDoorStmE
set_option linter.unusedSimpArgs false
set_option linter.unusedVariables false
namespace Go.Proofs.YtfgdpnmcpafkeaaDoor
open Go.Sl facts
attribute [local irreducible] Code.wp wpList Exit.then Exit.inBlock bodyPost Back MidQ G GP QStep VStep CStep SStep Does Post Reads
theorem dec0 : Lib.decDigits 0 = [48] := by rw [Lib.decDigits_one (by decide)]; rfl
theorem dec1 : Lib.decDigits 1 = [49] := by rw [Lib.decDigits_one (by decide)]; rfl
theorem dec5 : Lib.decDigits 5 = [53] := by rw [Lib.decDigits_one (by decide)]; rfl
theorem text501 : textL 5 0 1 = [53, 46, 48, 64, 49] := by
  have h5 : Lib.itoa 5 = [53] := (Lib.itoa_nonneg 5).trans dec5
  have h0 : Lib.itoa 0 = [48] := (Lib.itoa_nonneg 0).trans dec0
  have h1 : Lib.itoa 1 = [49] := (Lib.itoa_nonneg 1).trans dec1
  unfold textL
  rw [h5, h0, h1]
  rfl
theorem parse501 : parseP [53, 46, 48, 64, 49] = some ⟨5, 0, 1⟩ := by
  have := parseF_text nx rd_text ⟨5, 0, 1⟩ (by decide)
  rw [show S3.text ⟨5, 0, 1⟩ = textL 5 0 1 from rfl, text501] at this
  exact this
theorem parse0501 : parseP [48, 53, 46, 48, 64, 49] = none := by
  have h : rdF nx Rd.init [48, 53, 46, 48, 64, 49] = some ⟨5, 0, 1, 2, 1⟩ := by decide
  unfold parseP parseF
  rw [h]
  simp only []
  rw [if_neg]
  rintro ⟨_, h2⟩
  rw [show S3.text (Rd.s3 ⟨5, 0, 1, 2, 1⟩) = textL 5 0 1 from rfl, text501] at h2
  simp at h2
theorem parse_a {H : HP} (hT : TabH H) : Does1 Tryd.prog 11 [.string ⟨#[53, 46, 48, 64, 49]⟩] [Pile H] (.tuple [.agg [.int .i64 5, .int .i64 0, .int .i64 1].toArray, .bool true].toArray) := by
  have := parse hT ⟨#[53, 46, 48, 64, 49]⟩
  rw [show (⟨#[53, 46, 48, 64, 49]⟩ : ByteArray).data.toList = [53, 46, 48, 64, 49] from rfl, parse501] at this
  exact this
theorem parse_b {H : HP} (hT : TabH H) : Does1 Tryd.prog 11 [.string ⟨#[48, 53, 46, 48, 64, 49]⟩] [Pile H] (.tuple [.agg [.int .i64 0, .int .i64 0, .int .i64 0].toArray, .bool false].toArray) := by
  have := parse hT ⟨#[48, 53, 46, 48, 64, 49]⟩
  rw [show (⟨#[48, 53, 46, 48, 64, 49]⟩ : ByteArray).data.toList = [48, 53, 46, 48, 64, 49] from rfl, parse0501] at this
  exact this
theorem text_a {H : HP} (hT : TabH H) : Does1 Tryd.prog 13 [.agg [.int .i64 5, .int .i64 0, .int .i64 1].toArray] [Pile H] (.string ⟨#[53, 46, 48, 64, 49]⟩) := by
  have := text hT 5 0 1 ⟨by decide, by decide⟩ ⟨by decide, by decide⟩ ⟨by decide, by decide⟩
  rw [text501] at this
  exact this
theorem awake {H : HP} (hT : TabH H) : Does1 Tryd.prog 10 [] [Pile H] (.bool true) := by
  refine fn_intro Tryd.func10 rfl Tryd.ntmps10 rfl (by simp only [argFr, Nat.zero_add, Nat.reduceAdd]; rfl) (fun Γ => ?_)
  repeat (first
    | (refine g_ops ?_; first | refine s_q ?_ | refine s_v ?_ | refine s_s ?_ | refine s_n (fun _ => ?_) | refine s_x ?_ | refine s_y ?_ | refine s_mq ?_ | refine s_app (fun _ _ => ?_) | refine s_mv ?_ | refine s_ms ?_ | refine s_b0 (fun _ => ?_) | ((fail_if_success refine g_lit rfl rfl rfl ?_); first | apply g_partM rfl rfl rfl | apply g_partMB rfl rfl rfl | fail) | refine s_k (parse_a hT) ?_ | refine s_k (parse_b hT) ?_ | refine s_k (text_a hT) ?_)
    | apply g_regB (id := 3) 0 | refine g_seq ?_ | refine g_region ?_ | refine g_nil ?_ | refine g_then_normal ?_ | refine g_block ?_ | refine g_in_normal ?_
    | refine g_retc ?_ | refine g_then_ret ?_ | refine g_in_ret ?_ | refine g_exit ?_ | refine g_then_exit ?_ | refine g_in_exit ?_ | refine g_in_other rfl ?_
    | refine g_skip ?_ | refine g_label ?_ | refine g_cond_true rfl ?_ | refine g_cond_false rfl ?_ | exact s_m | intro _ | (refine gp_take ?_; first | refine p_q ?_ | refine p_x ?_ | refine p_mq ?_ | ((fail_if_success refine gp_lit rfl rfl rfl rfl ?_); first | apply gp_guard_dec rfl rfl rfl rfl | apply gp_guard rfl rfl rfl rfl | fail))
    | (refine gp_see ?_; first | refine p_f ?_ | refine p_sx ?_ | ((fail_if_success refine gp_lit rfl rfl rfl rfl ?_); first | apply gp_guard_dec rfl rfl rfl rfl | apply gp_guard rfl rfl rfl rfl | fail) | refine p_h (parse_a hT) hd hk ?_ | refine p_h (parse_b hT) hd hk ?_ | refine p_h (text_a hT) hd hk ?_ | refine p_sq ?_)
    | (refine gp_one ?_; first | refine p_v ?_ | refine p_s ?_ | refine p_n (fun _ => ?_) | refine p_y ?_ | refine p_app (fun _ _ => ?_) | refine p_mv ?_ | refine p_ms ?_ | refine p_b0 (fun _ => ?_) | refine p_k (parse_a hT) ?_ | refine p_k (parse_b hT) ?_ | refine p_k (text_a hT) ?_)
    | refine gp_done hd hk ?_ | intro _ | refine p_ta hd hk (fun _ _ _ hd hk => ?_) | refine p_ts hd hk (fun _ hd hk => ?_))
  exact g_ret () rfl (by (repeat (first | exact RVs.nil | apply RVs.tmp rfl | apply RVs.cellA rfl (by (repeat (first | exact Sel.here | apply Sel.there)); first | done | fail) (by (repeat (first | exact Cut.zero | apply Cut.take | apply Cut.skip)); first | done | fail) | apply RVs.cell1 rfl (by (repeat (first | exact Sel.here | apply Sel.there)); first | done | fail) rfl)); first | done | fail) (by (repeat (first | exact Take.nil | apply Take.cons | exact Sel.here | apply Sel.there)); first | done | fail) (by simp [pack]) trivial
end Go.Proofs.YtfgdpnmcpafkeaaDoor
