/- Contracts: Check, Text, awake. -/
import Derived.Test.YtpilcncdgjnbeaaDoorValM
set_option linter.unusedSimpArgs false
set_option linter.unusedVariables false
namespace Go.Proofs.YtpilcncdgjnbeaaDoor
open Go.Sl facts
attribute [local irreducible] Code.wp wpList Exit.then Exit.inBlock bodyPost Back MidQ G GP QStep VStep CStep SStep Does Post Reads
attribute [local irreducible] textL textK szV szK szS quoteL boolL decI weigh
theorem check1 {H : HP} (hV : VStr H) {v : V} {x : Value} (hx : TAt H v x) : Does1 Tryd.prog 14 [x] [Pile H] (int (weigh v 0 0).1) := by
  refine fn_intro Tryd.func14 rfl Tryd.ntmps14 rfl (by simp only [argFr, Nat.zero_add, Nat.reduceAdd]; rfl) (fun Γ => ?_)
  repeat (first
    | (refine g_ops ?_; first | refine s_q ?_ | refine s_v ?_ | refine s_s ?_ | refine s_n (fun _ => ?_) | refine s_x ?_ | refine s_y ?_ | refine s_iq ?_ | refine s_mq ?_ | refine s_appB (fun _ _ => ?_) | refine s_app (fun _ _ => ?_) | refine s_mv ?_ | refine s_ms ?_ | refine s_b0 (fun _ => ?_) | ((fail_if_success refine g_lit rfl rfl rfl ?_); first | apply g_partM rfl rfl rfl | apply g_partMB rfl rfl rfl | fail))
    | refine g_seq ?_ | refine g_region ?_ | refine g_nil ?_ | refine g_then_normal ?_ | refine g_block ?_ | refine g_in_normal ?_ | refine g_retc ?_ | refine g_then_ret ?_
    | refine g_in_ret ?_ | refine g_exit ?_ | refine g_then_exit ?_ | refine g_in_exit ?_ | refine g_in_other rfl ?_ | refine g_skip ?_ | refine g_label ?_
    | refine g_cond_true rfl ?_ | refine g_cond_false rfl ?_ | exact s_m | intro _)
  rename_i b
  have hc := check_ hV v x hx b 0 0 ⟨by decide, by decide⟩ ⟨by decide, by decide⟩
  repeat (first
    | (refine g_ops ?_; first | refine s_q ?_ | refine s_v ?_ | refine s_s ?_ | refine s_n (fun _ => ?_) | refine s_x ?_ | refine s_y ?_ | refine s_iq ?_ | refine s_mq ?_ | refine s_appB (fun _ _ => ?_) | refine s_app (fun _ _ => ?_) | refine s_mv ?_ | refine s_ms ?_ | refine s_b0 (fun _ => ?_) | ((fail_if_success refine g_lit rfl rfl rfl ?_); first | apply g_partM rfl rfl rfl | apply g_partMB rfl rfl rfl | fail) | refine s_c (hc) (fun _ _ => ?_))
    | refine g_seq ?_ | refine g_region ?_ | refine g_nil ?_ | refine g_then_normal ?_ | refine g_block ?_ | refine g_in_normal ?_ | refine g_retc ?_ | refine g_then_ret ?_
    | refine g_in_ret ?_ | refine g_exit ?_ | refine g_then_exit ?_ | refine g_in_exit ?_ | refine g_in_other rfl ?_ | refine g_skip ?_ | refine g_label ?_
    | refine g_cond_true rfl ?_ | refine g_cond_false rfl ?_ | exact s_m | intro _)
  rename_i m _
  exact s_r ()
/-- A text of a value; none of what is none. -/
def textB (v : V) : ByteArray := if (weigh v 0 0).1 = 0 then ⟨(textL v).toArray⟩ else ByteArray.empty
theorem text1 {H : HP} (hT : Tb H) {v : V} {x : Value} (hx : TAt H v x) (hok : VOk v) (hsz : szV v ≤ 1000000000) : Does1 Tryd.prog 17 [x] [Pile H] (.string (textB v)) := by
  have hc := check1 hT.vs hx
  have hlen := textL_len v hok
  refine fn_intro Tryd.func17 rfl Tryd.ntmps17 rfl (by simp only [argFr, Nat.zero_add, Nat.reduceAdd]; rfl) (fun Γ => ?_)
  repeat (first
    | (refine g_ops ?_; first | refine s_q ?_ | refine s_v ?_ | refine s_s ?_ | refine s_n (fun _ => ?_) | refine s_x ?_ | refine s_y ?_ | refine s_iq ?_ | refine s_mq ?_ | refine s_appB (fun _ _ => ?_) | refine s_app (fun _ _ => ?_) | refine s_mv ?_ | refine s_ms ?_ | refine s_b0 (fun _ => ?_) | ((fail_if_success refine g_lit rfl rfl rfl ?_); first | apply g_partM rfl rfl rfl | apply g_partMB rfl rfl rfl | fail) | refine s_k (hc) ?_)
    | refine g_seq ?_ | refine g_region ?_ | refine g_nil ?_ | refine g_then_normal ?_ | refine g_block ?_ | refine g_in_normal ?_ | refine g_retc ?_ | refine g_then_ret ?_
    | refine g_in_ret ?_ | refine g_exit ?_ | refine g_then_exit ?_ | refine g_in_exit ?_ | refine g_in_other rfl ?_ | refine g_skip ?_ | refine g_label ?_
    | refine g_cond_true rfl ?_ | refine g_cond_false rfl ?_ | exact s_m | intro _)
  by_cases h0 : (weigh v 0 0).1 = 0
  · refine g_as 5 (v' := .bool false) rfl (congrArg Value.bool (decide_eq_false (by simpa using h0))) ?_
    have e : textB v = ⟨(textL v).toArray⟩ := if_pos h0
    have hp := put_ hT v x hx hok hsz none 0 [] (by simp only [List.length_nil]; omega)
    unfold PutD at hp
    refine g_own_nil none 1 5 ?_
    repeat (first
      | (refine g_ops ?_; first | refine s_q ?_ | refine s_v ?_ | refine s_s ?_ | refine s_n (fun _ => ?_) | refine s_x ?_ | refine s_y ?_ | refine s_iq ?_ | refine s_mq ?_ | refine s_appB (fun _ _ => ?_) | refine s_app (fun _ _ => ?_) | refine s_mv ?_ | refine s_ms ?_ | refine s_b0 (fun _ => ?_) | ((fail_if_success refine g_lit rfl rfl rfl ?_); first | apply g_partM rfl rfl rfl | apply g_partMB rfl rfl rfl | fail) | refine s_c (hp) (fun _ _ => ?_))
      | refine g_seq ?_ | refine g_region ?_ | refine g_nil ?_ | refine g_then_normal ?_ | refine g_block ?_ | refine g_in_normal ?_ | refine g_retc ?_
      | refine g_then_ret ?_ | refine g_in_ret ?_ | refine g_exit ?_ | refine g_then_exit ?_ | refine g_in_exit ?_ | refine g_in_other rfl ?_ | refine g_skip ?_
      | refine g_label ?_ | refine g_cond_true rfl ?_ | refine g_cond_false rfl ?_ | exact s_m | intro _)
    rename_i y _
    obtain ⟨q, c⟩ := y
    dsimp only [List.nil_append, List.cons_append]
    refine g_v (vs_bytesStr inferInstance inferInstance inferInstance rfl (by (repeat (first | exact Sel.here | apply Sel.there)); first | done | fail)) rfl rfl ?_
    repeat (first
      | (refine g_ops ?_; first | refine s_q ?_ | refine s_v ?_ | refine s_s ?_ | refine s_n (fun _ => ?_) | refine s_x ?_ | refine s_y ?_ | refine s_iq ?_ | refine s_mq ?_ | refine s_appB (fun _ _ => ?_) | refine s_app (fun _ _ => ?_) | refine s_mv ?_ | refine s_ms ?_ | refine s_b0 (fun _ => ?_) | ((fail_if_success refine g_lit rfl rfl rfl ?_); first | apply g_partM rfl rfl rfl | apply g_partMB rfl rfl rfl | fail))
      | refine g_seq ?_ | refine g_region ?_ | refine g_nil ?_ | refine g_then_normal ?_ | refine g_block ?_ | refine g_in_normal ?_ | refine g_retc ?_
      | refine g_then_ret ?_ | refine g_in_ret ?_ | refine g_exit ?_ | refine g_then_exit ?_ | refine g_in_exit ?_ | refine g_in_other rfl ?_ | refine g_skip ?_
      | refine g_label ?_ | refine g_cond_true rfl ?_ | refine g_cond_false rfl ?_ | exact s_m | intro _)
    exact s_r () (hp := by rw [e]; rfl)
  · refine g_as 5 (v' := .bool true) rfl (congrArg Value.bool (decide_eq_true (by simpa using h0))) ?_
    have e : textB v = ByteArray.empty := if_neg h0
    repeat (first
      | (refine g_ops ?_; first | refine s_q ?_ | refine s_v ?_ | refine s_s ?_ | refine s_n (fun _ => ?_) | refine s_x ?_ | refine s_y ?_ | refine s_iq ?_ | refine s_mq ?_ | refine s_appB (fun _ _ => ?_) | refine s_app (fun _ _ => ?_) | refine s_mv ?_ | refine s_ms ?_ | refine s_b0 (fun _ => ?_) | ((fail_if_success refine g_lit rfl rfl rfl ?_); first | apply g_partM rfl rfl rfl | apply g_partMB rfl rfl rfl | fail))
      | refine g_seq ?_ | refine g_region ?_ | refine g_nil ?_ | refine g_then_normal ?_ | refine g_block ?_ | refine g_in_normal ?_ | refine g_retc ?_
      | refine g_then_ret ?_ | refine g_in_ret ?_ | refine g_exit ?_ | refine g_then_exit ?_ | refine g_in_exit ?_ | refine g_in_other rfl ?_ | refine g_skip ?_
      | refine g_label ?_ | refine g_cond_true rfl ?_ | refine g_cond_false rfl ?_ | exact s_m | intro _)
    exact s_r () (hp := by rw [e]; rfl)
/-- [1,"a",nil]. -/
def awakeV : V := .mk 5 false 0 ByteArray.empty [] [.mk 3 false 1 ByteArray.empty [] [], .mk 4 false 0 ⟨#[97]⟩ [] [], .mk 1 false 0 ByteArray.empty [] []]
theorem awakeV_ok : VOk awakeV := .mk ⟨by decide, by decide⟩ fun x hx => by
  simp only [List.mem_cons, List.not_mem_nil, or_false] at hx
  rcases hx with rfl | rfl | rfl <;> exact .mk ⟨by decide, by decide⟩ (fun _ h => by cases h)
theorem awakeV_sz : szV awakeV ≤ 1000000000 := by
  unfold awakeV
  simp only [szV_mk, szK_cons, szK_nil, szS_nil]
  decide
theorem valid_a : validB ⟨#[97]⟩ = true := by decide +kernel
theorem awakeV_w : (weigh awakeV 0 0).1 = 0 := by
  unfold awakeV
  simp only [weigh_mk, weighL_cons, weighL_nil, valid_a]
  decide
theorem quote_a : quoteL ⟨#[97]⟩ = [34, 97, 34] := by decide +kernel
theorem dec_1 : decI 1 = [49] := by decide +kernel
theorem awakeV_t : textL awakeV = [91, 49, 44, 34, 97, 34, 44, 110, 105, 108, 93] := by
  unfold awakeV
  simp only [textL_mk, textK_cons, textK_nil, quote_a, dec_1]
  decide
theorem awake {H : HP} (hT : Tb H) : Does Tryd.prog 11 [] [Pile H] (X := HP) (fun _ => .bool true) (fun H' => [Pile H']) (fun H' => HP.sub H H') := by
  refine fn_intro Tryd.func11 rfl Tryd.ntmps11 rfl (by simp only [argFr, Nat.zero_add, Nat.reduceAdd]; rfl) (fun Γ => ?_)
  repeat (first
    | (refine g_ops ?_; first | refine s_q ?_ | refine s_v ?_ | refine s_s ?_ | refine s_n (fun _ => ?_) | refine s_x ?_ | refine s_y ?_ | refine s_iq ?_ | refine s_mq ?_ | refine s_appB (fun _ _ => ?_) | refine s_app (fun _ _ => ?_) | refine s_mv ?_ | refine s_ms ?_ | refine s_b0 (fun _ => ?_) | ((fail_if_success refine g_lit rfl rfl rfl ?_); first | apply g_partM rfl rfl rfl | apply g_partMB rfl rfl rfl | fail))
    | refine g_seq ?_ | refine g_region ?_ | refine g_nil ?_ | refine g_then_normal ?_ | refine g_block ?_ | refine g_in_normal ?_ | refine g_retc ?_ | refine g_then_ret ?_
    | refine g_in_ret ?_ | refine g_exit ?_ | refine g_then_exit ?_ | refine g_in_exit ?_ | refine g_in_other rfl ?_ | refine g_skip ?_ | refine g_label ?_
    | refine g_cond_true rfl ?_ | refine g_cond_false rfl ?_ | exact s_m | intro _)
  rename_i b
  refine g_toOwn (b := b) (len := 3) (n := 1) (by (repeat (first | exact Sel.here | apply Sel.there)); first | done | fail) rfl rfl ?_
  refine g_pile .here .here (fun H1 hs1 hS => ?_)
  have hx : TAt H1 awakeV (.iface 35 (.slice (some ⟨b, 0, none⟩) 3 3)) := .list (l := [.mk 3 false 1 ByteArray.empty [] [], .mk 4 false 0 ⟨#[97]⟩ [] [], .mk 1 false 0 ByteArray.empty [] []]) _ rfl (by decide) hS (fun i x v hx hv => by
    match i, hx, hv with
    | 0, hx, hv => cases hx; cases hv; exact .int ⟨by decide, by decide⟩
    | 1, hx, hv => cases hx; cases hv; exact .text (by decide)
    | 2, hx, hv => cases hx; cases hv; exact .nil
    | i + 3, hx, hv => cases hx)
  have ht := text1 (hT.grow hs1) hx awakeV_ok awakeV_sz
  have e : textB awakeV = ⟨#[91, 49, 44, 34, 97, 34, 44, 110, 105, 108, 93]⟩ := by unfold textB; rw [if_pos awakeV_w, awakeV_t]
  rw [e] at ht
  have hk : Does1 Tryd.prog 16 [.iface 4 (.bool true)] [] (.string ⟨#[98, 111, 111, 108]⟩) := kind_ (.bool true)
  repeat (first
    | (refine g_ops ?_; first | refine s_q ?_ | refine s_v ?_ | refine s_s ?_ | refine s_n (fun _ => ?_) | refine s_x ?_ | refine s_y ?_ | refine s_iq ?_ | refine s_mq ?_ | refine s_appB (fun _ _ => ?_) | refine s_app (fun _ _ => ?_) | refine s_mv ?_ | refine s_ms ?_ | refine s_b0 (fun _ => ?_) | ((fail_if_success refine g_lit rfl rfl rfl ?_); first | apply g_partM rfl rfl rfl | apply g_partMB rfl rfl rfl | fail) | refine s_p (hk) ?_ | refine s_p (awake_panics) ?_ | refine s_k (ht) ?_)
    | refine g_seq ?_ | refine g_region ?_ | refine g_nil ?_ | refine g_then_normal ?_ | refine g_block ?_ | refine g_in_normal ?_ | refine g_retc ?_ | refine g_then_ret ?_
    | refine g_in_ret ?_ | refine g_exit ?_ | refine g_then_exit ?_ | refine g_in_exit ?_ | refine g_in_other rfl ?_ | refine g_skip ?_ | refine g_label ?_
    | refine g_cond_true rfl ?_ | refine g_cond_false rfl ?_ | exact s_m | intro _)
  exact s_r H1 (hx := hs1)
end Go.Proofs.YtpilcncdgjnbeaaDoor
