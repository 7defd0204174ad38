/- Contracts: AppendRune, wrong. -/
import Derived.Test.YtpilcncdgjnbeaaDoorValG
set_option linter.unusedSimpArgs false
set_option linter.unusedVariables false
namespace Go.Sl
theorem wrap8m (z : Int) : IntKind.u8.wrap z = z % 256 := rfl
theorem or_hi (k a x : Nat) (h : x < 2 ^ k) : 2 ^ k * a ||| x = 2 ^ k * a + x := (Nat.two_pow_add_eq_or_of_lt h a).symm
theorem or192 (x : Nat) (h : x < 64) : 192 ||| x = 192 + x := or_hi 6 3 x h
theorem or224 (x : Nat) (h : x < 32) : 224 ||| x = 224 + x := or_hi 5 7 x h
theorem or240 (x : Nat) (h : x < 16) : 240 ||| x = 240 + x := or_hi 4 15 x h
theorem low6 (x : Nat) : 128 ||| (x % 256 &&& 63) = 128 + x % 64 := by
  have e : x % 256 &&& 63 = x % 64 := by
    have := Nat.and_two_pow_sub_one_eq_mod (x % 256) 6
    rw [show (2 : Nat) ^ 6 - 1 = 63 from rfl, show (2 : Nat) ^ 6 = 64 from rfl] at this
    rw [this]; omega
  rw [e]
  exact or_hi 7 1 (x % 64) (by omega)
theorem u8n (n : Nat) (h : n < 256) : ((UInt8.ofNat n).toNat : Int) = n := by
  rw [UInt8.toNat_ofNat']
  omega
theorem enc1 (r : Nat) (h : r ≤ 127) : Lib.encodeRune (r : Int) = [UInt8.ofNat r] := by
  unfold Lib.encodeRune
  rw [Lib.encodeRuneZ_one (by omega) (by omega)]
  simp
theorem enc2 (r : Nat) (h0 : 128 ≤ r) (h : r ≤ 2047) : Lib.encodeRune (r : Int) = [UInt8.ofNat (192 + r / 64), UInt8.ofNat (128 + r % 64)] := by
  unfold Lib.encodeRune
  rw [Lib.encodeRuneZ_two (by omega) (by omega)]
  simp only [List.map_cons, List.map_nil]
  rw [show (192 + (r : Int) / 64).toNat = 192 + r / 64 by omega, show (128 + (r : Int) % 64).toNat = 128 + r % 64 by omega]
theorem enc3 (r : Nat) (h : 2048 ≤ r ∧ r < 55296 ∨ 57343 < r ∧ r ≤ 65535) : Lib.encodeRune (r : Int) = [UInt8.ofNat (224 + r / 4096), UInt8.ofNat (128 + r / 64 % 64), UInt8.ofNat (128 + r % 64)] := by
  unfold Lib.encodeRune
  rw [Lib.encodeRuneZ_three (by omega)]
  simp only [List.map_cons, List.map_nil]
  rw [show (224 + (r : Int) / 4096).toNat = 224 + r / 4096 by omega, show (128 + (r : Int) / 64 % 64).toNat = 128 + r / 64 % 64 by omega, show (128 + (r : Int) % 64).toNat = 128 + r % 64 by omega]
theorem enc4 (r : Nat) (h0 : 65536 ≤ r) (h : r ≤ 1114111) : Lib.encodeRune (r : Int) = [UInt8.ofNat (240 + r / 262144), UInt8.ofNat (128 + r / 4096 % 64), UInt8.ofNat (128 + r / 64 % 64), UInt8.ofNat (128 + r % 64)] := by
  unfold Lib.encodeRune
  rw [Lib.encodeRuneZ_four (by omega) (by omega)]
  simp only [List.map_cons, List.map_nil]
  rw [show (240 + (r : Int) / 262144).toNat = 240 + r / 262144 by omega, show (128 + (r : Int) / 4096 % 64).toNat = 128 + r / 4096 % 64 by omega, show (128 + (r : Int) / 64 % 64).toNat = 128 + r / 64 % 64 by omega, show (128 + (r : Int) % 64).toNat = 128 + r % 64 by omega]
theorem encBad (r : Nat) (h : 55296 ≤ r ∧ r ≤ 57343) : Lib.encodeRune (r : Int) = [239, 191, 189] := by
  unfold Lib.encodeRune
  rw [Lib.encodeRuneZ_bad (by omega)]
  rfl
end Go.Sl
namespace Go.Proofs.YtpilcncdgjnbeaaDoor
open Go.Sl facts
attribute [local irreducible] Code.wp wpList Exit.then Exit.inBlock bodyPost Back MidQ G GP QStep VStep CStep SStep Does Post Reads
instance : Callable Tryd.prog 95 := callable (by kernel_rfl)
theorem u32n (n : Nat) (h : n < 4294967296) : IntKind.u32.wrap (n : Int) = n := by
  show (n : Int) % 4294967296 = n
  omega
theorem appendOther (q : Option Addr) (c : Nat) (bs : List UInt8) (r : Nat) (h0 : 128 ≤ r) (hr : r ≤ 1114111) (hl : bs.length ≤ 1000000000000) : Does Tryd.prog 95 [bV q c bs, .int .i32 r] [bO q c bs] (X := BX) (fun y => bV y.q y.c (bs ++ Lib.encodeRune r)) (fun y => [bO y.q y.c (bs ++ Lib.encodeRune r)]) (fun _ => True) := by
  refine fn_intro Tryd.func95 rfl Tryd.ntmps95 rfl (by simp only [argFr, Nat.zero_add, Nat.reduceAdd]; rfl) (fun Γ => ?_)
  repeat (first
    | (refine g_ops ?_; first | refine s_q ?_ | refine s_v ?_ | refine s_s ?_ | refine s_n (fun _ => ?_) | refine s_x ?_ | refine s_y ?_ | refine s_iq ?_ | refine s_mq ?_ | refine s_appB (fun _ _ => ?_) | refine s_app (fun _ _ => ?_) | refine s_mv ?_ | refine s_ms ?_ | refine s_b0 (fun _ => ?_) | ((fail_if_success refine g_lit rfl rfl rfl ?_); first | apply g_partM rfl rfl rfl | apply g_partMB rfl rfl rfl | fail))
    | refine g_seq ?_ | refine g_region ?_ | refine g_nil ?_ | refine g_then_normal ?_ | refine g_block ?_ | refine g_in_normal ?_ | refine g_retc ?_ | refine g_then_ret ?_
    | refine g_in_ret ?_ | refine g_exit ?_ | refine g_then_exit ?_ | refine g_in_exit ?_ | refine g_in_other rfl ?_ | refine g_skip ?_ | refine g_label ?_
    | refine g_cond_true rfl ?_ | refine g_cond_false rfl ?_ | exact s_m | intro _)
  refine s_q (q := by exact qs_convInt rfl) ?_
  refine g_as 7 (v' := .int .u32 ((r : Nat) : Int)) rfl (congrArg (Value.int .u32) (u32n r (by omega))) ?_
  repeat (first
    | (refine g_ops ?_; first | refine s_q ?_ | refine s_v ?_ | refine s_s ?_ | refine s_n (fun _ => ?_) | refine s_x ?_ | refine s_y ?_ | refine s_iq ?_ | refine s_mq ?_ | refine s_appB (fun _ _ => ?_) | refine s_app (fun _ _ => ?_) | refine s_mv ?_ | refine s_ms ?_ | refine s_b0 (fun _ => ?_) | ((fail_if_success refine g_lit rfl rfl rfl ?_); first | apply g_partM rfl rfl rfl | apply g_partMB rfl rfl rfl | fail))
    | refine g_seq ?_ | refine g_region ?_ | refine g_nil ?_ | refine g_then_normal ?_ | refine g_block ?_ | refine g_in_normal ?_ | refine g_retc ?_ | refine g_then_ret ?_
    | refine g_in_ret ?_ | refine g_exit ?_ | refine g_then_exit ?_ | refine g_in_exit ?_ | refine g_in_other rfl ?_ | refine g_skip ?_ | refine g_label ?_
    | refine g_cond_true rfl ?_ | refine g_cond_false rfl ?_ | exact s_m | intro _)
  refine g_cond_dec rfl (fun h1 => ?_) (fun h1 => ?_)
  · rw [enc2 r h0 (by omega)]
    repeat (first
      | (refine g_ops ?_; first | refine s_q ?_ | refine s_v ?_ | refine s_s ?_ | refine s_n (fun _ => ?_) | refine s_x ?_ | refine s_y ?_ | refine s_iq ?_ | refine s_mq ?_ | refine s_appB (fun _ _ => ?_) | refine s_app (fun _ _ => ?_) | refine s_mv ?_ | refine s_ms ?_ | refine s_b0 (fun _ => ?_) | ((fail_if_success refine g_lit rfl rfl rfl ?_); first | apply g_partM rfl rfl rfl | apply g_partMB rfl rfl rfl | fail))
      | refine g_seq ?_ | refine g_region ?_ | refine g_nil ?_ | refine g_then_normal ?_ | refine g_block ?_ | refine g_in_normal ?_ | refine g_retc ?_
      | refine g_then_ret ?_ | refine g_in_ret ?_ | refine g_exit ?_ | refine g_then_exit ?_ | refine g_in_exit ?_ | refine g_in_other rfl ?_ | refine g_skip ?_
      | refine g_label ?_ | refine g_cond_true rfl ?_ | refine g_cond_false rfl ?_ | exact s_m | intro _)
    refine s_q (q := by exact qs_shrK (i := .i32) (a := r) (n := 6) rfl rfl (by decide)) ?_
    refine g_as 16 (v' := .int .i32 ((r / 64 : Nat) : Int)) rfl (by rw [show (2 : Nat) ^ 6 = 64 from by decide]) ?_
    refine s_q (q := by exact qs_convInt rfl) ?_
    refine g_as 17 (v' := .int .u8 (((r / 64) % 256 : Nat) : Int)) rfl (congrArg (Value.int .u8) (by rw [wrap8m]; omega)) ?_
    refine s_q (q := by exact qs_or8 (a := 192) (b := (r / 64) % 256) rfl rfl (by decide) (Nat.mod_lt _ (by decide))) ?_
    refine g_as 18 (v' := .int .u8 ((UInt8.ofNat (192 + (r / 64))).toNat : Int)) rfl (congrArg (Value.int .u8) (by rw [u8n _ (by omega), Nat.mod_eq_of_lt (by omega), or192 _ (by omega)])) ?_
    repeat (first
      | (refine g_ops ?_; first | refine s_q ?_ | refine s_v ?_ | refine s_s ?_ | refine s_n (fun _ => ?_) | refine s_x ?_ | refine s_y ?_ | refine s_iq ?_ | refine s_mq ?_ | refine s_appB (fun _ _ => ?_) | refine s_app (fun _ _ => ?_) | refine s_mv ?_ | refine s_ms ?_ | refine s_b0 (fun _ => ?_) | ((fail_if_success refine g_lit rfl rfl rfl ?_); first | apply g_partM rfl rfl rfl | apply g_partMB rfl rfl rfl | fail))
      | refine g_seq ?_ | refine g_region ?_ | refine g_nil ?_ | refine g_then_normal ?_ | refine g_block ?_ | refine g_in_normal ?_ | refine g_retc ?_
      | refine g_then_ret ?_ | refine g_in_ret ?_ | refine g_exit ?_ | refine g_then_exit ?_ | refine g_in_exit ?_ | refine g_in_other rfl ?_ | refine g_skip ?_
      | refine g_label ?_ | refine g_cond_true rfl ?_ | refine g_cond_false rfl ?_ | exact s_m | intro _)
    refine s_q (q := by exact qs_convInt rfl) ?_
    refine g_as 20 (v' := .int .u8 ((r % 256 : Nat) : Int)) rfl (congrArg (Value.int .u8) (by rw [wrap8m]; omega)) ?_
    refine s_q (q := by exact qs_and8 (a := r % 256) (b := 63) rfl rfl (Nat.mod_lt _ (by decide)) (by decide)) ?_
    refine s_q (q := by exact qs_or8 (a := 128) (b := r % 256 &&& 63) rfl rfl (by decide) (Nat.lt_of_le_of_lt Nat.and_le_right (by decide))) ?_
    refine g_as 22 (v' := .int .u8 ((UInt8.ofNat (128 + r % 64)).toNat : Int)) rfl (congrArg (Value.int .u8) (by rw [u8n _ (by omega), low6])) ?_
    generalize UInt8.ofNat (192 + r / 64) = y0
    generalize UInt8.ofNat (128 + r % 64) = y1
    repeat (first
      | (refine g_ops ?_; first | refine s_q ?_ | refine s_v ?_ | refine s_s ?_ | refine s_n (fun _ => ?_) | refine s_x ?_ | refine s_y ?_ | refine s_iq ?_ | refine s_mq ?_ | refine s_appB (fun _ _ => ?_) | refine s_app (fun _ _ => ?_) | refine s_mv ?_ | refine s_ms ?_ | refine s_b0 (fun _ => ?_) | ((fail_if_success refine g_lit rfl rfl rfl ?_); first | apply g_partM rfl rfl rfl | apply g_partMB rfl rfl rfl | fail))
      | refine g_seq ?_ | refine g_region ?_ | refine g_nil ?_ | refine g_then_normal ?_ | refine g_block ?_ | refine g_in_normal ?_ | refine g_retc ?_
      | refine g_then_ret ?_ | refine g_in_ret ?_ | refine g_exit ?_ | refine g_then_exit ?_ | refine g_in_exit ?_ | refine g_in_other rfl ?_ | refine g_skip ?_
      | refine g_label ?_ | refine g_cond_true rfl ?_ | refine g_cond_false rfl ?_ | exact s_m | intro _)
    rename_i q' c'
    rw [show cells8 bs ++ [Value.int .u8 (y0.toNat : Int), Value.int .u8 (y1.toNat : Int)] = cells8 (bs ++ [y0, y1]) from cells8_append bs [y0, y1], show bs.length + 2 = (bs ++ [y0, y1]).length by simp]
    exact g_ret (⟨q', c'⟩ : BX) rfl (by (repeat (first | exact RVs.nil | apply RVs.tmp rfl | apply RVs.cellA rfl (by (repeat (first | exact Sel.here | apply Sel.there)); first | done | fail) (by (repeat (first | exact Cut.zero | apply Cut.take | apply Cut.skip)); first | done | fail) | apply RVs.cell1 rfl (by (repeat (first | exact Sel.here | apply Sel.there)); first | done | fail) rfl)); first | done | fail) (by (repeat (first | exact Take.nil | apply Take.cons | exact Sel.here | apply Sel.there)); first | done | fail) rfl trivial
  · repeat ((fail_if_success refine s_at 27 ?_); first
      | (refine g_ops ?_; first | refine s_q ?_ | refine s_v ?_ | refine s_s ?_ | refine s_n (fun _ => ?_) | refine s_x ?_ | refine s_y ?_ | refine s_iq ?_ | refine s_mq ?_ | refine s_appB (fun _ _ => ?_) | refine s_app (fun _ _ => ?_) | refine s_mv ?_ | refine s_ms ?_ | refine s_b0 (fun _ => ?_) | ((fail_if_success refine g_lit rfl rfl rfl ?_); first | apply g_partM rfl rfl rfl | apply g_partMB rfl rfl rfl | fail))
      | refine g_seq ?_ | refine g_region ?_ | refine g_nil ?_ | refine g_then_normal ?_ | refine g_block ?_ | refine g_in_normal ?_ | refine g_retc ?_
      | refine g_then_ret ?_ | refine g_in_ret ?_ | refine g_exit ?_ | refine g_then_exit ?_ | refine g_in_exit ?_ | refine g_in_other rfl ?_ | refine g_skip ?_
      | refine g_label ?_ | refine g_cond_true rfl ?_ | refine g_cond_false rfl ?_ | exact s_m | intro _)
    first
      | (refine g_ops ?_; first | refine s_q ?_ | refine s_v ?_ | refine s_s ?_ | refine s_n (fun _ => ?_) | refine s_x ?_ | refine s_y ?_ | refine s_iq ?_ | refine s_mq ?_ | refine s_appB (fun _ _ => ?_) | refine s_app (fun _ _ => ?_) | refine s_mv ?_ | refine s_ms ?_ | refine s_b0 (fun _ => ?_) | ((fail_if_success refine g_lit rfl rfl rfl ?_); first | apply g_partM rfl rfl rfl | apply g_partMB rfl rfl rfl | fail))
      | refine g_seq ?_ | refine g_region ?_ | refine g_nil ?_ | refine g_then_normal ?_ | refine g_block ?_ | refine g_in_normal ?_ | refine g_retc ?_
      | refine g_then_ret ?_ | refine g_in_ret ?_ | refine g_exit ?_ | refine g_then_exit ?_ | refine g_in_exit ?_ | refine g_in_other rfl ?_ | refine g_skip ?_
      | refine g_label ?_ | refine g_cond_true rfl ?_ | refine g_cond_false rfl ?_ | exact s_m | intro _
    generalize hb1 : decide ((r : Int) < 55296) = b1
    repeat (first
      | (refine g_ops ?_; first | refine s_q ?_ | refine s_v ?_ | refine s_s ?_ | refine s_n (fun _ => ?_) | refine s_x ?_ | refine s_y ?_ | refine s_iq ?_ | refine s_mq ?_ | refine s_appB (fun _ _ => ?_) | refine s_app (fun _ _ => ?_) | refine s_mv ?_ | refine s_ms ?_ | refine s_b0 (fun _ => ?_) | ((fail_if_success refine g_lit rfl rfl rfl ?_); first | apply g_partM rfl rfl rfl | apply g_partMB rfl rfl rfl | fail))
      | refine g_seq ?_ | refine g_region ?_ | refine g_nil ?_ | refine g_then_normal ?_ | refine g_block ?_ | refine g_in_normal ?_ | refine g_retc ?_
      | refine g_then_ret ?_ | refine g_in_ret ?_ | refine g_exit ?_ | refine g_then_exit ?_ | refine g_in_exit ?_ | refine g_in_other rfl ?_ | refine g_skip ?_
      | refine g_label ?_ | refine g_cond_true rfl ?_ | refine g_cond_false rfl ?_ | exact s_m | intro _)
    refine g_cutX (X := Unit) (fun _ => [(0, bV q c bs), (1, .int .i32 r), (5, .int .u32 r), (25, .bool (decide (r < 55296 ∨ 57343 < r ∧ r ≤ 65535)))]) (fun _ => [bO q c bs]) (fun _ => True) ?_ (fun _ _ => ?_)
    · refine g_cond rfl (fun h2 => ?_) (fun h2 => ?_)
      · subst h2
        have h2 := of_decide_eq_true hb1
        repeat (first
          | (refine g_ops ?_; first | refine s_q ?_ | refine s_v ?_ | refine s_s ?_ | refine s_n (fun _ => ?_) | refine s_x ?_ | refine s_y ?_ | refine s_iq ?_ | refine s_mq ?_ | refine s_appB (fun _ _ => ?_) | refine s_app (fun _ _ => ?_) | refine s_mv ?_ | refine s_ms ?_ | refine s_b0 (fun _ => ?_) | ((fail_if_success refine g_lit rfl rfl rfl ?_); first | apply g_partM rfl rfl rfl | apply g_partMB rfl rfl rfl | fail))
          | refine g_seq ?_ | refine g_region ?_ | refine g_nil ?_ | refine g_then_normal ?_ | refine g_block ?_ | refine g_in_normal ?_ | refine g_retc ?_
          | refine g_then_ret ?_ | refine g_in_ret ?_ | refine g_exit ?_ | refine g_then_exit ?_ | refine g_in_exit ?_ | refine g_in_other rfl ?_ | refine g_skip ?_
          | refine g_label ?_ | refine g_cond_true rfl ?_ | refine g_cond_false rfl ?_ | exact s_m | intro _)
        refine g_as 25 (v' := .bool (decide (r < 55296 ∨ 57343 < r ∧ r ≤ 65535))) rfl (congrArg Value.bool (by rw [decide_eq_true (p := r < 55296 ∨ _) (.inl (by omega))])) ?_
        exact g_midX () trivial (by (repeat (first | exact FrSub.nil | refine FrSub.cons rfl ?_)); first | done | fail) (by (repeat (first | exact Take.nil | apply Take.cons | exact Sel.here | apply Sel.there)); first | done | fail)
      · subst h2
        have h2 := of_decide_eq_false hb1
        repeat ((fail_if_success refine s_at 29 ?_); first
          | (refine g_ops ?_; first | refine s_q ?_ | refine s_v ?_ | refine s_s ?_ | refine s_n (fun _ => ?_) | refine s_x ?_ | refine s_y ?_ | refine s_iq ?_ | refine s_mq ?_ | refine s_appB (fun _ _ => ?_) | refine s_app (fun _ _ => ?_) | refine s_mv ?_ | refine s_ms ?_ | refine s_b0 (fun _ => ?_) | ((fail_if_success refine g_lit rfl rfl rfl ?_); first | apply g_partM rfl rfl rfl | apply g_partMB rfl rfl rfl | fail))
          | refine g_seq ?_ | refine g_region ?_ | refine g_nil ?_ | refine g_then_normal ?_ | refine g_block ?_ | refine g_in_normal ?_ | refine g_retc ?_
          | refine g_then_ret ?_ | refine g_in_ret ?_ | refine g_exit ?_ | refine g_then_exit ?_ | refine g_in_exit ?_ | refine g_in_other rfl ?_ | refine g_skip ?_
          | refine g_label ?_ | refine g_cond_true rfl ?_ | refine g_cond_false rfl ?_ | exact s_m | intro _)
        first
          | (refine g_ops ?_; first | refine s_q ?_ | refine s_v ?_ | refine s_s ?_ | refine s_n (fun _ => ?_) | refine s_x ?_ | refine s_y ?_ | refine s_iq ?_ | refine s_mq ?_ | refine s_appB (fun _ _ => ?_) | refine s_app (fun _ _ => ?_) | refine s_mv ?_ | refine s_ms ?_ | refine s_b0 (fun _ => ?_) | ((fail_if_success refine g_lit rfl rfl rfl ?_); first | apply g_partM rfl rfl rfl | apply g_partMB rfl rfl rfl | fail))
          | refine g_seq ?_ | refine g_region ?_ | refine g_nil ?_ | refine g_then_normal ?_ | refine g_block ?_ | refine g_in_normal ?_ | refine g_retc ?_
          | refine g_then_ret ?_ | refine g_in_ret ?_ | refine g_exit ?_ | refine g_then_exit ?_ | refine g_in_exit ?_ | refine g_in_other rfl ?_ | refine g_skip ?_
          | refine g_label ?_ | refine g_cond_true rfl ?_ | refine g_cond_false rfl ?_ | exact s_m | intro _
        generalize hb2 : decide ((57343 : Int) < (r : Int)) = b2
        repeat ((fail_if_success refine s_at 32 ?_); first
          | (refine g_ops ?_; first | refine s_q ?_ | refine s_v ?_ | refine s_s ?_ | refine s_n (fun _ => ?_) | refine s_x ?_ | refine s_y ?_ | refine s_iq ?_ | refine s_mq ?_ | refine s_appB (fun _ _ => ?_) | refine s_app (fun _ _ => ?_) | refine s_mv ?_ | refine s_ms ?_ | refine s_b0 (fun _ => ?_) | ((fail_if_success refine g_lit rfl rfl rfl ?_); first | apply g_partM rfl rfl rfl | apply g_partMB rfl rfl rfl | fail))
          | refine g_seq ?_ | refine g_region ?_ | refine g_nil ?_ | refine g_then_normal ?_ | refine g_block ?_ | refine g_in_normal ?_ | refine g_retc ?_
          | refine g_then_ret ?_ | refine g_in_ret ?_ | refine g_exit ?_ | refine g_then_exit ?_ | refine g_in_exit ?_ | refine g_in_other rfl ?_ | refine g_skip ?_
          | refine g_label ?_ | refine g_cond_true rfl ?_ | refine g_cond_false rfl ?_ | exact s_m | intro _)
        refine g_guard rfl rfl rfl (fun h5 => ?_) (fun h5 => ?_)
        · subst h5
          have h5 := of_decide_eq_true hb2
          repeat ((fail_if_success refine s_at 32 ?_); first
            | (refine g_ops ?_; first | refine s_q ?_ | refine s_v ?_ | refine s_s ?_ | refine s_n (fun _ => ?_) | refine s_x ?_ | refine s_y ?_ | refine s_iq ?_ | refine s_mq ?_ | refine s_appB (fun _ _ => ?_) | refine s_app (fun _ _ => ?_) | refine s_mv ?_ | refine s_ms ?_ | refine s_b0 (fun _ => ?_) | ((fail_if_success refine g_lit rfl rfl rfl ?_); first | apply g_partM rfl rfl rfl | apply g_partMB rfl rfl rfl | fail))
            | refine g_seq ?_ | refine g_region ?_ | refine g_nil ?_ | refine g_then_normal ?_ | refine g_block ?_ | refine g_in_normal ?_ | refine g_retc ?_
            | refine g_then_ret ?_ | refine g_in_ret ?_ | refine g_exit ?_ | refine g_then_exit ?_ | refine g_in_exit ?_ | refine g_in_other rfl ?_ | refine g_skip ?_
            | refine g_label ?_ | refine g_cond_true rfl ?_ | refine g_cond_false rfl ?_ | exact s_m | intro _)
          first
            | (refine g_ops ?_; first | refine s_q ?_ | refine s_v ?_ | refine s_s ?_ | refine s_n (fun _ => ?_) | refine s_x ?_ | refine s_y ?_ | refine s_iq ?_ | refine s_mq ?_ | refine s_appB (fun _ _ => ?_) | refine s_app (fun _ _ => ?_) | refine s_mv ?_ | refine s_ms ?_ | refine s_b0 (fun _ => ?_) | ((fail_if_success refine g_lit rfl rfl rfl ?_); first | apply g_partM rfl rfl rfl | apply g_partMB rfl rfl rfl | fail))
            | refine g_seq ?_ | refine g_region ?_ | refine g_nil ?_ | refine g_then_normal ?_ | refine g_block ?_ | refine g_in_normal ?_ | refine g_retc ?_
            | refine g_then_ret ?_ | refine g_in_ret ?_ | refine g_exit ?_ | refine g_then_exit ?_ | refine g_in_exit ?_ | refine g_in_other rfl ?_ | refine g_skip ?_
            | refine g_label ?_ | refine g_cond_true rfl ?_ | refine g_cond_false rfl ?_ | exact s_m | intro _
          generalize hb3 : decide ((r : Int) ≤ 65535) = b3
          repeat (first
            | (refine g_ops ?_; first | refine s_q ?_ | refine s_v ?_ | refine s_s ?_ | refine s_n (fun _ => ?_) | refine s_x ?_ | refine s_y ?_ | refine s_iq ?_ | refine s_mq ?_ | refine s_appB (fun _ _ => ?_) | refine s_app (fun _ _ => ?_) | refine s_mv ?_ | refine s_ms ?_ | refine s_b0 (fun _ => ?_) | ((fail_if_success refine g_lit rfl rfl rfl ?_); first | apply g_partM rfl rfl rfl | apply g_partMB rfl rfl rfl | fail))
            | refine g_seq ?_ | refine g_region ?_ | refine g_nil ?_ | refine g_then_normal ?_ | refine g_block ?_ | refine g_in_normal ?_ | refine g_retc ?_
            | refine g_then_ret ?_ | refine g_in_ret ?_ | refine g_exit ?_ | refine g_then_exit ?_ | refine g_in_exit ?_ | refine g_in_other rfl ?_ | refine g_skip ?_
            | refine g_label ?_ | refine g_cond_true rfl ?_ | refine g_cond_false rfl ?_ | exact s_m | intro _)
          refine g_as 25 (v' := .bool (decide (r < 55296 ∨ 57343 < r ∧ r ≤ 65535))) rfl (congrArg Value.bool (by rw [← hb3]; exact decide_eq_decide.2 (by omega))) ?_
          exact g_midX () trivial (by (repeat (first | exact FrSub.nil | refine FrSub.cons rfl ?_)); first | done | fail) (by (repeat (first | exact Take.nil | apply Take.cons | exact Sel.here | apply Sel.there)); first | done | fail)
        · subst h5
          have h5 := of_decide_eq_false hb2
          repeat (first
            | (refine g_ops ?_; first | refine s_q ?_ | refine s_v ?_ | refine s_s ?_ | refine s_n (fun _ => ?_) | refine s_x ?_ | refine s_y ?_ | refine s_iq ?_ | refine s_mq ?_ | refine s_appB (fun _ _ => ?_) | refine s_app (fun _ _ => ?_) | refine s_mv ?_ | refine s_ms ?_ | refine s_b0 (fun _ => ?_) | ((fail_if_success refine g_lit rfl rfl rfl ?_); first | apply g_partM rfl rfl rfl | apply g_partMB rfl rfl rfl | fail))
            | refine g_seq ?_ | refine g_region ?_ | refine g_nil ?_ | refine g_then_normal ?_ | refine g_block ?_ | refine g_in_normal ?_ | refine g_retc ?_
            | refine g_then_ret ?_ | refine g_in_ret ?_ | refine g_exit ?_ | refine g_then_exit ?_ | refine g_in_exit ?_ | refine g_in_other rfl ?_ | refine g_skip ?_
            | refine g_label ?_ | refine g_cond_true rfl ?_ | refine g_cond_false rfl ?_ | exact s_m | intro _)
          refine g_as 25 (v' := .bool (decide (r < 55296 ∨ 57343 < r ∧ r ≤ 65535))) rfl (congrArg Value.bool (decide_eq_false (by omega)).symm) ?_
          exact g_midX () trivial (by (repeat (first | exact FrSub.nil | refine FrSub.cons rfl ?_)); first | done | fail) (by (repeat (first | exact Take.nil | apply Take.cons | exact Sel.here | apply Sel.there)); first | done | fail)
    generalize hb4 : decide (r < 55296 ∨ 57343 < r ∧ r ≤ 65535) = b4
    repeat (first
      | (refine g_ops ?_; first | refine s_q ?_ | refine s_v ?_ | refine s_s ?_ | refine s_n (fun _ => ?_) | refine s_x ?_ | refine s_y ?_ | refine s_iq ?_ | refine s_mq ?_ | refine s_appB (fun _ _ => ?_) | refine s_app (fun _ _ => ?_) | refine s_mv ?_ | refine s_ms ?_ | refine s_b0 (fun _ => ?_) | ((fail_if_success refine g_lit rfl rfl rfl ?_); first | apply g_partM rfl rfl rfl | apply g_partMB rfl rfl rfl | fail))
      | refine g_seq ?_ | refine g_region ?_ | refine g_nil ?_ | refine g_then_normal ?_ | refine g_block ?_ | refine g_in_normal ?_ | refine g_retc ?_
      | refine g_then_ret ?_ | refine g_in_ret ?_ | refine g_exit ?_ | refine g_then_exit ?_ | refine g_in_exit ?_ | refine g_in_other rfl ?_ | refine g_skip ?_
      | refine g_label ?_ | refine g_cond_true rfl ?_ | refine g_cond_false rfl ?_ | exact s_m | intro _)
    refine g_cond rfl (fun h3 => ?_) (fun h3 => ?_)
    · subst h3
      have h3 := of_decide_eq_true hb4
      rw [enc3 r (by omega)]
      repeat (first
        | (refine g_ops ?_; first | refine s_q ?_ | refine s_v ?_ | refine s_s ?_ | refine s_n (fun _ => ?_) | refine s_x ?_ | refine s_y ?_ | refine s_iq ?_ | refine s_mq ?_ | refine s_appB (fun _ _ => ?_) | refine s_app (fun _ _ => ?_) | refine s_mv ?_ | refine s_ms ?_ | refine s_b0 (fun _ => ?_) | ((fail_if_success refine g_lit rfl rfl rfl ?_); first | apply g_partM rfl rfl rfl | apply g_partMB rfl rfl rfl | fail))
        | refine g_seq ?_ | refine g_region ?_ | refine g_nil ?_ | refine g_then_normal ?_ | refine g_block ?_ | refine g_in_normal ?_ | refine g_retc ?_
        | refine g_then_ret ?_ | refine g_in_ret ?_ | refine g_exit ?_ | refine g_then_exit ?_ | refine g_in_exit ?_ | refine g_in_other rfl ?_ | refine g_skip ?_
        | refine g_label ?_ | refine g_cond_true rfl ?_ | refine g_cond_false rfl ?_ | exact s_m | intro _)
      refine s_q (q := by exact qs_shrK (i := .i32) (a := r) (n := 12) rfl rfl (by decide)) ?_
      refine g_as 36 (v' := .int .i32 ((r / 4096 : Nat) : Int)) rfl (by rw [show (2 : Nat) ^ 12 = 4096 from by decide]) ?_
      refine s_q (q := by exact qs_convInt rfl) ?_
      refine g_as 37 (v' := .int .u8 (((r / 4096) % 256 : Nat) : Int)) rfl (congrArg (Value.int .u8) (by rw [wrap8m]; omega)) ?_
      refine s_q (q := by exact qs_or8 (a := 224) (b := (r / 4096) % 256) rfl rfl (by decide) (Nat.mod_lt _ (by decide))) ?_
      refine g_as 38 (v' := .int .u8 ((UInt8.ofNat (224 + (r / 4096))).toNat : Int)) rfl (congrArg (Value.int .u8) (by rw [u8n _ (by omega), Nat.mod_eq_of_lt (by omega), or224 _ (by omega)])) ?_
      repeat (first
        | (refine g_ops ?_; first | refine s_q ?_ | refine s_v ?_ | refine s_s ?_ | refine s_n (fun _ => ?_) | refine s_x ?_ | refine s_y ?_ | refine s_iq ?_ | refine s_mq ?_ | refine s_appB (fun _ _ => ?_) | refine s_app (fun _ _ => ?_) | refine s_mv ?_ | refine s_ms ?_ | refine s_b0 (fun _ => ?_) | ((fail_if_success refine g_lit rfl rfl rfl ?_); first | apply g_partM rfl rfl rfl | apply g_partMB rfl rfl rfl | fail))
        | refine g_seq ?_ | refine g_region ?_ | refine g_nil ?_ | refine g_then_normal ?_ | refine g_block ?_ | refine g_in_normal ?_ | refine g_retc ?_
        | refine g_then_ret ?_ | refine g_in_ret ?_ | refine g_exit ?_ | refine g_then_exit ?_ | refine g_in_exit ?_ | refine g_in_other rfl ?_ | refine g_skip ?_
        | refine g_label ?_ | refine g_cond_true rfl ?_ | refine g_cond_false rfl ?_ | exact s_m | intro _)
      refine s_q (q := by exact qs_shrK (i := .i32) (a := r) (n := 6) rfl rfl (by decide)) ?_
      refine g_as 40 (v' := .int .i32 ((r / 64 : Nat) : Int)) rfl (by rw [show (2 : Nat) ^ 6 = 64 from by decide]) ?_
      refine s_q (q := by exact qs_convInt rfl) ?_
      refine g_as 41 (v' := .int .u8 (((r / 64) % 256 : Nat) : Int)) rfl (congrArg (Value.int .u8) (by rw [wrap8m]; omega)) ?_
      refine s_q (q := by exact qs_and8 (a := (r / 64) % 256) (b := 63) rfl rfl (Nat.mod_lt _ (by decide)) (by decide)) ?_
      refine s_q (q := by exact qs_or8 (a := 128) (b := (r / 64) % 256 &&& 63) rfl rfl (by decide) (Nat.lt_of_le_of_lt Nat.and_le_right (by decide))) ?_
      refine g_as 43 (v' := .int .u8 ((UInt8.ofNat (128 + (r / 64) % 64)).toNat : Int)) rfl (congrArg (Value.int .u8) (by rw [u8n _ (by omega), low6])) ?_
      repeat (first
        | (refine g_ops ?_; first | refine s_q ?_ | refine s_v ?_ | refine s_s ?_ | refine s_n (fun _ => ?_) | refine s_x ?_ | refine s_y ?_ | refine s_iq ?_ | refine s_mq ?_ | refine s_appB (fun _ _ => ?_) | refine s_app (fun _ _ => ?_) | refine s_mv ?_ | refine s_ms ?_ | refine s_b0 (fun _ => ?_) | ((fail_if_success refine g_lit rfl rfl rfl ?_); first | apply g_partM rfl rfl rfl | apply g_partMB rfl rfl rfl | fail))
        | refine g_seq ?_ | refine g_region ?_ | refine g_nil ?_ | refine g_then_normal ?_ | refine g_block ?_ | refine g_in_normal ?_ | refine g_retc ?_
        | refine g_then_ret ?_ | refine g_in_ret ?_ | refine g_exit ?_ | refine g_then_exit ?_ | refine g_in_exit ?_ | refine g_in_other rfl ?_ | refine g_skip ?_
        | refine g_label ?_ | refine g_cond_true rfl ?_ | refine g_cond_false rfl ?_ | exact s_m | intro _)
      refine s_q (q := by exact qs_convInt rfl) ?_
      refine g_as 45 (v' := .int .u8 ((r % 256 : Nat) : Int)) rfl (congrArg (Value.int .u8) (by rw [wrap8m]; omega)) ?_
      refine s_q (q := by exact qs_and8 (a := r % 256) (b := 63) rfl rfl (Nat.mod_lt _ (by decide)) (by decide)) ?_
      refine s_q (q := by exact qs_or8 (a := 128) (b := r % 256 &&& 63) rfl rfl (by decide) (Nat.lt_of_le_of_lt Nat.and_le_right (by decide))) ?_
      refine g_as 47 (v' := .int .u8 ((UInt8.ofNat (128 + r % 64)).toNat : Int)) rfl (congrArg (Value.int .u8) (by rw [u8n _ (by omega), low6])) ?_
      generalize UInt8.ofNat (224 + r / 4096) = y0
      generalize UInt8.ofNat (128 + r / 64 % 64) = y1
      generalize UInt8.ofNat (128 + r % 64) = y2
      repeat (first
        | (refine g_ops ?_; first | refine s_q ?_ | refine s_v ?_ | refine s_s ?_ | refine s_n (fun _ => ?_) | refine s_x ?_ | refine s_y ?_ | refine s_iq ?_ | refine s_mq ?_ | refine s_appB (fun _ _ => ?_) | refine s_app (fun _ _ => ?_) | refine s_mv ?_ | refine s_ms ?_ | refine s_b0 (fun _ => ?_) | ((fail_if_success refine g_lit rfl rfl rfl ?_); first | apply g_partM rfl rfl rfl | apply g_partMB rfl rfl rfl | fail))
        | refine g_seq ?_ | refine g_region ?_ | refine g_nil ?_ | refine g_then_normal ?_ | refine g_block ?_ | refine g_in_normal ?_ | refine g_retc ?_
        | refine g_then_ret ?_ | refine g_in_ret ?_ | refine g_exit ?_ | refine g_then_exit ?_ | refine g_in_exit ?_ | refine g_in_other rfl ?_ | refine g_skip ?_
        | refine g_label ?_ | refine g_cond_true rfl ?_ | refine g_cond_false rfl ?_ | exact s_m | intro _)
      rename_i q' c'
      rw [show cells8 bs ++ [Value.int .u8 (y0.toNat : Int), Value.int .u8 (y1.toNat : Int), Value.int .u8 (y2.toNat : Int)] = cells8 (bs ++ [y0, y1, y2]) from cells8_append bs [y0, y1, y2], show bs.length + 3 = (bs ++ [y0, y1, y2]).length by simp]
      exact g_ret (⟨q', c'⟩ : BX) rfl (by (repeat (first | exact RVs.nil | apply RVs.tmp rfl | apply RVs.cellA rfl (by (repeat (first | exact Sel.here | apply Sel.there)); first | done | fail) (by (repeat (first | exact Cut.zero | apply Cut.take | apply Cut.skip)); first | done | fail) | apply RVs.cell1 rfl (by (repeat (first | exact Sel.here | apply Sel.there)); first | done | fail) rfl)); first | done | fail) (by (repeat (first | exact Take.nil | apply Take.cons | exact Sel.here | apply Sel.there)); first | done | fail) rfl trivial
    · subst h3
      have h3 := of_decide_eq_false hb4
      repeat ((fail_if_success refine s_at 52 ?_); first
        | (refine g_ops ?_; first | refine s_q ?_ | refine s_v ?_ | refine s_s ?_ | refine s_n (fun _ => ?_) | refine s_x ?_ | refine s_y ?_ | refine s_iq ?_ | refine s_mq ?_ | refine s_appB (fun _ _ => ?_) | refine s_app (fun _ _ => ?_) | refine s_mv ?_ | refine s_ms ?_ | refine s_b0 (fun _ => ?_) | ((fail_if_success refine g_lit rfl rfl rfl ?_); first | apply g_partM rfl rfl rfl | apply g_partMB rfl rfl rfl | fail))
        | refine g_seq ?_ | refine g_region ?_ | refine g_nil ?_ | refine g_then_normal ?_ | refine g_block ?_ | refine g_in_normal ?_ | refine g_retc ?_
        | refine g_then_ret ?_ | refine g_in_ret ?_ | refine g_exit ?_ | refine g_then_exit ?_ | refine g_in_exit ?_ | refine g_in_other rfl ?_ | refine g_skip ?_
        | refine g_label ?_ | refine g_cond_true rfl ?_ | refine g_cond_false rfl ?_ | exact s_m | intro _)
      first
        | (refine g_ops ?_; first | refine s_q ?_ | refine s_v ?_ | refine s_s ?_ | refine s_n (fun _ => ?_) | refine s_x ?_ | refine s_y ?_ | refine s_iq ?_ | refine s_mq ?_ | refine s_appB (fun _ _ => ?_) | refine s_app (fun _ _ => ?_) | refine s_mv ?_ | refine s_ms ?_ | refine s_b0 (fun _ => ?_) | ((fail_if_success refine g_lit rfl rfl rfl ?_); first | apply g_partM rfl rfl rfl | apply g_partMB rfl rfl rfl | fail))
        | refine g_seq ?_ | refine g_region ?_ | refine g_nil ?_ | refine g_then_normal ?_ | refine g_block ?_ | refine g_in_normal ?_ | refine g_retc ?_
        | refine g_then_ret ?_ | refine g_in_ret ?_ | refine g_exit ?_ | refine g_then_exit ?_ | refine g_in_exit ?_ | refine g_in_other rfl ?_ | refine g_skip ?_
        | refine g_label ?_ | refine g_cond_true rfl ?_ | refine g_cond_false rfl ?_ | exact s_m | intro _
      generalize hb5 : decide ((65535 : Int) < (r : Int)) = b5
      repeat ((fail_if_success refine s_at 55 ?_); first
        | (refine g_ops ?_; first | refine s_q ?_ | refine s_v ?_ | refine s_s ?_ | refine s_n (fun _ => ?_) | refine s_x ?_ | refine s_y ?_ | refine s_iq ?_ | refine s_mq ?_ | refine s_appB (fun _ _ => ?_) | refine s_app (fun _ _ => ?_) | refine s_mv ?_ | refine s_ms ?_ | refine s_b0 (fun _ => ?_) | ((fail_if_success refine g_lit rfl rfl rfl ?_); first | apply g_partM rfl rfl rfl | apply g_partMB rfl rfl rfl | fail))
        | refine g_seq ?_ | refine g_region ?_ | refine g_nil ?_ | refine g_then_normal ?_ | refine g_block ?_ | refine g_in_normal ?_ | refine g_retc ?_
        | refine g_then_ret ?_ | refine g_in_ret ?_ | refine g_exit ?_ | refine g_then_exit ?_ | refine g_in_exit ?_ | refine g_in_other rfl ?_ | refine g_skip ?_
        | refine g_label ?_ | refine g_cond_true rfl ?_ | refine g_cond_false rfl ?_ | exact s_m | intro _)
      refine g_guard rfl rfl rfl (fun h4 => ?_) (fun h4 => ?_)
      · subst h4
        have h4 := of_decide_eq_true hb5
        repeat ((fail_if_success refine s_at 55 ?_); first
          | (refine g_ops ?_; first | refine s_q ?_ | refine s_v ?_ | refine s_s ?_ | refine s_n (fun _ => ?_) | refine s_x ?_ | refine s_y ?_ | refine s_iq ?_ | refine s_mq ?_ | refine s_appB (fun _ _ => ?_) | refine s_app (fun _ _ => ?_) | refine s_mv ?_ | refine s_ms ?_ | refine s_b0 (fun _ => ?_) | ((fail_if_success refine g_lit rfl rfl rfl ?_); first | apply g_partM rfl rfl rfl | apply g_partMB rfl rfl rfl | fail))
          | refine g_seq ?_ | refine g_region ?_ | refine g_nil ?_ | refine g_then_normal ?_ | refine g_block ?_ | refine g_in_normal ?_ | refine g_retc ?_
          | refine g_then_ret ?_ | refine g_in_ret ?_ | refine g_exit ?_ | refine g_then_exit ?_ | refine g_in_exit ?_ | refine g_in_other rfl ?_ | refine g_skip ?_
          | refine g_label ?_ | refine g_cond_true rfl ?_ | refine g_cond_false rfl ?_ | exact s_m | intro _)
        first
          | (refine g_ops ?_; first | refine s_q ?_ | refine s_v ?_ | refine s_s ?_ | refine s_n (fun _ => ?_) | refine s_x ?_ | refine s_y ?_ | refine s_iq ?_ | refine s_mq ?_ | refine s_appB (fun _ _ => ?_) | refine s_app (fun _ _ => ?_) | refine s_mv ?_ | refine s_ms ?_ | refine s_b0 (fun _ => ?_) | ((fail_if_success refine g_lit rfl rfl rfl ?_); first | apply g_partM rfl rfl rfl | apply g_partMB rfl rfl rfl | fail))
          | refine g_seq ?_ | refine g_region ?_ | refine g_nil ?_ | refine g_then_normal ?_ | refine g_block ?_ | refine g_in_normal ?_ | refine g_retc ?_
          | refine g_then_ret ?_ | refine g_in_ret ?_ | refine g_exit ?_ | refine g_then_exit ?_ | refine g_in_exit ?_ | refine g_in_other rfl ?_ | refine g_skip ?_
          | refine g_label ?_ | refine g_cond_true rfl ?_ | refine g_cond_false rfl ?_ | exact s_m | intro _
        refine g_as 55 (v' := .bool true) rfl (congrArg Value.bool (decide_eq_true (by omega))) ?_
        rw [enc4 r (by omega) hr]
        repeat (first
          | (refine g_ops ?_; first | refine s_q ?_ | refine s_v ?_ | refine s_s ?_ | refine s_n (fun _ => ?_) | refine s_x ?_ | refine s_y ?_ | refine s_iq ?_ | refine s_mq ?_ | refine s_appB (fun _ _ => ?_) | refine s_app (fun _ _ => ?_) | refine s_mv ?_ | refine s_ms ?_ | refine s_b0 (fun _ => ?_) | ((fail_if_success refine g_lit rfl rfl rfl ?_); first | apply g_partM rfl rfl rfl | apply g_partMB rfl rfl rfl | fail))
          | refine g_seq ?_ | refine g_region ?_ | refine g_nil ?_ | refine g_then_normal ?_ | refine g_block ?_ | refine g_in_normal ?_ | refine g_retc ?_
          | refine g_then_ret ?_ | refine g_in_ret ?_ | refine g_exit ?_ | refine g_then_exit ?_ | refine g_in_exit ?_ | refine g_in_other rfl ?_ | refine g_skip ?_
          | refine g_label ?_ | refine g_cond_true rfl ?_ | refine g_cond_false rfl ?_ | exact s_m | intro _)
        refine s_q (q := by exact qs_shrK (i := .i32) (a := r) (n := 18) rfl rfl (by decide)) ?_
        refine g_as 59 (v' := .int .i32 ((r / 262144 : Nat) : Int)) rfl (by rw [show (2 : Nat) ^ 18 = 262144 from by decide]) ?_
        refine s_q (q := by exact qs_convInt rfl) ?_
        refine g_as 60 (v' := .int .u8 (((r / 262144) % 256 : Nat) : Int)) rfl (congrArg (Value.int .u8) (by rw [wrap8m]; omega)) ?_
        refine s_q (q := by exact qs_or8 (a := 240) (b := (r / 262144) % 256) rfl rfl (by decide) (Nat.mod_lt _ (by decide))) ?_
        refine g_as 61 (v' := .int .u8 ((UInt8.ofNat (240 + (r / 262144))).toNat : Int)) rfl (congrArg (Value.int .u8) (by rw [u8n _ (by omega), Nat.mod_eq_of_lt (by omega), or240 _ (by omega)])) ?_
        repeat (first
          | (refine g_ops ?_; first | refine s_q ?_ | refine s_v ?_ | refine s_s ?_ | refine s_n (fun _ => ?_) | refine s_x ?_ | refine s_y ?_ | refine s_iq ?_ | refine s_mq ?_ | refine s_appB (fun _ _ => ?_) | refine s_app (fun _ _ => ?_) | refine s_mv ?_ | refine s_ms ?_ | refine s_b0 (fun _ => ?_) | ((fail_if_success refine g_lit rfl rfl rfl ?_); first | apply g_partM rfl rfl rfl | apply g_partMB rfl rfl rfl | fail))
          | refine g_seq ?_ | refine g_region ?_ | refine g_nil ?_ | refine g_then_normal ?_ | refine g_block ?_ | refine g_in_normal ?_ | refine g_retc ?_
          | refine g_then_ret ?_ | refine g_in_ret ?_ | refine g_exit ?_ | refine g_then_exit ?_ | refine g_in_exit ?_ | refine g_in_other rfl ?_ | refine g_skip ?_
          | refine g_label ?_ | refine g_cond_true rfl ?_ | refine g_cond_false rfl ?_ | exact s_m | intro _)
        refine s_q (q := by exact qs_shrK (i := .i32) (a := r) (n := 12) rfl rfl (by decide)) ?_
        refine g_as 63 (v' := .int .i32 ((r / 4096 : Nat) : Int)) rfl (by rw [show (2 : Nat) ^ 12 = 4096 from by decide]) ?_
        refine s_q (q := by exact qs_convInt rfl) ?_
        refine g_as 64 (v' := .int .u8 (((r / 4096) % 256 : Nat) : Int)) rfl (congrArg (Value.int .u8) (by rw [wrap8m]; omega)) ?_
        refine s_q (q := by exact qs_and8 (a := (r / 4096) % 256) (b := 63) rfl rfl (Nat.mod_lt _ (by decide)) (by decide)) ?_
        refine s_q (q := by exact qs_or8 (a := 128) (b := (r / 4096) % 256 &&& 63) rfl rfl (by decide) (Nat.lt_of_le_of_lt Nat.and_le_right (by decide))) ?_
        refine g_as 66 (v' := .int .u8 ((UInt8.ofNat (128 + (r / 4096) % 64)).toNat : Int)) rfl (congrArg (Value.int .u8) (by rw [u8n _ (by omega), low6])) ?_
        repeat (first
          | (refine g_ops ?_; first | refine s_q ?_ | refine s_v ?_ | refine s_s ?_ | refine s_n (fun _ => ?_) | refine s_x ?_ | refine s_y ?_ | refine s_iq ?_ | refine s_mq ?_ | refine s_appB (fun _ _ => ?_) | refine s_app (fun _ _ => ?_) | refine s_mv ?_ | refine s_ms ?_ | refine s_b0 (fun _ => ?_) | ((fail_if_success refine g_lit rfl rfl rfl ?_); first | apply g_partM rfl rfl rfl | apply g_partMB rfl rfl rfl | fail))
          | refine g_seq ?_ | refine g_region ?_ | refine g_nil ?_ | refine g_then_normal ?_ | refine g_block ?_ | refine g_in_normal ?_ | refine g_retc ?_
          | refine g_then_ret ?_ | refine g_in_ret ?_ | refine g_exit ?_ | refine g_then_exit ?_ | refine g_in_exit ?_ | refine g_in_other rfl ?_ | refine g_skip ?_
          | refine g_label ?_ | refine g_cond_true rfl ?_ | refine g_cond_false rfl ?_ | exact s_m | intro _)
        refine s_q (q := by exact qs_shrK (i := .i32) (a := r) (n := 6) rfl rfl (by decide)) ?_
        refine g_as 68 (v' := .int .i32 ((r / 64 : Nat) : Int)) rfl (by rw [show (2 : Nat) ^ 6 = 64 from by decide]) ?_
        refine s_q (q := by exact qs_convInt rfl) ?_
        refine g_as 69 (v' := .int .u8 (((r / 64) % 256 : Nat) : Int)) rfl (congrArg (Value.int .u8) (by rw [wrap8m]; omega)) ?_
        refine s_q (q := by exact qs_and8 (a := (r / 64) % 256) (b := 63) rfl rfl (Nat.mod_lt _ (by decide)) (by decide)) ?_
        refine s_q (q := by exact qs_or8 (a := 128) (b := (r / 64) % 256 &&& 63) rfl rfl (by decide) (Nat.lt_of_le_of_lt Nat.and_le_right (by decide))) ?_
        refine g_as 71 (v' := .int .u8 ((UInt8.ofNat (128 + (r / 64) % 64)).toNat : Int)) rfl (congrArg (Value.int .u8) (by rw [u8n _ (by omega), low6])) ?_
        repeat (first
          | (refine g_ops ?_; first | refine s_q ?_ | refine s_v ?_ | refine s_s ?_ | refine s_n (fun _ => ?_) | refine s_x ?_ | refine s_y ?_ | refine s_iq ?_ | refine s_mq ?_ | refine s_appB (fun _ _ => ?_) | refine s_app (fun _ _ => ?_) | refine s_mv ?_ | refine s_ms ?_ | refine s_b0 (fun _ => ?_) | ((fail_if_success refine g_lit rfl rfl rfl ?_); first | apply g_partM rfl rfl rfl | apply g_partMB rfl rfl rfl | fail))
          | refine g_seq ?_ | refine g_region ?_ | refine g_nil ?_ | refine g_then_normal ?_ | refine g_block ?_ | refine g_in_normal ?_ | refine g_retc ?_
          | refine g_then_ret ?_ | refine g_in_ret ?_ | refine g_exit ?_ | refine g_then_exit ?_ | refine g_in_exit ?_ | refine g_in_other rfl ?_ | refine g_skip ?_
          | refine g_label ?_ | refine g_cond_true rfl ?_ | refine g_cond_false rfl ?_ | exact s_m | intro _)
        refine s_q (q := by exact qs_convInt rfl) ?_
        refine g_as 73 (v' := .int .u8 ((r % 256 : Nat) : Int)) rfl (congrArg (Value.int .u8) (by rw [wrap8m]; omega)) ?_
        refine s_q (q := by exact qs_and8 (a := r % 256) (b := 63) rfl rfl (Nat.mod_lt _ (by decide)) (by decide)) ?_
        refine s_q (q := by exact qs_or8 (a := 128) (b := r % 256 &&& 63) rfl rfl (by decide) (Nat.lt_of_le_of_lt Nat.and_le_right (by decide))) ?_
        refine g_as 75 (v' := .int .u8 ((UInt8.ofNat (128 + r % 64)).toNat : Int)) rfl (congrArg (Value.int .u8) (by rw [u8n _ (by omega), low6])) ?_
        generalize UInt8.ofNat (240 + r / 262144) = y0
        generalize UInt8.ofNat (128 + r / 4096 % 64) = y1
        generalize UInt8.ofNat (128 + r / 64 % 64) = y2
        generalize UInt8.ofNat (128 + r % 64) = y3
        repeat (first
          | (refine g_ops ?_; first | refine s_q ?_ | refine s_v ?_ | refine s_s ?_ | refine s_n (fun _ => ?_) | refine s_x ?_ | refine s_y ?_ | refine s_iq ?_ | refine s_mq ?_ | refine s_appB (fun _ _ => ?_) | refine s_app (fun _ _ => ?_) | refine s_mv ?_ | refine s_ms ?_ | refine s_b0 (fun _ => ?_) | ((fail_if_success refine g_lit rfl rfl rfl ?_); first | apply g_partM rfl rfl rfl | apply g_partMB rfl rfl rfl | fail))
          | refine g_seq ?_ | refine g_region ?_ | refine g_nil ?_ | refine g_then_normal ?_ | refine g_block ?_ | refine g_in_normal ?_ | refine g_retc ?_
          | refine g_then_ret ?_ | refine g_in_ret ?_ | refine g_exit ?_ | refine g_then_exit ?_ | refine g_in_exit ?_ | refine g_in_other rfl ?_ | refine g_skip ?_
          | refine g_label ?_ | refine g_cond_true rfl ?_ | refine g_cond_false rfl ?_ | exact s_m | intro _)
        rename_i q' c'
        rw [show cells8 bs ++ [Value.int .u8 (y0.toNat : Int), Value.int .u8 (y1.toNat : Int), Value.int .u8 (y2.toNat : Int), Value.int .u8 (y3.toNat : Int)] = cells8 (bs ++ [y0, y1, y2, y3]) from cells8_append bs [y0, y1, y2, y3], show bs.length + 4 = (bs ++ [y0, y1, y2, y3]).length by simp]
        exact g_ret (⟨q', c'⟩ : BX) rfl (by (repeat (first | exact RVs.nil | apply RVs.tmp rfl | apply RVs.cellA rfl (by (repeat (first | exact Sel.here | apply Sel.there)); first | done | fail) (by (repeat (first | exact Cut.zero | apply Cut.take | apply Cut.skip)); first | done | fail) | apply RVs.cell1 rfl (by (repeat (first | exact Sel.here | apply Sel.there)); first | done | fail) rfl)); first | done | fail) (by (repeat (first | exact Take.nil | apply Take.cons | exact Sel.here | apply Sel.there)); first | done | fail) rfl trivial
      · subst h4
        have h4 := of_decide_eq_false hb5
        rw [encBad r (by omega)]
        repeat (first
          | (refine g_ops ?_; first | refine s_q ?_ | refine s_v ?_ | refine s_s ?_ | refine s_n (fun _ => ?_) | refine s_x ?_ | refine s_y ?_ | refine s_iq ?_ | refine s_mq ?_ | refine s_appB (fun _ _ => ?_) | refine s_app (fun _ _ => ?_) | refine s_mv ?_ | refine s_ms ?_ | refine s_b0 (fun _ => ?_) | ((fail_if_success refine g_lit rfl rfl rfl ?_); first | apply g_partM rfl rfl rfl | apply g_partMB rfl rfl rfl | fail))
          | refine g_seq ?_ | refine g_region ?_ | refine g_nil ?_ | refine g_then_normal ?_ | refine g_block ?_ | refine g_in_normal ?_ | refine g_retc ?_
          | refine g_then_ret ?_ | refine g_in_ret ?_ | refine g_exit ?_ | refine g_then_exit ?_ | refine g_in_exit ?_ | refine g_in_other rfl ?_ | refine g_skip ?_
          | refine g_label ?_ | refine g_cond_true rfl ?_ | refine g_cond_false rfl ?_ | exact s_m | intro _)
        rename_i q' c'
        rw [show cells8 bs ++ [Value.int .u8 239, Value.int .u8 191, Value.int .u8 189] = cells8 (bs ++ [239, 191, 189]) from cells8_append bs [239, 191, 189], show bs.length + 3 = (bs ++ [239, 191, 189]).length by simp]
        exact g_ret (⟨q', c'⟩ : BX) rfl (by (repeat (first | exact RVs.nil | apply RVs.tmp rfl | apply RVs.cellA rfl (by (repeat (first | exact Sel.here | apply Sel.there)); first | done | fail) (by (repeat (first | exact Cut.zero | apply Cut.take | apply Cut.skip)); first | done | fail) | apply RVs.cell1 rfl (by (repeat (first | exact Sel.here | apply Sel.there)); first | done | fail) rfl)); first | done | fail) (by (repeat (first | exact Take.nil | apply Take.cons | exact Sel.here | apply Sel.there)); first | done | fail) rfl trivial
theorem appendRune (q : Option Addr) (c : Nat) (bs : List UInt8) (r : Nat) (hr : r ≤ 1114111) (hl : bs.length ≤ 1000000000000) : Does Tryd.prog 82 [bV q c bs, .int .i32 r] [bO q c bs] (X := BX) (fun y => bV y.q y.c (bs ++ Lib.encodeRune r)) (fun y => [bO y.q y.c (bs ++ Lib.encodeRune r)]) (fun _ => True) := by
  refine fn_intro Tryd.func82 rfl Tryd.ntmps82 rfl (by simp only [argFr, Nat.zero_add, Nat.reduceAdd]; rfl) (fun Γ => ?_)
  repeat (first
    | (refine g_ops ?_; first | refine s_q ?_ | refine s_v ?_ | refine s_s ?_ | refine s_n (fun _ => ?_) | refine s_x ?_ | refine s_y ?_ | refine s_iq ?_ | refine s_mq ?_ | refine s_appB (fun _ _ => ?_) | refine s_app (fun _ _ => ?_) | refine s_mv ?_ | refine s_ms ?_ | refine s_b0 (fun _ => ?_) | ((fail_if_success refine g_lit rfl rfl rfl ?_); first | apply g_partM rfl rfl rfl | apply g_partMB rfl rfl rfl | fail))
    | refine g_seq ?_ | refine g_region ?_ | refine g_nil ?_ | refine g_then_normal ?_ | refine g_block ?_ | refine g_in_normal ?_ | refine g_retc ?_ | refine g_then_ret ?_
    | refine g_in_ret ?_ | refine g_exit ?_ | refine g_then_exit ?_ | refine g_in_exit ?_ | refine g_in_other rfl ?_ | refine g_skip ?_ | refine g_label ?_
    | refine g_cond_true rfl ?_ | refine g_cond_false rfl ?_ | exact s_m | intro _)
  refine s_q (q := by exact qs_convInt rfl) ?_
  refine g_as 6 (v' := .int .u32 ((r : Nat) : Int)) rfl (congrArg (Value.int .u32) (u32n r (by omega))) ?_
  repeat ((fail_if_success refine s_at 7 ?_); first
    | (refine g_ops ?_; first | refine s_q ?_ | refine s_v ?_ | refine s_s ?_ | refine s_n (fun _ => ?_) | refine s_x ?_ | refine s_y ?_ | refine s_iq ?_ | refine s_mq ?_ | refine s_appB (fun _ _ => ?_) | refine s_app (fun _ _ => ?_) | refine s_mv ?_ | refine s_ms ?_ | refine s_b0 (fun _ => ?_) | ((fail_if_success refine g_lit rfl rfl rfl ?_); first | apply g_partM rfl rfl rfl | apply g_partMB rfl rfl rfl | fail))
    | refine g_seq ?_ | refine g_region ?_ | refine g_nil ?_ | refine g_then_normal ?_ | refine g_block ?_ | refine g_in_normal ?_ | refine g_retc ?_ | refine g_then_ret ?_
    | refine g_in_ret ?_ | refine g_exit ?_ | refine g_then_exit ?_ | refine g_in_exit ?_ | refine g_in_other rfl ?_ | refine g_skip ?_ | refine g_label ?_
    | refine g_cond_true rfl ?_ | refine g_cond_false rfl ?_ | exact s_m | intro _)
  first
    | (refine g_ops ?_; first | refine s_q ?_ | refine s_v ?_ | refine s_s ?_ | refine s_n (fun _ => ?_) | refine s_x ?_ | refine s_y ?_ | refine s_iq ?_ | refine s_mq ?_ | refine s_appB (fun _ _ => ?_) | refine s_app (fun _ _ => ?_) | refine s_mv ?_ | refine s_ms ?_ | refine s_b0 (fun _ => ?_) | ((fail_if_success refine g_lit rfl rfl rfl ?_); first | apply g_partM rfl rfl rfl | apply g_partMB rfl rfl rfl | fail))
    | refine g_seq ?_ | refine g_region ?_ | refine g_nil ?_ | refine g_then_normal ?_ | refine g_block ?_ | refine g_in_normal ?_ | refine g_retc ?_ | refine g_then_ret ?_
    | refine g_in_ret ?_ | refine g_exit ?_ | refine g_then_exit ?_ | refine g_in_exit ?_ | refine g_in_other rfl ?_ | refine g_skip ?_ | refine g_label ?_
    | refine g_cond_true rfl ?_ | refine g_cond_false rfl ?_ | exact s_m | intro _
  generalize hb1 : decide ((r : Int) ≤ 127) = b1
  repeat (first
    | (refine g_ops ?_; first | refine s_q ?_ | refine s_v ?_ | refine s_s ?_ | refine s_n (fun _ => ?_) | refine s_x ?_ | refine s_y ?_ | refine s_iq ?_ | refine s_mq ?_ | refine s_appB (fun _ _ => ?_) | refine s_app (fun _ _ => ?_) | refine s_mv ?_ | refine s_ms ?_ | refine s_b0 (fun _ => ?_) | ((fail_if_success refine g_lit rfl rfl rfl ?_); first | apply g_partM rfl rfl rfl | apply g_partMB rfl rfl rfl | fail))
    | refine g_seq ?_ | refine g_region ?_ | refine g_nil ?_ | refine g_then_normal ?_ | refine g_block ?_ | refine g_in_normal ?_ | refine g_retc ?_ | refine g_then_ret ?_
    | refine g_in_ret ?_ | refine g_exit ?_ | refine g_then_exit ?_ | refine g_in_exit ?_ | refine g_in_other rfl ?_ | refine g_skip ?_ | refine g_label ?_
    | refine g_cond_true rfl ?_ | refine g_cond_false rfl ?_ | exact s_m | intro _)
  refine g_cond rfl (fun h2 => ?_) (fun h2 => ?_)
  · subst h2
    have h2 := of_decide_eq_true hb1
    rw [enc1 r (by omega)]
    repeat (first
      | (refine g_ops ?_; first | refine s_q ?_ | refine s_v ?_ | refine s_s ?_ | refine s_n (fun _ => ?_) | refine s_x ?_ | refine s_y ?_ | refine s_iq ?_ | refine s_mq ?_ | refine s_appB (fun _ _ => ?_) | refine s_app (fun _ _ => ?_) | refine s_mv ?_ | refine s_ms ?_ | refine s_b0 (fun _ => ?_) | ((fail_if_success refine g_lit rfl rfl rfl ?_); first | apply g_partM rfl rfl rfl | apply g_partMB rfl rfl rfl | fail))
      | refine g_seq ?_ | refine g_region ?_ | refine g_nil ?_ | refine g_then_normal ?_ | refine g_block ?_ | refine g_in_normal ?_ | refine g_retc ?_
      | refine g_then_ret ?_ | refine g_in_ret ?_ | refine g_exit ?_ | refine g_then_exit ?_ | refine g_in_exit ?_ | refine g_in_other rfl ?_ | refine g_skip ?_
      | refine g_label ?_ | refine g_cond_true rfl ?_ | refine g_cond_false rfl ?_ | exact s_m | intro _)
    refine s_q (q := by exact qs_convInt rfl) ?_
    refine g_as 10 (v' := .int .u8 ((UInt8.ofNat r).toNat : Int)) rfl (congrArg (Value.int .u8) (by rw [wrap8m, u8n _ (by omega)]; omega)) ?_
    generalize UInt8.ofNat r = y0
    repeat (first
      | (refine g_ops ?_; first | refine s_q ?_ | refine s_v ?_ | refine s_s ?_ | refine s_n (fun _ => ?_) | refine s_x ?_ | refine s_y ?_ | refine s_iq ?_ | refine s_mq ?_ | refine s_appB (fun _ _ => ?_) | refine s_app (fun _ _ => ?_) | refine s_mv ?_ | refine s_ms ?_ | refine s_b0 (fun _ => ?_) | ((fail_if_success refine g_lit rfl rfl rfl ?_); first | apply g_partM rfl rfl rfl | apply g_partMB rfl rfl rfl | fail))
      | refine g_seq ?_ | refine g_region ?_ | refine g_nil ?_ | refine g_then_normal ?_ | refine g_block ?_ | refine g_in_normal ?_ | refine g_retc ?_
      | refine g_then_ret ?_ | refine g_in_ret ?_ | refine g_exit ?_ | refine g_then_exit ?_ | refine g_in_exit ?_ | refine g_in_other rfl ?_ | refine g_skip ?_
      | refine g_label ?_ | refine g_cond_true rfl ?_ | refine g_cond_false rfl ?_ | exact s_m | intro _)
    rename_i q' c'
    rw [show cells8 bs ++ [Value.int .u8 (y0.toNat : Int)] = cells8 (bs ++ [y0]) from cells8_append bs [y0], show bs.length + 1 = (bs ++ [y0]).length by simp]
    exact g_ret (⟨q', c'⟩ : BX) rfl (by (repeat (first | exact RVs.nil | apply RVs.tmp rfl | apply RVs.cellA rfl (by (repeat (first | exact Sel.here | apply Sel.there)); first | done | fail) (by (repeat (first | exact Cut.zero | apply Cut.take | apply Cut.skip)); first | done | fail) | apply RVs.cell1 rfl (by (repeat (first | exact Sel.here | apply Sel.there)); first | done | fail) rfl)); first | done | fail) (by (repeat (first | exact Take.nil | apply Take.cons | exact Sel.here | apply Sel.there)); first | done | fail) rfl trivial
  · subst h2
    have h2 := of_decide_eq_false hb1
    repeat (first
      | (refine g_ops ?_; first | refine s_q ?_ | refine s_v ?_ | refine s_s ?_ | refine s_n (fun _ => ?_) | refine s_x ?_ | refine s_y ?_ | refine s_iq ?_ | refine s_mq ?_ | refine s_appB (fun _ _ => ?_) | refine s_app (fun _ _ => ?_) | refine s_mv ?_ | refine s_ms ?_ | refine s_b0 (fun _ => ?_) | ((fail_if_success refine g_lit rfl rfl rfl ?_); first | apply g_partM rfl rfl rfl | apply g_partMB rfl rfl rfl | fail) | refine s_c (appendOther q c bs r (by omega) hr hl) (fun _ _ => ?_))
      | refine g_seq ?_ | refine g_region ?_ | refine g_nil ?_ | refine g_then_normal ?_ | refine g_block ?_ | refine g_in_normal ?_ | refine g_retc ?_
      | refine g_then_ret ?_ | refine g_in_ret ?_ | refine g_exit ?_ | refine g_then_exit ?_ | refine g_in_exit ?_ | refine g_in_other rfl ?_ | refine g_skip ?_
      | refine g_label ?_ | refine g_cond_true rfl ?_ | refine g_cond_false rfl ?_ | exact s_m | intro _)
    rename_i y _
    exact g_ret y rfl (by (repeat (first | exact RVs.nil | apply RVs.tmp rfl | apply RVs.cellA rfl (by (repeat (first | exact Sel.here | apply Sel.there)); first | done | fail) (by (repeat (first | exact Cut.zero | apply Cut.take | apply Cut.skip)); first | done | fail) | apply RVs.cell1 rfl (by (repeat (first | exact Sel.here | apply Sel.there)); first | done | fail) rfl)); first | done | fail) (by (repeat (first | exact Take.nil | apply Take.cons | exact Sel.here | apply Sel.there)); first | done | fail) rfl trivial
/-- Whether what stands there begins no rune. -/
def wrongB (s : ByteArray) (k : Nat) : Bool := decide ((Utf8.decode s k).1 = 65533 ∧ (Utf8.decode s k).2 = 1)
theorem wrong {H : HP} (hT : Tb H) (s : ByteArray) (hs : s.size ≤ 9223372036854775807) (k : Nat) (hk : k < s.size) : Does1 Tryd.prog 81 [.string s, int k, .int .i32 ((Utf8.decode s k).1 : Nat)] [Pile H] (.bool (wrongB s k)) := by
  refine fn_intro Tryd.func81 rfl Tryd.ntmps81 rfl (by simp only [argFr, Nat.zero_add, Nat.reduceAdd]; rfl) (fun Γ => ?_)
  repeat ((fail_if_success refine s_at 10 ?_); first
    | (refine g_ops ?_; first | refine s_q ?_ | refine s_v ?_ | refine s_s ?_ | refine s_n (fun _ => ?_) | refine s_x ?_ | refine s_y ?_ | refine s_iq ?_ | refine s_mq ?_ | refine s_appB (fun _ _ => ?_) | refine s_app (fun _ _ => ?_) | refine s_mv ?_ | refine s_ms ?_ | refine s_b0 (fun _ => ?_) | ((fail_if_success refine g_lit rfl rfl rfl ?_); first | apply g_partM rfl rfl rfl | apply g_partMB rfl rfl rfl | fail))
    | refine g_seq ?_ | refine g_region ?_ | refine g_nil ?_ | refine g_then_normal ?_ | refine g_block ?_ | refine g_in_normal ?_ | refine g_retc ?_ | refine g_then_ret ?_
    | refine g_in_ret ?_ | refine g_exit ?_ | refine g_then_exit ?_ | refine g_in_exit ?_ | refine g_in_other rfl ?_ | refine g_skip ?_ | refine g_label ?_
    | refine g_cond_true rfl ?_ | refine g_cond_false rfl ?_ | exact s_m | intro _)
  first
    | (refine g_ops ?_; first | refine s_q ?_ | refine s_v ?_ | refine s_s ?_ | refine s_n (fun _ => ?_) | refine s_x ?_ | refine s_y ?_ | refine s_iq ?_ | refine s_mq ?_ | refine s_appB (fun _ _ => ?_) | refine s_app (fun _ _ => ?_) | refine s_mv ?_ | refine s_ms ?_ | refine s_b0 (fun _ => ?_) | ((fail_if_success refine g_lit rfl rfl rfl ?_); first | apply g_partM rfl rfl rfl | apply g_partMB rfl rfl rfl | fail))
    | refine g_seq ?_ | refine g_region ?_ | refine g_nil ?_ | refine g_then_normal ?_ | refine g_block ?_ | refine g_in_normal ?_ | refine g_retc ?_ | refine g_then_ret ?_
    | refine g_in_ret ?_ | refine g_exit ?_ | refine g_then_exit ?_ | refine g_in_exit ?_ | refine g_in_other rfl ?_ | refine g_skip ?_ | refine g_label ?_
    | refine g_cond_true rfl ?_ | refine g_cond_false rfl ?_ | exact s_m | intro _
  generalize hb1 : decide (((Utf8.decode s k).1 : Int) ≠ 65533) = b1
  repeat (first
    | (refine g_ops ?_; first | refine s_q ?_ | refine s_v ?_ | refine s_s ?_ | refine s_n (fun _ => ?_) | refine s_x ?_ | refine s_y ?_ | refine s_iq ?_ | refine s_mq ?_ | refine s_appB (fun _ _ => ?_) | refine s_app (fun _ _ => ?_) | refine s_mv ?_ | refine s_ms ?_ | refine s_b0 (fun _ => ?_) | ((fail_if_success refine g_lit rfl rfl rfl ?_); first | apply g_partM rfl rfl rfl | apply g_partMB rfl rfl rfl | fail))
    | refine g_seq ?_ | refine g_region ?_ | refine g_nil ?_ | refine g_then_normal ?_ | refine g_block ?_ | refine g_in_normal ?_ | refine g_retc ?_ | refine g_then_ret ?_
    | refine g_in_ret ?_ | refine g_exit ?_ | refine g_then_exit ?_ | refine g_in_exit ?_ | refine g_in_other rfl ?_ | refine g_skip ?_ | refine g_label ?_
    | refine g_cond_true rfl ?_ | refine g_cond_false rfl ?_ | exact s_m | intro _)
  refine g_cond rfl (fun h2 => ?_) (fun h2 => ?_)
  · subst h2
    have e : wrongB s k = false := by
      unfold wrongB
      refine decide_eq_false fun h => ?_
      rw [h.1] at hb1
      exact absurd hb1 (by decide)
    rw [e]
    repeat (first
      | (refine g_ops ?_; first | refine s_q ?_ | refine s_v ?_ | refine s_s ?_ | refine s_n (fun _ => ?_) | refine s_x ?_ | refine s_y ?_ | refine s_iq ?_ | refine s_mq ?_ | refine s_appB (fun _ _ => ?_) | refine s_app (fun _ _ => ?_) | refine s_mv ?_ | refine s_ms ?_ | refine s_b0 (fun _ => ?_) | ((fail_if_success refine g_lit rfl rfl rfl ?_); first | apply g_partM rfl rfl rfl | apply g_partMB rfl rfl rfl | fail))
      | refine g_seq ?_ | refine g_region ?_ | refine g_nil ?_ | refine g_then_normal ?_ | refine g_block ?_ | refine g_in_normal ?_ | refine g_retc ?_
      | refine g_then_ret ?_ | refine g_in_ret ?_ | refine g_exit ?_ | refine g_then_exit ?_ | refine g_in_exit ?_ | refine g_in_other rfl ?_ | refine g_skip ?_
      | refine g_label ?_ | refine g_cond_true rfl ?_ | refine g_cond_false rfl ?_ | exact s_m | intro _)
    exact s_r ()
  · subst h2
    have e : (Utf8.decode s k).1 = 65533 := by have := of_decide_eq_false hb1; omega
    have e2 : Lib.decodeGo (s.extract k s.size) = Utf8.decode s k := by
      unfold Lib.decodeGo
      rw [if_neg (by rw [ByteArray.size_extract]; omega), Lib.tail_decode, Nat.add_zero]
    have hd := hT.dec (s.extract k s.size) (by rw [ByteArray.size_extract]; omega)
    rw [e2] at hd
    repeat (first
      | (refine g_ops ?_; first | refine s_q ?_ | refine s_v ?_ | refine s_s ?_ | refine s_n (fun _ => ?_) | refine s_x ?_ | refine s_y ?_ | refine s_iq ?_ | refine s_mq ?_ | refine s_appB (fun _ _ => ?_) | refine s_app (fun _ _ => ?_) | refine s_mv ?_ | refine s_ms ?_ | refine s_b0 (fun _ => ?_) | ((fail_if_success refine g_lit rfl rfl rfl ?_); first | apply g_partM rfl rfl rfl | apply g_partMB rfl rfl rfl | fail))
      | refine g_seq ?_ | refine g_region ?_ | refine g_nil ?_ | refine g_then_normal ?_ | refine g_block ?_ | refine g_in_normal ?_ | refine g_retc ?_
      | refine g_then_ret ?_ | refine g_in_ret ?_ | refine g_exit ?_ | refine g_then_exit ?_ | refine g_in_exit ?_ | refine g_in_other rfl ?_ | refine g_skip ?_
      | refine g_label ?_ | refine g_cond_true rfl ?_ | refine g_cond_false rfl ?_ | exact s_m | intro _)
    refine s_q (q := by exact qs_sliceStr inferInstance rfl (.some rfl rfl) .none (by omega) (Nat.le_refl _)) ?_
    repeat (first
      | (refine g_ops ?_; first | refine s_q ?_ | refine s_v ?_ | refine s_s ?_ | refine s_n (fun _ => ?_) | refine s_x ?_ | refine s_y ?_ | refine s_iq ?_ | refine s_mq ?_ | refine s_appB (fun _ _ => ?_) | refine s_app (fun _ _ => ?_) | refine s_mv ?_ | refine s_ms ?_ | refine s_b0 (fun _ => ?_) | ((fail_if_success refine g_lit rfl rfl rfl ?_); first | apply g_partM rfl rfl rfl | apply g_partMB rfl rfl rfl | fail) | refine s_k (hd) ?_)
      | refine g_seq ?_ | refine g_region ?_ | refine g_nil ?_ | refine g_then_normal ?_ | refine g_block ?_ | refine g_in_normal ?_ | refine g_retc ?_
      | refine g_then_ret ?_ | refine g_in_ret ?_ | refine g_exit ?_ | refine g_then_exit ?_ | refine g_in_exit ?_ | refine g_in_other rfl ?_ | refine g_skip ?_
      | refine g_label ?_ | refine g_cond_true rfl ?_ | refine g_cond_false rfl ?_ | exact s_m | intro _)
    exact s_r () (hp := by simp only [pack, wrongB, e, true_and]; congr 2; exact propext (by omega))
end Go.Proofs.YtpilcncdgjnbeaaDoor
