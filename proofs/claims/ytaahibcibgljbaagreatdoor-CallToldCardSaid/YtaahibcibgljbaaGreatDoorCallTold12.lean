/- Contracts and laws that the proof stands on. -/
import Derived.Test.YtaahibcibgljbaaGreatDoorCallTold8
import Derived.Test.YtaahibcibgljbaaGreatDoorCallTold11
import Derived.Lib.ItoaNum
import Derived.Lib.AppendIntMem
import Derived.Shelf.Strconv.Itoa2
import Derived.Shelf.Unicode.DecodeAny
set_option linter.unusedSimpArgs false
set_option linter.unusedVariables false
namespace Go.Proofs.YtaahibcibgljbaaGreatDoor
open Go.Sl facts
attribute [local irreducible] Code.wp wpList Exit.then Exit.inBlock bodyPost Back MidQ G GP QStep VStep CStep SStep Does Post Reads
instance : Callable Tryz.prog 77 := callable (by kernel_rfl)
instance : Callable Tryz.prog 78 := callable (by kernel_rfl)
instance : Callable Tryz.prog 99 := callable (by kernel_rfl)
instance : Callable Tryz.prog 111 := callable (by kernel_rfl)
instance : Callable Tryz.prog 112 := callable (by kernel_rfl)
instance : Callable Tryz.prog 113 := callable (by kernel_rfl)
structure Tb (H : HP) : Prop where
  vs : VStr H
  dec : ∀ s : ByteArray, s.size ≤ 9223372036854775807 → Does1 Tryz.prog 90 [.string s] [Pile H] (.tuple #[.int .i32 (Lib.decodeGo s).1, int (Lib.decodeGo s).2])
  nd : ∀ u : Nat, 1 ≤ u → u < 18446744073709551616 → Does1 Tryz.prog 112 [.int .u64 u] [Pile H] (int (Lib.nDigits u))
theorem Tb.grow {H H' : HP} (s : HP.sub H H') (h : Tb H) : Tb H' :=
  ⟨fun t ht => does1_grow s (h.vs t ht), fun t ht => does1_grow s (h.dec t ht), fun u h1 h2 => does1_grow s (h.nd u h1 h2)⟩
abbrev bO (q : Option Addr) (c : Nat) (bs : List UInt8) : Chunk := .own q bs.length c 1 (cells8 bs) 5
abbrev bV (q : Option Addr) (c : Nat) (bs : List UInt8) : Value := .slice q bs.length c
structure BX where
  q : Option Addr
  c : Nat
def boolL (b : Bool) : List UInt8 := if b then [116, 114, 117, 101] else [102, 97, 108, 115, 101]
theorem appendBoolI (q : Option Addr) (c : Nat) (bs : List UInt8) (b : Bool) (hl : bs.length ≤ 1000000000000) : Does Tryz.prog 77 [bV q c bs, .bool b] [bO q c bs] (X := BX) (fun y => bV y.q y.c (bs ++ boolL b)) (fun y => [bO y.q y.c (bs ++ boolL b)]) (fun _ => True) := by
  cases b
  · refine fn_intro Tryz.func77 rfl Tryz.ntmps77 rfl (by simp only [argFr, Nat.zero_add, Nat.reduceAdd]; rfl) (fun Γ => ?_)
    repeat (first
      | (refine g_ops ?_; first | refine sO ?_ | refine s_n (fun _ => ?_) | refine s_appB (fun _ _ => ?_) | refine s_app (fun _ _ => ?_) | refine s_b0 (fun _ => ?_) | ((fail_if_success refine g_lit rfl rfl rfl ?_); first | apply g_partM rfl rfl rfl | apply g_partMB rfl rfl rfl | fail))
      | refine gS ?_ | exact s_m | intro _)
    refine s_appB (news := [102, 97, 108, 115, 101]) (fun q' c' => ?_) (src := by exact srcString inferInstance) (hb := by simp only [List.length_cons, List.length_nil]; omega) (hb2 := by simp only [List.length_cons, List.length_nil]; omega)
    repeat (first
      | (refine g_ops ?_; first | refine sO ?_ | refine s_n (fun _ => ?_) | refine s_appB (fun _ _ => ?_) | refine s_app (fun _ _ => ?_) | refine s_b0 (fun _ => ?_) | ((fail_if_success refine g_lit rfl rfl rfl ?_); first | apply g_partM rfl rfl rfl | apply g_partMB rfl rfl rfl | fail))
      | refine gS ?_ | exact s_m | intro _)
    exact gR (⟨q', c'⟩ : BX) trivial
  · refine fn_intro Tryz.func77 rfl Tryz.ntmps77 rfl (by simp only [argFr, Nat.zero_add, Nat.reduceAdd]; rfl) (fun Γ => ?_)
    repeat (first
      | (refine g_ops ?_; first | refine sO ?_ | refine s_n (fun _ => ?_) | refine s_appB (fun _ _ => ?_) | refine s_app (fun _ _ => ?_) | refine s_b0 (fun _ => ?_) | ((fail_if_success refine g_lit rfl rfl rfl ?_); first | apply g_partM rfl rfl rfl | apply g_partMB rfl rfl rfl | fail))
      | refine gS ?_ | exact s_m | intro _)
    refine s_appB (news := [116, 114, 117, 101]) (fun q' c' => ?_) (src := by exact srcString inferInstance) (hb := by simp only [List.length_cons, List.length_nil]; omega) (hb2 := by simp only [List.length_cons, List.length_nil]; omega)
    repeat (first
      | (refine g_ops ?_; first | refine sO ?_ | refine s_n (fun _ => ?_) | refine s_appB (fun _ _ => ?_) | refine s_app (fun _ _ => ?_) | refine s_b0 (fun _ => ?_) | ((fail_if_success refine g_lit rfl rfl rfl ?_); first | apply g_partM rfl rfl rfl | apply g_partMB rfl rfl rfl | fail))
      | refine gS ?_ | exact s_m | intro _)
    exact gR (⟨q', c'⟩ : BX) trivial
theorem appendBool (q : Option Addr) (c : Nat) (bs : List UInt8) (b : Bool) (hl : bs.length ≤ 1000000000000) : Does Tryz.prog 56 [bV q c bs, .bool b] [bO q c bs] (X := BX) (fun y => bV y.q y.c (bs ++ boolL b)) (fun y => [bO y.q y.c (bs ++ boolL b)]) (fun _ => True) := by
  refine fn_intro Tryz.func56 rfl Tryz.ntmps56 rfl (by simp only [argFr, Nat.zero_add, Nat.reduceAdd]; rfl) (fun Γ => ?_)
  repeat (first
    | (refine g_ops ?_; first | refine sO ?_ | refine s_n (fun _ => ?_) | refine s_appB (fun _ _ => ?_) | refine s_app (fun _ _ => ?_) | refine s_b0 (fun _ => ?_) | ((fail_if_success refine g_lit rfl rfl rfl ?_); first | apply g_partM rfl rfl rfl | apply g_partMB rfl rfl rfl | fail) | refine s_c (appendBoolI q c bs b hl) (fun _ _ => ?_))
    | refine gS ?_ | exact s_m | intro _)
  rename_i y _
  exact gR y trivial
end Go.Proofs.YtaahibcibgljbaaGreatDoor
namespace Go.Sl
theorem wrap8m (z : Int) : IntKind.u8.wrap z = z % 256 := rfl
theorem or_hi (k a x : Nat) (h : x < 2 ^ k) : 2 ^ k * a ||| x = 2 ^ k * a + x := (Nat.two_pow_add_eq_or_of_lt h a).symm
theorem or192 (x : Nat) (h : x < 64) : 192 ||| x = 192 + x := or_hi 6 3 x h
theorem or224 (x : Nat) (h : x < 32) : 224 ||| x = 224 + x := or_hi 5 7 x h
theorem or240 (x : Nat) (h : x < 16) : 240 ||| x = 240 + x := or_hi 4 15 x h
theorem low6 (x : Nat) : 128 ||| (x % 256 &&& 63) = 128 + x % 64 := by
  have e : x % 256 &&& 63 = x % 64 := by
    have := Nat.and_two_pow_sub_one_eq_mod (x % 256) 6
    rw [show (2 : Nat) ^ 6 - 1 = 63 from rfl, show (2 : Nat) ^ 6 = 64 from rfl] at this
    rw [this]; omega
  rw [e]
  exact or_hi 7 1 (x % 64) (by omega)
theorem u8n (n : Nat) (h : n < 256) : ((UInt8.ofNat n).toNat : Int) = n := by
  rw [UInt8.toNat_ofNat']
  omega
theorem enc1 (r : Nat) (h : r ≤ 127) : Lib.encodeRune (r : Int) = [UInt8.ofNat r] := by
  unfold Lib.encodeRune
  rw [Lib.encodeRuneZ_one (by omega) (by omega)]
  simp
theorem enc2 (r : Nat) (h0 : 128 ≤ r) (h : r ≤ 2047) : Lib.encodeRune (r : Int) = [UInt8.ofNat (192 + r / 64), UInt8.ofNat (128 + r % 64)] := by
  unfold Lib.encodeRune
  rw [Lib.encodeRuneZ_two (by omega) (by omega)]
  simp only [List.map_cons, List.map_nil]
  rw [show (192 + (r : Int) / 64).toNat = 192 + r / 64 by omega, show (128 + (r : Int) % 64).toNat = 128 + r % 64 by omega]
theorem enc3 (r : Nat) (h : 2048 ≤ r ∧ r < 55296 ∨ 57343 < r ∧ r ≤ 65535) : Lib.encodeRune (r : Int) = [UInt8.ofNat (224 + r / 4096), UInt8.ofNat (128 + r / 64 % 64), UInt8.ofNat (128 + r % 64)] := by
  unfold Lib.encodeRune
  rw [Lib.encodeRuneZ_three (by omega)]
  simp only [List.map_cons, List.map_nil]
  rw [show (224 + (r : Int) / 4096).toNat = 224 + r / 4096 by omega, show (128 + (r : Int) / 64 % 64).toNat = 128 + r / 64 % 64 by omega, show (128 + (r : Int) % 64).toNat = 128 + r % 64 by omega]
theorem enc4 (r : Nat) (h0 : 65536 ≤ r) (h : r ≤ 1114111) : Lib.encodeRune (r : Int) = [UInt8.ofNat (240 + r / 262144), UInt8.ofNat (128 + r / 4096 % 64), UInt8.ofNat (128 + r / 64 % 64), UInt8.ofNat (128 + r % 64)] := by
  unfold Lib.encodeRune
  rw [Lib.encodeRuneZ_four (by omega) (by omega)]
  simp only [List.map_cons, List.map_nil]
  rw [show (240 + (r : Int) / 262144).toNat = 240 + r / 262144 by omega, show (128 + (r : Int) / 4096 % 64).toNat = 128 + r / 4096 % 64 by omega, show (128 + (r : Int) / 64 % 64).toNat = 128 + r / 64 % 64 by omega, show (128 + (r : Int) % 64).toNat = 128 + r % 64 by omega]
theorem encBad (r : Nat) (h : 55296 ≤ r ∧ r ≤ 57343) : Lib.encodeRune (r : Int) = [239, 191, 189] := by
  unfold Lib.encodeRune
  rw [Lib.encodeRuneZ_bad (by omega)]
  rfl
end Go.Sl
namespace Go.Proofs.YtaahibcibgljbaaGreatDoor
open Go.Sl facts
attribute [local irreducible] Code.wp wpList Exit.then Exit.inBlock bodyPost Back MidQ G GP QStep VStep CStep SStep Does Post Reads
instance : Callable Tryz.prog 100 := callable (by kernel_rfl)
theorem u32n (n : Nat) (h : n < 4294967296) : IntKind.u32.wrap (n : Int) = n := by
  show (n : Int) % 4294967296 = n
  omega
theorem appendOther (q : Option Addr) (c : Nat) (bs : List UInt8) (r : Nat) (h0 : 128 ≤ r) (hr : r ≤ 1114111) (hl : bs.length ≤ 1000000000000) : Does Tryz.prog 100 [bV q c bs, .int .i32 r] [bO q c bs] (X := BX) (fun y => bV y.q y.c (bs ++ Lib.encodeRune r)) (fun y => [bO y.q y.c (bs ++ Lib.encodeRune r)]) (fun _ => True) := by
  refine fn_intro Tryz.func100 rfl Tryz.ntmps100 rfl (by simp only [argFr, Nat.zero_add, Nat.reduceAdd]; rfl) (fun Γ => ?_)
  repeat (first
    | (refine g_ops ?_; first | refine sO ?_ | refine s_n (fun _ => ?_) | refine s_appB (fun _ _ => ?_) | refine s_app (fun _ _ => ?_) | refine s_b0 (fun _ => ?_) | ((fail_if_success refine g_lit rfl rfl rfl ?_); first | apply g_partM rfl rfl rfl | apply g_partMB rfl rfl rfl | fail))
    | refine gS ?_ | exact s_m | intro _)
  refine s_q (q := by exact qs_convInt rfl) ?_
  refine g_as 7 (v' := .int .u32 ((r : Nat) : Int)) rfl (congrArg (Value.int .u32) (u32n r (by omega))) ?_
  repeat (first
    | (refine g_ops ?_; first | refine sO ?_ | refine s_n (fun _ => ?_) | refine s_appB (fun _ _ => ?_) | refine s_app (fun _ _ => ?_) | refine s_b0 (fun _ => ?_) | ((fail_if_success refine g_lit rfl rfl rfl ?_); first | apply g_partM rfl rfl rfl | apply g_partMB rfl rfl rfl | fail))
    | refine gS ?_ | exact s_m | intro _)
  refine g_cond_dec rfl (fun h1 => ?_) (fun h1 => ?_)
  · rw [enc2 r h0 (by omega)]
    repeat (first
      | (refine g_ops ?_; first | refine sO ?_ | refine s_n (fun _ => ?_) | refine s_appB (fun _ _ => ?_) | refine s_app (fun _ _ => ?_) | refine s_b0 (fun _ => ?_) | ((fail_if_success refine g_lit rfl rfl rfl ?_); first | apply g_partM rfl rfl rfl | apply g_partMB rfl rfl rfl | fail))
      | refine gS ?_ | exact s_m | intro _)
    refine s_q (q := by exact qs_shrK (i := .i32) (a := r) (n := 6) rfl rfl (by decide)) ?_
    refine g_as 16 (v' := .int .i32 ((r / 64 : Nat) : Int)) rfl (by rw [show (2 : Nat) ^ 6 = 64 from by decide]) ?_
    refine s_q (q := by exact qs_convInt rfl) ?_
    refine g_as 17 (v' := .int .u8 (((r / 64) % 256 : Nat) : Int)) rfl (congrArg (Value.int .u8) (by rw [wrap8m]; omega)) ?_
    refine s_q (q := by exact qs_or8 (a := 192) (b := (r / 64) % 256) rfl rfl (by decide) (Nat.mod_lt _ (by decide))) ?_
    refine g_as 18 (v' := .int .u8 ((UInt8.ofNat (192 + (r / 64))).toNat : Int)) rfl (congrArg (Value.int .u8) (by rw [u8n _ (by omega), Nat.mod_eq_of_lt (by omega), or192 _ (by omega)])) ?_
    repeat (first
      | (refine g_ops ?_; first | refine sO ?_ | refine s_n (fun _ => ?_) | refine s_appB (fun _ _ => ?_) | refine s_app (fun _ _ => ?_) | refine s_b0 (fun _ => ?_) | ((fail_if_success refine g_lit rfl rfl rfl ?_); first | apply g_partM rfl rfl rfl | apply g_partMB rfl rfl rfl | fail))
      | refine gS ?_ | exact s_m | intro _)
    refine s_q (q := by exact qs_convInt rfl) ?_
    refine g_as 20 (v' := .int .u8 ((r % 256 : Nat) : Int)) rfl (congrArg (Value.int .u8) (by rw [wrap8m]; omega)) ?_
    refine s_q (q := by exact qs_and8 (a := r % 256) (b := 63) rfl rfl (Nat.mod_lt _ (by decide)) (by decide)) ?_
    refine s_q (q := by exact qs_or8 (a := 128) (b := r % 256 &&& 63) rfl rfl (by decide) (Nat.lt_of_le_of_lt Nat.and_le_right (by decide))) ?_
    refine g_as 22 (v' := .int .u8 ((UInt8.ofNat (128 + r % 64)).toNat : Int)) rfl (congrArg (Value.int .u8) (by rw [u8n _ (by omega), low6])) ?_
    generalize UInt8.ofNat (192 + r / 64) = y0
    generalize UInt8.ofNat (128 + r % 64) = y1
    repeat (first
      | (refine g_ops ?_; first | refine sO ?_ | refine s_n (fun _ => ?_) | refine s_appB (fun _ _ => ?_) | refine s_app (fun _ _ => ?_) | refine s_b0 (fun _ => ?_) | ((fail_if_success refine g_lit rfl rfl rfl ?_); first | apply g_partM rfl rfl rfl | apply g_partMB rfl rfl rfl | fail))
      | refine gS ?_ | exact s_m | intro _)
    rename_i q' c'
    rw [show cells8 bs ++ [Value.int .u8 (y0.toNat : Int), Value.int .u8 (y1.toNat : Int)] = cells8 (bs ++ [y0, y1]) from cells8_append bs [y0, y1], show bs.length + 2 = (bs ++ [y0, y1]).length by simp]
    exact gR (⟨q', c'⟩ : BX) trivial
  · repeat ((fail_if_success refine s_at 27 ?_); first
      | (refine g_ops ?_; first | refine sO ?_ | refine s_n (fun _ => ?_) | refine s_appB (fun _ _ => ?_) | refine s_app (fun _ _ => ?_) | refine s_b0 (fun _ => ?_) | ((fail_if_success refine g_lit rfl rfl rfl ?_); first | apply g_partM rfl rfl rfl | apply g_partMB rfl rfl rfl | fail))
      | refine gS ?_ | exact s_m | intro _)
    first
      | (refine g_ops ?_; first | refine sO ?_ | refine s_n (fun _ => ?_) | refine s_appB (fun _ _ => ?_) | refine s_app (fun _ _ => ?_) | refine s_b0 (fun _ => ?_) | ((fail_if_success refine g_lit rfl rfl rfl ?_); first | apply g_partM rfl rfl rfl | apply g_partMB rfl rfl rfl | fail))
      | refine gS ?_ | exact s_m | intro _
    generalize hb1 : decide ((r : Int) < 55296) = b1
    repeat (first
      | (refine g_ops ?_; first | refine sO ?_ | refine s_n (fun _ => ?_) | refine s_appB (fun _ _ => ?_) | refine s_app (fun _ _ => ?_) | refine s_b0 (fun _ => ?_) | ((fail_if_success refine g_lit rfl rfl rfl ?_); first | apply g_partM rfl rfl rfl | apply g_partMB rfl rfl rfl | fail))
      | refine gS ?_ | exact s_m | intro _)
    refine g_cutX (X := Unit) (fun _ => [(0, bV q c bs), (1, .int .i32 r), (5, .int .u32 r), (25, .bool (decide (r < 55296 ∨ 57343 < r ∧ r ≤ 65535)))]) (fun _ => [bO q c bs]) (fun _ => True) ?_ (fun _ _ => ?_)
    · refine g_cond rfl (fun h2 => ?_) (fun h2 => ?_)
      · subst h2
        have h2 := of_decide_eq_true hb1
        repeat (first
          | (refine g_ops ?_; first | refine sO ?_ | refine s_n (fun _ => ?_) | refine s_appB (fun _ _ => ?_) | refine s_app (fun _ _ => ?_) | refine s_b0 (fun _ => ?_) | ((fail_if_success refine g_lit rfl rfl rfl ?_); first | apply g_partM rfl rfl rfl | apply g_partMB rfl rfl rfl | fail))
          | refine gS ?_ | exact s_m | intro _)
        refine g_as 25 (v' := .bool (decide (r < 55296 ∨ 57343 < r ∧ r ≤ 65535))) rfl (congrArg Value.bool (by rw [decide_eq_true (p := r < 55296 ∨ _) (.inl (by omega))])) ?_
        exact gM () trivial
      · subst h2
        have h2 := of_decide_eq_false hb1
        repeat ((fail_if_success refine s_at 29 ?_); first
          | (refine g_ops ?_; first | refine sO ?_ | refine s_n (fun _ => ?_) | refine s_appB (fun _ _ => ?_) | refine s_app (fun _ _ => ?_) | refine s_b0 (fun _ => ?_) | ((fail_if_success refine g_lit rfl rfl rfl ?_); first | apply g_partM rfl rfl rfl | apply g_partMB rfl rfl rfl | fail))
          | refine gS ?_ | exact s_m | intro _)
        first
          | (refine g_ops ?_; first | refine sO ?_ | refine s_n (fun _ => ?_) | refine s_appB (fun _ _ => ?_) | refine s_app (fun _ _ => ?_) | refine s_b0 (fun _ => ?_) | ((fail_if_success refine g_lit rfl rfl rfl ?_); first | apply g_partM rfl rfl rfl | apply g_partMB rfl rfl rfl | fail))
          | refine gS ?_ | exact s_m | intro _
        generalize hb2 : decide ((57343 : Int) < (r : Int)) = b2
        repeat ((fail_if_success refine s_at 32 ?_); first
          | (refine g_ops ?_; first | refine sO ?_ | refine s_n (fun _ => ?_) | refine s_appB (fun _ _ => ?_) | refine s_app (fun _ _ => ?_) | refine s_b0 (fun _ => ?_) | ((fail_if_success refine g_lit rfl rfl rfl ?_); first | apply g_partM rfl rfl rfl | apply g_partMB rfl rfl rfl | fail))
          | refine gS ?_ | exact s_m | intro _)
        refine g_guard rfl rfl rfl (fun h5 => ?_) (fun h5 => ?_)
        · subst h5
          have h5 := of_decide_eq_true hb2
          repeat ((fail_if_success refine s_at 32 ?_); first
            | (refine g_ops ?_; first | refine sO ?_ | refine s_n (fun _ => ?_) | refine s_appB (fun _ _ => ?_) | refine s_app (fun _ _ => ?_) | refine s_b0 (fun _ => ?_) | ((fail_if_success refine g_lit rfl rfl rfl ?_); first | apply g_partM rfl rfl rfl | apply g_partMB rfl rfl rfl | fail))
            | refine gS ?_ | exact s_m | intro _)
          first
            | (refine g_ops ?_; first | refine sO ?_ | refine s_n (fun _ => ?_) | refine s_appB (fun _ _ => ?_) | refine s_app (fun _ _ => ?_) | refine s_b0 (fun _ => ?_) | ((fail_if_success refine g_lit rfl rfl rfl ?_); first | apply g_partM rfl rfl rfl | apply g_partMB rfl rfl rfl | fail))
            | refine gS ?_ | exact s_m | intro _
          generalize hb3 : decide ((r : Int) ≤ 65535) = b3
          repeat (first
            | (refine g_ops ?_; first | refine sO ?_ | refine s_n (fun _ => ?_) | refine s_appB (fun _ _ => ?_) | refine s_app (fun _ _ => ?_) | refine s_b0 (fun _ => ?_) | ((fail_if_success refine g_lit rfl rfl rfl ?_); first | apply g_partM rfl rfl rfl | apply g_partMB rfl rfl rfl | fail))
            | refine gS ?_ | exact s_m | intro _)
          refine g_as 25 (v' := .bool (decide (r < 55296 ∨ 57343 < r ∧ r ≤ 65535))) rfl (congrArg Value.bool (by rw [← hb3]; exact decide_eq_decide.2 (by omega))) ?_
          exact gM () trivial
        · subst h5
          have h5 := of_decide_eq_false hb2
          repeat (first
            | (refine g_ops ?_; first | refine sO ?_ | refine s_n (fun _ => ?_) | refine s_appB (fun _ _ => ?_) | refine s_app (fun _ _ => ?_) | refine s_b0 (fun _ => ?_) | ((fail_if_success refine g_lit rfl rfl rfl ?_); first | apply g_partM rfl rfl rfl | apply g_partMB rfl rfl rfl | fail))
            | refine gS ?_ | exact s_m | intro _)
          refine g_as 25 (v' := .bool (decide (r < 55296 ∨ 57343 < r ∧ r ≤ 65535))) rfl (congrArg Value.bool (decide_eq_false (by omega)).symm) ?_
          exact gM () trivial
    generalize hb4 : decide (r < 55296 ∨ 57343 < r ∧ r ≤ 65535) = b4
    repeat (first
      | (refine g_ops ?_; first | refine sO ?_ | refine s_n (fun _ => ?_) | refine s_appB (fun _ _ => ?_) | refine s_app (fun _ _ => ?_) | refine s_b0 (fun _ => ?_) | ((fail_if_success refine g_lit rfl rfl rfl ?_); first | apply g_partM rfl rfl rfl | apply g_partMB rfl rfl rfl | fail))
      | refine gS ?_ | exact s_m | intro _)
    refine g_cond rfl (fun h3 => ?_) (fun h3 => ?_)
    · subst h3
      have h3 := of_decide_eq_true hb4
      rw [enc3 r (by omega)]
      repeat (first
        | (refine g_ops ?_; first | refine sO ?_ | refine s_n (fun _ => ?_) | refine s_appB (fun _ _ => ?_) | refine s_app (fun _ _ => ?_) | refine s_b0 (fun _ => ?_) | ((fail_if_success refine g_lit rfl rfl rfl ?_); first | apply g_partM rfl rfl rfl | apply g_partMB rfl rfl rfl | fail))
        | refine gS ?_ | exact s_m | intro _)
      refine s_q (q := by exact qs_shrK (i := .i32) (a := r) (n := 12) rfl rfl (by decide)) ?_
      refine g_as 36 (v' := .int .i32 ((r / 4096 : Nat) : Int)) rfl (by rw [show (2 : Nat) ^ 12 = 4096 from by decide]) ?_
      refine s_q (q := by exact qs_convInt rfl) ?_
      refine g_as 37 (v' := .int .u8 (((r / 4096) % 256 : Nat) : Int)) rfl (congrArg (Value.int .u8) (by rw [wrap8m]; omega)) ?_
      refine s_q (q := by exact qs_or8 (a := 224) (b := (r / 4096) % 256) rfl rfl (by decide) (Nat.mod_lt _ (by decide))) ?_
      refine g_as 38 (v' := .int .u8 ((UInt8.ofNat (224 + (r / 4096))).toNat : Int)) rfl (congrArg (Value.int .u8) (by rw [u8n _ (by omega), Nat.mod_eq_of_lt (by omega), or224 _ (by omega)])) ?_
      repeat (first
        | (refine g_ops ?_; first | refine sO ?_ | refine s_n (fun _ => ?_) | refine s_appB (fun _ _ => ?_) | refine s_app (fun _ _ => ?_) | refine s_b0 (fun _ => ?_) | ((fail_if_success refine g_lit rfl rfl rfl ?_); first | apply g_partM rfl rfl rfl | apply g_partMB rfl rfl rfl | fail))
        | refine gS ?_ | exact s_m | intro _)
      refine s_q (q := by exact qs_shrK (i := .i32) (a := r) (n := 6) rfl rfl (by decide)) ?_
      refine g_as 40 (v' := .int .i32 ((r / 64 : Nat) : Int)) rfl (by rw [show (2 : Nat) ^ 6 = 64 from by decide]) ?_
      refine s_q (q := by exact qs_convInt rfl) ?_
      refine g_as 41 (v' := .int .u8 (((r / 64) % 256 : Nat) : Int)) rfl (congrArg (Value.int .u8) (by rw [wrap8m]; omega)) ?_
      refine s_q (q := by exact qs_and8 (a := (r / 64) % 256) (b := 63) rfl rfl (Nat.mod_lt _ (by decide)) (by decide)) ?_
      refine s_q (q := by exact qs_or8 (a := 128) (b := (r / 64) % 256 &&& 63) rfl rfl (by decide) (Nat.lt_of_le_of_lt Nat.and_le_right (by decide))) ?_
      refine g_as 43 (v' := .int .u8 ((UInt8.ofNat (128 + (r / 64) % 64)).toNat : Int)) rfl (congrArg (Value.int .u8) (by rw [u8n _ (by omega), low6])) ?_
      repeat (first
        | (refine g_ops ?_; first | refine sO ?_ | refine s_n (fun _ => ?_) | refine s_appB (fun _ _ => ?_) | refine s_app (fun _ _ => ?_) | refine s_b0 (fun _ => ?_) | ((fail_if_success refine g_lit rfl rfl rfl ?_); first | apply g_partM rfl rfl rfl | apply g_partMB rfl rfl rfl | fail))
        | refine gS ?_ | exact s_m | intro _)
      refine s_q (q := by exact qs_convInt rfl) ?_
      refine g_as 45 (v' := .int .u8 ((r % 256 : Nat) : Int)) rfl (congrArg (Value.int .u8) (by rw [wrap8m]; omega)) ?_
      refine s_q (q := by exact qs_and8 (a := r % 256) (b := 63) rfl rfl (Nat.mod_lt _ (by decide)) (by decide)) ?_
      refine s_q (q := by exact qs_or8 (a := 128) (b := r % 256 &&& 63) rfl rfl (by decide) (Nat.lt_of_le_of_lt Nat.and_le_right (by decide))) ?_
      refine g_as 47 (v' := .int .u8 ((UInt8.ofNat (128 + r % 64)).toNat : Int)) rfl (congrArg (Value.int .u8) (by rw [u8n _ (by omega), low6])) ?_
      generalize UInt8.ofNat (224 + r / 4096) = y0
      generalize UInt8.ofNat (128 + r / 64 % 64) = y1
      generalize UInt8.ofNat (128 + r % 64) = y2
      repeat (first
        | (refine g_ops ?_; first | refine sO ?_ | refine s_n (fun _ => ?_) | refine s_appB (fun _ _ => ?_) | refine s_app (fun _ _ => ?_) | refine s_b0 (fun _ => ?_) | ((fail_if_success refine g_lit rfl rfl rfl ?_); first | apply g_partM rfl rfl rfl | apply g_partMB rfl rfl rfl | fail))
        | refine gS ?_ | exact s_m | intro _)
      rename_i q' c'
      rw [show cells8 bs ++ [Value.int .u8 (y0.toNat : Int), Value.int .u8 (y1.toNat : Int), Value.int .u8 (y2.toNat : Int)] = cells8 (bs ++ [y0, y1, y2]) from cells8_append bs [y0, y1, y2], show bs.length + 3 = (bs ++ [y0, y1, y2]).length by simp]
      exact gR (⟨q', c'⟩ : BX) trivial
    · subst h3
      have h3 := of_decide_eq_false hb4
      repeat ((fail_if_success refine s_at 52 ?_); first
        | (refine g_ops ?_; first | refine sO ?_ | refine s_n (fun _ => ?_) | refine s_appB (fun _ _ => ?_) | refine s_app (fun _ _ => ?_) | refine s_b0 (fun _ => ?_) | ((fail_if_success refine g_lit rfl rfl rfl ?_); first | apply g_partM rfl rfl rfl | apply g_partMB rfl rfl rfl | fail))
        | refine gS ?_ | exact s_m | intro _)
      first
        | (refine g_ops ?_; first | refine sO ?_ | refine s_n (fun _ => ?_) | refine s_appB (fun _ _ => ?_) | refine s_app (fun _ _ => ?_) | refine s_b0 (fun _ => ?_) | ((fail_if_success refine g_lit rfl rfl rfl ?_); first | apply g_partM rfl rfl rfl | apply g_partMB rfl rfl rfl | fail))
        | refine gS ?_ | exact s_m | intro _
      generalize hb5 : decide ((65535 : Int) < (r : Int)) = b5
      repeat ((fail_if_success refine s_at 55 ?_); first
        | (refine g_ops ?_; first | refine sO ?_ | refine s_n (fun _ => ?_) | refine s_appB (fun _ _ => ?_) | refine s_app (fun _ _ => ?_) | refine s_b0 (fun _ => ?_) | ((fail_if_success refine g_lit rfl rfl rfl ?_); first | apply g_partM rfl rfl rfl | apply g_partMB rfl rfl rfl | fail))
        | refine gS ?_ | exact s_m | intro _)
      refine g_guard rfl rfl rfl (fun h4 => ?_) (fun h4 => ?_)
      · subst h4
        have h4 := of_decide_eq_true hb5
        repeat ((fail_if_success refine s_at 55 ?_); first
          | (refine g_ops ?_; first | refine sO ?_ | refine s_n (fun _ => ?_) | refine s_appB (fun _ _ => ?_) | refine s_app (fun _ _ => ?_) | refine s_b0 (fun _ => ?_) | ((fail_if_success refine g_lit rfl rfl rfl ?_); first | apply g_partM rfl rfl rfl | apply g_partMB rfl rfl rfl | fail))
          | refine gS ?_ | exact s_m | intro _)
        first
          | (refine g_ops ?_; first | refine sO ?_ | refine s_n (fun _ => ?_) | refine s_appB (fun _ _ => ?_) | refine s_app (fun _ _ => ?_) | refine s_b0 (fun _ => ?_) | ((fail_if_success refine g_lit rfl rfl rfl ?_); first | apply g_partM rfl rfl rfl | apply g_partMB rfl rfl rfl | fail))
          | refine gS ?_ | exact s_m | intro _
        refine g_as 55 (v' := .bool true) rfl (congrArg Value.bool (decide_eq_true (by omega))) ?_
        rw [enc4 r (by omega) hr]
        repeat (first
          | (refine g_ops ?_; first | refine sO ?_ | refine s_n (fun _ => ?_) | refine s_appB (fun _ _ => ?_) | refine s_app (fun _ _ => ?_) | refine s_b0 (fun _ => ?_) | ((fail_if_success refine g_lit rfl rfl rfl ?_); first | apply g_partM rfl rfl rfl | apply g_partMB rfl rfl rfl | fail))
          | refine gS ?_ | exact s_m | intro _)
        refine s_q (q := by exact qs_shrK (i := .i32) (a := r) (n := 18) rfl rfl (by decide)) ?_
        refine g_as 59 (v' := .int .i32 ((r / 262144 : Nat) : Int)) rfl (by rw [show (2 : Nat) ^ 18 = 262144 from by decide]) ?_
        refine s_q (q := by exact qs_convInt rfl) ?_
        refine g_as 60 (v' := .int .u8 (((r / 262144) % 256 : Nat) : Int)) rfl (congrArg (Value.int .u8) (by rw [wrap8m]; omega)) ?_
        refine s_q (q := by exact qs_or8 (a := 240) (b := (r / 262144) % 256) rfl rfl (by decide) (Nat.mod_lt _ (by decide))) ?_
        refine g_as 61 (v' := .int .u8 ((UInt8.ofNat (240 + (r / 262144))).toNat : Int)) rfl (congrArg (Value.int .u8) (by rw [u8n _ (by omega), Nat.mod_eq_of_lt (by omega), or240 _ (by omega)])) ?_
        repeat (first
          | (refine g_ops ?_; first | refine sO ?_ | refine s_n (fun _ => ?_) | refine s_appB (fun _ _ => ?_) | refine s_app (fun _ _ => ?_) | refine s_b0 (fun _ => ?_) | ((fail_if_success refine g_lit rfl rfl rfl ?_); first | apply g_partM rfl rfl rfl | apply g_partMB rfl rfl rfl | fail))
          | refine gS ?_ | exact s_m | intro _)
        refine s_q (q := by exact qs_shrK (i := .i32) (a := r) (n := 12) rfl rfl (by decide)) ?_
        refine g_as 63 (v' := .int .i32 ((r / 4096 : Nat) : Int)) rfl (by rw [show (2 : Nat) ^ 12 = 4096 from by decide]) ?_
        refine s_q (q := by exact qs_convInt rfl) ?_
        refine g_as 64 (v' := .int .u8 (((r / 4096) % 256 : Nat) : Int)) rfl (congrArg (Value.int .u8) (by rw [wrap8m]; omega)) ?_
        refine s_q (q := by exact qs_and8 (a := (r / 4096) % 256) (b := 63) rfl rfl (Nat.mod_lt _ (by decide)) (by decide)) ?_
        refine s_q (q := by exact qs_or8 (a := 128) (b := (r / 4096) % 256 &&& 63) rfl rfl (by decide) (Nat.lt_of_le_of_lt Nat.and_le_right (by decide))) ?_
        refine g_as 66 (v' := .int .u8 ((UInt8.ofNat (128 + (r / 4096) % 64)).toNat : Int)) rfl (congrArg (Value.int .u8) (by rw [u8n _ (by omega), low6])) ?_
        repeat (first
          | (refine g_ops ?_; first | refine sO ?_ | refine s_n (fun _ => ?_) | refine s_appB (fun _ _ => ?_) | refine s_app (fun _ _ => ?_) | refine s_b0 (fun _ => ?_) | ((fail_if_success refine g_lit rfl rfl rfl ?_); first | apply g_partM rfl rfl rfl | apply g_partMB rfl rfl rfl | fail))
          | refine gS ?_ | exact s_m | intro _)
        refine s_q (q := by exact qs_shrK (i := .i32) (a := r) (n := 6) rfl rfl (by decide)) ?_
        refine g_as 68 (v' := .int .i32 ((r / 64 : Nat) : Int)) rfl (by rw [show (2 : Nat) ^ 6 = 64 from by decide]) ?_
        refine s_q (q := by exact qs_convInt rfl) ?_
        refine g_as 69 (v' := .int .u8 (((r / 64) % 256 : Nat) : Int)) rfl (congrArg (Value.int .u8) (by rw [wrap8m]; omega)) ?_
        refine s_q (q := by exact qs_and8 (a := (r / 64) % 256) (b := 63) rfl rfl (Nat.mod_lt _ (by decide)) (by decide)) ?_
        refine s_q (q := by exact qs_or8 (a := 128) (b := (r / 64) % 256 &&& 63) rfl rfl (by decide) (Nat.lt_of_le_of_lt Nat.and_le_right (by decide))) ?_
        refine g_as 71 (v' := .int .u8 ((UInt8.ofNat (128 + (r / 64) % 64)).toNat : Int)) rfl (congrArg (Value.int .u8) (by rw [u8n _ (by omega), low6])) ?_
        repeat (first
          | (refine g_ops ?_; first | refine sO ?_ | refine s_n (fun _ => ?_) | refine s_appB (fun _ _ => ?_) | refine s_app (fun _ _ => ?_) | refine s_b0 (fun _ => ?_) | ((fail_if_success refine g_lit rfl rfl rfl ?_); first | apply g_partM rfl rfl rfl | apply g_partMB rfl rfl rfl | fail))
          | refine gS ?_ | exact s_m | intro _)
        refine s_q (q := by exact qs_convInt rfl) ?_
        refine g_as 73 (v' := .int .u8 ((r % 256 : Nat) : Int)) rfl (congrArg (Value.int .u8) (by rw [wrap8m]; omega)) ?_
        refine s_q (q := by exact qs_and8 (a := r % 256) (b := 63) rfl rfl (Nat.mod_lt _ (by decide)) (by decide)) ?_
        refine s_q (q := by exact qs_or8 (a := 128) (b := r % 256 &&& 63) rfl rfl (by decide) (Nat.lt_of_le_of_lt Nat.and_le_right (by decide))) ?_
        refine g_as 75 (v' := .int .u8 ((UInt8.ofNat (128 + r % 64)).toNat : Int)) rfl (congrArg (Value.int .u8) (by rw [u8n _ (by omega), low6])) ?_
        generalize UInt8.ofNat (240 + r / 262144) = y0
        generalize UInt8.ofNat (128 + r / 4096 % 64) = y1
        generalize UInt8.ofNat (128 + r / 64 % 64) = y2
        generalize UInt8.ofNat (128 + r % 64) = y3
        repeat (first
          | (refine g_ops ?_; first | refine sO ?_ | refine s_n (fun _ => ?_) | refine s_appB (fun _ _ => ?_) | refine s_app (fun _ _ => ?_) | refine s_b0 (fun _ => ?_) | ((fail_if_success refine g_lit rfl rfl rfl ?_); first | apply g_partM rfl rfl rfl | apply g_partMB rfl rfl rfl | fail))
          | refine gS ?_ | exact s_m | intro _)
        rename_i q' c'
        rw [show cells8 bs ++ [Value.int .u8 (y0.toNat : Int), Value.int .u8 (y1.toNat : Int), Value.int .u8 (y2.toNat : Int), Value.int .u8 (y3.toNat : Int)] = cells8 (bs ++ [y0, y1, y2, y3]) from cells8_append bs [y0, y1, y2, y3], show bs.length + 4 = (bs ++ [y0, y1, y2, y3]).length by simp]
        exact gR (⟨q', c'⟩ : BX) trivial
      · subst h4
        have h4 := of_decide_eq_false hb5
        rw [encBad r (by omega)]
        repeat (first
          | (refine g_ops ?_; first | refine sO ?_ | refine s_n (fun _ => ?_) | refine s_appB (fun _ _ => ?_) | refine s_app (fun _ _ => ?_) | refine s_b0 (fun _ => ?_) | ((fail_if_success refine g_lit rfl rfl rfl ?_); first | apply g_partM rfl rfl rfl | apply g_partMB rfl rfl rfl | fail))
          | refine gS ?_ | exact s_m | intro _)
        rename_i q' c'
        rw [show cells8 bs ++ [Value.int .u8 239, Value.int .u8 191, Value.int .u8 189] = cells8 (bs ++ [239, 191, 189]) from cells8_append bs [239, 191, 189], show bs.length + 3 = (bs ++ [239, 191, 189]).length by simp]
        exact gR (⟨q', c'⟩ : BX) trivial
theorem appendRune (q : Option Addr) (c : Nat) (bs : List UInt8) (r : Nat) (hr : r ≤ 1114111) (hl : bs.length ≤ 1000000000000) : Does Tryz.prog 81 [bV q c bs, .int .i32 r] [bO q c bs] (X := BX) (fun y => bV y.q y.c (bs ++ Lib.encodeRune r)) (fun y => [bO y.q y.c (bs ++ Lib.encodeRune r)]) (fun _ => True) := by
  refine fn_intro Tryz.func81 rfl Tryz.ntmps81 rfl (by simp only [argFr, Nat.zero_add, Nat.reduceAdd]; rfl) (fun Γ => ?_)
  repeat (first
    | (refine g_ops ?_; first | refine sO ?_ | refine s_n (fun _ => ?_) | refine s_appB (fun _ _ => ?_) | refine s_app (fun _ _ => ?_) | refine s_b0 (fun _ => ?_) | ((fail_if_success refine g_lit rfl rfl rfl ?_); first | apply g_partM rfl rfl rfl | apply g_partMB rfl rfl rfl | fail))
    | refine gS ?_ | exact s_m | intro _)
  refine s_q (q := by exact qs_convInt rfl) ?_
  refine g_as 6 (v' := .int .u32 ((r : Nat) : Int)) rfl (congrArg (Value.int .u32) (u32n r (by omega))) ?_
  repeat ((fail_if_success refine s_at 7 ?_); first
    | (refine g_ops ?_; first | refine sO ?_ | refine s_n (fun _ => ?_) | refine s_appB (fun _ _ => ?_) | refine s_app (fun _ _ => ?_) | refine s_b0 (fun _ => ?_) | ((fail_if_success refine g_lit rfl rfl rfl ?_); first | apply g_partM rfl rfl rfl | apply g_partMB rfl rfl rfl | fail))
    | refine gS ?_ | exact s_m | intro _)
  first
    | (refine g_ops ?_; first | refine sO ?_ | refine s_n (fun _ => ?_) | refine s_appB (fun _ _ => ?_) | refine s_app (fun _ _ => ?_) | refine s_b0 (fun _ => ?_) | ((fail_if_success refine g_lit rfl rfl rfl ?_); first | apply g_partM rfl rfl rfl | apply g_partMB rfl rfl rfl | fail))
    | refine gS ?_ | exact s_m | intro _
  generalize hb1 : decide ((r : Int) ≤ 127) = b1
  repeat (first
    | (refine g_ops ?_; first | refine sO ?_ | refine s_n (fun _ => ?_) | refine s_appB (fun _ _ => ?_) | refine s_app (fun _ _ => ?_) | refine s_b0 (fun _ => ?_) | ((fail_if_success refine g_lit rfl rfl rfl ?_); first | apply g_partM rfl rfl rfl | apply g_partMB rfl rfl rfl | fail))
    | refine gS ?_ | exact s_m | intro _)
  refine g_cond rfl (fun h2 => ?_) (fun h2 => ?_)
  · subst h2
    have h2 := of_decide_eq_true hb1
    rw [enc1 r (by omega)]
    repeat (first
      | (refine g_ops ?_; first | refine sO ?_ | refine s_n (fun _ => ?_) | refine s_appB (fun _ _ => ?_) | refine s_app (fun _ _ => ?_) | refine s_b0 (fun _ => ?_) | ((fail_if_success refine g_lit rfl rfl rfl ?_); first | apply g_partM rfl rfl rfl | apply g_partMB rfl rfl rfl | fail))
      | refine gS ?_ | exact s_m | intro _)
    refine s_q (q := by exact qs_convInt rfl) ?_
    refine g_as 10 (v' := .int .u8 ((UInt8.ofNat r).toNat : Int)) rfl (congrArg (Value.int .u8) (by rw [wrap8m, u8n _ (by omega)]; omega)) ?_
    generalize UInt8.ofNat r = y0
    repeat (first
      | (refine g_ops ?_; first | refine sO ?_ | refine s_n (fun _ => ?_) | refine s_appB (fun _ _ => ?_) | refine s_app (fun _ _ => ?_) | refine s_b0 (fun _ => ?_) | ((fail_if_success refine g_lit rfl rfl rfl ?_); first | apply g_partM rfl rfl rfl | apply g_partMB rfl rfl rfl | fail))
      | refine gS ?_ | exact s_m | intro _)
    rename_i q' c'
    rw [show cells8 bs ++ [Value.int .u8 (y0.toNat : Int)] = cells8 (bs ++ [y0]) from cells8_append bs [y0], show bs.length + 1 = (bs ++ [y0]).length by simp]
    exact gR (⟨q', c'⟩ : BX) trivial
  · subst h2
    have h2 := of_decide_eq_false hb1
    repeat (first
      | (refine g_ops ?_; first | refine sO ?_ | refine s_n (fun _ => ?_) | refine s_appB (fun _ _ => ?_) | refine s_app (fun _ _ => ?_) | refine s_b0 (fun _ => ?_) | ((fail_if_success refine g_lit rfl rfl rfl ?_); first | apply g_partM rfl rfl rfl | apply g_partMB rfl rfl rfl | fail) | refine s_c (appendOther q c bs r (by omega) hr hl) (fun _ _ => ?_))
      | refine gS ?_ | exact s_m | intro _)
    rename_i y _
    exact gR y trivial
def wrongB (s : ByteArray) (k : Nat) : Bool := decide ((Utf8.decode s k).1 = 65533 ∧ (Utf8.decode s k).2 = 1)
theorem wrong {H : HP} (hT : Tb H) (s : ByteArray) (hs : s.size ≤ 9223372036854775807) (k : Nat) (hk : k < s.size) : Does1 Tryz.prog 80 [.string s, int k, .int .i32 ((Utf8.decode s k).1 : Nat)] [Pile H] (.bool (wrongB s k)) := by
  refine fn_intro Tryz.func80 rfl Tryz.ntmps80 rfl (by simp only [argFr, Nat.zero_add, Nat.reduceAdd]; rfl) (fun Γ => ?_)
  repeat ((fail_if_success refine s_at 10 ?_); first
    | (refine g_ops ?_; first | refine sO ?_ | refine s_n (fun _ => ?_) | refine s_appB (fun _ _ => ?_) | refine s_app (fun _ _ => ?_) | refine s_b0 (fun _ => ?_) | ((fail_if_success refine g_lit rfl rfl rfl ?_); first | apply g_partM rfl rfl rfl | apply g_partMB rfl rfl rfl | fail))
    | refine gS ?_ | exact s_m | intro _)
  first
    | (refine g_ops ?_; first | refine sO ?_ | refine s_n (fun _ => ?_) | refine s_appB (fun _ _ => ?_) | refine s_app (fun _ _ => ?_) | refine s_b0 (fun _ => ?_) | ((fail_if_success refine g_lit rfl rfl rfl ?_); first | apply g_partM rfl rfl rfl | apply g_partMB rfl rfl rfl | fail))
    | refine gS ?_ | exact s_m | intro _
  generalize hb1 : decide (((Utf8.decode s k).1 : Int) ≠ 65533) = b1
  repeat (first
    | (refine g_ops ?_; first | refine sO ?_ | refine s_n (fun _ => ?_) | refine s_appB (fun _ _ => ?_) | refine s_app (fun _ _ => ?_) | refine s_b0 (fun _ => ?_) | ((fail_if_success refine g_lit rfl rfl rfl ?_); first | apply g_partM rfl rfl rfl | apply g_partMB rfl rfl rfl | fail))
    | refine gS ?_ | exact s_m | intro _)
  refine g_cond rfl (fun h2 => ?_) (fun h2 => ?_)
  · subst h2
    have e : wrongB s k = false := by
      unfold wrongB
      refine decide_eq_false fun h => ?_
      rw [h.1] at hb1
      exact absurd hb1 (by decide)
    rw [e]
    repeat (first
      | (refine g_ops ?_; first | refine sO ?_ | refine s_n (fun _ => ?_) | refine s_appB (fun _ _ => ?_) | refine s_app (fun _ _ => ?_) | refine s_b0 (fun _ => ?_) | ((fail_if_success refine g_lit rfl rfl rfl ?_); first | apply g_partM rfl rfl rfl | apply g_partMB rfl rfl rfl | fail))
      | refine gS ?_ | exact s_m | intro _)
    exact s_r ()
  · subst h2
    have e : (Utf8.decode s k).1 = 65533 := by have := of_decide_eq_false hb1; omega
    have e2 : Lib.decodeGo (s.extract k s.size) = Utf8.decode s k := by
      unfold Lib.decodeGo
      rw [if_neg (by rw [ByteArray.size_extract]; omega), Lib.tail_decode, Nat.add_zero]
    have hd := hT.dec (s.extract k s.size) (by rw [ByteArray.size_extract]; omega)
    rw [e2] at hd
    repeat (first
      | (refine g_ops ?_; first | refine sO ?_ | refine s_n (fun _ => ?_) | refine s_appB (fun _ _ => ?_) | refine s_app (fun _ _ => ?_) | refine s_b0 (fun _ => ?_) | ((fail_if_success refine g_lit rfl rfl rfl ?_); first | apply g_partM rfl rfl rfl | apply g_partMB rfl rfl rfl | fail))
      | refine gS ?_ | exact s_m | intro _)
    refine s_q (q := by exact qs_sliceStr inferInstance rfl (.some rfl rfl) .none (by omega) (Nat.le_refl _)) ?_
    repeat (first
      | (refine g_ops ?_; first | refine sO ?_ | refine s_n (fun _ => ?_) | refine s_appB (fun _ _ => ?_) | refine s_app (fun _ _ => ?_) | refine s_b0 (fun _ => ?_) | ((fail_if_success refine g_lit rfl rfl rfl ?_); first | apply g_partM rfl rfl rfl | apply g_partMB rfl rfl rfl | fail) | refine s_k (hd) ?_)
      | refine gS ?_ | exact s_m | intro _)
    exact s_r () (hp := by simp only [pack, wrongB, e, true_and]; congr 2; exact propext (by omega))
end Go.Proofs.YtaahibcibgljbaaGreatDoor
namespace Go.Proofs.YtaahibcibgljbaaGreatDoor
open Go.Sl
def hexB (n : Nat) : UInt8 := if n < 10 then UInt8.ofNat (48 + n) else UInt8.ofNat (87 + n)
def qR (s : ByteArray) (k : Nat) : List UInt8 :=
  if (Utf8.decode s k).1 = 34 ∨ (Utf8.decode s k).1 = 92 then [92, UInt8.ofNat (Utf8.decode s k).1]
  else if (Utf8.decode s k).1 = 10 then [92, 110]
  else if ctlB (Utf8.decode s k).1 = true ∨ wrongB s k = true then [92, 120, hexB ((at8 s k).toNat / 16), hexB ((at8 s k).toNat % 16)]
  else (s.data.toList.drop k).take (Utf8.decode s k).2
def qF (s : ByteArray) : Nat → Nat → List UInt8
  | 0, _ => []
  | f + 1, k => if k < s.size then qR s k ++ qF s f (k + (Utf8.decode s k).2) else []
def quoteL (s : ByteArray) : List UInt8 := 34 :: (qF s s.size 0 ++ [34])
theorem ctlB_iff (r : Nat) : ctlB r = true ↔ r < 32 ∨ r = 127 := by simp [ctlB]
def hexS : ByteArray := ⟨#[48, 49, 50, 51, 52, 53, 54, 55, 56, 57, 97, 98, 99, 100, 101, 102]⟩
theorem hex_at : ∀ n : Nat, n < 16 → at8 hexS n = hexB n := by decide +kernel
theorem shr4 (x : Nat) : x / 2 ^ 4 = x / 16 := rfl
theorem and15 (x : Nat) : x &&& 15 = x % 16 := Nat.and_two_pow_sub_one_eq_mod x 4
theorem qF_end (s : ByteArray) (f k : Nat) (h : ¬ k < s.size) : qF s f k = [] := by cases f <;> simp [qF, h]
theorem qF_go (s : ByteArray) (f k : Nat) (h : k < s.size) : qF s (f + 1) k = qR s k ++ qF s f (k + (Utf8.decode s k).2) := by simp [qF, h]
theorem decode_in (s : ByteArray) (k : Nat) (h : k < s.size) : k + (Utf8.decode s k).2 ≤ s.size := by
  have h2 : s.data.toList.length = s.size := by simp
  have := Lib.decodeL_le (s.data.toList.drop k) (by intro e; have := congrArg List.length e; rw [List.length_drop, h2] at this; simp at this; omega)
  rw [Lib.decodeL_drop, List.length_drop, h2] at this
  omega
theorem decode_enc (s : ByteArray) (k : Nat) (h : k < s.size) (hw : wrongB s k = false) : Lib.encodeRune ((Utf8.decode s k).1 : Int) = (s.data.toList.drop k).take (Utf8.decode s k).2 := by
  have h2 : s.data.toList.length = s.size := by simp
  have := Lib.encode_decode (s.data.toList.drop k) (by intro e; have := congrArg List.length e; rw [List.length_drop, h2] at this; simp at this; omega)
  rw [Lib.decodeL_drop] at this
  exact this (of_decide_eq_false hw)
theorem decode_most (s : ByteArray) (k : Nat) : (Utf8.decode s k).1 ≤ 1114111 := by
  have := Lib.decodeL_rune (s.data.toList.drop k)
  rwa [Lib.decodeL_drop] at this
theorem qR_len (s : ByteArray) (k : Nat) (h : k < s.size) : (qR s k).length ≤ 4 * (Utf8.decode s k).2 := by
  have hw := Lib.decode_width_pos s k h
  unfold qR
  split
  · simp; omega
  · split
    · simp; omega
    · split
      · simp; omega
      · rw [List.length_take]; omega
theorem qF_len (s : ByteArray) : ∀ f k, k ≤ s.size → (qF s f k).length ≤ 4 * (s.size - k)
  | 0, k, _ => by simp [qF]
  | f + 1, k, hk => by
    by_cases h : k < s.size
    · have h1 := decode_in s k h
      have h2 := qR_len s k h
      have h3 := qF_len s f (k + (Utf8.decode s k).2) h1
      rw [qF_go s f k h, List.length_append]
      omega
    · rw [qF_end s _ _ h]; simp
theorem quoteL_len (s : ByteArray) : (quoteL s).length ≤ 4 * s.size + 2 := by
  have := qF_len s s.size 0 (Nat.zero_le _)
  unfold quoteL
  simp only [List.length_cons, List.length_append, List.length_nil]
  omega
end Go.Proofs.YtaahibcibgljbaaGreatDoor
namespace Go.Proofs.YtaahibcibgljbaaGreatDoor
open Go.Sl facts
attribute [local irreducible] Code.wp wpList Exit.then Exit.inBlock bodyPost Back MidQ G GP QStep VStep CStep SStep Does Post Reads
attribute [local irreducible] qR qF quoteL ctlB wrongB at8 hexB
structure QuX where
  k : Nat
  f : Nat
  bs : List UInt8
  q : Option Addr
  c : Nat
set_option maxHeartbeats 4000000 in
theorem quote {H : HP} (hT : Tb H) (s : ByteArray) (hs : s.size ≤ 200000000000) : Does1 Tryz.prog 58 [.string s] [Pile H] (.string ⟨(quoteL s).toArray⟩) := by
  refine fn_intro Tryz.func58 rfl Tryz.ntmps58 rfl (by simp only [argFr, Nat.zero_add, Nat.reduceAdd]; rfl) (fun Γ => ?_)
  repeat (first
    | (refine g_ops ?_; first | refine sO ?_ | refine s_n (fun _ => ?_) | refine s_app (fun _ _ => ?_) | refine s_b0 (fun _ => ?_) | ((fail_if_success refine g_lit rfl rfl rfl ?_); first | apply g_partM rfl rfl rfl | apply g_partMB rfl rfl rfl | fail))
    | refine gS ?_ | exact s_m | intro _)
  refine g_n (cs_range inferInstance rfl) rfl rfl (fun it => ?_)
  repeat (first
    | (refine g_ops ?_; first | refine sO ?_ | refine s_n (fun _ => ?_) | refine s_app (fun _ _ => ?_) | refine s_b0 (fun _ => ?_) | ((fail_if_success refine g_lit rfl rfl rfl ?_); first | apply g_partM rfl rfl rfl | apply g_partMB rfl rfl rfl | fail))
    | refine gS ?_ | exact s_m | intro _)
  rename_i b0
  refine g_toOwn (b := b0) (len := 1) (n := 1) (by (repeat (first | exact Sel.here | apply Sel.there)); first | done | fail) rfl rfl ?_
  refine g_loop (X := QuX) (fun x => [(0, .string s), (3, .slice x.q x.bs.length x.c), (8, .pointer (some ⟨it, 0, none⟩))])
    (fun x => [bO x.q x.c x.bs, .pt it (.stringIter s x.k), Pile H])
    (fun x => s.size ≤ x.k + x.f ∧ x.k ≤ s.size ∧ x.bs.length ≤ 1 + 4 * x.k ∧ 34 :: qF s s.size 0 = x.bs ++ qF s x.f x.k) (fun x => x.f) ⟨0, s.size, [34], some ⟨b0, 0, none⟩, 1⟩ ⟨by dsimp only; omega, Nat.zero_le _, by simp, rfl⟩ (by (repeat (first | exact FrSub.nil | refine FrSub.cons rfl ?_)); first | done | fail) (by (repeat (first | exact Take.nil | apply Take.cons | exact Sel.here | apply Sel.there)); first | done | fail) (fun x hx => ?_)
  obtain ⟨k, f, bs, q, c⟩ := x
  obtain ⟨hf, hk, hlen, he⟩ := hx
  dsimp only at hf hk hlen he ⊢
  repeat (first
    | (refine g_ops ?_; first | refine sO ?_ | refine s_n (fun _ => ?_) | refine s_app (fun _ _ => ?_) | refine s_b0 (fun _ => ?_) | ((fail_if_success refine g_lit rfl rfl rfl ?_); first | apply g_partM rfl rfl rfl | apply g_partMB rfl rfl rfl | fail))
    | refine gS ?_ | exact s_m | intro _)
  by_cases hlt : k < s.size
  · obtain ⟨f, rfl⟩ : ∃ f', f = f' + 1 := ⟨f - 1, by omega⟩
    have hw := Lib.decode_width_pos s k hlt
    have hin := decode_in s k hlt
    have hqr := qR_len s k hlt
    have hmost := decode_most s k
    rw [qF_go s f k hlt] at he
    refine g_c (cs_next rfl (by (repeat (first | exact Sel.here | apply Sel.there)); first | done | fail) hlt) rfl rfl (fun _ _ => ?_)
    have hctl := control (Utf8.decode s k).1
    have hwr := wrong hT s (by omega) k hlt
    have step : ∀ (news : List UInt8), news = qR s k → (bs ++ news).length ≤ 1 + 4 * (k + (Utf8.decode s k).2) ∧ 34 :: qF s s.size 0 = (bs ++ news) ++ qF s f (k + (Utf8.decode s k).2) := fun news e => by
      subst e
      exact ⟨by rw [List.length_append]; omega, by rw [he, List.append_assoc]⟩
    repeat (first
      | (refine g_ops ?_; first | refine sO ?_ | refine s_n (fun _ => ?_) | refine s_app (fun _ _ => ?_) | refine s_b0 (fun _ => ?_) | ((fail_if_success refine g_lit rfl rfl rfl ?_); first | apply g_partM rfl rfl rfl | apply g_partMB rfl rfl rfl | fail))
      | apply g_regB (id := 6) 16 | refine gS ?_ | exact s_m | intro _ | (refine gp_take ?_; first | refine pT ?_ | ((fail_if_success refine gp_lit rfl rfl rfl rfl ?_); first | apply gp_guard_dec rfl rfl rfl rfl | apply gp_guard rfl rfl rfl rfl | fail))
      | (refine gp_see ?_; first | refine p_f ?_ | refine pS ?_ | ((fail_if_success refine gp_lit rfl rfl rfl rfl ?_); first | apply gp_guard_dec rfl rfl rfl rfl | apply gp_guard rfl rfl rfl rfl | fail))
      | (refine gp_one ?_; first | refine pO ?_ | refine p_n (fun _ => ?_) | refine p_app (fun _ _ => ?_) | refine p_b0 (fun _ => ?_) | ((fail_if_success refine gp_lit rfl rfl rfl rfl ?_); first | apply gp_guard_dec rfl rfl rfl rfl | apply gp_guard rfl rfl rfl rfl | fail))
      | refine gp_two ?_ ?_ | refine gp_done hd hk ?_ | intro _ | refine p_ta hd hk (fun _ _ _ hd hk => ?_) | refine p_ts hd hk (fun _ hd hk => ?_))
    refine g_cond rfl (fun h1 => ?_) (fun h1 => ?_)
    · have hr : (Utf8.decode s k).1 = 34 ∨ (Utf8.decode s k).1 = 92 := by
        rw [Bool.cond_eq_ite] at h1; simp at h1; omega
      have e : [92, UInt8.ofNat (Utf8.decode s k).1] = qR s k := by unfold qR; rw [if_pos hr]
      repeat (first
        | (refine g_ops ?_; first | refine sO ?_ | refine s_n (fun _ => ?_) | refine s_app (fun _ _ => ?_) | refine s_b0 (fun _ => ?_) | ((fail_if_success refine g_lit rfl rfl rfl ?_); first | apply g_partM rfl rfl rfl | apply g_partMB rfl rfl rfl | fail))
        | refine gS ?_ | exact s_m | intro _)
      refine s_q (q := by exact qs_convInt rfl) ?_
      refine g_as 25 (v' := .int .u8 ((UInt8.ofNat (Utf8.decode s k).1).toNat : Int)) rfl (congrArg (Value.int .u8) (by rw [wrap8m, u8n _ (by omega)]; omega)) ?_
      generalize UInt8.ofNat (Utf8.decode s k).1 = y0 at e ⊢
      repeat (first
        | (refine g_ops ?_; first | refine sO ?_ | refine s_n (fun _ => ?_) | refine s_app (fun _ _ => ?_) | refine s_b0 (fun _ => ?_) | ((fail_if_success refine g_lit rfl rfl rfl ?_); first | apply g_partM rfl rfl rfl | apply g_partMB rfl rfl rfl | fail))
        | refine gS ?_ | exact s_m | intro _)
      rename_i q' c'
      rw [show cells8 bs ++ [Value.int .u8 92, Value.int .u8 (y0.toNat : Int)] = cells8 (bs ++ [92, y0]) from cells8_append bs [92, y0], show bs.length + 2 = (bs ++ [92, y0]).length by simp]
      obtain ⟨e1, e2⟩ := step _ e
      exact gA ⟨k + (Utf8.decode s k).2, f, bs ++ [92, y0], q', c'⟩ (by simp only; omega) ⟨by dsimp only; omega, hin, e1, e2⟩
    have hr : ¬ ((Utf8.decode s k).1 = 34 ∨ (Utf8.decode s k).1 = 92) := by
      rw [Bool.cond_eq_ite] at h1; simp at h1; omega
    repeat (first
      | (refine g_ops ?_; first | refine sO ?_ | refine s_n (fun _ => ?_) | refine s_app (fun _ _ => ?_) | refine s_b0 (fun _ => ?_) | ((fail_if_success refine g_lit rfl rfl rfl ?_); first | apply g_partM rfl rfl rfl | apply g_partMB rfl rfl rfl | fail))
      | refine gS ?_ | exact s_m | intro _)
    refine g_cond_dec rfl (fun h2 => ?_) (fun h2 => ?_)
    · have e : [92, 110] = qR s k := by unfold qR; rw [if_neg hr, if_pos (by omega)]
      repeat (first
        | (refine g_ops ?_; first | refine sO ?_ | refine s_n (fun _ => ?_) | refine s_app (fun _ _ => ?_) | refine s_b0 (fun _ => ?_) | ((fail_if_success refine g_lit rfl rfl rfl ?_); first | apply g_partM rfl rfl rfl | apply g_partMB rfl rfl rfl | fail))
        | refine gS ?_ | exact s_m | intro _)
      rename_i q' c'
      rw [show cells8 bs ++ [Value.int .u8 92, Value.int .u8 110] = cells8 (bs ++ [92, 110]) from cells8_append bs [92, 110], show bs.length + 2 = (bs ++ [92, 110]).length by simp]
      obtain ⟨e1, e2⟩ := step _ e
      exact gA ⟨k + (Utf8.decode s k).2, f, bs ++ [92, 110], q', c'⟩ (by simp only; omega) ⟨by dsimp only; omega, hin, e1, e2⟩
    repeat (first
      | (refine g_ops ?_; first | refine sO ?_ | refine s_n (fun _ => ?_) | refine s_app (fun _ _ => ?_) | refine s_b0 (fun _ => ?_) | ((fail_if_success refine g_lit rfl rfl rfl ?_); first | apply g_partM rfl rfl rfl | apply g_partMB rfl rfl rfl | fail) | refine s_p (hctl) ?_ | refine s_k (hwr) ?_)
      | apply g_regB (id := 6) 16 | apply g_regB (id := 10) 34 | refine gS ?_ | exact s_m | intro _ | (refine gp_take ?_; first | refine pT ?_ | ((fail_if_success refine gp_lit rfl rfl rfl rfl ?_); first | apply gp_guard_dec rfl rfl rfl rfl | apply gp_guard rfl rfl rfl rfl | fail) | refine p_p (hctl) ?_)
      | (refine gp_see ?_; first | refine p_f ?_ | refine pS ?_ | ((fail_if_success refine gp_lit rfl rfl rfl rfl ?_); first | apply gp_guard_dec rfl rfl rfl rfl | apply gp_guard rfl rfl rfl rfl | fail) | refine p_sp (hctl) ?_ | refine p_h (hwr) hd hk ?_)
      | (refine gp_one ?_; first | refine pO ?_ | refine p_n (fun _ => ?_) | refine p_app (fun _ _ => ?_) | refine p_b0 (fun _ => ?_) | ((fail_if_success refine gp_lit rfl rfl rfl rfl ?_); first | apply gp_guard_dec rfl rfl rfl rfl | apply gp_guard rfl rfl rfl rfl | fail) | refine p_k (hwr) ?_)
      | refine gp_two ?_ ?_ | refine gp_done hd hk ?_ | intro _ | refine p_ta hd hk (fun _ _ _ hd hk => ?_) | refine p_ts hd hk (fun _ hd hk => ?_))
    refine g_cond rfl (fun h3 => ?_) (fun h3 => ?_)
    · have h3' : ctlB (Utf8.decode s k).1 = true ∨ wrongB s k = true := by
        rw [ctlB_iff]
        cases hd : decide ((Utf8.decode s k).1 < 32 ∨ (Utf8.decode s k).1 = 127) with
        | true => exact .inl (of_decide_eq_true hd)
        | false => rw [hd] at h3; exact .inr h3
      have h8 := (at8 s k).toNat_lt
      have e : [92, 120, hexB ((at8 s k).toNat / 16), hexB ((at8 s k).toNat % 16)] = qR s k := by unfold qR; rw [if_neg hr, if_neg (by omega), if_pos h3']
      refine g_drawO (.take 0 (.take 1 (.take 2 (.take 3 (.take 4 (.take 5 (.take 6 (.take 7 (.take 8 (.take 9 (.take 10 (.one 11 (.one 12 (.take 13 .done)))))))))))))) (by (repeat (first | exact Sel.here | apply Sel.there)); first | done | fail) (fun m hd hk => ?_)
      repeat (first
        | (refine gp_take ?_; first | refine pT ?_ | ((fail_if_success refine gp_lit rfl rfl rfl rfl ?_); first | apply gp_guard_dec rfl rfl rfl rfl | apply gp_guard rfl rfl rfl rfl | fail))
        | (refine gp_see ?_; first | refine p_f ?_ | refine pS ?_ | ((fail_if_success refine gp_lit rfl rfl rfl rfl ?_); first | apply gp_guard_dec rfl rfl rfl rfl | apply gp_guard rfl rfl rfl rfl | fail))
        | (refine gp_one ?_; first | refine pO ?_ | refine p_n (fun _ => ?_) | refine p_app (fun _ _ => ?_) | refine p_b0 (fun _ => ?_) | ((fail_if_success refine gp_lit rfl rfl rfl rfl ?_); first | apply gp_guard_dec rfl rfl rfl rfl | apply gp_guard rfl rfl rfl rfl | fail))
        | refine gp_two ?_ ?_ | refine gp_done hd hk ?_ | intro _ | refine p_ta hd hk (fun _ _ _ hd hk => ?_) | refine p_ts hd hk (fun _ hd hk => ?_))
      refine p_q (q := by intro Δ; exact qs_indexStr inferInstance rfl rfl hlt) ?_
      repeat (first
        | (refine gp_take ?_; first | refine pT ?_ | ((fail_if_success refine gp_lit rfl rfl rfl rfl ?_); first | apply gp_guard_dec rfl rfl rfl rfl | apply gp_guard rfl rfl rfl rfl | fail))
        | (refine gp_see ?_; first | refine p_f ?_ | refine pS ?_ | ((fail_if_success refine gp_lit rfl rfl rfl rfl ?_); first | apply gp_guard_dec rfl rfl rfl rfl | apply gp_guard rfl rfl rfl rfl | fail))
        | (refine gp_one ?_; first | refine pO ?_ | refine p_n (fun _ => ?_) | refine p_app (fun _ _ => ?_) | refine p_b0 (fun _ => ?_) | ((fail_if_success refine gp_lit rfl rfl rfl rfl ?_); first | apply gp_guard_dec rfl rfl rfl rfl | apply gp_guard rfl rfl rfl rfl | fail))
        | refine gp_two ?_ ?_ | refine gp_done hd hk ?_ | intro _ | refine p_ta hd hk (fun _ _ _ hd hk => ?_) | refine p_ts hd hk (fun _ hd hk => ?_))
      refine p_q (q := by intro Δ; exact qs_shrK (i := .u8) (a := (at8 s k).toNat) (n := 4) rfl rfl (by decide)) ?_
      repeat (first
        | (refine gp_take ?_; first | refine pT ?_ | ((fail_if_success refine gp_lit rfl rfl rfl rfl ?_); first | apply gp_guard_dec rfl rfl rfl rfl | apply gp_guard rfl rfl rfl rfl | fail))
        | (refine gp_see ?_; first | refine p_f ?_ | refine pS ?_ | ((fail_if_success refine gp_lit rfl rfl rfl rfl ?_); first | apply gp_guard_dec rfl rfl rfl rfl | apply gp_guard rfl rfl rfl rfl | fail))
        | (refine gp_one ?_; first | refine pO ?_ | refine p_n (fun _ => ?_) | refine p_app (fun _ _ => ?_) | refine p_b0 (fun _ => ?_) | ((fail_if_success refine gp_lit rfl rfl rfl rfl ?_); first | apply gp_guard_dec rfl rfl rfl rfl | apply gp_guard rfl rfl rfl rfl | fail))
        | refine gp_two ?_ ?_ | refine gp_done hd hk ?_ | intro _ | refine p_ta hd hk (fun _ _ _ hd hk => ?_) | refine p_ts hd hk (fun _ hd hk => ?_))
      refine p_q (q := by intro Δ; exact qs_indexStr (s := hexS) (k := .u8) (i := (at8 s k).toNat / 16) inferInstance rfl (by rw [← shr4]; rfl) (by show _ < 16; omega)) ?_
      repeat (first
        | (refine gp_take ?_; first | refine pT ?_ | ((fail_if_success refine gp_lit rfl rfl rfl rfl ?_); first | apply gp_guard_dec rfl rfl rfl rfl | apply gp_guard rfl rfl rfl rfl | fail))
        | (refine gp_see ?_; first | refine p_f ?_ | refine pS ?_ | ((fail_if_success refine gp_lit rfl rfl rfl rfl ?_); first | apply gp_guard_dec rfl rfl rfl rfl | apply gp_guard rfl rfl rfl rfl | fail))
        | (refine gp_one ?_; first | refine pO ?_ | refine p_n (fun _ => ?_) | refine p_app (fun _ _ => ?_) | refine p_b0 (fun _ => ?_) | ((fail_if_success refine gp_lit rfl rfl rfl rfl ?_); first | apply gp_guard_dec rfl rfl rfl rfl | apply gp_guard rfl rfl rfl rfl | fail))
        | refine gp_two ?_ ?_ | refine gp_done hd hk ?_ | intro _ | refine p_ta hd hk (fun _ _ _ hd hk => ?_) | refine p_ts hd hk (fun _ hd hk => ?_))
      refine p_q (q := by intro Δ; exact qs_indexStr inferInstance rfl rfl hlt) ?_
      repeat (first
        | (refine gp_take ?_; first | refine pT ?_ | ((fail_if_success refine gp_lit rfl rfl rfl rfl ?_); first | apply gp_guard_dec rfl rfl rfl rfl | apply gp_guard rfl rfl rfl rfl | fail))
        | (refine gp_see ?_; first | refine p_f ?_ | refine pS ?_ | ((fail_if_success refine gp_lit rfl rfl rfl rfl ?_); first | apply gp_guard_dec rfl rfl rfl rfl | apply gp_guard rfl rfl rfl rfl | fail))
        | (refine gp_one ?_; first | refine pO ?_ | refine p_n (fun _ => ?_) | refine p_app (fun _ _ => ?_) | refine p_b0 (fun _ => ?_) | ((fail_if_success refine gp_lit rfl rfl rfl rfl ?_); first | apply gp_guard_dec rfl rfl rfl rfl | apply gp_guard rfl rfl rfl rfl | fail))
        | refine gp_two ?_ ?_ | refine gp_done hd hk ?_ | intro _ | refine p_ta hd hk (fun _ _ _ hd hk => ?_) | refine p_ts hd hk (fun _ hd hk => ?_))
      refine p_q (q := by intro Δ; exact qs_and8 (a := (at8 s k).toNat) (b := 15) rfl rfl h8 (by decide)) ?_
      repeat (first
        | (refine gp_take ?_; first | refine pT ?_ | ((fail_if_success refine gp_lit rfl rfl rfl rfl ?_); first | apply gp_guard_dec rfl rfl rfl rfl | apply gp_guard rfl rfl rfl rfl | fail))
        | (refine gp_see ?_; first | refine p_f ?_ | refine pS ?_ | ((fail_if_success refine gp_lit rfl rfl rfl rfl ?_); first | apply gp_guard_dec rfl rfl rfl rfl | apply gp_guard rfl rfl rfl rfl | fail))
        | (refine gp_one ?_; first | refine pO ?_ | refine p_n (fun _ => ?_) | refine p_app (fun _ _ => ?_) | refine p_b0 (fun _ => ?_) | ((fail_if_success refine gp_lit rfl rfl rfl rfl ?_); first | apply gp_guard_dec rfl rfl rfl rfl | apply gp_guard rfl rfl rfl rfl | fail))
        | refine gp_two ?_ ?_ | refine gp_done hd hk ?_ | intro _ | refine p_ta hd hk (fun _ _ _ hd hk => ?_) | refine p_ts hd hk (fun _ hd hk => ?_))
      refine p_q (q := by intro Δ; exact qs_indexStr (s := hexS) (k := .u8) (i := (at8 s k).toNat % 16) inferInstance rfl (by rw [← and15]; rfl) (by show _ < 16; omega)) ?_
      refine gp_as 48 (v' := .int .u8 ((hexB ((at8 s k).toNat / 16)).toNat : Int)) rfl (by rw [hex_at _ (by omega)]) ?_
      refine gp_as 53 (v' := .int .u8 ((hexB ((at8 s k).toNat % 16)).toNat : Int)) rfl (by rw [hex_at _ (by omega)]) ?_
      generalize hexB ((at8 s k).toNat / 16) = y0 at e ⊢
      generalize hexB ((at8 s k).toNat % 16) = y1 at e ⊢
      repeat (first
        | (refine gp_take ?_; first | refine pT ?_ | ((fail_if_success refine gp_lit rfl rfl rfl rfl ?_); first | apply gp_guard_dec rfl rfl rfl rfl | apply gp_guard rfl rfl rfl rfl | fail))
        | (refine gp_see ?_; first | refine p_f ?_ | refine pS ?_ | ((fail_if_success refine gp_lit rfl rfl rfl rfl ?_); first | apply gp_guard_dec rfl rfl rfl rfl | apply gp_guard rfl rfl rfl rfl | fail))
        | (refine gp_one ?_; first | refine pO ?_ | refine p_n (fun _ => ?_) | refine p_app (fun _ _ => ?_) | refine p_b0 (fun _ => ?_) | ((fail_if_success refine gp_lit rfl rfl rfl rfl ?_); first | apply gp_guard_dec rfl rfl rfl rfl | apply gp_guard rfl rfl rfl rfl | fail))
        | refine gp_two ?_ ?_ | refine gp_done hd hk ?_ | intro _ | refine p_ta hd hk (fun _ _ _ hd hk => ?_) | refine p_ts hd hk (fun _ hd hk => ?_))
      rename_i q' c'
      rw [show cells8 bs ++ [Value.int .u8 92, Value.int .u8 120, Value.int .u8 (y0.toNat : Int), Value.int .u8 (y1.toNat : Int)] = cells8 (bs ++ [92, 120, y0, y1]) from cells8_append bs [92, 120, y0, y1], show bs.length + 4 = (bs ++ [92, 120, y0, y1]).length by simp]
      repeat (first
        | (refine g_ops ?_; first | refine sO ?_ | refine s_n (fun _ => ?_) | refine s_app (fun _ _ => ?_) | refine s_b0 (fun _ => ?_) | ((fail_if_success refine g_lit rfl rfl rfl ?_); first | apply g_partM rfl rfl rfl | apply g_partMB rfl rfl rfl | fail))
        | refine gS ?_ | exact s_m | intro _)
      obtain ⟨e1, e2⟩ := step _ e
      exact gA ⟨k + (Utf8.decode s k).2, f, bs ++ [92, 120, y0, y1], q', c'⟩ (by simp only; omega) ⟨by dsimp only; omega, hin, e1, e2⟩
    · have h3' : ctlB (Utf8.decode s k).1 = false ∧ wrongB s k = false := by
        cases hd : decide ((Utf8.decode s k).1 < 32 ∨ (Utf8.decode s k).1 = 127) with
        | true => rw [hd] at h3; cases h3
        | false =>
          rw [hd] at h3
          refine ⟨?_, h3⟩
          cases hc : ctlB (Utf8.decode s k).1 with
          | false => rfl
          | true => exact absurd ((ctlB_iff _).1 hc) (of_decide_eq_false hd)
      have e : Lib.encodeRune ((Utf8.decode s k).1 : Int) = qR s k := by
        rw [decode_enc s k hlt h3'.2]
        unfold qR
        rw [if_neg hr, if_neg (by omega), if_neg (by rw [h3'.1, h3'.2]; simp)]
      repeat (first
        | (refine g_ops ?_; first | refine sO ?_ | refine s_n (fun _ => ?_) | refine s_app (fun _ _ => ?_) | refine s_b0 (fun _ => ?_) | ((fail_if_success refine g_lit rfl rfl rfl ?_); first | apply g_partM rfl rfl rfl | apply g_partMB rfl rfl rfl | fail) | refine s_c (appendRune q c bs _ hmost (by omega)) (fun _ _ => ?_))
        | refine gS ?_ | exact s_m | intro _)
      rename_i y _
      obtain ⟨q', c'⟩ := y
      dsimp only
      obtain ⟨e1, e2⟩ := step _ e
      generalize Lib.encodeRune ((Utf8.decode s k).1 : Int) = nw at e1 e2 ⊢
      exact gA ⟨k + (Utf8.decode s k).2, f, bs ++ nw, q', c'⟩ (by simp only; omega) ⟨by dsimp only; omega, hin, e1, e2⟩
  · rw [qF_end s f k hlt, List.append_nil] at he
    refine g_v (vs_nextEnd rfl (by (repeat (first | exact Sel.here | apply Sel.there)); first | done | fail) hlt) rfl rfl ?_
    repeat (first
      | (refine g_ops ?_; first | refine sO ?_ | refine s_n (fun _ => ?_) | refine s_app (fun _ _ => ?_) | refine s_b0 (fun _ => ?_) | ((fail_if_success refine g_lit rfl rfl rfl ?_); first | apply g_partM rfl rfl rfl | apply g_partMB rfl rfl rfl | fail))
      | refine gS ?_ | exact s_m | intro _)
    rename_i q' c'
    have e : bs ++ [34] = quoteL s := by unfold quoteL; rw [← he]; rfl
    rw [show cells8 bs ++ [Value.int .u8 34] = cells8 (bs ++ [34]) from cells8_append bs [34], show bs.length + 1 = (bs ++ [34]).length by simp, e]
    refine g_v (vs_bytesStr inferInstance inferInstance inferInstance rfl (by (repeat (first | exact Sel.here | apply Sel.there)); first | done | fail)) rfl rfl ?_
    repeat (first
      | (refine g_ops ?_; first | refine sO ?_ | refine s_n (fun _ => ?_) | refine s_app (fun _ _ => ?_) | refine s_b0 (fun _ => ?_) | ((fail_if_success refine g_lit rfl rfl rfl ?_); first | apply g_partM rfl rfl rfl | apply g_partMB rfl rfl rfl | fail))
      | refine gS ?_ | exact s_m | intro _)
    exact s_r ()
end Go.Proofs.YtaahibcibgljbaaGreatDoor
