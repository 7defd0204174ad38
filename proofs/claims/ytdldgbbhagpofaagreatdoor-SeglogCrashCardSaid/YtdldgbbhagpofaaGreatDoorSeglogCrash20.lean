/- Contracts and laws that the proof stands on. -/
import Derived.Test.YtdldgbbhagpofaaGreatDoorSeglogCrash19
set_option linter.unusedSimpArgs false
set_option linter.unusedVariables false
namespace Go.Sl
variable {P : Program} {Γ : Ctx} {L R : List Chunk} {N : Nat} {fr : Fr} {Q : Exit → Act → World → Prop} {ops : Array Oper} {rest : List Oper}
variable {d : Nat} {ty : TypeId} {pos : String} {aft : Array Edge} {gd : Option (Nat × Bool)} {x y z : Operand} {v u : Value} {t t2 tx : TypeId}
theorem qs_or32 {a b : Nat} (hx : ev fr x = some (.int .u32 a)) (hy : ev fr y = some (.int .u32 b)) (ha : a < 4294967296) (hb : b < 4294967296) : QStep P Γ fr ⟨some d, .binOp .or t x y t2, ty, pos, aft, gd⟩ (.int .u32 ((a ||| b : Nat) : Int)) :=
  qs_of (fun c w hf => by
    have e1 := bv_nat 32 a ha
    have e2 := bv_nat 32 b hb
    have e3 : (BitVec.ofInt IntKind.u32.bits (a : Int) ||| BitVec.ofInt IntKind.u32.bits (b : Int)).toNat = a ||| b := by
      show (BitVec.ofInt 32 (a : Int) ||| BitVec.ofInt 32 (b : Int)).toNat = a ||| b
      rw [BitVec.toNat_or, e1, e2]
    have e4 : a ||| b < 4294967296 := Nat.or_lt_two_pow (n := 32) ha hb
    have e5 : IntKind.u32.wrap ((a ||| b : Nat) : Int) = ((a ||| b : Nat) : Int) := by rw [u32_mod]; omega
    simp only [execOp, hf.ev hx, hf.ev hy, eqGuard_at_int, binOp_or, Op.intBits, e3, e5]
    simp)
theorem qs_shl32 {a : Nat} {k : IntKind} {n : Nat} (hx : ev fr x = some (.int .u32 a)) (hy : ev fr y = some (.int k (n : Int))) (hn : n ≤ 32) : QStep P Γ fr ⟨some d, .binOp .shl t x y t2, ty, pos, aft, gd⟩ (.int .u32 ((a * 2 ^ n % 4294967296 : Nat) : Int)) :=
  qs_of (fun c w hf => by
    have e0 : ¬ ((n : Int) < 0) := by omega
    have e1 : min (n : Int).toNat IntKind.u32.bits = n := by
      show min (n : Int).toNat 32 = n
      rw [Int.toNat_natCast]; omega
    have e2 : IntKind.u32.wrap ((a : Int) * 2 ^ n) = ((a * 2 ^ n % 4294967296 : Nat) : Int) := by
      have e3 : (a : Int) * 2 ^ n = ((a * 2 ^ n : Nat) : Int) := by simp
      rw [e3]
      generalize a * 2 ^ n = m
      show (m : Int) % 4294967296 = _
      omega
    simp only [execOp, hf.ev hx, hf.ev hy, eqGuard_at_int, binOp_shl, Op.shift, e0, if_false, e1, e2]
    simp)
end Go.Sl
namespace Go.Proofs.YtdldgbbhagpofaaGreatDoor
open Go.Sl facts
def getL (l : List UInt8) : Nat → Nat
  | 0 => 0
  | k + 1 => getL l k + (l.getD k 0).toNat * 2 ^ (8 * k)
theorem getL_lt (l : List UInt8) : ∀ k, getL l k < 2 ^ (8 * k)
  | 0 => by simp [getL]
  | k + 1 => by
    have h := getL_lt l k
    have h2 := (l.getD k 0).toNat_lt
    have e : 2 ^ (8 * (k + 1)) = 2 ^ (8 * k) * 256 := by rw [Nat.mul_add, Nat.pow_add]
    rw [getL, e]
    have := Nat.mul_le_mul_right (2 ^ (8 * k)) (show (l.getD k 0).toNat ≤ 255 by omega)
    omega
theorem getL_or (l : List UInt8) (k : Nat) (h : k ≤ 3) : getL l k ||| ((l.getD k 0).toNat * 2 ^ (8 * k) % 4294967296) = getL l (k + 1) := by
  have hlt := getL_lt l (k + 1)
  have hl4 : 2 ^ (8 * (k + 1)) ≤ 4294967296 := Nat.le_trans (Nat.pow_le_pow_right (by decide) (show 8 * (k + 1) ≤ 32 by omega)) (by decide)
  have hk := getL_lt l k
  rw [getL] at hlt ⊢
  rw [Nat.mod_eq_of_lt (by omega), Nat.or_comm, Nat.mul_comm, ← Nat.two_pow_add_eq_or_of_lt hk, Nat.add_comm]
theorem getL_le4 (v : Nat) (r : List UInt8) (h : v < 4294967296) : getL (le4k v 4 ++ r) 4 = v := by
  have e : ∀ i, i < 4 → ((le4k v 4 ++ r).getD i 0).toNat = v / 2 ^ (8 * i) % 256 := fun i hi => by
    rw [List.getD_eq_getElem?_getD, List.getElem?_append_left (by rw [le4k_len]; exact hi)]
    unfold le4k
    rw [List.getElem?_map, List.getElem?_range hi]
    simp
  simp only [getL]
  rw [e 0 (by decide), e 1 (by decide), e 2 (by decide), e 3 (by decide)]
  simp only [Nat.mul_zero, Nat.pow_zero, Nat.div_one, Nat.mul_one]
  have e1 : 2 ^ 8 = 256 := rfl
  have e2 : 2 ^ (8 * 2) = 65536 := rfl
  have e3 : 2 ^ (8 * 3) = 16777216 := rfl
  rw [e1, e2, e3]
  omega
theorem getL_append (a b : List UInt8) : ∀ k, k ≤ a.length → getL (a ++ b) k = getL a k
  | 0, _ => rfl
  | k + 1, h => by
    rw [getL, getL, getL_append a b k (by omega)]
    rw [List.getD_eq_getElem?_getD, List.getD_eq_getElem?_getD, List.getElem?_append_left (by omega)]
attribute [local irreducible] Code.wp wpList Exit.then Exit.inBlock bodyPost Back MidQ G GP QStep VStep CStep SStep Does Post Reads
attribute [local irreducible] crcN
theorem fget (C : Chunk) (p : Option Addr) (l : List UInt8) (cap : Nat) (hC : BtAt C p l) (hl : 4 ≤ l.length) : Does1 Tryz.prog 87 [.slice p l.length cap] [C] (.int .u32 (getL l 4)) := by
  refine fn_intro Tryz.func87 rfl Tryz.ntmps87 rfl (by simp only [argFr, Nat.zero_add, Nat.reduceAdd]; rfl) (fun Γ => ?_)
  repeat (first
    | (refine g_ops ?_; first | refine sO ?_ | refine s_n (fun _ => ?_) | refine s_appB (fun _ _ => ?_) | refine s_app (fun _ _ => ?_) | refine s_b0 (fun _ => ?_) | ((fail_if_success refine g_lit rfl rfl rfl ?_); first | apply g_partM rfl rfl rfl | apply g_partMB rfl rfl rfl | fail))
    | refine gS ?_ | exact s_m | intro _)
  refine g_as 2 (v' := .int .u32 (getL l 0)) rfl rfl ?_
  refine g_as 4 (v' := int ((0 : Nat) : Int)) rfl rfl ?_
  refine g_loop (X := Nat) (fun i => [(0, .slice p l.length cap), (2, .int .u32 (getL l i)), (4, int i)]) (fun _ => [C]) (fun i => i ≤ 4) (fun i => 4 - i) 0 (Nat.zero_le _) (by (repeat (first | exact FrSub.nil | refine FrSub.cons rfl ?_)); first | done | fail) (by (repeat (first | exact Take.nil | apply Take.cons | exact Sel.here | apply Sel.there)); first | done | fail) (fun i hi => ?_)
  repeat (first
    | (refine g_ops ?_; first | refine sO ?_ | refine s_n (fun _ => ?_) | refine s_appB (fun _ _ => ?_) | refine s_app (fun _ _ => ?_) | refine s_b0 (fun _ => ?_) | ((fail_if_success refine g_lit rfl rfl rfl ?_); first | apply g_partM rfl rfl rfl | apply g_partMB rfl rfl rfl | fail))
    | refine gS ?_ | exact s_m | intro _)
  refine g_cond_dec rfl (fun h => ?_) (fun h => ?_)
  · have hi' : i < l.length := by omega
    obtain ⟨b, o, rfl, hrow⟩ := hC i hi'
    have hor := getL_or l i (by omega)
    have hlt := getL_lt l i
    have hlt4 : getL l i < 4294967296 := Nat.lt_of_lt_of_le hlt (Nat.le_trans (Nat.pow_le_pow_right (by decide) (show 8 * i ≤ 32 by omega)) (by decide))
    have hb := (l.getD i 0).toNat_lt
    generalize hx : l.getD i 0 = x at *
    have hr : ∀ k, k = i → Reads C ⟨b, o + k, none⟩ (.int .u8 (x.toNat : Int)) := fun k hk => by rw [hk]; exact hrow
    repeat (first
      | (refine g_ops ?_; first | refine sO ?_ | refine s_n (fun _ => ?_) | refine s_appB (fun _ _ => ?_) | refine s_app (fun _ _ => ?_) | refine s_b0 (fun _ => ?_) | ((fail_if_success refine g_lit rfl rfl rfl ?_); first | apply g_partM rfl rfl rfl | apply g_partMB rfl rfl rfl | fail))
      | refine gS ?_ | exact s_m | intro _)
    refine s_q (q := by exact qs_convInt rfl) ?_
    refine g_as 12 (v' := .int .u32 ((x.toNat : Nat) : Int)) rfl (congrArg (Value.int .u32) (by rw [u32_mod]; omega)) ?_
    repeat (first
      | (refine g_ops ?_; first | refine sO ?_ | refine s_n (fun _ => ?_) | refine s_appB (fun _ _ => ?_) | refine s_app (fun _ _ => ?_) | refine s_b0 (fun _ => ?_) | ((fail_if_success refine g_lit rfl rfl rfl ?_); first | apply g_partM rfl rfl rfl | apply g_partMB rfl rfl rfl | fail))
      | refine gS ?_ | exact s_m | intro _)
    refine g_as 14 (v' := int ((8 * i : Nat) : Int)) rfl (congrArg (Value.int .i64) (by push_cast; rfl)) ?_
    refine s_q (q := by exact qs_shl32 (n := 8 * i) rfl rfl (by omega)) ?_
    refine s_q (q := by exact qs_or32 rfl rfl hlt4 (Nat.mod_lt _ (by decide))) ?_
    rw [hor]
    repeat (first
      | (refine g_ops ?_; first | refine sO ?_ | refine s_n (fun _ => ?_) | refine s_appB (fun _ _ => ?_) | refine s_app (fun _ _ => ?_) | refine s_b0 (fun _ => ?_) | ((fail_if_success refine g_lit rfl rfl rfl ?_); first | apply g_partM rfl rfl rfl | apply g_partMB rfl rfl rfl | fail))
      | refine gS ?_ | exact s_m | intro _)
    refine g_as 4 (v' := int ((i + 1 : Nat) : Int)) rfl (congrArg (Value.int .i64) (by push_cast; rfl)) ?_
    exact gA (i + 1) (by omega) (by omega)
  · obtain rfl : i = 4 := by omega
    repeat (first
      | (refine g_ops ?_; first | refine sO ?_ | refine s_n (fun _ => ?_) | refine s_appB (fun _ _ => ?_) | refine s_app (fun _ _ => ?_) | refine s_b0 (fun _ => ?_) | ((fail_if_success refine g_lit rfl rfl rfl ?_); first | apply g_partM rfl rfl rfl | apply g_partMB rfl rfl rfl | fail))
      | refine gS ?_ | exact s_m | intro _)
    exact gR () trivial
theorem BtAt.take {C : Chunk} {p : Option Addr} {l : List UInt8} (h : BtAt C p l) (n : Nat) : BtAt C p (l.take n) := fun j hj => by
  rw [List.length_take] at hj
  obtain ⟨b, o, e, r⟩ := h j (by omega)
  refine ⟨b, o, e, ?_⟩
  have : (l.take n).getD j 0 = l.getD j 0 := by simp [List.getD_eq_getElem?_getD, List.getElem?_take, show j < n by omega]
  rw [this]; exact r
theorem next_torn {H : HP} (p : Option Addr) (l : List UInt8) (cap : Nat) (hB : BtAt (Pile H) p l) (hl : l.length ≤ 1000000000) (h : l.length < 4 ∨ (4 ≤ l.length ∧ getL l 4 ≤ 131072 ∧ l.length < getL l 4 + 8)) :
    Does1 Tryz.prog 74 [.slice p l.length cap] [Pile H] (.tuple #[.slice none 0 0, int 0, int 2]) := by
  refine fn_intro Tryz.func74 rfl Tryz.ntmps74 rfl (by simp only [argFr, Nat.zero_add, Nat.reduceAdd]; rfl) (fun Γ => ?_)
  repeat (first
    | (refine g_ops ?_; first | refine sO ?_ | refine s_n (fun _ => ?_) | refine s_appB (fun _ _ => ?_) | refine s_app (fun _ _ => ?_) | refine s_b0 (fun _ => ?_) | ((fail_if_success refine g_lit rfl rfl rfl ?_); first | apply g_partM rfl rfl rfl | apply g_partMB rfl rfl rfl | fail))
    | refine gS ?_ | exact s_m | intro _)
  refine g_cond_dec rfl (fun h1 => ?_) (fun h1 => ?_)
  · repeat (first
      | (refine g_ops ?_; first | refine sO ?_ | refine s_n (fun _ => ?_) | refine s_appB (fun _ _ => ?_) | refine s_app (fun _ _ => ?_) | refine s_b0 (fun _ => ?_) | ((fail_if_success refine g_lit rfl rfl rfl ?_); first | apply g_partM rfl rfl rfl | apply g_partMB rfl rfl rfl | fail))
      | refine gS ?_ | exact s_m | intro _)
    exact gR () trivial
  · obtain ⟨h2, h3, h4⟩ := h.resolve_left (by omega)
    have hg := fget (Pile H) p l cap hB h2
    generalize getL l 4 = v at *
    repeat (first
      | (refine g_ops ?_; first | refine sO ?_ | refine s_n (fun _ => ?_) | refine s_appB (fun _ _ => ?_) | refine s_app (fun _ _ => ?_) | refine s_b0 (fun _ => ?_) | ((fail_if_success refine g_lit rfl rfl rfl ?_); first | apply g_partM rfl rfl rfl | apply g_partMB rfl rfl rfl | fail) | refine s_k (hg) ?_)
      | refine gS ?_ | exact s_m | intro _)
    refine g_cond_dec rfl (fun h => by omega) (fun _ => ?_)
    repeat (first
      | (refine g_ops ?_; first | refine sO ?_ | refine s_n (fun _ => ?_) | refine s_appB (fun _ _ => ?_) | refine s_app (fun _ _ => ?_) | refine s_b0 (fun _ => ?_) | ((fail_if_success refine g_lit rfl rfl rfl ?_); first | apply g_partM rfl rfl rfl | apply g_partMB rfl rfl rfl | fail))
      | refine gS ?_ | exact s_m | intro _)
    refine s_q (q := by exact qs_convInt rfl) ?_
    refine g_as 15 (v' := int ((v : Nat) : Int)) rfl (congrArg (Value.int .i64) (wrap_in ⟨by omega, by omega⟩)) ?_
    repeat (first
      | (refine g_ops ?_; first | refine sO ?_ | refine s_n (fun _ => ?_) | refine s_appB (fun _ _ => ?_) | refine s_app (fun _ _ => ?_) | refine s_b0 (fun _ => ?_) | ((fail_if_success refine g_lit rfl rfl rfl ?_); first | apply g_partM rfl rfl rfl | apply g_partMB rfl rfl rfl | fail))
      | refine gS ?_ | exact s_m | intro _)
    refine g_cond_dec rfl (fun h => ?_) (fun h => by omega)
    repeat (first
      | (refine g_ops ?_; first | refine sO ?_ | refine s_n (fun _ => ?_) | refine s_appB (fun _ _ => ?_) | refine s_app (fun _ _ => ?_) | refine s_b0 (fun _ => ?_) | ((fail_if_success refine g_lit rfl rfl rfl ?_); first | apply g_partM rfl rfl rfl | apply g_partMB rfl rfl rfl | fail))
      | refine gS ?_ | exact s_m | intro _)
    exact gR () trivial
theorem next_whole {H : HP} (p : Option Addr) (l : List UInt8) (cap : Nat) (hB : BtAt (Pile H) p l) (hlc : l.length ≤ cap) (hl : l.length ≤ 1000000000) (v : Nat) (hv : getL l 4 = v) (h3 : v ≤ 131072) (h4 : v + 8 ≤ l.length) (hs : crcN (l.take (4 + v)) = getL (l.drop (4 + v)) 4) :
    Does Tryz.prog 74 [.slice p l.length cap] [Pile H] (X := OA) (fun x => .tuple #[.slice x.1 v x.2, int ((v + 8 : Nat) : Int), int 1]) (fun x => [.own x.1 v x.2 1 (cells8 ((l.drop 4).take v)) 5, Pile H]) (fun _ => True) := by
  have hg := fget (Pile H) p l cap hB (by omega)
  rw [hv] at hg
  refine fn_intro Tryz.func74 rfl Tryz.ntmps74 rfl (by simp only [argFr, Nat.zero_add, Nat.reduceAdd]; rfl) (fun Γ => ?_)
  repeat (first
    | (refine g_ops ?_; first | refine sO ?_ | refine s_n (fun _ => ?_) | refine s_appB (fun _ _ => ?_) | refine s_app (fun _ _ => ?_) | refine s_b0 (fun _ => ?_) | ((fail_if_success refine g_lit rfl rfl rfl ?_); first | apply g_partM rfl rfl rfl | apply g_partMB rfl rfl rfl | fail))
    | refine gS ?_ | exact s_m | intro _)
  refine g_cond_dec rfl (fun h => by omega) (fun _ => ?_)
  repeat (first
    | (refine g_ops ?_; first | refine sO ?_ | refine s_n (fun _ => ?_) | refine s_appB (fun _ _ => ?_) | refine s_app (fun _ _ => ?_) | refine s_b0 (fun _ => ?_) | ((fail_if_success refine g_lit rfl rfl rfl ?_); first | apply g_partM rfl rfl rfl | apply g_partMB rfl rfl rfl | fail) | refine s_k (hg) ?_)
    | refine gS ?_ | exact s_m | intro _)
  refine g_cond_dec rfl (fun h => by omega) (fun _ => ?_)
  repeat (first
    | (refine g_ops ?_; first | refine sO ?_ | refine s_n (fun _ => ?_) | refine s_appB (fun _ _ => ?_) | refine s_app (fun _ _ => ?_) | refine s_b0 (fun _ => ?_) | ((fail_if_success refine g_lit rfl rfl rfl ?_); first | apply g_partM rfl rfl rfl | apply g_partMB rfl rfl rfl | fail))
    | refine gS ?_ | exact s_m | intro _)
  refine s_q (q := by exact qs_convInt rfl) ?_
  refine g_as 15 (v' := int ((v : Nat) : Int)) rfl (congrArg (Value.int .i64) (wrap_in ⟨by omega, by omega⟩)) ?_
  repeat (first
    | (refine g_ops ?_; first | refine sO ?_ | refine s_n (fun _ => ?_) | refine s_appB (fun _ _ => ?_) | refine s_app (fun _ _ => ?_) | refine s_b0 (fun _ => ?_) | ((fail_if_success refine g_lit rfl rfl rfl ?_); first | apply g_partM rfl rfl rfl | apply g_partMB rfl rfl rfl | fail))
    | refine gS ?_ | exact s_m | intro _)
  refine g_as 6 (v' := int ((4 + v : Nat) : Int)) rfl (congrArg (Value.int .i64) (by push_cast; rfl)) ?_
  repeat (first
    | (refine g_ops ?_; first | refine sO ?_ | refine s_n (fun _ => ?_) | refine s_appB (fun _ _ => ?_) | refine s_app (fun _ _ => ?_) | refine s_b0 (fun _ => ?_) | ((fail_if_success refine g_lit rfl rfl rfl ?_); first | apply g_partM rfl rfl rfl | apply g_partMB rfl rfl rfl | fail))
    | refine gS ?_ | exact s_m | intro _)
  refine g_cond_dec rfl (fun h => by omega) (fun _ => ?_)
  repeat (first | refine g_seq ?_ | refine g_then_normal ?_)
  have hl1 : (l.take (4 + v)).length = 4 + v := by rw [List.length_take]; omega
  have hl2 : (l.drop (4 + v)).length = l.length - (4 + v) := List.length_drop ..
  have hS := fsum (Pile H) p (l.take (4 + v)) cap (BtAt.take hB _) (by omega)
  have hG := fget (Pile H) _ (l.drop (4 + v)) (cap - (4 + v)) (hB.drop (n := 4 + v) hlc) (by omega)
  refine g_draw (id := 9) (C := []) (.take 0 (.take 1 (.take 2 (.take 4 (.take 5 (.take 6 (.one 3 (.one 7 (.take 8 (.take 9 .done)))))))))) (by kernel_rfl) .nil (fun k hd hk => ?_)
  repeat (first
    | (refine gp_take ?_; first | refine pT ?_ | ((fail_if_success refine gp_lit rfl rfl rfl rfl ?_); first | apply gp_guard_dec rfl rfl rfl rfl | apply gp_guard rfl rfl rfl rfl | fail))
    | (refine gp_see ?_; first | refine p_f ?_ | refine pS ?_ | ((fail_if_success refine gp_lit rfl rfl rfl rfl ?_); first | apply gp_guard_dec rfl rfl rfl rfl | apply gp_guard rfl rfl rfl rfl | fail))
    | (refine gp_one ?_; first | refine pO ?_ | refine p_n (fun _ => ?_) | refine p_appB (fun _ _ => ?_) | refine p_app (fun _ _ => ?_) | refine p_b0 (fun _ => ?_) | ((fail_if_success refine gp_lit rfl rfl rfl rfl ?_); first | apply gp_guard_dec rfl rfl rfl rfl | apply gp_guard rfl rfl rfl rfl | fail))
    | refine gp_two ?_ ?_ | refine gp_done hd hk ?_ | intro _ | refine p_ta hd hk (fun _ _ _ hd hk => ?_) | refine p_ts hd hk (fun _ hd hk => ?_))
  refine p_q (q := by intro Δ; exact qs_slice (l := 0) (h := 4 + v) inferInstance inferInstance rfl .none (.some rfl rfl) (Nat.zero_le _) (by omega)) ?_
  refine gp_as 26 (v' := .slice p (l.take (4 + v)).length cap) rfl (by rw [offTake, hl1]) ?_
  repeat (first
    | (refine gp_take ?_; first | refine pT ?_ | ((fail_if_success refine gp_lit rfl rfl rfl rfl ?_); first | apply gp_guard_dec rfl rfl rfl rfl | apply gp_guard rfl rfl rfl rfl | fail))
    | (refine gp_see ?_; first | refine p_f ?_ | refine pS ?_ | ((fail_if_success refine gp_lit rfl rfl rfl rfl ?_); first | apply gp_guard_dec rfl rfl rfl rfl | apply gp_guard rfl rfl rfl rfl | fail))
    | (refine gp_one ?_; first | refine pO ?_ | refine p_n (fun _ => ?_) | refine p_appB (fun _ _ => ?_) | refine p_app (fun _ _ => ?_) | refine p_b0 (fun _ => ?_) | ((fail_if_success refine gp_lit rfl rfl rfl rfl ?_); first | apply gp_guard_dec rfl rfl rfl rfl | apply gp_guard rfl rfl rfl rfl | fail))
    | refine gp_two ?_ ?_ | refine gp_done hd hk ?_ | intro _ | refine p_ta hd hk (fun _ _ _ hd hk => ?_) | refine p_ts hd hk (fun _ hd hk => ?_))
  refine p_q (q := by intro Δ; exact qs_slice (l := 4 + v) (h := l.length) inferInstance inferInstance rfl (.some rfl rfl) .none (by omega) hlc) ?_
  refine gp_as 30 (v' := .slice (if cap = 4 + v then p else p.map (·.add ((4 + v) * 1))) (l.drop (4 + v)).length (cap - (4 + v))) rfl (by rw [hl2]) ?_
  repeat (first
    | (refine gp_take ?_; first | refine pT ?_ | ((fail_if_success refine gp_lit rfl rfl rfl rfl ?_); first | apply gp_guard_dec rfl rfl rfl rfl | apply gp_guard rfl rfl rfl rfl | fail))
    | (refine gp_see ?_; first | refine p_f ?_ | refine pS ?_ | ((fail_if_success refine gp_lit rfl rfl rfl rfl ?_); first | apply gp_guard_dec rfl rfl rfl rfl | apply gp_guard rfl rfl rfl rfl | fail) | refine p_h (hS) hd hk ?_ | refine p_h (hG) hd hk ?_)
    | (refine gp_one ?_; first | refine pO ?_ | refine p_n (fun _ => ?_) | refine p_appB (fun _ _ => ?_) | refine p_app (fun _ _ => ?_) | refine p_b0 (fun _ => ?_) | ((fail_if_success refine gp_lit rfl rfl rfl rfl ?_); first | apply gp_guard_dec rfl rfl rfl rfl | apply gp_guard rfl rfl rfl rfl | fail) | refine p_k (hS) ?_ | refine p_k (hG) ?_)
    | refine gp_two ?_ ?_ | refine gp_done hd hk ?_ | intro _ | refine p_ta hd hk (fun _ _ _ hd hk => ?_) | refine p_ts hd hk (fun _ hd hk => ?_))
  refine g_as 23 (v' := .bool false) rfl (congrArg Value.bool (by rw [hs]; simp)) ?_
  have hl3 : ((l.drop 4).take v).length = v := by rw [List.length_take, List.length_drop]; omega
  have hcl := cloneB (C := Pile H) (p := if cap = 4 then p else p.map (·.add (4 * 1))) (m := ((l.drop 4).take v).length) (c := cap - 4) (btAt_slAt (BtAt.take (hB.drop (n := 4) hlc) v)) (by omega)
  rw [hl3] at hcl
  repeat (first
    | (refine g_ops ?_; first | refine sO ?_ | refine s_n (fun _ => ?_) | refine s_appB (fun _ _ => ?_) | refine s_app (fun _ _ => ?_) | refine s_b0 (fun _ => ?_) | ((fail_if_success refine g_lit rfl rfl rfl ?_); first | apply g_partM rfl rfl rfl | apply g_partMB rfl rfl rfl | fail))
    | refine gS ?_ | exact s_m | intro _)
  refine s_q (q := by exact qs_slice (l := 4) (h := 4 + v) inferInstance inferInstance rfl (.some rfl rfl) (.some rfl rfl) (by omega) (by omega)) ?_
  refine g_as 35 (v' := .slice (if cap = 4 then p else p.map (·.add (4 * 1))) v (cap - 4)) rfl (by rw [show 4 + v - 4 = v by omega]) ?_
  repeat (first
    | (refine g_ops ?_; first | refine sO ?_ | refine s_n (fun _ => ?_) | refine s_appB (fun _ _ => ?_) | refine s_app (fun _ _ => ?_) | refine s_b0 (fun _ => ?_) | ((fail_if_success refine g_lit rfl rfl rfl ?_); first | apply g_partM rfl rfl rfl | apply g_partMB rfl rfl rfl | fail) | refine s_c (hcl) (fun _ _ => ?_))
    | refine gS ?_ | exact s_m | intro _)
  rename_i y _
  refine g_as 3 (v' := int ((v + 8 : Nat) : Int)) rfl (congrArg (Value.int .i64) (by push_cast; omega)) ?_
  exact gR y trivial
def frB (ps : List (List UInt8)) : List UInt8 := (ps.map frameB).flatten
theorem frB_nil : frB [] = [] := rfl
theorem frB_cons (a : List UInt8) (ps : List (List UInt8)) : frB (a :: ps) = frameB a ++ frB ps := rfl
theorem frB_append (a b : List (List UInt8)) : frB (a ++ b) = frB a ++ frB b := by simp [frB]
def TornT (t : List UInt8) : Prop := ∃ q n, q.length ≤ 131072 ∧ n < (frameB q).length ∧ t = (frameB q).take n
theorem TornT.nil : TornT [] := ⟨[], 0, by simp, by rw [frameB_len]; simp, rfl⟩
theorem frame_at (a r : List UInt8) (ha : a.length ≤ 131072) : getL (frameB a ++ r) 4 = a.length ∧ crcN ((frameB a ++ r).take (4 + a.length)) = getL ((frameB a ++ r).drop (4 + a.length)) 4 ∧ ((frameB a ++ r).drop 4).take a.length = a ∧ a.length + 8 ≤ (frameB a ++ r).length := by
  have h4 : (le4k a.length 4).length = 4 := le4k_len _ _
  have e : frameB a ++ r = le4k a.length 4 ++ (a ++ (le4k (crcN (le4k a.length 4 ++ a)) 4 ++ r)) := by unfold frameB; simp
  have hl : (le4k a.length 4 ++ a).length = 4 + a.length := by rw [List.length_append, h4]
  have e2 : frameB a ++ r = (le4k a.length 4 ++ a) ++ (le4k (crcN (le4k a.length 4 ++ a)) 4 ++ r) := by rw [e]; simp
  refine ⟨?_, ?_, ?_, ?_⟩
  · rw [e]; exact getL_le4 _ _ (by omega)
  · rw [e2, ← hl, List.take_left, List.drop_left, getL_le4 _ _ (crcN_lt _)]
  · rw [e]
    have := List.drop_left (l₁ := le4k a.length 4) (l₂ := a ++ (le4k (crcN (le4k a.length 4 ++ a)) 4 ++ r))
    rw [h4] at this
    rw [this, List.take_left]
  · rw [List.length_append, frameB_len]; omega
theorem torn_at {t : List UInt8} (h : TornT t) : t.length < 4 ∨ (4 ≤ t.length ∧ getL t 4 ≤ 131072 ∧ t.length < getL t 4 + 8) := by
  obtain ⟨q, n, hq, hn, rfl⟩ := h
  have hl : ((frameB q).take n).length = n := by rw [List.length_take]; omega
  rw [frameB_len] at hn
  by_cases h4 : n < 4
  · exact .inl (by omega)
  · have hg := (frame_at q [] hq).1
    rw [List.append_nil] at hg
    have e : getL ((frameB q).take n) 4 = q.length := by
      rw [← hg]
      conv => rhs; rw [← List.take_append_drop n (frameB q)]
      rw [getL_append _ _ 4 (by omega)]
    exact .inr ⟨by omega, by omega, by omega⟩
theorem TornT.len {t : List UInt8} (h : TornT t) : t.length ≤ 131079 := by
  obtain ⟨q, n, hq, hn, rfl⟩ := h
  rw [frameB_len] at hn
  rw [List.length_take]; omega
structure ScX where
  q : Option Addr
  c : Nat
  ws : List BV
  H : HP
theorem frB_take (ps : List (List UInt8)) (i : Nat) (h : i < ps.length) : (frB (ps.take (i + 1))).length = (frB (ps.take i)).length + (ps[i].length + 8) := by
  rw [List.take_add_one, List.getElem?_eq_getElem h, frB_append, List.length_append]
  show _ + (frB [ps[i]]).length = _
  have : frB [ps[i]] = frameB ps[i] := by simp [frB]
  rw [this, frameB_len]
theorem frB_drop (ps : List (List UInt8)) (t : List UInt8) (i : Nat) : (frB ps ++ t).drop (frB (ps.take i)).length = frB (ps.drop i) ++ t := by
  conv => lhs; rw [← List.take_append_drop i ps]
  rw [frB_append, List.take_append_drop, List.append_assoc, List.drop_left]
attribute [local irreducible] frameB frB
theorem scan_ {H : HP} (p : Option Addr) (l : List UInt8) (cap : Nat) (hB : BtAt (Pile H) p l) (hlc : l.length ≤ cap) (hl : l.length ≤ 100000000) (ps : List (List UInt8)) (t : List UInt8) (he : l = frB ps ++ t) (ht : TornT t) (hps : ∀ a ∈ ps, a.length ≤ 131072) :
    Does Tryz.prog 54 [.slice p l.length cap] [Pile H] (X := ScX) (fun y => .tuple #[.slice y.q y.ws.length y.c, int (frB ps).length, int (if t = [] then 1 else 2)])
      (fun y => [.own y.q y.ws.length y.c 1 (y.ws.map BV.v) 28, Pile y.H]) (fun y => HP.sub H y.H ∧ BtsAt y.H y.ws ∧ bts y.ws = ps) := by
  have hpl : ps.length ≤ l.length := by
    rw [he, List.length_append]
    clear he hB hlc hl
    have : ps.length ≤ (frB ps).length := by
      induction ps with
      | nil => simp
      | cons a ps ih =>
        have := ih (fun b hb => hps b (List.mem_cons_of_mem _ hb))
        rw [frB_cons, List.length_append, frameB_len, List.length_cons]; omega
    omega
  refine fn_intro Tryz.func54 rfl Tryz.ntmps54 rfl (by simp only [argFr, Nat.zero_add, Nat.reduceAdd]; rfl) (fun Γ => ?_)
  repeat (first
    | (refine g_ops ?_; first | refine sO ?_ | refine s_n (fun _ => ?_) | refine s_appB (fun _ _ => ?_) | refine s_app (fun _ _ => ?_) | refine s_b0 (fun _ => ?_) | ((fail_if_success refine g_lit rfl rfl rfl ?_); first | apply g_partM rfl rfl rfl | apply g_partMB rfl rfl rfl | fail))
    | refine gS ?_ | exact s_m | intro _)
  refine g_own_nil none 1 28 ?_
  refine g_loop (X := ScX) (fun y => [(0, .slice p l.length cap), (2, .slice y.q y.ws.length y.c), (3, int (frB (ps.take y.ws.length)).length)]) (fun y => [.own y.q y.ws.length y.c 1 (y.ws.map BV.v) 28, Pile y.H]) (fun y => HP.sub H y.H ∧ BtsAt y.H y.ws ∧ y.ws.length ≤ ps.length ∧ bts y.ws = ps.take y.ws.length) (fun y => ps.length - y.ws.length) ⟨none, 0, [], H⟩ ⟨HP.sub.refl _, fun r hr => by simp at hr, Nat.zero_le _, rfl⟩ (by dsimp only [List.length_nil]; rw [List.take_zero, show (frB []).length = 0 from by unfold frB; rfl]; exact ((by (repeat (first | exact FrSub.nil | refine FrSub.cons rfl ?_)); first | done | fail))) (by (repeat (first | exact Take.nil | apply Take.cons | exact Sel.here | apply Sel.there)); first | done | fail) (fun y hy => ?_)
  obtain ⟨q, c, ws, H1⟩ := y
  obtain ⟨hsub, hW, hle, hbt⟩ := hy
  dsimp only at hsub hW hle hbt ⊢
  have hd := frB_drop ps t ws.length
  rw [← he] at hd
  have hll : (frB (ps.take ws.length)).length ≤ l.length := by
    have := congrArg List.length hd
    have h2 : l.length = (frB (ps.take ws.length)).length + (frB (ps.drop ws.length) ++ t).length := by
      rw [he]
      conv => lhs; rw [← List.take_append_drop ws.length ps]
      rw [frB_append, List.append_assoc, List.length_append]
    omega
  repeat (first
    | (refine g_ops ?_; first | refine sO ?_ | refine s_n (fun _ => ?_) | refine s_appB (fun _ _ => ?_) | refine s_app (fun _ _ => ?_) | refine s_b0 (fun _ => ?_) | ((fail_if_success refine g_lit rfl rfl rfl ?_); first | apply g_partM rfl rfl rfl | apply g_partMB rfl rfl rfl | fail))
    | refine gS ?_ | exact s_m | intro _)
  refine g_cond_dec rfl (fun h => ?_) (fun h => ?_)
  · repeat (first
      | (refine g_ops ?_; first | refine sO ?_ | refine s_n (fun _ => ?_) | refine s_appB (fun _ _ => ?_) | refine s_app (fun _ _ => ?_) | refine s_b0 (fun _ => ?_) | ((fail_if_success refine g_lit rfl rfl rfl ?_); first | apply g_partM rfl rfl rfl | apply g_partMB rfl rfl rfl | fail))
      | refine gS ?_ | exact s_m | intro _)
    refine s_q (q := by exact qs_slice (l := (frB (ps.take ws.length)).length) (h := l.length) inferInstance inferInstance rfl (.some rfl rfl) .none hll hlc) ?_
    have hB2 := (BtAt.grow hB hsub).drop (n := (frB (ps.take ws.length)).length) hlc
    have hl2 : (l.drop (frB (ps.take ws.length)).length).length = l.length - (frB (ps.take ws.length)).length := List.length_drop ..
    rw [← hl2]
    by_cases hi : ws.length < ps.length
    · have hfr := frame_at ps[ws.length] (frB (ps.drop (ws.length + 1)) ++ t) (hps _ (List.getElem_mem hi))
      have hst := frB_take ps ws.length hi
      rw [List.drop_eq_getElem_cons hi, frB_cons, List.append_assoc] at hd
      rw [← hd] at hfr
      obtain ⟨g1, g2, g3, g4⟩ := hfr
      have hnw := next_whole _ (l.drop (frB (ps.take ws.length)).length) (cap - (frB (ps.take ws.length)).length) hB2 (by omega) (by omega) _ g1 (hps _ (List.getElem_mem hi)) g4 g2
      rw [g3] at hnw
      have htk : ps.take (ws.length + 1) = ps.take ws.length ++ [ps[ws.length]] := by rw [List.take_add_one, List.getElem?_eq_getElem hi]; rfl
      generalize hpa : ps[ws.length] = a at *
      repeat (first
        | (refine g_ops ?_; first | refine sO ?_ | refine s_n (fun _ => ?_) | refine s_appB (fun _ _ => ?_) | refine s_app (fun _ _ => ?_) | refine s_b0 (fun _ => ?_) | ((fail_if_success refine g_lit rfl rfl rfl ?_); first | apply g_partM rfl rfl rfl | apply g_partMB rfl rfl rfl | fail) | refine s_c (hnw) (fun _ _ => ?_))
        | refine gS ?_ | exact s_m | intro _)
      rename_i yv _ nb q' c'
      obtain ⟨yp, yc⟩ := yv
      dsimp only
      refine g_pile (p := yp) (m := a.length) (c := yc) (n := 1) (xs := cells8 a) (e := 5) (by (repeat (first | exact Sel.here | apply Sel.there)); first | done | fail) (by (repeat (first | exact Sel.here | apply Sel.there)); first | done | fail) (fun H2 hs2 hA2 => ?_)
      have hlr : (ws ++ [BV.mk yp a yc]).length = ws.length + 1 := by simp
      have hmr : (ws ++ [BV.mk yp a yc]).map BV.v = ws.map BV.v ++ [.slice yp a.length yc] := by simp
      refine g_as 3 (v' := int ((frB (ps.take (ws.length + 1))).length : Int)) rfl (congrArg (Value.int .i64) (by rw [hst]; push_cast; rfl)) ?_
      rw [← hmr, ← hlr]
      exact g_again ⟨q', c', ws ++ [BV.mk yp a yc], H2⟩ (by simp only; omega) ⟨hsub.trans hs2, fun z hz => by
        rcases List.mem_append.1 hz with h | h
        · exact BtAt.grow (hW z h) hs2
        · rw [List.mem_singleton.1 h]; exact btAt_of rfl hA2, by simp only; omega, by
        dsimp only
        rw [hlr, htk, ← hbt, bts_snoc]⟩ (by (repeat (first | exact FrSub.nil | refine FrSub.cons rfl ?_)); first | done | fail) (by (repeat (first | exact Take.nil | apply Take.cons | exact Sel.here | apply Sel.there)); first | done | fail)
    · have hie : ws.length = ps.length := by omega
      rw [hie, List.drop_length] at hd
      have hd2 : l.drop (frB (ps.take ws.length)).length = t := by rw [hie]; rw [hd, frB_nil]; rfl
      rw [hd2] at hB2 ⊢
      rw [hie, List.take_length] at hbt
      have htne : t ≠ [] := fun h0 => by
        rw [h0] at hd2
        have := congrArg List.length hd2
        rw [List.length_drop, List.length_nil] at this
        omega
      have hnt := next_torn _ t (cap - (frB (ps.take ws.length)).length) hB2 (by have := ht.len; omega) (torn_at ht)
      repeat (first
        | (refine g_ops ?_; first | refine sO ?_ | refine s_n (fun _ => ?_) | refine s_appB (fun _ _ => ?_) | refine s_app (fun _ _ => ?_) | refine s_b0 (fun _ => ?_) | ((fail_if_success refine g_lit rfl rfl rfl ?_); first | apply g_partM rfl rfl rfl | apply g_partMB rfl rfl rfl | fail) | refine s_k (hnt) ?_)
        | refine gS ?_ | exact s_m | intro _)
      refine g_ret (⟨q, c, ws, H1⟩ : ScX) rfl (by (repeat (first | exact RVs.nil | apply RVs.tmp rfl | apply RVs.cellA rfl (by (repeat (first | exact Sel.here | apply Sel.there)); first | done | fail) (by (repeat (first | exact Cut.zero | apply Cut.take | apply Cut.skip)); first | done | fail) | apply RVs.cell1 rfl (by (repeat (first | exact Sel.here | apply Sel.there)); first | done | fail) rfl)); first | done | fail) (by (repeat (first | exact Take.nil | apply Take.cons | exact Sel.here | apply Sel.there)); first | done | fail) ?_ ⟨hsub, hW, hbt⟩
      rw [if_neg htne, hie, List.take_length]; rfl
  · have hie : ws.length = ps.length := by
      refine Nat.le_antisymm hle (Nat.le_of_not_lt fun hi => ?_)
      have hst := frB_take ps ws.length hi
      have h2 : (frB (ps.take (ws.length + 1))).length ≤ l.length := by
        rw [he]
        conv => rhs; rw [← List.take_append_drop (ws.length + 1) ps]
        rw [frB_append, List.append_assoc, List.length_append]; omega
      omega
    have ht0 : t = [] := by
      rw [hie, List.take_length] at hll h
      rw [he, List.length_append] at h
      exact List.eq_nil_of_length_eq_zero (by omega)
    rw [hie, List.take_length] at hbt
    repeat (first
      | (refine g_ops ?_; first | refine sO ?_ | refine s_n (fun _ => ?_) | refine s_appB (fun _ _ => ?_) | refine s_app (fun _ _ => ?_) | refine s_b0 (fun _ => ?_) | ((fail_if_success refine g_lit rfl rfl rfl ?_); first | apply g_partM rfl rfl rfl | apply g_partMB rfl rfl rfl | fail))
      | refine gS ?_ | exact s_m | intro _)
    refine g_ret (⟨q, c, ws, H1⟩ : ScX) rfl (by (repeat (first | exact RVs.nil | apply RVs.tmp rfl | apply RVs.cellA rfl (by (repeat (first | exact Sel.here | apply Sel.there)); first | done | fail) (by (repeat (first | exact Cut.zero | apply Cut.take | apply Cut.skip)); first | done | fail) | apply RVs.cell1 rfl (by (repeat (first | exact Sel.here | apply Sel.there)); first | done | fail) rfl)); first | done | fail) (by (repeat (first | exact Take.nil | apply Take.cons | exact Sel.here | apply Sel.there)); first | done | fail) ?_ ⟨hsub, hW, hbt⟩
    rw [if_pos ht0, hie, List.take_length]; rfl
end Go.Proofs.YtdldgbbhagpofaaGreatDoor

namespace Go.Proofs.YtdldgbbhagpofaaGreatDoor
open Go.Sl facts
abbrev SgC := Option (Nat × List (List UInt8))
def sgL : SgC → List (List UInt8)
  | none => []
  | some (v, rs) => vb v :: rs
structure LdX where
  b : Bool
  x : LG
  H : HP
structure LdOk (x : LG) (v : Nat) (rs : List (List UInt8)) (t : List UInt8) (y : LdX) : Prop where
  b : y.b = true
  recs : bts y.x.rs = bts x.rs ++ rs
  fst : y.x.fs = x.fs ++ [(v : Int)]
  size : y.x.size = ((rs.map List.length).sum : Nat)
  sl : y.x.sl = decide (t ≠ [])
def LdRes (x : LG) (t : List UInt8) (y : LdX) : SgC → Prop
  | none => y.b = false ∧ y.x = x
  | some (v, rs) => if v = x.rs.length then LdOk x v rs t y else y.b = false ∧ y.x = x
structure LfX where
  i : Nat
  rq : Option Addr
  rc : Nat
  ws : List BV
def sumB (rs : List (List UInt8)) : Nat := (rs.map List.length).sum
theorem sumB_take (rs : List (List UInt8)) (i : Nat) (h : i < rs.length) : sumB (rs.take (i + 1)) = sumB (rs.take i) + rs[i].length := by
  unfold sumB
  rw [List.take_add_one, List.getElem?_eq_getElem h, List.map_append, List.sum_append]
  simp
theorem sumB_take_le (rs : List (List UInt8)) (i : Nat) : sumB (rs.take i) ≤ sumB rs := by
  unfold sumB
  conv => rhs; rw [← List.take_append_drop i rs]
  simp only [List.map_append, List.sum_append]
  omega
theorem frB_len (ps : List (List UInt8)) : (frB ps).length = sumB ps + 8 * ps.length := by
  induction ps with
  | nil => rfl
  | cons a ps ih =>
    have e : sumB (a :: ps) = a.length + sumB ps := by unfold sumB; simp
    rw [frB_cons, List.length_append, frameB_len, ih, e, List.length_cons]; omega
attribute [local irreducible] Code.wp wpList Exit.then Exit.inBlock bodyPost Back MidQ G GP QStep VStep CStep SStep Does Post Reads
attribute [local irreducible] frameB frB
theorem load_ {H : HP} (lg d : Nat) (x : LG) (off : Bool) (p : Option Addr) (l : List UInt8) (cap : Nat) (hB : BtAt (Pile H) p l) (hlc : l.length ≤ cap) (hl : l.length ≤ 100000000) (sg : SgC) (t : List UInt8) (he : l = frB (sgL sg) ++ t) (ht : TornT t) (hps : ∀ a ∈ sgL sg, a.length ≤ 131072) (hpn : (sgL sg).length ≤ 1000000)
    (hX : BtsAt H x.rs) (hn : x.rs.length ≤ 1000000) (hfn : x.fs.length ≤ 1000000) (hv : ∀ v rs, sg = some (v, rs) → v ≤ 1000000) :
    Does Tryz.prog 37 [ptr lg, .slice p l.length cap] (x.L lg d off ++ [Pile H]) (X := LdX) (fun y => .tuple #[.bool y.b, .bool true]) (fun y => y.x.L lg d off ++ [Pile y.H]) (fun y => HP.sub H y.H ∧ BtsAt y.H y.x.rs ∧ LdRes x t y sg) := by
  have hsc := scan_ (H := H) p l cap hB hlc hl (sgL sg) t he ht hps
  obtain ⟨rq, rc, xs, fq, fc, fs, size, sl⟩ := x
  dsimp only [LG.L, LG.row, LG.own] at hn hfn hX ⊢
  refine fn_intro Tryz.func37 rfl Tryz.ntmps37 rfl (by simp only [argFr, Nat.zero_add, Nat.reduceAdd]; rfl) (fun Γ => ?_)
  dsimp only [List.cons_append, List.nil_append]
  repeat (first
    | (refine g_ops ?_; first | refine sO ?_ | refine s_n (fun _ => ?_) | refine s_appB (fun _ _ => ?_) | refine s_app (fun _ _ => ?_) | refine s_b0 (fun _ => ?_) | ((fail_if_success refine g_lit rfl rfl rfl ?_); first | apply g_partM rfl rfl rfl | apply g_partMB rfl rfl rfl | fail) | refine s_c (hsc) (fun _ _ => ?_))
    | apply g_regB (id := 7) 40 | refine gS ?_ | exact s_m | intro _ | (refine gp_take ?_; first | refine pT ?_ | ((fail_if_success refine gp_lit rfl rfl rfl rfl ?_); first | apply gp_guard_dec rfl rfl rfl rfl | apply gp_guard rfl rfl rfl rfl | fail))
    | (refine gp_see ?_; first | refine p_f ?_ | refine pS ?_ | ((fail_if_success refine gp_lit rfl rfl rfl rfl ?_); first | apply gp_guard_dec rfl rfl rfl rfl | apply gp_guard rfl rfl rfl rfl | fail))
    | (refine gp_one ?_; first | refine pO ?_ | refine p_n (fun _ => ?_) | refine p_appB (fun _ _ => ?_) | refine p_app (fun _ _ => ?_) | refine p_b0 (fun _ => ?_) | ((fail_if_success refine gp_lit rfl rfl rfl rfl ?_); first | apply gp_guard_dec rfl rfl rfl rfl | apply gp_guard rfl rfl rfl rfl | fail) | refine p_c (hsc) (fun _ _ => ?_))
    | refine gp_two ?_ ?_ | refine gp_done hd hk ?_ | intro _ | refine p_ta hd hk (fun _ _ _ hd hk => ?_) | refine p_ts hd hk (fun _ hd hk => ?_))
  rename_i y hy
  obtain ⟨q, c, ws, H1⟩ := y
  obtain ⟨h1, h2, h3⟩ := hy
  dsimp only [List.cons_append, List.nil_append] at h1 h2 h3 ⊢
  refine g_as 20 (v' := .bool false) rfl (congrArg Value.bool (by split <;> decide)) ?_
  repeat (first
    | (refine g_ops ?_; first | refine sO ?_ | refine s_n (fun _ => ?_) | refine s_appB (fun _ _ => ?_) | refine s_app (fun _ _ => ?_) | refine s_b0 (fun _ => ?_) | ((fail_if_success refine g_lit rfl rfl rfl ?_); first | apply g_partM rfl rfl rfl | apply g_partMB rfl rfl rfl | fail))
    | apply g_regB (id := 7) 40 | refine gS ?_ | exact s_m | intro _ | (refine gp_take ?_; first | refine pT ?_ | ((fail_if_success refine gp_lit rfl rfl rfl rfl ?_); first | apply gp_guard_dec rfl rfl rfl rfl | apply gp_guard rfl rfl rfl rfl | fail))
    | (refine gp_see ?_; first | refine p_f ?_ | refine pS ?_ | ((fail_if_success refine gp_lit rfl rfl rfl rfl ?_); first | apply gp_guard_dec rfl rfl rfl rfl | apply gp_guard rfl rfl rfl rfl | fail))
    | (refine gp_one ?_; first | refine pO ?_ | refine p_n (fun _ => ?_) | refine p_appB (fun _ _ => ?_) | refine p_app (fun _ _ => ?_) | refine p_b0 (fun _ => ?_) | ((fail_if_success refine gp_lit rfl rfl rfl rfl ?_); first | apply gp_guard_dec rfl rfl rfl rfl | apply gp_guard rfl rfl rfl rfl | fail))
    | refine gp_two ?_ ?_ | refine gp_done hd hk ?_ | intro _ | refine p_ta hd hk (fun _ _ _ hd hk => ?_) | refine p_ts hd hk (fun _ hd hk => ?_))
  cases sg with
  | none =>
    have hw0 : ws = [] := by have := congrArg List.length h3; simpa [sgL] using this
    subst hw0
    refine g_as 23 (v' := .bool true) rfl rfl ?_
    repeat (first
      | (refine g_ops ?_; first | refine sO ?_ | refine s_n (fun _ => ?_) | refine s_appB (fun _ _ => ?_) | refine s_app (fun _ _ => ?_) | refine s_b0 (fun _ => ?_) | ((fail_if_success refine g_lit rfl rfl rfl ?_); first | apply g_partM rfl rfl rfl | apply g_partMB rfl rfl rfl | fail))
      | refine gS ?_ | exact s_m | intro _)
    exact gR (⟨false, ⟨rq, rc, xs, fq, fc, fs, size, sl⟩, H1⟩ : LdX) ⟨h1, fun r hr => BtAt.grow (hX r hr) h1, rfl, rfl⟩
  | some vr =>
    obtain ⟨v, rs⟩ := vr
    have hv1 := hv v rs rfl
    have hwl : ws.length = rs.length + 1 := by have := congrArg List.length h3; simpa [sgL] using this
    have hrn : rs.length ≤ 1000000 := by simp [sgL] at hpn; omega
    refine g_as 23 (v' := .bool false) rfl (congrArg Value.bool (by rw [hwl]; simp; omega)) ?_
    obtain ⟨w, ws', rfl⟩ : ∃ w ws', ws = w :: ws' := by
      cases ws with
      | nil => simp at hwl
      | cons w ws' => exact ⟨w, ws', rfl⟩
    have hwv : w.l = vb v := by have := List.head_eq_of_cons_eq h3; exact this
    have hwr : bts ws' = rs := by have := List.tail_eq_of_cons_eq h3; exact this
    have hwl' : ws'.length = rs.length := by simpa using hwl
    refine g_own (p := q) (len := (w :: ws').length) (cap := c) (n := 1) (xs := (w :: ws').map BV.v) (e := 28) (by (repeat (first | exact Sel.here | apply Sel.there)); first | done | fail) (fun _ hlc2 hq => ?_)
    obtain ⟨ob, rfl⟩ := hq (by simp)
    have hrow := reads_own (b := ob) (len := (w :: ws').length) (cap := c) (n := 1) (e := 28) (xs := (w :: ws').map BV.v) (j := 0) (v := w.v) rfl
    have hr : ∀ k, k = 0 → Reads (.own (some ⟨ob, 0, none⟩) (w :: ws').length c 1 ((w :: ws').map BV.v) 28) ⟨ob, k, none⟩ w.v := fun k hk => by rw [hk]; exact hrow
    have hwb := h2 w (by simp)
    have huv := unvarint (Pile H1) w.p w.c w.l (by rw [hwv]; have := vb_len8 v (by omega); omega) hwb
    have huvv : uv w.l = (v, (vb v).length) := by
      have := uv_vb v [] (by omega)
      rw [List.append_nil] at this
      rw [hwv]; exact this
    have hvp := vb_pos v
    unfold uvV at huv
    rw [huvv] at huv
    dsimp only at huv
    repeat (first
      | (refine g_ops ?_; first | refine sO ?_ | refine s_n (fun _ => ?_) | refine s_appB (fun _ _ => ?_) | refine s_app (fun _ _ => ?_) | refine s_b0 (fun _ => ?_) | ((fail_if_success refine g_lit rfl rfl rfl ?_); first | apply g_partM rfl rfl rfl | apply g_partMB rfl rfl rfl | fail))
      | refine gS ?_ | exact s_m | intro _)
    refine g_as 26 (v' := ptr ob) rfl rfl ?_
    repeat (first
      | (refine g_ops ?_; first | refine sO ?_ | refine s_n (fun _ => ?_) | refine s_appB (fun _ _ => ?_) | refine s_app (fun _ _ => ?_) | refine s_b0 (fun _ => ?_) | ((fail_if_success refine g_lit rfl rfl rfl ?_); first | apply g_partM rfl rfl rfl | apply g_partMB rfl rfl rfl | fail) | refine s_k (huv) ?_)
      | apply g_regB (id := 7) 40 | refine gS ?_ | exact s_m | intro _ | (refine gp_take ?_; first | refine pT ?_ | ((fail_if_success refine gp_lit rfl rfl rfl rfl ?_); first | apply gp_guard_dec rfl rfl rfl rfl | apply gp_guard rfl rfl rfl rfl | fail))
      | (refine gp_see ?_; first | refine p_f ?_ | refine pS ?_ | ((fail_if_success refine gp_lit rfl rfl rfl rfl ?_); first | apply gp_guard_dec rfl rfl rfl rfl | apply gp_guard rfl rfl rfl rfl | fail) | refine p_h (huv) hd hk ?_)
      | (refine gp_one ?_; first | refine pO ?_ | refine p_n (fun _ => ?_) | refine p_appB (fun _ _ => ?_) | refine p_app (fun _ _ => ?_) | refine p_b0 (fun _ => ?_) | ((fail_if_success refine gp_lit rfl rfl rfl rfl ?_); first | apply gp_guard_dec rfl rfl rfl rfl | apply gp_guard rfl rfl rfl rfl | fail) | refine p_k (huv) ?_)
      | refine gp_two ?_ ?_ | refine gp_done hd hk ?_ | intro _ | refine p_ta hd hk (fun _ _ _ hd hk => ?_) | refine p_ts hd hk (fun _ hd hk => ?_))
    refine g_as 40 (v' := .bool false) rfl (congrArg Value.bool (by rw [decide_eq_false (show ¬ (((vb v).length : Int) = 0) by omega), hwv]; simp)) ?_
    repeat (first
      | (refine g_ops ?_; first | refine sO ?_ | refine s_n (fun _ => ?_) | refine s_appB (fun _ _ => ?_) | refine s_app (fun _ _ => ?_) | refine s_b0 (fun _ => ?_) | ((fail_if_success refine g_lit rfl rfl rfl ?_); first | apply g_partM rfl rfl rfl | apply g_partMB rfl rfl rfl | fail))
      | refine gS ?_ | exact s_m | intro _)
    refine s_q (q := by exact qs_convInt rfl) ?_
    refine g_as 47 (v' := .int .u64 (xs.length : Int)) rfl (congrArg (Value.int .u64) (by rw [u64_mod]; omega)) ?_
    repeat (first
      | (refine g_ops ?_; first | refine sO ?_ | refine s_n (fun _ => ?_) | refine s_appB (fun _ _ => ?_) | refine s_app (fun _ _ => ?_) | refine s_b0 (fun _ => ?_) | ((fail_if_success refine g_lit rfl rfl rfl ?_); first | apply g_partM rfl rfl rfl | apply g_partMB rfl rfl rfl | fail))
      | refine gS ?_ | exact s_m | intro _)
    refine g_cond_dec rfl (fun hne => ?_) (fun hne => ?_)
    · repeat (first
        | (refine g_ops ?_; first | refine sO ?_ | refine s_n (fun _ => ?_) | refine s_appB (fun _ _ => ?_) | refine s_app (fun _ _ => ?_) | refine s_b0 (fun _ => ?_) | ((fail_if_success refine g_lit rfl rfl rfl ?_); first | apply g_partM rfl rfl rfl | apply g_partMB rfl rfl rfl | fail))
        | refine gS ?_ | exact s_m | intro _)
      refine gR (⟨false, ⟨rq, rc, xs, fq, fc, fs, size, sl⟩, H1⟩ : LdX) ⟨h1, fun r hr => BtAt.grow (hX r hr) h1, ?_⟩
      show if v = xs.length then _ else _
      rw [if_neg (by omega)]
      exact ⟨rfl, rfl⟩
    · have hve : v = xs.length := by omega
      repeat (first | refine g_skip ?_ | refine g_seq ?_ | refine g_then_normal ?_)
      refine g_drawO (id := 11) (p := fq) (len := fs.length) (cap := fc) (.take 0 (.take 1 (.take 2 (.take 3 (.take 4 (.take 5 (.see 6 [13,16,17,18,19,20,21,22,23,24] (.take 7 (.take 8 (.take 9 (.see 10 [11,12,13,16,17,18,19,20,21,22,23,24] (.take 11 (.take 14 (.take 15 (.one 12 (.one 13 (.take 16 (.take 17 (.thaw 18 (.take 19 (.take 20 (.one 21 (.take 22 (.take 23 (.one 24 .done))))))))))))))))))))))))) (by (repeat (first | exact Sel.here | apply Sel.there)); first | done | fail) (fun m hd hk => ?_)
      repeat (first
        | (refine gp_take ?_; first | refine pT ?_ | ((fail_if_success refine gp_lit rfl rfl rfl rfl ?_); first | apply gp_guard_dec rfl rfl rfl rfl | apply gp_guard rfl rfl rfl rfl | fail))
        | (refine gp_see ?_; first | refine p_f ?_ | refine pS ?_ | ((fail_if_success refine gp_lit rfl rfl rfl rfl ?_); first | apply gp_guard_dec rfl rfl rfl rfl | apply gp_guard rfl rfl rfl rfl | fail))
        | (refine gp_one ?_; first | refine pO ?_ | refine p_n (fun _ => ?_) | refine p_appB (fun _ _ => ?_) | refine p_app (fun _ _ => ?_) | refine p_b0 (fun _ => ?_) | ((fail_if_success refine gp_lit rfl rfl rfl rfl ?_); first | apply gp_guard_dec rfl rfl rfl rfl | apply gp_guard rfl rfl rfl rfl | fail))
        | refine gp_two ?_ ?_ | refine gp_done hd hk ?_ | intro _ | refine p_ta hd hk (fun _ _ _ hd hk => ?_) | refine p_ts hd hk (fun _ hd hk => ?_))
      dsimp only [List.cons_append, List.nil_append]
      have hslv : (if t = [] then (1 : Int) else 2) = 2 ↔ t ≠ [] := by split <;> rename_i h0 <;> simp [h0]
      obtain ⟨P1, hP1⟩ : ∃ P1, (if c = 1 then (some ⟨ob, 0, none⟩ : Option Addr) else (some ⟨ob, 0, none⟩ : Option Addr).map (·.add (1 * 1))) = P1 := ⟨_, rfl⟩
      have hP2 : 0 < rs.length → P1 = some ⟨ob, 1, none⟩ := fun h0 => by
        rw [← hP1, if_neg (by simp at hlc2; omega)]; rfl
      repeat (first
        | (refine g_ops ?_; first | refine sO ?_ | refine s_n (fun _ => ?_) | refine s_appB (fun _ _ => ?_) | refine s_app (fun _ _ => ?_) | refine s_b0 (fun _ => ?_) | ((fail_if_success refine g_lit rfl rfl rfl ?_); first | apply g_partM rfl rfl rfl | apply g_partMB rfl rfl rfl | fail))
        | refine gS ?_ | exact s_m | intro _)
      refine s_q (q := by exact qs_slice (l := 1) (h := (w :: ws').length) inferInstance inferInstance rfl (.some rfl rfl) .none (by simp) hlc2) ?_
      refine g_as 72 (v' := .slice P1 rs.length (c - 1)) rfl (by rw [hP1, ← hwl']; simp) ?_
      repeat (first
        | (refine g_ops ?_; first | refine sO ?_ | refine s_n (fun _ => ?_) | refine s_appB (fun _ _ => ?_) | refine s_app (fun _ _ => ?_) | refine s_b0 (fun _ => ?_) | ((fail_if_success refine g_lit rfl rfl rfl ?_); first | apply g_partM rfl rfl rfl | apply g_partMB rfl rfl rfl | fail))
        | refine gS ?_ | exact s_m | intro _)
      rename_i fq' fc' nb
      have hfl : (fs ++ [(v : Int)]).length = fs.length + 1 := by simp
      have hfm : (fs ++ [(v : Int)]).map int = fs.map int ++ [int xs.length] := by rw [hve]; simp
      rw [← hfl, ← hfm]
      generalize hsl2 : decide ((if t = [] then (1 : Int) else 2) = 2) = sl2
      have hsl3 : sl2 = decide (t ≠ []) := by rw [← hsl2]; exact decide_eq_decide.2 hslv
      refine g_loop (X := LfX) (fun y => [(0, ptr lg), (72, .slice P1 rs.length (c - 1)), (73, int rs.length), (74, int y.i)])
        (fun y => [lrow lg d (.slice y.rq y.ws.length y.rc) (.slice fq' (fs ++ [(v : Int)]).length fc') ((sumB (rs.take y.i) : Nat) : Int) sl2 off, .own fq' (fs ++ [(v : Int)]).length fc' 1 ((fs ++ [(v : Int)]).map int) 3, Pile H1, .own (some ⟨ob, 0, none⟩) (w :: ws').length c 1 ((w :: ws').map BV.v) 28, .own y.rq y.ws.length y.rc 1 (y.ws.map BV.v) 28])
        (fun y => y.i ≤ rs.length ∧ y.ws = xs ++ ws'.take y.i) (fun y => rs.length - y.i) ⟨0, rq, rc, xs⟩ ⟨Nat.zero_le _, by simp⟩ (by (repeat (first | exact FrSub.nil | refine FrSub.cons rfl ?_)); first | done | fail) (by (repeat (first | exact Take.nil | apply Take.cons | exact Sel.here | apply Sel.there)); first | done | fail) (fun y hy => ?_)
      obtain ⟨i, rq', rc', zs⟩ := y
      obtain ⟨hi, hzs⟩ := hy
      dsimp only at hi hzs ⊢
      repeat (first
        | (refine g_ops ?_; first | refine sO ?_ | refine s_n (fun _ => ?_) | refine s_appB (fun _ _ => ?_) | refine s_app (fun _ _ => ?_) | refine s_b0 (fun _ => ?_) | ((fail_if_success refine g_lit rfl rfl rfl ?_); first | apply g_partM rfl rfl rfl | apply g_partMB rfl rfl rfl | fail))
        | refine gS ?_ | exact s_m | intro _)
      refine g_cond_dec rfl (fun h => ?_) (fun h => ?_)
      · have hi' : i < rs.length := by omega
        obtain rfl := hP2 (by omega)
        have hiw : i < ws'.length := by omega
        have hzl : zs.length ≤ 2000000 := by rw [hzs, List.length_append, List.length_take]; omega
        have hst := sumB_take rs i hi'
        have hrl : rs[i] = ws'[i].l := by
          have h5 : (bts ws')[i]? = rs[i]? := by rw [hwr]
          rw [List.getElem?_map, List.getElem?_eq_getElem hiw, List.getElem?_eq_getElem hi'] at h5
          exact (Option.some.inj h5).symm
        have hal : rs[i].length ≤ 131072 := hps _ (List.mem_cons_of_mem _ (List.getElem_mem hi'))
        have hsm := sumB_take_le rs i
        have hsm2 : sumB rs ≤ l.length := by
          have e : frB (sgL (some (v, rs))) = frameB (vb v) ++ frB rs := frB_cons _ _
          rw [he, List.length_append, e, List.length_append, frB_len rs]; omega
        have hrow2 := reads_own (b := ob) (len := (w :: ws').length) (cap := c) (n := 1) (e := 28) (xs := (w :: ws').map BV.v) (j := 1 + i) (v := (ws'[i]).v) (by rw [Nat.add_comm 1 i]; simp [hiw])
        have htk : ws'.take (i + 1) = ws'.take i ++ [ws'[i]] := by rw [List.take_add_one, List.getElem?_eq_getElem hiw]; rfl
        rw [hrl] at hst hal
        generalize ws'[i] = u at hrow2 hst htk hal
        have hr : ∀ k, k = i → Reads (.own (some ⟨ob, 0, none⟩) (w :: ws').length c 1 ((w :: ws').map BV.v) 28) ⟨ob, 1 + k, none⟩ u.v := fun k hk => by rw [hk]; exact hrow2
        repeat (first
          | (refine g_ops ?_; first | refine sO ?_ | refine s_n (fun _ => ?_) | refine s_appB (fun _ _ => ?_) | refine s_app (fun _ _ => ?_) | refine s_b0 (fun _ => ?_) | ((fail_if_success refine g_lit rfl rfl rfl ?_); first | apply g_partM rfl rfl rfl | apply g_partMB rfl rfl rfl | fail))
          | refine gS ?_ | exact s_m | intro _)
        rename_i nb2 rq2 rc2
        have hlr : (zs ++ [u]).length = zs.length + 1 := by simp
        have hmr : (zs ++ [u]).map BV.v = zs.map BV.v ++ [u.v] := by simp
        refine g_as 74 (v' := int ((i + 1 : Nat) : Int)) rfl (congrArg (Value.int .i64) (by push_cast; rfl)) ?_
        rw [show ((sumB (rs.take i) : Nat) : Int) + (u.l.length : Int) = ((sumB (rs.take (i + 1)) : Nat) : Int) by rw [hst]; push_cast; rfl, ← hlr, ← hmr]
        exact gA ⟨i + 1, rq2, rc2, zs ++ [u]⟩ (by simp only; omega) ⟨hi', by dsimp only; rw [htk, hzs, List.append_assoc]⟩
      · obtain rfl : i = rs.length := by omega
        rw [List.take_length]
        rw [show ws'.take rs.length = ws' by rw [← hwl', List.take_length]] at hzs
        subst hzs
        repeat (first
          | (refine g_ops ?_; first | refine sO ?_ | refine s_n (fun _ => ?_) | refine s_appB (fun _ _ => ?_) | refine s_app (fun _ _ => ?_) | refine s_b0 (fun _ => ?_) | ((fail_if_success refine g_lit rfl rfl rfl ?_); first | apply g_partM rfl rfl rfl | apply g_partMB rfl rfl rfl | fail))
          | refine gS ?_ | exact s_m | intro _)
        refine gR (⟨true, ⟨rq', rc', xs ++ ws', fq', fc', fs ++ [(v : Int)], ((sumB rs : Nat) : Int), sl2⟩, H1⟩ : LdX) ⟨h1, fun r hr => ?_, ?_⟩
        · rcases List.mem_append.1 hr with h | h
          · exact BtAt.grow (hX r h) h1
          · exact h2 r (List.mem_cons_of_mem _ h)
        · show if v = xs.length then _ else _
          rw [if_pos hve]
          exact ⟨rfl, by show bts (xs ++ ws') = _; rw [← hwr]; exact List.map_append, rfl, rfl, hsl3⟩
end Go.Proofs.YtdldgbbhagpofaaGreatDoor

namespace Go.Sl
variable {P : Program} {Γ : Ctx} {L R : List Chunk} {N : Nat} {fr : Fr}
open Go.Sort in
theorem putRow_own {α : Type} [Inhabited α] (enc : α → Value) {w : World} {b : Nat} {d : Array α} {xs junk : List Value} {e : TypeId} {fz : Nat × Nat} (hb : w.heap[b]? = some (.cells (xs ++ junk).toArray e fz)) (hl : xs.length = d.size) : putRow enc w b 0 d = w.setRow b (d.toList.map enc ++ junk).toArray := by
  unfold putRow mapBlock World.setRow
  congr 1
  apply Array.ext_getElem?
  intro k
  simp only [Array.getElem?_modify]
  by_cases hk : b = k
  · subst hk
    simp only [if_true, hb, Option.map_some]
    congr 1
    unfold onCells putCells
    dsimp only
    congr 1
    apply Array.ext_getElem?
    intro j
    simp only [Array.getElem?_mapIdx, List.getElem?_toArray]
    by_cases hj : j < d.size
    · rw [List.getElem?_append_left (by omega), List.getElem?_append_left (by simpa using hj), List.getElem?_eq_getElem (by omega)]
      simp only [Option.map_some, Nat.zero_le, Nat.zero_add, hj, and_self, if_true, Nat.sub_zero, List.getElem?_map, Array.getElem?_toList, Array.getElem?_eq_getElem hj]
      rw [getElem!_pos d j hj]
    · rw [List.getElem?_append_right (by omega), List.getElem?_append_right (by simp; omega)]
      simp only [List.length_map, Array.length_toList, hl]
      cases junk[j - d.size]? with
      | none => rfl
      | some v => simp [hj]
  · simp [hk]
abbrev sortZ (zs : List Int) : List Int := zs.mergeSort fun x y => decide (x ≤ y)
theorem does_sortI {f : FuncId} {b len c : Nat} {zs : List Int} {e : TypeId} (hlz : zs.length = len) (h0 : 0 < zs.length) (hs : zs.length ≤ 1000000000)
    (hC : ∀ w : World, Go.Sort.Holds (Value.int .i64) w b 0 zs.toArray → b < w.heap.size → Calls P f #[.slice (some ⟨b, 0, none⟩) zs.length c] w fun e w' =>
      e = .returned (.tuple #[]) ∧ ∃ n os, w' = Go.Sort.grow (Go.Sort.putRow (Value.int .i64) (Go.Sort.ahead w n) b 0 (sortZ zs).toArray) os) :
    Does P f [.slice (some ⟨b, 0, none⟩) len c] [.own (some ⟨b, 0, none⟩) len c 1 (zs.map (.int .i64 ·)) e] (X := Unit) (fun _ => .tuple #[]) (fun _ => [.own (some ⟨b, 0, none⟩) len c 1 ((sortZ zs).map (.int .i64 ·)) e]) (fun _ => True) := fun Γ w hh => by
  subst hlz
  obtain ⟨junk, ⟨hl, ho⟩, e3, e4, hrow⟩ := hh.ownRow .here (by simpa using h0)
  have hb := hrow.block .here
  have hlt := (Array.getElem?_eq_some_iff.1 hb).1
  have hsz : (sortZ zs).length = zs.length := (List.mergeSort_perm _ _).length_eq
  refine (hC w (fun j hj => ?_) hlt).mono ?_
  · have hj' : j < zs.length := by simpa using hj
    have h1 : (zs.map (Value.int .i64 ·) ++ junk)[j]? = some (.int .i64 zs[j]) := by
      rw [List.getElem?_append_left (by simpa using hj'), List.getElem?_map, List.getElem?_eq_getElem hj']; rfl
    refine ⟨?_, ?_⟩
    · rw [getElem!_pos _ j hj]
      simp only [World.cell?, hb, Nat.zero_add, List.getElem?_toArray, List.getElem_toArray]
      exact h1
    · simp [World.frozen?, hb]
  · rintro e' w' ⟨rfl, n, os, rfl⟩
    refine ⟨(), trivial, rfl, ?_⟩
    have e1 : Go.Sort.putRow (Value.int .i64) (Go.Sort.ahead w n) b 0 (sortZ zs).toArray = (Go.Sort.ahead w n).setRow b ((sortZ zs).map (Value.int .i64 ·) ++ junk).toArray :=
      putRow_own (Value.int .i64) (w := Go.Sort.ahead w n) (xs := zs.map (Value.int .i64 ·)) hb (by simp [hsz])
    rw [e1]
    have h2 : Holds Γ (.row b (zs.map (Value.int .i64 ·) ++ junk) e :: []) (Go.Sort.ahead w n) := hrow.drew _
    have h3 := h2.setRow (ys := (sortZ zs).map (Value.int .i64 ·) ++ junk) .here
    have h4 : Holds Γ [.own (some ⟨b, 0, none⟩) zs.length c 1 ((sortZ zs).map (.int .i64 ·)) e] ((Go.Sort.ahead w n).setRow b ((sortZ zs).map (Value.int .i64 ·) ++ junk).toArray) :=
      h3.mono fun h ⟨k1, k2, dj', t1, t2, hc', hr'⟩ => ⟨k1, k2, dj', t1, t2, ⟨⟨by simp [hsz], by simp [Value.oneCell']⟩, .inr ⟨b, junk, rfl, e3, e4, hc'⟩⟩, hr'⟩
    exact h4.later rfl rfl rfl (by simp [Go.Sort.grow]) (fun c hc => Array.getElem?_append_left hc)
end Go.Sl
