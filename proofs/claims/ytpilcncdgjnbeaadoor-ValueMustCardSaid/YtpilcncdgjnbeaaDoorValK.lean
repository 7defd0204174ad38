/- Contracts: AppendInt, put, Text. -/
import Derived.Test.YtpilcncdgjnbeaaDoorValJ
set_option linter.unusedSimpArgs false
set_option linter.unusedVariables false
namespace Go.Proofs.YtpilcncdgjnbeaaDoor
open Go.Sl facts
/-- An int as a text. -/
def decI (n : Int) : List UInt8 := if n < 0 then 45 :: Lib.decDigits n.natAbs else Lib.decDigits n.toNat
mutual
/-- A value as a text. -/
def textL : V → List UInt8
  | .mk k y n s ks l => if k = 1 then [110, 105, 108] else if k = 2 then boolL y else if k = 3 then decI n else if k = 4 then quoteL s else if k = 5 then 91 :: (textK false true ks l ++ [93]) else 123 :: ((if k = 6 then textK true true ks l else []) ++ [125])
def textK : Bool → Bool → List ByteArray → List V → List UInt8
  | _, _, _, [] => []
  | p, first, ks, x :: l => (if first then [] else [44]) ++ ((if p then quoteL (ks.headD ByteArray.empty) ++ [58] else []) ++ (textL x ++ textK p false ks.tail l))
end
theorem textL_mk (k : Int) (y : Bool) (n : Int) (s : ByteArray) (ks : List ByteArray) (l : List V) : textL (.mk k y n s ks l) = if k = 1 then [110, 105, 108] else if k = 2 then boolL y else if k = 3 then decI n else if k = 4 then quoteL s else if k = 5 then 91 :: (textK false true ks l ++ [93]) else 123 :: ((if k = 6 then textK true true ks l else []) ++ [125]) := by rw [textL]
theorem textK_nil (p first : Bool) (ks : List ByteArray) : textK p first ks [] = [] := by rw [textK]
theorem textK_cons (p first : Bool) (ks : List ByteArray) (x : V) (l : List V) : textK p first ks (x :: l) = (if first then [] else [44]) ++ ((if p then quoteL (ks.headD ByteArray.empty) ++ [58] else []) ++ (textL x ++ textK p false ks.tail l)) := by rw [textK]
mutual
/-- How much there is of a value. -/
def szV : V → Nat
  | .mk _ _ _ s ks l => 1 + s.size + szS ks + szK l
def szK : List V → Nat
  | [] => 0
  | x :: l => szV x + szK l
def szS : List ByteArray → Nat
  | [] => 0
  | s :: l => s.size + szS l
end
theorem szV_mk (k : Int) (y : Bool) (n : Int) (s : ByteArray) (ks : List ByteArray) (l : List V) : szV (.mk k y n s ks l) = 1 + s.size + szS ks + szK l := by rw [szV]
theorem szK_cons (x : V) (l : List V) : szK (x :: l) = szV x + szK l := by rw [szK]
theorem szK_nil : szK [] = 0 := by rw [szK]
theorem szS_cons (x : ByteArray) (l : List ByteArray) : szS (x :: l) = x.size + szS l := by rw [szS]
theorem szS_nil : szS [] = 0 := by rw [szS]
theorem szK_mem {x : V} : ∀ {l : List V}, x ∈ l → szV x ≤ szK l
  | y :: l, h => by
    rw [szK_cons]
    rcases List.mem_cons.1 h with rfl | h
    · omega
    · have := szK_mem h; omega
theorem szS_mem {x : ByteArray} : ∀ {l : List ByteArray}, x ∈ l → x.size ≤ szS l
  | y :: l, h => by
    rw [szS_cons]
    rcases List.mem_cons.1 h with rfl | h
    · omega
    · have := szS_mem h; omega
theorem szS_head (ks : List ByteArray) : (ks.headD ByteArray.empty).size + szS ks.tail ≤ szS ks := by
  cases ks with
  | nil => rw [List.tail_nil, szS_nil]; show 0 + 0 ≤ 0; omega
  | cons a l => rw [szS_cons]; exact Nat.le_refl _
theorem decI_len (n : Int) (h : inI n) : (decI n).length ≤ 21 := by
  unfold inI at h
  unfold decI
  split
  · have := nd20 n.natAbs (by omega)
    rw [List.length_cons, Lib.decDigits_length]; omega
  · have := nd20 n.toNat (by omega)
    rw [Lib.decDigits_length]; omega
/-- All ints within are ints. -/
inductive VOk : V → Prop where
  | mk {k y n s ks l} (hn : inI n) (h : ∀ x ∈ l, VOk x) : VOk (.mk k y n s ks l)
theorem textK_len (p : Bool) : ∀ (l : List V), (∀ x ∈ l, (textL x).length + 4 ≤ 25 * szV x) → ∀ first ks, (textK p first ks l).length ≤ 4 * szS ks + 25 * szK l
  | [], _, first, ks => by rw [textK_nil]; simp
  | x :: l, h, first, ks => by
    have h1 := h x (List.mem_cons_self ..)
    have h2 := textK_len p l (fun y hy => h y (List.mem_cons_of_mem _ hy)) false ks.tail
    have h3 := szS_head ks
    have h4 := quoteL_len (ks.headD ByteArray.empty)
    rw [textK_cons, szK_cons]
    simp only [List.length_append]
    have h5 : (if first = true then ([] : List UInt8) else [44]).length ≤ 1 := by split <;> simp
    have h6 : (if p = true then quoteL (ks.headD ByteArray.empty) ++ [58] else []).length ≤ 4 * (ks.headD ByteArray.empty).size + 3 := by
      split
      · rw [List.length_append, List.length_singleton]; omega
      · simp
    omega
theorem textL_len (v : V) : VOk v → (textL v).length + 4 ≤ 25 * szV v := by
  refine V.ind (Q := fun v => VOk v → (textL v).length + 4 ≤ 25 * szV v) (fun k y n s ks l ih h => ?_) v
  obtain ⟨hn, hl⟩ := h
  have hk := fun p => textK_len p l (fun x hx => ih x hx (hl x hx)) true ks
  rw [textL_mk, szV_mk]
  have h3 := decI_len n hn
  have h4 := quoteL_len s
  have h5 := hk false
  have h6 := hk true
  split
  · simp; omega
  split
  · unfold boolL; split <;> (simp; omega)
  split
  · omega
  split
  · omega
  split
  · simp only [List.length_cons, List.length_append, List.length_nil]; omega
  · simp only [List.length_cons, List.length_append, List.length_nil]
    split
    · omega
    · simp only [List.length_nil]; omega
theorem TAt.ok {H : HP} {v : V} {x : Value} (h : TAt H v x) (hv : VOk v) : VOk v := hv
attribute [local irreducible] Code.wp wpList Exit.then Exit.inBlock bodyPost Back MidQ G GP QStep VStep CStep SStep Does Post Reads
attribute [local irreducible] textL textK szV szK szS quoteL boolL decI
theorem u64m (z : Int) : IntKind.u64.wrap z = z % 18446744073709551616 := rfl
theorem appendIntI {H : HP} (hT : Tb H) (q : Option Addr) (c : Nat) (bs : List UInt8) (n : Int) (hn : inI n) (hl : bs.length ≤ 100000000000) : Does Tryd.prog 80 [bV q c bs, int n, int 10] [bO q c bs, Pile H] (X := BX) (fun y => bV y.q y.c (bs ++ decI n)) (fun y => [bO y.q y.c (bs ++ decI n), Pile H]) (fun _ => True) := by
  unfold inI at hn
  refine fn_intro Tryd.func80 rfl Tryd.ntmps80 rfl (by simp only [argFr, Nat.zero_add, Nat.reduceAdd]; rfl) (fun Γ => ?_)
  repeat (first
    | (refine g_ops ?_; first | refine s_q ?_ | refine s_v ?_ | refine s_s ?_ | refine s_n (fun _ => ?_) | refine s_x ?_ | refine s_y ?_ | refine s_iq ?_ | refine s_mq ?_ | refine s_appB (fun _ _ => ?_) | refine s_app (fun _ _ => ?_) | refine s_mv ?_ | refine s_ms ?_ | refine s_b0 (fun _ => ?_) | ((fail_if_success refine g_lit rfl rfl rfl ?_); first | apply g_partM rfl rfl rfl | apply g_partMB rfl rfl rfl | fail))
    | refine g_seq ?_ | refine g_region ?_ | refine g_nil ?_ | refine g_then_normal ?_ | refine g_block ?_ | refine g_in_normal ?_ | refine g_retc ?_ | refine g_then_ret ?_
    | refine g_in_ret ?_ | refine g_exit ?_ | refine g_then_exit ?_ | refine g_in_exit ?_ | refine g_in_other rfl ?_ | refine g_skip ?_ | refine g_label ?_
    | refine g_cond_true rfl ?_ | refine g_cond_false rfl ?_ | exact s_m | intro _)
  refine s_q (q := by exact qs_convInt rfl) ?_
  by_cases h0 : n < 0
  · have e : decI n = 45 :: Lib.decDigits n.natAbs := by unfold decI; rw [if_pos h0]
    refine g_as 9 (v' := .int .u64 (n + 18446744073709551616)) rfl (congrArg (Value.int .u64) (by rw [u64m]; omega)) ?_
    repeat (first
      | (refine g_ops ?_; first | refine s_q ?_ | refine s_v ?_ | refine s_s ?_ | refine s_n (fun _ => ?_) | refine s_x ?_ | refine s_y ?_ | refine s_iq ?_ | refine s_mq ?_ | refine s_appB (fun _ _ => ?_) | refine s_app (fun _ _ => ?_) | refine s_mv ?_ | refine s_ms ?_ | refine s_b0 (fun _ => ?_) | ((fail_if_success refine g_lit rfl rfl rfl ?_); first | apply g_partM rfl rfl rfl | apply g_partMB rfl rfl rfl | fail))
      | refine g_seq ?_ | refine g_region ?_ | refine g_nil ?_ | refine g_then_normal ?_ | refine g_block ?_ | refine g_in_normal ?_ | refine g_retc ?_
      | refine g_then_ret ?_ | refine g_in_ret ?_ | refine g_exit ?_ | refine g_then_exit ?_ | refine g_in_exit ?_ | refine g_in_other rfl ?_ | refine g_skip ?_
      | refine g_label ?_ | refine g_cond_true rfl ?_ | refine g_cond_false rfl ?_ | exact s_m | intro _)
    refine g_cond_dec rfl (fun _ => ?_) (fun h => absurd h0 h)
    repeat (first
      | (refine g_ops ?_; first | refine s_q ?_ | refine s_v ?_ | refine s_s ?_ | refine s_n (fun _ => ?_) | refine s_x ?_ | refine s_y ?_ | refine s_iq ?_ | refine s_mq ?_ | refine s_appB (fun _ _ => ?_) | refine s_app (fun _ _ => ?_) | refine s_mv ?_ | refine s_ms ?_ | refine s_b0 (fun _ => ?_) | ((fail_if_success refine g_lit rfl rfl rfl ?_); first | apply g_partM rfl rfl rfl | apply g_partMB rfl rfl rfl | fail))
      | refine g_seq ?_ | refine g_region ?_ | refine g_nil ?_ | refine g_then_normal ?_ | refine g_block ?_ | refine g_in_normal ?_ | refine g_retc ?_
      | refine g_then_ret ?_ | refine g_in_ret ?_ | refine g_exit ?_ | refine g_then_exit ?_ | refine g_in_exit ?_ | refine g_in_other rfl ?_ | refine g_skip ?_
      | refine g_label ?_ | refine g_cond_true rfl ?_ | refine g_cond_false rfl ?_ | exact s_m | intro _)
    rename_i q1 c1
    rw [show cells8 bs ++ [Value.int .u8 45] = cells8 (bs ++ [45]) from cells8_append bs [45], show bs.length + 1 = (bs ++ [45]).length by simp]
    refine s_q (q := by exact qs_neg rfl) ?_
    refine g_as 16 (v' := .int .u64 ((n.natAbs : Nat) : Int)) rfl (congrArg (Value.int .u64) (by rw [u64m]; omega)) ?_
    have hu := appendUint hT q1 c1 (bs ++ [45]) n.natAbs (by omega) (by rw [List.length_append, List.length_singleton]; omega)
    rw [show (bs ++ [45]) ++ Lib.decDigits n.natAbs = bs ++ decI n by rw [e, List.append_assoc]; rfl] at hu
    repeat (first
      | (refine g_ops ?_; first | refine s_q ?_ | refine s_v ?_ | refine s_s ?_ | refine s_n (fun _ => ?_) | refine s_x ?_ | refine s_y ?_ | refine s_iq ?_ | refine s_mq ?_ | refine s_appB (fun _ _ => ?_) | refine s_app (fun _ _ => ?_) | refine s_mv ?_ | refine s_ms ?_ | refine s_b0 (fun _ => ?_) | ((fail_if_success refine g_lit rfl rfl rfl ?_); first | apply g_partM rfl rfl rfl | apply g_partMB rfl rfl rfl | fail) | refine s_c (hu) (fun _ _ => ?_))
      | refine g_seq ?_ | refine g_region ?_ | refine g_nil ?_ | refine g_then_normal ?_ | refine g_block ?_ | refine g_in_normal ?_ | refine g_retc ?_
      | refine g_then_ret ?_ | refine g_in_ret ?_ | refine g_exit ?_ | refine g_then_exit ?_ | refine g_in_exit ?_ | refine g_in_other rfl ?_ | refine g_skip ?_
      | refine g_label ?_ | refine g_cond_true rfl ?_ | refine g_cond_false rfl ?_ | exact s_m | intro _)
    rename_i y _
    exact g_ret y rfl (by (repeat (first | exact RVs.nil | apply RVs.tmp rfl | apply RVs.cellA rfl (by (repeat (first | exact Sel.here | apply Sel.there)); first | done | fail) (by (repeat (first | exact Cut.zero | apply Cut.take | apply Cut.skip)); first | done | fail) | apply RVs.cell1 rfl (by (repeat (first | exact Sel.here | apply Sel.there)); first | done | fail) rfl)); first | done | fail) (by (repeat (first | exact Take.nil | apply Take.cons | exact Sel.here | apply Sel.there)); first | done | fail) rfl trivial
  · have e : decI n = Lib.decDigits n.toNat := by unfold decI; rw [if_neg h0]
    refine g_as 9 (v' := .int .u64 ((n.toNat : Nat) : Int)) rfl (congrArg (Value.int .u64) (by rw [u64m]; omega)) ?_
    repeat (first
      | (refine g_ops ?_; first | refine s_q ?_ | refine s_v ?_ | refine s_s ?_ | refine s_n (fun _ => ?_) | refine s_x ?_ | refine s_y ?_ | refine s_iq ?_ | refine s_mq ?_ | refine s_appB (fun _ _ => ?_) | refine s_app (fun _ _ => ?_) | refine s_mv ?_ | refine s_ms ?_ | refine s_b0 (fun _ => ?_) | ((fail_if_success refine g_lit rfl rfl rfl ?_); first | apply g_partM rfl rfl rfl | apply g_partMB rfl rfl rfl | fail))
      | refine g_seq ?_ | refine g_region ?_ | refine g_nil ?_ | refine g_then_normal ?_ | refine g_block ?_ | refine g_in_normal ?_ | refine g_retc ?_
      | refine g_then_ret ?_ | refine g_in_ret ?_ | refine g_exit ?_ | refine g_then_exit ?_ | refine g_in_exit ?_ | refine g_in_other rfl ?_ | refine g_skip ?_
      | refine g_label ?_ | refine g_cond_true rfl ?_ | refine g_cond_false rfl ?_ | exact s_m | intro _)
    refine g_cond_dec rfl (fun h => absurd h h0) (fun _ => ?_)
    have hu := appendUint hT q c bs n.toNat (by omega) (by omega)
    rw [← e] at hu
    repeat (first
      | (refine g_ops ?_; first | refine s_q ?_ | refine s_v ?_ | refine s_s ?_ | refine s_n (fun _ => ?_) | refine s_x ?_ | refine s_y ?_ | refine s_iq ?_ | refine s_mq ?_ | refine s_appB (fun _ _ => ?_) | refine s_app (fun _ _ => ?_) | refine s_mv ?_ | refine s_ms ?_ | refine s_b0 (fun _ => ?_) | ((fail_if_success refine g_lit rfl rfl rfl ?_); first | apply g_partM rfl rfl rfl | apply g_partMB rfl rfl rfl | fail) | refine s_c (hu) (fun _ _ => ?_))
      | refine g_seq ?_ | refine g_region ?_ | refine g_nil ?_ | refine g_then_normal ?_ | refine g_block ?_ | refine g_in_normal ?_ | refine g_retc ?_
      | refine g_then_ret ?_ | refine g_in_ret ?_ | refine g_exit ?_ | refine g_then_exit ?_ | refine g_in_exit ?_ | refine g_in_other rfl ?_ | refine g_skip ?_
      | refine g_label ?_ | refine g_cond_true rfl ?_ | refine g_cond_false rfl ?_ | exact s_m | intro _)
    rename_i y _
    exact g_ret y rfl (by (repeat (first | exact RVs.nil | apply RVs.tmp rfl | apply RVs.cellA rfl (by (repeat (first | exact Sel.here | apply Sel.there)); first | done | fail) (by (repeat (first | exact Cut.zero | apply Cut.take | apply Cut.skip)); first | done | fail) | apply RVs.cell1 rfl (by (repeat (first | exact Sel.here | apply Sel.there)); first | done | fail) rfl)); first | done | fail) (by (repeat (first | exact Take.nil | apply Take.cons | exact Sel.here | apply Sel.there)); first | done | fail) rfl trivial
theorem appendInt {H : HP} (hT : Tb H) (q : Option Addr) (c : Nat) (bs : List UInt8) (n : Int) (hn : inI n) (hl : bs.length ≤ 100000000000) : Does Tryd.prog 53 [bV q c bs, int n, int 10] [bO q c bs, Pile H] (X := BX) (fun y => bV y.q y.c (bs ++ decI n)) (fun y => [bO y.q y.c (bs ++ decI n), Pile H]) (fun _ => True) := by
  refine fn_intro Tryd.func53 rfl Tryd.ntmps53 rfl (by simp only [argFr, Nat.zero_add, Nat.reduceAdd]; rfl) (fun Γ => ?_)
  repeat (first
    | (refine g_ops ?_; first | refine s_q ?_ | refine s_v ?_ | refine s_s ?_ | refine s_n (fun _ => ?_) | refine s_x ?_ | refine s_y ?_ | refine s_iq ?_ | refine s_mq ?_ | refine s_appB (fun _ _ => ?_) | refine s_app (fun _ _ => ?_) | refine s_mv ?_ | refine s_ms ?_ | refine s_b0 (fun _ => ?_) | ((fail_if_success refine g_lit rfl rfl rfl ?_); first | apply g_partM rfl rfl rfl | apply g_partMB rfl rfl rfl | fail) | refine s_c (appendIntI hT q c bs n hn hl) (fun _ _ => ?_))
    | refine g_seq ?_ | refine g_region ?_ | refine g_nil ?_ | refine g_then_normal ?_ | refine g_block ?_ | refine g_in_normal ?_ | refine g_retc ?_ | refine g_then_ret ?_
    | refine g_in_ret ?_ | refine g_exit ?_ | refine g_then_exit ?_ | refine g_in_exit ?_ | refine g_in_other rfl ?_ | refine g_skip ?_ | refine g_label ?_
    | refine g_cond_true rfl ?_ | refine g_cond_false rfl ?_ | exact s_m | intro _)
  rename_i y _
  exact g_ret y rfl (by (repeat (first | exact RVs.nil | apply RVs.tmp rfl | apply RVs.cellA rfl (by (repeat (first | exact Sel.here | apply Sel.there)); first | done | fail) (by (repeat (first | exact Cut.zero | apply Cut.take | apply Cut.skip)); first | done | fail) | apply RVs.cell1 rfl (by (repeat (first | exact Sel.here | apply Sel.there)); first | done | fail) rfl)); first | done | fail) (by (repeat (first | exact Take.nil | apply Take.cons | exact Sel.here | apply Sel.there)); first | done | fail) rfl trivial
end Go.Proofs.YtpilcncdgjnbeaaDoor
