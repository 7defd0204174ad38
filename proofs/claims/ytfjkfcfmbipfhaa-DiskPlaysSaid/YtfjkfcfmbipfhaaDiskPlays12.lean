/- Contracts and laws that the proof stands on. -/
import Derived.Test.YtfjkfcfmbipfhaaDiskPlays11
import Derived.Deep.Upon
import Derived.Lib.SliceRun
set_option linter.unusedSimpArgs false
set_option linter.unusedVariables false
namespace Go.Proofs.Ytfjkfcfmbipfhaa
open Go.Sl facts
attribute [local irreducible] Code.wp wpList Exit.then Exit.inBlock bodyPost Back MidQ G GP QStep VStep CStep SStep Does Post Reads
theorem round (p n : Int) (h : 0 < n) (hn : n ≤ 1000000000) : Does1 Try.prog 19 [int p, int n] [] (int (lf p n)) := by
  have hb := lf_in p n h
  refine fn_intro Try.func19 rfl Try.ntmps19 rfl (by simp only [argFr, Nat.zero_add, Nat.reduceAdd]; rfl) (fun Γ => ?_)
  repeat (first
    | (refine g_ops ?_; first | refine s_q ?_ | refine s_v ?_ | refine s_s ?_ | refine s_n (fun _ => ?_) | refine s_x ?_ | refine s_y ?_ | refine s_mq ?_ | refine s_app (fun _ _ => ?_) | refine s_mv ?_ | refine s_ms ?_ | refine s_b0 (fun _ => ?_) | ((fail_if_success refine g_lit rfl rfl rfl ?_); first | apply g_partM rfl rfl rfl | apply g_partMB rfl rfl rfl | fail))
    | refine g_seq ?_ | refine g_region ?_ | refine g_nil ?_ | refine g_then_normal ?_ | refine g_block ?_ | refine g_in_normal ?_ | refine g_retc ?_ | refine g_then_ret ?_
    | refine g_in_ret ?_ | refine g_exit ?_ | refine g_then_exit ?_ | refine g_in_exit ?_ | refine g_in_other rfl ?_ | refine g_skip ?_ | refine g_label ?_
    | refine g_cond_true rfl ?_ | refine g_cond_false rfl ?_ | exact s_m | intro _)
  refine s_q (q := by exact qs_rem rfl rfl (by omega)) ?_
  repeat (first
    | (refine g_ops ?_; first | refine s_q ?_ | refine s_v ?_ | refine s_s ?_ | refine s_n (fun _ => ?_) | refine s_x ?_ | refine s_y ?_ | refine s_mq ?_ | refine s_app (fun _ _ => ?_) | refine s_mv ?_ | refine s_ms ?_ | refine s_b0 (fun _ => ?_) | ((fail_if_success refine g_lit rfl rfl rfl ?_); first | apply g_partM rfl rfl rfl | apply g_partMB rfl rfl rfl | fail))
    | refine g_seq ?_ | refine g_region ?_ | refine g_nil ?_ | refine g_then_normal ?_ | refine g_block ?_ | refine g_in_normal ?_ | refine g_retc ?_ | refine g_then_ret ?_
    | refine g_in_ret ?_ | refine g_exit ?_ | refine g_then_exit ?_ | refine g_in_exit ?_ | refine g_in_other rfl ?_ | refine g_skip ?_ | refine g_label ?_
    | refine g_cond_true rfl ?_ | refine g_cond_false rfl ?_ | exact s_m | intro _)
  refine g_cond_dec rfl (fun h2 => ?_) (fun h2 => ?_)
  · have e : lf p n = p.tmod n + n := if_pos h2
    rw [e] at hb
    repeat (first
      | (refine g_ops ?_; first | refine s_q ?_ | refine s_v ?_ | refine s_s ?_ | refine s_n (fun _ => ?_) | refine s_x ?_ | refine s_y ?_ | refine s_mq ?_ | refine s_app (fun _ _ => ?_) | refine s_mv ?_ | refine s_ms ?_ | refine s_b0 (fun _ => ?_) | ((fail_if_success refine g_lit rfl rfl rfl ?_); first | apply g_partM rfl rfl rfl | apply g_partMB rfl rfl rfl | fail))
      | refine g_seq ?_ | refine g_region ?_ | refine g_nil ?_ | refine g_then_normal ?_ | refine g_block ?_ | refine g_in_normal ?_ | refine g_retc ?_
      | refine g_then_ret ?_ | refine g_in_ret ?_ | refine g_exit ?_ | refine g_then_exit ?_ | refine g_in_exit ?_ | refine g_in_other rfl ?_ | refine g_skip ?_
      | refine g_label ?_ | refine g_cond_true rfl ?_ | refine g_cond_false rfl ?_ | exact s_m | intro _)
    exact g_ret () rfl (by (repeat (first | exact RVs.nil | apply RVs.tmp rfl | apply RVs.cellA rfl (by (repeat (first | exact Sel.here | apply Sel.there)); first | done | fail) (by (repeat (first | exact Cut.zero | apply Cut.take | apply Cut.skip)); first | done | fail) | apply RVs.cell1 rfl (by (repeat (first | exact Sel.here | apply Sel.there)); first | done | fail) rfl)); first | done | fail) (by (repeat (first | exact Take.nil | apply Take.cons | exact Sel.here | apply Sel.there)); first | done | fail) (by simp [pack, e]) trivial
  · have e : lf p n = p.tmod n := if_neg h2
    repeat (first
      | (refine g_ops ?_; first | refine s_q ?_ | refine s_v ?_ | refine s_s ?_ | refine s_n (fun _ => ?_) | refine s_x ?_ | refine s_y ?_ | refine s_mq ?_ | refine s_app (fun _ _ => ?_) | refine s_mv ?_ | refine s_ms ?_ | refine s_b0 (fun _ => ?_) | ((fail_if_success refine g_lit rfl rfl rfl ?_); first | apply g_partM rfl rfl rfl | apply g_partMB rfl rfl rfl | fail))
      | refine g_seq ?_ | refine g_region ?_ | refine g_nil ?_ | refine g_then_normal ?_ | refine g_block ?_ | refine g_in_normal ?_ | refine g_retc ?_
      | refine g_then_ret ?_ | refine g_in_ret ?_ | refine g_exit ?_ | refine g_then_exit ?_ | refine g_in_exit ?_ | refine g_in_other rfl ?_ | refine g_skip ?_
      | refine g_label ?_ | refine g_cond_true rfl ?_ | refine g_cond_false rfl ?_ | exact s_m | intro _)
    exact g_ret () rfl (by (repeat (first | exact RVs.nil | apply RVs.tmp rfl | apply RVs.cellA rfl (by (repeat (first | exact Sel.here | apply Sel.there)); first | done | fail) (by (repeat (first | exact Cut.zero | apply Cut.take | apply Cut.skip)); first | done | fail) | apply RVs.cell1 rfl (by (repeat (first | exact Sel.here | apply Sel.there)); first | done | fail) rfl)); first | done | fail) (by (repeat (first | exact Take.nil | apply Take.cons | exact Sel.here | apply Sel.there)); first | done | fail) (by simp [pack, e]) trivial
theorem cells8_set (l : List UInt8) (i : Nat) (b : UInt8) : (cells8 l).set i (.int .u8 (b.toNat : Int)) = cells8 (l.set i b) := by simp [cells8, List.map_set]
structure LtX where
  i : Nat
  l : List UInt8
theorem letters (n : Nat) (j : Int) (hn : n ≤ 100000) (hj : 0 ≤ j ∧ j ≤ 1000000) : Does Try.prog 20 [int n, int j] [] (X := List UInt8) (fun l => .string ⟨l.toArray⟩) (fun _ => []) (fun l => l.length = n) := by
  refine fn_intro Try.func20 rfl Try.ntmps20 rfl (by simp only [argFr, Nat.zero_add, Nat.reduceAdd]; rfl) (fun Γ => ?_)
  repeat (first
    | (refine g_ops ?_; first | refine s_q ?_ | refine s_v ?_ | refine s_s ?_ | refine s_n (fun _ => ?_) | refine s_x ?_ | refine s_y ?_ | refine s_mq ?_ | refine s_app (fun _ _ => ?_) | refine s_mv ?_ | refine s_ms ?_ | refine s_b0 (fun _ => ?_) | ((fail_if_success refine g_lit rfl rfl rfl ?_); first | apply g_partM rfl rfl rfl | apply g_partMB rfl rfl rfl | fail))
    | refine g_seq ?_ | refine g_region ?_ | refine g_nil ?_ | refine g_then_normal ?_ | refine g_block ?_ | refine g_in_normal ?_ | refine g_retc ?_ | refine g_then_ret ?_
    | refine g_in_ret ?_ | refine g_exit ?_ | refine g_then_exit ?_ | refine g_in_exit ?_ | refine g_in_other rfl ?_ | refine g_skip ?_ | refine g_label ?_
    | refine g_cond_true rfl ?_ | refine g_cond_false rfl ?_ | exact s_m | intro _)
  refine s_q (q := by exact qs_max rfl rfl) ?_
  refine g_as 8 (v' := int (n : Int)) rfl (congrArg (Value.int .i64) (if_neg (by omega))) ?_
  refine g_c (cs_make8 (m := n) inferInstance inferInstance inferInstance inferInstance rfl rfl (by omega) (by decide)) rfl rfl (fun b _ => ?_)
  repeat (first
    | (refine g_ops ?_; first | refine s_q ?_ | refine s_v ?_ | refine s_s ?_ | refine s_n (fun _ => ?_) | refine s_x ?_ | refine s_y ?_ | refine s_mq ?_ | refine s_app (fun _ _ => ?_) | refine s_mv ?_ | refine s_ms ?_ | refine s_b0 (fun _ => ?_) | ((fail_if_success refine g_lit rfl rfl rfl ?_); first | apply g_partM rfl rfl rfl | apply g_partMB rfl rfl rfl | fail))
    | refine g_seq ?_ | refine g_region ?_ | refine g_nil ?_ | refine g_then_normal ?_ | refine g_block ?_ | refine g_in_normal ?_ | refine g_retc ?_ | refine g_then_ret ?_
    | refine g_in_ret ?_ | refine g_exit ?_ | refine g_then_exit ?_ | refine g_in_exit ?_ | refine g_in_other rfl ?_ | refine g_skip ?_ | refine g_label ?_
    | refine g_cond_true rfl ?_ | refine g_cond_false rfl ?_ | exact s_m | intro _)
  refine g_loop (X := LtX) (fun x => [(1, int j), (5, .slice (some ⟨b, 0, none⟩) n n), (6, int x.i)]) (fun x => [.own (some ⟨b, 0, none⟩) n n 1 (cells8 x.l) 5]) (fun x => x.i ≤ n ∧ x.l.length = n) (fun x => n - x.i) ⟨0, List.replicate n 0⟩ ⟨Nat.zero_le _, by simp⟩ (by (repeat (first | exact FrSub.nil | refine FrSub.cons rfl ?_)); first | done | fail) (by (repeat (first | exact Take.nil | apply Take.cons | exact Sel.here | apply Sel.there)); first | done | fail) (fun x hx => ?_)
  obtain ⟨i, l⟩ := x
  obtain ⟨hi, hl⟩ := hx
  dsimp only at hi hl ⊢
  repeat (first
    | (refine g_ops ?_; first | refine s_q ?_ | refine s_v ?_ | refine s_s ?_ | refine s_n (fun _ => ?_) | refine s_x ?_ | refine s_y ?_ | refine s_mq ?_ | refine s_app (fun _ _ => ?_) | refine s_mv ?_ | refine s_ms ?_ | refine s_b0 (fun _ => ?_) | ((fail_if_success refine g_lit rfl rfl rfl ?_); first | apply g_partM rfl rfl rfl | apply g_partMB rfl rfl rfl | fail))
    | refine g_seq ?_ | refine g_region ?_ | refine g_nil ?_ | refine g_then_normal ?_ | refine g_block ?_ | refine g_in_normal ?_ | refine g_retc ?_ | refine g_then_ret ?_
    | refine g_in_ret ?_ | refine g_exit ?_ | refine g_then_exit ?_ | refine g_in_exit ?_ | refine g_in_other rfl ?_ | refine g_skip ?_ | refine g_label ?_
    | refine g_cond_true rfl ?_ | refine g_cond_false rfl ?_ | exact s_m | intro _)
  refine g_cond_dec rfl (fun h => ?_) (fun h => ?_)
  · have hi2 : i < n := by omega
    have hsq : (i : Int) * i ≤ 10000000000 := by
      have := Int.mul_le_mul (show (i : Int) ≤ 100000 by omega) (show (i : Int) ≤ 100000 by omega) (by omega) (by omega)
      omega
    have hsq0 : 0 ≤ (i : Int) * i := Int.mul_nonneg (by omega) (by omega)
    have hlf := lf_in ((i : Int) * i + j) 26 (by decide)
    generalize hsqv : (i : Int) * i = sq at hsq hsq0 hlf
    repeat ((fail_if_success refine s_at 20 ?_); first
      | (refine g_ops ?_; first | refine s_q ?_ | refine s_v ?_ | refine s_s ?_ | refine s_n (fun _ => ?_) | refine s_x ?_ | refine s_y ?_ | refine s_mq ?_ | refine s_app (fun _ _ => ?_) | refine s_mv ?_ | refine s_ms ?_ | refine s_b0 (fun _ => ?_) | ((fail_if_success refine g_lit rfl rfl rfl ?_); first | apply g_partM rfl rfl rfl | apply g_partMB rfl rfl rfl | fail))
      | refine g_seq ?_ | refine g_region ?_ | refine g_nil ?_ | refine g_then_normal ?_ | refine g_block ?_ | refine g_in_normal ?_ | refine g_retc ?_
      | refine g_then_ret ?_ | refine g_in_ret ?_ | refine g_exit ?_ | refine g_then_exit ?_ | refine g_in_exit ?_ | refine g_in_other rfl ?_ | refine g_skip ?_
      | refine g_label ?_ | refine g_cond_true rfl ?_ | refine g_cond_false rfl ?_ | exact s_m | intro _)
    refine s_q (q := by exact qs_mulI rfl rfl ⟨by omega, by omega⟩) ?_
    refine g_as 20 (v' := int sq) rfl (congrArg (Value.int .i64) hsqv) ?_
    repeat (first
      | (refine g_ops ?_; first | refine s_q ?_ | refine s_v ?_ | refine s_s ?_ | refine s_n (fun _ => ?_) | refine s_x ?_ | refine s_y ?_ | refine s_mq ?_ | refine s_app (fun _ _ => ?_) | refine s_mv ?_ | refine s_ms ?_ | refine s_b0 (fun _ => ?_) | ((fail_if_success refine g_lit rfl rfl rfl ?_); first | apply g_partM rfl rfl rfl | apply g_partMB rfl rfl rfl | fail) | refine s_p (round (sq + j) 26 (by decide) (by decide)) ?_)
      | refine g_seq ?_ | refine g_region ?_ | refine g_nil ?_ | refine g_then_normal ?_ | refine g_block ?_ | refine g_in_normal ?_ | refine g_retc ?_
      | refine g_then_ret ?_ | refine g_in_ret ?_ | refine g_exit ?_ | refine g_then_exit ?_ | refine g_in_exit ?_ | refine g_in_other rfl ?_ | refine g_skip ?_
      | refine g_label ?_ | refine g_cond_true rfl ?_ | refine g_cond_false rfl ?_ | exact s_m | intro _)
    refine s_q (q := by exact qs_convInt rfl) ?_
    obtain ⟨bt, hbt⟩ : ∃ bt : UInt8, IntKind.u8.wrap (97 + lf (sq + j) 26) = (bt.toNat : Int) := ⟨UInt8.ofNat (97 + lf (sq + j) 26).toNat, by
      rw [wrap_u8 ⟨by omega, by omega⟩]
      simp
      omega⟩
    refine g_as 25 (v' := .int .u8 (bt.toNat : Int)) rfl (congrArg (Value.int .u8) hbt) ?_
    refine s_q (q := by exact qs_indexSlice1 rfl rfl hi2) ?_
    refine g_s (ss_storeOwn inferInstance rfl rfl rfl (by (repeat (first | exact Sel.here | apply Sel.there)); first | done | fail) (by rw [cells8_len]; omega)) rfl ?_
    rw [Nat.zero_add, cells8_set]
    repeat (first
      | (refine g_ops ?_; first | refine s_q ?_ | refine s_v ?_ | refine s_s ?_ | refine s_n (fun _ => ?_) | refine s_x ?_ | refine s_y ?_ | refine s_mq ?_ | refine s_app (fun _ _ => ?_) | refine s_mv ?_ | refine s_ms ?_ | refine s_b0 (fun _ => ?_) | ((fail_if_success refine g_lit rfl rfl rfl ?_); first | apply g_partM rfl rfl rfl | apply g_partMB rfl rfl rfl | fail))
      | refine g_seq ?_ | refine g_region ?_ | refine g_nil ?_ | refine g_then_normal ?_ | refine g_block ?_ | refine g_in_normal ?_ | refine g_retc ?_
      | refine g_then_ret ?_ | refine g_in_ret ?_ | refine g_exit ?_ | refine g_then_exit ?_ | refine g_in_exit ?_ | refine g_in_other rfl ?_ | refine g_skip ?_
      | refine g_label ?_ | refine g_cond_true rfl ?_ | refine g_cond_false rfl ?_ | exact s_m | intro _)
    exact g_again ⟨i + 1, l.set i bt⟩ (by simp only; omega) ⟨hi2, by simp [hl]⟩ (by (repeat (first | exact FrSub.nil | refine FrSub.cons rfl ?_)); first | done | fail) (by (repeat (first | exact Take.nil | apply Take.cons | exact Sel.here | apply Sel.there)); first | done | fail)
  · repeat (first
      | (refine g_ops ?_; first | refine s_q ?_ | refine s_v ?_ | refine s_s ?_ | refine s_n (fun _ => ?_) | refine s_x ?_ | refine s_y ?_ | refine s_mq ?_ | refine s_app (fun _ _ => ?_) | refine s_mv ?_ | refine s_ms ?_ | refine s_b0 (fun _ => ?_) | ((fail_if_success refine g_lit rfl rfl rfl ?_); first | apply g_partM rfl rfl rfl | apply g_partMB rfl rfl rfl | fail))
      | refine g_seq ?_ | refine g_region ?_ | refine g_nil ?_ | refine g_then_normal ?_ | refine g_block ?_ | refine g_in_normal ?_ | refine g_retc ?_
      | refine g_then_ret ?_ | refine g_in_ret ?_ | refine g_exit ?_ | refine g_then_exit ?_ | refine g_in_exit ?_ | refine g_in_other rfl ?_ | refine g_skip ?_
      | refine g_label ?_ | refine g_cond_true rfl ?_ | refine g_cond_false rfl ?_ | exact s_m | intro _)
    subst hl
    refine g_v (vs_bytesStr inferInstance inferInstance inferInstance rfl (by (repeat (first | exact Sel.here | apply Sel.there)); first | done | fail)) rfl rfl ?_
    repeat (first
      | (refine g_ops ?_; first | refine s_q ?_ | refine s_v ?_ | refine s_s ?_ | refine s_n (fun _ => ?_) | refine s_x ?_ | refine s_y ?_ | refine s_mq ?_ | refine s_app (fun _ _ => ?_) | refine s_mv ?_ | refine s_ms ?_ | refine s_b0 (fun _ => ?_) | ((fail_if_success refine g_lit rfl rfl rfl ?_); first | apply g_partM rfl rfl rfl | apply g_partMB rfl rfl rfl | fail))
      | refine g_seq ?_ | refine g_region ?_ | refine g_nil ?_ | refine g_then_normal ?_ | refine g_block ?_ | refine g_in_normal ?_ | refine g_retc ?_
      | refine g_then_ret ?_ | refine g_in_ret ?_ | refine g_exit ?_ | refine g_then_exit ?_ | refine g_in_exit ?_ | refine g_in_other rfl ?_ | refine g_skip ?_
      | refine g_label ?_ | refine g_cond_true rfl ?_ | refine g_cond_false rfl ?_ | exact s_m | intro _)
    exact g_ret l rfl (by (repeat (first | exact RVs.nil | apply RVs.tmp rfl | apply RVs.cellA rfl (by (repeat (first | exact Sel.here | apply Sel.there)); first | done | fail) (by (repeat (first | exact Cut.zero | apply Cut.take | apply Cut.skip)); first | done | fail) | apply RVs.cell1 rfl (by (repeat (first | exact Sel.here | apply Sel.there)); first | done | fail) rfl)); first | done | fail) (by (repeat (first | exact Take.nil | apply Take.cons | exact Sel.here | apply Sel.there)); first | done | fail) rfl rfl
theorem strRow_at {l : List UInt8} {cap j : Nat} (h : j < l.length) : (strRow ⟨l.toArray⟩ cap)[j]? = some (.int .u8 ((l.getD j 0).toNat : Int)) := by
  unfold strRow
  rw [List.getElem?_append_left (by simpa [cells8] using h)]
  have := cells8_get l j h
  simpa using this
theorem btAt_str {b cap : Nat} {l : List UInt8} {e : TypeId} {fz : Nat × Nat} : BtAt (.row b (strRow ⟨l.toArray⟩ cap) e fz) (some ⟨b, 0, none⟩) l := fun j hj => ⟨b, 0, rfl, by rw [Nat.zero_add]; exact reads_row (strRow_at hj)⟩
theorem btAt_slAt {C : Chunk} {p : Option Addr} {l : List UInt8} (h : BtAt C p l) : SlAt C 1 p l.length (cells8 l) := by
  refine ⟨by simp [cells8], by simp [cells8, Value.oneCell'], fun e => ?_, fun j v hv => ?_⟩
  · rcases Nat.eq_zero_or_pos l.length with h0 | h0
    · exact h0
    · obtain ⟨b, o, e1, _⟩ := h 0 h0
      rw [e] at e1; cases e1
  · have hj : j < l.length := by
      have := (List.getElem?_eq_some_iff.1 hv).1
      simpa [cells8] using this
    obtain ⟨b, o, e1, r⟩ := h j hj
    rw [cells8_get l j hj] at hv
    cases hv
    exact ⟨b, o, e1, r⟩
structure BsX where
  b : Nat
  cap : Nat
  l : List UInt8
abbrev BsX.C (x : BsX) : Chunk := .row x.b (strRow ⟨x.l.toArray⟩ x.cap) 5 ((strRow ⟨x.l.toArray⟩ x.cap).length, (strRow ⟨x.l.toArray⟩ x.cap).length + 1)
theorem bytes (n : Nat) (j : Int) (hn : n ≤ 100000) (hj : 0 ≤ j ∧ j ≤ 1000000) : Does Try.prog 11 [int n, int j] [] (X := BsX) (fun x => .slice (some ⟨x.b, 0, none⟩) x.l.length x.cap) (fun x => [x.C]) (fun x => x.l.length = n ∧ x.l.length ≤ x.cap) := by
  refine fn_intro Try.func11 rfl Try.ntmps11 rfl (by simp only [argFr, Nat.zero_add, Nat.reduceAdd]; rfl) (fun Γ => ?_)
  repeat (first
    | (refine g_ops ?_; first | refine s_q ?_ | refine s_v ?_ | refine s_s ?_ | refine s_n (fun _ => ?_) | refine s_x ?_ | refine s_y ?_ | refine s_mq ?_ | refine s_app (fun _ _ => ?_) | refine s_mv ?_ | refine s_ms ?_ | refine s_b0 (fun _ => ?_) | ((fail_if_success refine g_lit rfl rfl rfl ?_); first | apply g_partM rfl rfl rfl | apply g_partMB rfl rfl rfl | fail) | refine s_c (letters n j hn hj) (fun _ _ => ?_))
    | refine g_seq ?_ | refine g_region ?_ | refine g_nil ?_ | refine g_then_normal ?_ | refine g_block ?_ | refine g_in_normal ?_ | refine g_retc ?_ | refine g_then_ret ?_
    | refine g_in_ret ?_ | refine g_exit ?_ | refine g_then_exit ?_ | refine g_in_exit ?_ | refine g_in_other rfl ?_ | refine g_skip ?_ | refine g_label ?_
    | refine g_cond_true rfl ?_ | refine g_cond_false rfl ?_ | exact s_m | intro _)
  rename_i l hl
  refine g_c (cs_strBytes inferInstance inferInstance inferInstance rfl) rfl rfl (fun x hx => ?_)
  obtain ⟨b, cap⟩ := x
  have hsz : ByteArray.size ⟨l.toArray⟩ = l.length := by simp [ByteArray.size]
  dsimp only at hx ⊢
  rw [hsz] at hx
  rw [hsz]
  repeat (first
    | (refine g_ops ?_; first | refine s_q ?_ | refine s_v ?_ | refine s_s ?_ | refine s_n (fun _ => ?_) | refine s_x ?_ | refine s_y ?_ | refine s_mq ?_ | refine s_app (fun _ _ => ?_) | refine s_mv ?_ | refine s_ms ?_ | refine s_b0 (fun _ => ?_) | ((fail_if_success refine g_lit rfl rfl rfl ?_); first | apply g_partM rfl rfl rfl | apply g_partMB rfl rfl rfl | fail))
    | refine g_seq ?_ | refine g_region ?_ | refine g_nil ?_ | refine g_then_normal ?_ | refine g_block ?_ | refine g_in_normal ?_ | refine g_retc ?_ | refine g_then_ret ?_
    | refine g_in_ret ?_ | refine g_exit ?_ | refine g_then_exit ?_ | refine g_in_exit ?_ | refine g_in_other rfl ?_ | refine g_skip ?_ | refine g_label ?_
    | refine g_cond_true rfl ?_ | refine g_cond_false rfl ?_ | exact s_m | intro _)
  exact g_ret (⟨b, cap, l⟩ : BsX) rfl (by (repeat (first | exact RVs.nil | apply RVs.tmp rfl | apply RVs.cellA rfl (by (repeat (first | exact Sel.here | apply Sel.there)); first | done | fail) (by (repeat (first | exact Cut.zero | apply Cut.take | apply Cut.skip)); first | done | fail) | apply RVs.cell1 rfl (by (repeat (first | exact Sel.here | apply Sel.there)); first | done | fail) rfl)); first | done | fail) (by (repeat (first | exact Take.nil | apply Take.cons | exact Sel.here | apply Sel.there)); first | done | fail) rfl ⟨hl, hx⟩
theorem bytes_eq (q q' : Option Addr) (c c' : Nat) (bs : List UInt8) (hb : bs.length ≤ 1000000) {C : Chunk} (hS : SlAt C 1 q' bs.length (cells8 bs)) : Does1 Try.prog 16 [.slice q bs.length c, .slice q' bs.length c'] [.own q bs.length c 1 (cells8 bs) 5, C] (.bool true) := by
  refine fn_intro Try.func16 rfl Try.ntmps16 rfl (by simp only [argFr, Nat.zero_add, Nat.reduceAdd]; rfl) (fun Γ => ?_)
  refine g_own (n := 1) (xs := cells8 bs) .here (fun _ _ hp => ?_)
  repeat (first
    | (refine g_ops ?_; first | refine s_q ?_ | refine s_v ?_ | refine s_s ?_ | refine s_n (fun _ => ?_) | refine s_x ?_ | refine s_y ?_ | refine s_mq ?_ | refine s_app (fun _ _ => ?_) | refine s_mv ?_ | refine s_ms ?_ | refine s_b0 (fun _ => ?_) | ((fail_if_success refine g_lit rfl rfl rfl ?_); first | apply g_partM rfl rfl rfl | apply g_partMB rfl rfl rfl | fail))
    | refine g_draw (id := 6) (.take 0 (.take 1 (.take 2 (.see 3 [] (.take 4 (.take 5 (.take 6 (.see 7 [] (.take 8 .done))))))))) (by kernel_rfl) (take_all _) (fun k hd hk => ?_)
    | refine g_seq ?_ | refine g_region ?_ | refine g_nil ?_ | refine g_then_normal ?_ | refine g_block ?_ | refine g_in_normal ?_ | refine g_retc ?_ | refine g_then_ret ?_
    | refine g_in_ret ?_ | refine g_exit ?_ | refine g_then_exit ?_ | refine g_in_exit ?_ | refine g_in_other rfl ?_ | refine g_skip ?_ | refine g_label ?_
    | refine g_cond_true rfl ?_ | refine g_cond_false rfl ?_ | exact s_m | intro _ | (refine gp_take ?_; first | refine p_q ?_ | refine p_x ?_ | refine p_mq ?_ | ((fail_if_success refine gp_lit rfl rfl rfl rfl ?_); first | apply gp_guard_dec rfl rfl rfl rfl | apply gp_guard rfl rfl rfl rfl | fail))
    | (refine gp_see ?_; first | refine p_f ?_ | refine p_sx ?_ | ((fail_if_success refine gp_lit rfl rfl rfl rfl ?_); first | apply gp_guard_dec rfl rfl rfl rfl | apply gp_guard rfl rfl rfl rfl | fail) | refine p_sq ?_)
    | (refine gp_one ?_; first | refine p_v ?_ | refine p_s ?_ | refine p_n (fun _ => ?_) | refine p_y ?_ | refine p_app (fun _ _ => ?_) | refine p_mv ?_ | refine p_ms ?_ | refine p_b0 (fun _ => ?_) | ((fail_if_success refine gp_lit rfl rfl rfl rfl ?_); first | apply gp_guard_dec rfl rfl rfl rfl | apply gp_guard rfl rfl rfl rfl | fail))
    | refine gp_two ?_ ?_ | refine gp_done hd hk ?_ | intro _ | refine p_ta hd hk (fun _ _ _ hd hk => ?_) | refine p_ts hd hk (fun _ hd hk => ?_))
  refine g_cond_dec rfl (fun h => absurd rfl h) (fun _ => ?_)
  repeat (first
    | (refine g_ops ?_; first | refine s_q ?_ | refine s_v ?_ | refine s_s ?_ | refine s_n (fun _ => ?_) | refine s_x ?_ | refine s_y ?_ | refine s_mq ?_ | refine s_app (fun _ _ => ?_) | refine s_mv ?_ | refine s_ms ?_ | refine s_b0 (fun _ => ?_) | ((fail_if_success refine g_lit rfl rfl rfl ?_); first | apply g_partM rfl rfl rfl | apply g_partMB rfl rfl rfl | fail))
    | refine g_draw (id := 6) (.take 0 (.take 1 (.take 2 (.see 3 [] (.take 4 (.take 5 (.take 6 (.see 7 [] (.take 8 .done))))))))) (by kernel_rfl) (take_all _) (fun k hd hk => ?_)
    | refine g_seq ?_ | refine g_region ?_ | refine g_nil ?_ | refine g_then_normal ?_ | refine g_block ?_ | refine g_in_normal ?_ | refine g_retc ?_ | refine g_then_ret ?_
    | refine g_in_ret ?_ | refine g_exit ?_ | refine g_then_exit ?_ | refine g_in_exit ?_ | refine g_in_other rfl ?_ | refine g_skip ?_ | refine g_label ?_
    | refine g_cond_true rfl ?_ | refine g_cond_false rfl ?_ | exact s_m | intro _ | (refine gp_take ?_; first | refine p_q ?_ | refine p_x ?_ | refine p_mq ?_ | ((fail_if_success refine gp_lit rfl rfl rfl rfl ?_); first | apply gp_guard_dec rfl rfl rfl rfl | apply gp_guard rfl rfl rfl rfl | fail))
    | (refine gp_see ?_; first | refine p_f ?_ | refine p_sx ?_ | ((fail_if_success refine gp_lit rfl rfl rfl rfl ?_); first | apply gp_guard_dec rfl rfl rfl rfl | apply gp_guard rfl rfl rfl rfl | fail) | refine p_sq ?_)
    | (refine gp_one ?_; first | refine p_v ?_ | refine p_s ?_ | refine p_n (fun _ => ?_) | refine p_y ?_ | refine p_app (fun _ _ => ?_) | refine p_mv ?_ | refine p_ms ?_ | refine p_b0 (fun _ => ?_) | ((fail_if_success refine gp_lit rfl rfl rfl rfl ?_); first | apply gp_guard_dec rfl rfl rfl rfl | apply gp_guard rfl rfl rfl rfl | fail))
    | refine gp_two ?_ ?_ | refine gp_done hd hk ?_ | intro _ | refine p_ta hd hk (fun _ _ _ hd hk => ?_) | refine p_ts hd hk (fun _ hd hk => ?_))
  refine g_loop (X := Nat) (fun i => [(0, .slice q bs.length c), (1, .slice q' bs.length c'), (5, .int .i64 i)]) (fun _ => [.own q bs.length c 1 (cells8 bs) 5, C]) (fun i => i ≤ bs.length) (fun i => bs.length - i) 0 (Nat.zero_le _) (by (repeat (first | exact FrSub.nil | refine FrSub.cons rfl ?_)); first | done | fail) (by (repeat (first | exact Take.nil | apply Take.cons | exact Sel.here | apply Sel.there)); first | done | fail) (fun i hi => ?_)
  repeat (first
    | (refine g_ops ?_; first | refine s_q ?_ | refine s_v ?_ | refine s_s ?_ | refine s_n (fun _ => ?_) | refine s_x ?_ | refine s_y ?_ | refine s_mq ?_ | refine s_app (fun _ _ => ?_) | refine s_mv ?_ | refine s_ms ?_ | refine s_b0 (fun _ => ?_) | ((fail_if_success refine g_lit rfl rfl rfl ?_); first | apply g_partM rfl rfl rfl | apply g_partMB rfl rfl rfl | fail))
    | refine g_draw (id := 6) (.take 0 (.take 1 (.take 2 (.see 3 [] (.take 4 (.take 5 (.take 6 (.see 7 [] (.take 8 .done))))))))) (by kernel_rfl) (take_all _) (fun k hd hk => ?_)
    | refine g_seq ?_ | refine g_region ?_ | refine g_nil ?_ | refine g_then_normal ?_ | refine g_block ?_ | refine g_in_normal ?_ | refine g_retc ?_ | refine g_then_ret ?_
    | refine g_in_ret ?_ | refine g_exit ?_ | refine g_then_exit ?_ | refine g_in_exit ?_ | refine g_in_other rfl ?_ | refine g_skip ?_ | refine g_label ?_
    | refine g_cond_true rfl ?_ | refine g_cond_false rfl ?_ | exact s_m | intro _ | (refine gp_take ?_; first | refine p_q ?_ | refine p_x ?_ | refine p_mq ?_ | ((fail_if_success refine gp_lit rfl rfl rfl rfl ?_); first | apply gp_guard_dec rfl rfl rfl rfl | apply gp_guard rfl rfl rfl rfl | fail))
    | (refine gp_see ?_; first | refine p_f ?_ | refine p_sx ?_ | ((fail_if_success refine gp_lit rfl rfl rfl rfl ?_); first | apply gp_guard_dec rfl rfl rfl rfl | apply gp_guard rfl rfl rfl rfl | fail) | refine p_sq ?_)
    | (refine gp_one ?_; first | refine p_v ?_ | refine p_s ?_ | refine p_n (fun _ => ?_) | refine p_y ?_ | refine p_app (fun _ _ => ?_) | refine p_mv ?_ | refine p_ms ?_ | refine p_b0 (fun _ => ?_) | ((fail_if_success refine gp_lit rfl rfl rfl rfl ?_); first | apply gp_guard_dec rfl rfl rfl rfl | apply gp_guard rfl rfl rfl rfl | fail))
    | refine gp_two ?_ ?_ | refine gp_done hd hk ?_ | intro _ | refine p_ta hd hk (fun _ _ _ hd hk => ?_) | refine p_ts hd hk (fun _ hd hk => ?_))
  refine g_cond_dec rfl (fun h => ?_) (fun h => ?_)
  · have hi' : i < bs.length := by omega
    obtain ⟨b, rfl⟩ := hp (by omega)
    obtain ⟨b', o', rfl, hq⟩ := hS.reads i _ (cells8_get bs i hi')
    have hr : ∀ j, j = i → Reads (.own (some ⟨b, 0, none⟩) bs.length c 1 (cells8 bs) 5) ⟨b, 0 + j, none⟩ (.int .u8 ((bs.getD i 0).toNat : Int)) := fun j e => by
      subst e; rw [Nat.zero_add]; exact reads_own (cells8_get bs _ hi')
    have hr2 : ∀ j, j = i → Reads C ⟨b', o' + j, none⟩ (.int .u8 ((bs.getD i 0).toNat : Int)) := fun j e => by
      subst e; exact hq
    generalize (bs.getD i 0).toNat = x at hr hr2
    repeat (first
      | (refine g_ops ?_; first | refine s_q ?_ | refine s_v ?_ | refine s_s ?_ | refine s_n (fun _ => ?_) | refine s_x ?_ | refine s_y ?_ | refine s_mq ?_ | refine s_app (fun _ _ => ?_) | refine s_mv ?_ | refine s_ms ?_ | refine s_b0 (fun _ => ?_) | ((fail_if_success refine g_lit rfl rfl rfl ?_); first | apply g_partM rfl rfl rfl | apply g_partMB rfl rfl rfl | fail))
      | refine g_draw (id := 6) (.take 0 (.take 1 (.take 2 (.see 3 [] (.take 4 (.take 5 (.take 6 (.see 7 [] (.take 8 .done))))))))) (by kernel_rfl) (take_all _) (fun k hd hk => ?_)
      | refine g_seq ?_ | refine g_region ?_ | refine g_nil ?_ | refine g_then_normal ?_ | refine g_block ?_ | refine g_in_normal ?_ | refine g_retc ?_
      | refine g_then_ret ?_ | refine g_in_ret ?_ | refine g_exit ?_ | refine g_then_exit ?_ | refine g_in_exit ?_ | refine g_in_other rfl ?_ | refine g_skip ?_
      | refine g_label ?_ | refine g_cond_true rfl ?_ | refine g_cond_false rfl ?_ | exact s_m | intro _ | (refine gp_take ?_; first | refine p_q ?_ | refine p_x ?_ | refine p_mq ?_ | ((fail_if_success refine gp_lit rfl rfl rfl rfl ?_); first | apply gp_guard_dec rfl rfl rfl rfl | apply gp_guard rfl rfl rfl rfl | fail))
      | (refine gp_see ?_; first | refine p_f ?_ | refine p_sx ?_ | ((fail_if_success refine gp_lit rfl rfl rfl rfl ?_); first | apply gp_guard_dec rfl rfl rfl rfl | apply gp_guard rfl rfl rfl rfl | fail) | refine p_sq ?_)
      | (refine gp_one ?_; first | refine p_v ?_ | refine p_s ?_ | refine p_n (fun _ => ?_) | refine p_y ?_ | refine p_app (fun _ _ => ?_) | refine p_mv ?_ | refine p_ms ?_ | refine p_b0 (fun _ => ?_) | ((fail_if_success refine gp_lit rfl rfl rfl rfl ?_); first | apply gp_guard_dec rfl rfl rfl rfl | apply gp_guard rfl rfl rfl rfl | fail))
      | refine gp_two ?_ ?_ | refine gp_done hd hk ?_ | intro _ | refine p_ta hd hk (fun _ _ _ hd hk => ?_) | refine p_ts hd hk (fun _ hd hk => ?_))
    refine g_cond_dec rfl (fun h => absurd rfl h) (fun _ => ?_)
    repeat (first
      | (refine g_ops ?_; first | refine s_q ?_ | refine s_v ?_ | refine s_s ?_ | refine s_n (fun _ => ?_) | refine s_x ?_ | refine s_y ?_ | refine s_mq ?_ | refine s_app (fun _ _ => ?_) | refine s_mv ?_ | refine s_ms ?_ | refine s_b0 (fun _ => ?_) | ((fail_if_success refine g_lit rfl rfl rfl ?_); first | apply g_partM rfl rfl rfl | apply g_partMB rfl rfl rfl | fail))
      | refine g_draw (id := 6) (.take 0 (.take 1 (.take 2 (.see 3 [] (.take 4 (.take 5 (.take 6 (.see 7 [] (.take 8 .done))))))))) (by kernel_rfl) (take_all _) (fun k hd hk => ?_)
      | refine g_seq ?_ | refine g_region ?_ | refine g_nil ?_ | refine g_then_normal ?_ | refine g_block ?_ | refine g_in_normal ?_ | refine g_retc ?_
      | refine g_then_ret ?_ | refine g_in_ret ?_ | refine g_exit ?_ | refine g_then_exit ?_ | refine g_in_exit ?_ | refine g_in_other rfl ?_ | refine g_skip ?_
      | refine g_label ?_ | refine g_cond_true rfl ?_ | refine g_cond_false rfl ?_ | exact s_m | intro _ | (refine gp_take ?_; first | refine p_q ?_ | refine p_x ?_ | refine p_mq ?_ | ((fail_if_success refine gp_lit rfl rfl rfl rfl ?_); first | apply gp_guard_dec rfl rfl rfl rfl | apply gp_guard rfl rfl rfl rfl | fail))
      | (refine gp_see ?_; first | refine p_f ?_ | refine p_sx ?_ | ((fail_if_success refine gp_lit rfl rfl rfl rfl ?_); first | apply gp_guard_dec rfl rfl rfl rfl | apply gp_guard rfl rfl rfl rfl | fail) | refine p_sq ?_)
      | (refine gp_one ?_; first | refine p_v ?_ | refine p_s ?_ | refine p_n (fun _ => ?_) | refine p_y ?_ | refine p_app (fun _ _ => ?_) | refine p_mv ?_ | refine p_ms ?_ | refine p_b0 (fun _ => ?_) | ((fail_if_success refine gp_lit rfl rfl rfl rfl ?_); first | apply gp_guard_dec rfl rfl rfl rfl | apply gp_guard rfl rfl rfl rfl | fail))
      | refine gp_two ?_ ?_ | refine gp_done hd hk ?_ | intro _ | refine p_ta hd hk (fun _ _ _ hd hk => ?_) | refine p_ts hd hk (fun _ hd hk => ?_))
    exact g_again (i + 1) (by omega) hi' (by (repeat (first | exact FrSub.nil | refine FrSub.cons rfl ?_)); first | done | fail) (by (repeat (first | exact Take.nil | apply Take.cons | exact Sel.here | apply Sel.there)); first | done | fail)
  · repeat (first
      | (refine g_ops ?_; first | refine s_q ?_ | refine s_v ?_ | refine s_s ?_ | refine s_n (fun _ => ?_) | refine s_x ?_ | refine s_y ?_ | refine s_mq ?_ | refine s_app (fun _ _ => ?_) | refine s_mv ?_ | refine s_ms ?_ | refine s_b0 (fun _ => ?_) | ((fail_if_success refine g_lit rfl rfl rfl ?_); first | apply g_partM rfl rfl rfl | apply g_partMB rfl rfl rfl | fail))
      | refine g_draw (id := 6) (.take 0 (.take 1 (.take 2 (.see 3 [] (.take 4 (.take 5 (.take 6 (.see 7 [] (.take 8 .done))))))))) (by kernel_rfl) (take_all _) (fun k hd hk => ?_)
      | refine g_seq ?_ | refine g_region ?_ | refine g_nil ?_ | refine g_then_normal ?_ | refine g_block ?_ | refine g_in_normal ?_ | refine g_retc ?_
      | refine g_then_ret ?_ | refine g_in_ret ?_ | refine g_exit ?_ | refine g_then_exit ?_ | refine g_in_exit ?_ | refine g_in_other rfl ?_ | refine g_skip ?_
      | refine g_label ?_ | refine g_cond_true rfl ?_ | refine g_cond_false rfl ?_ | exact s_m | intro _ | (refine gp_take ?_; first | refine p_q ?_ | refine p_x ?_ | refine p_mq ?_ | ((fail_if_success refine gp_lit rfl rfl rfl rfl ?_); first | apply gp_guard_dec rfl rfl rfl rfl | apply gp_guard rfl rfl rfl rfl | fail))
      | (refine gp_see ?_; first | refine p_f ?_ | refine p_sx ?_ | ((fail_if_success refine gp_lit rfl rfl rfl rfl ?_); first | apply gp_guard_dec rfl rfl rfl rfl | apply gp_guard rfl rfl rfl rfl | fail) | refine p_sq ?_)
      | (refine gp_one ?_; first | refine p_v ?_ | refine p_s ?_ | refine p_n (fun _ => ?_) | refine p_y ?_ | refine p_app (fun _ _ => ?_) | refine p_mv ?_ | refine p_ms ?_ | refine p_b0 (fun _ => ?_) | ((fail_if_success refine gp_lit rfl rfl rfl rfl ?_); first | apply gp_guard_dec rfl rfl rfl rfl | apply gp_guard rfl rfl rfl rfl | fail))
      | refine gp_two ?_ ?_ | refine gp_done hd hk ?_ | intro _ | refine p_ta hd hk (fun _ _ _ hd hk => ?_) | refine p_ts hd hk (fun _ hd hk => ?_))
    exact g_ret () rfl (by (repeat (first | exact RVs.nil | apply RVs.tmp rfl | apply RVs.cellA rfl (by (repeat (first | exact Sel.here | apply Sel.there)); first | done | fail) (by (repeat (first | exact Cut.zero | apply Cut.take | apply Cut.skip)); first | done | fail) | apply RVs.cell1 rfl (by (repeat (first | exact Sel.here | apply Sel.there)); first | done | fail) rfl)); first | done | fail) (by (repeat (first | exact Take.nil | apply Take.cons | exact Sel.here | apply Sel.there)); first | done | fail) rfl trivial
end Go.Proofs.Ytfjkfcfmbipfhaa

namespace Go.Proofs.Ytfjkfcfmbipfhaa
open Go.Sl facts
attribute [local irreducible] Code.wp wpList Exit.then Exit.inBlock bodyPost Back MidQ G GP QStep VStep CStep SStep Does Post Reads
def IntsAt (C : Chunk) (p : Option Addr) (l : List Int) : Prop := ∀ (i : Nat) (x : Int), l[i]? = some x → inI x ∧ ∃ b o, p = some ⟨b, o, none⟩ ∧ Reads C ⟨b, o + i, none⟩ (int x)
theorem IntsAt.pick {C : Chunk} {p : Option Addr} {l : List Int} (h : IntsAt C p l) : PickAt C p l.length (l.headD 0) := fun hl => by
  cases l with
  | nil => simp at hl
  | cons x r =>
    obtain ⟨h1, b, o, h2, h3⟩ := h 0 x rfl
    exact ⟨h1, b, o, h2, h3⟩
end Go.Proofs.Ytfjkfcfmbipfhaa

namespace Go.Sl
variable {P : Program} {Γ : Ctx} {L R : List Chunk} {N : Nat} {fr : Fr} {Q : Exit → Act → World → Prop} {ops : Array Oper} {rest : List Oper}
variable {d : Nat} {ty : TypeId} {pos : String} {aft : Array Edge} {gd : Option (Nat × Bool)} {x y z : Operand} {v u : Value} {t t2 tx : TypeId}
theorem vs_appendNone {e n len cap c' : Nat} {p p' : Option Addr} (D : TDesc P t (.slice e)) (D2 : TDesc P tx (.slice e)) (S : TSize P e n) (hx : ev fr x = some (.slice p len cap)) (hy : ev fr y = some (.slice p' 0 c')) (hle : len ≤ cap) :
    VStep P Γ fr L ⟨some d, .call ⟨.builtin .append, [x, y].toArray, [t, tx].toArray⟩, ty, pos, aft, gd⟩ (.slice p len cap) := vs_of (fun a w hf hh => by
  cases hi : P.info? e with
  | none => have := S.size; simp [hi] at this
  | some i =>
    have hs := run_append_nothing w t tx ty e i D.desc hi p len cap hle (.slice p' 0 c') (srcNil D2 w hh)
    simp [execOp, resolve, hf.ev hx, hf.ev hy, invoke, builtin_append', hs])
theorem qs_slice3 {e : TypeId} {p : Option Addr} {len cap n l h m : Nat} {x1 x2 x3 : Operand} {i1 i2 i3 : Int} (D : TDesc P t (.slice e)) (S : TSize P e n) (hx : ev fr x = some (.slice p len cap)) (g1 : ev fr x1 = some (.int .i64 i1)) (g2 : ev fr x2 = some (.int .i64 i2)) (g3 : ev fr x3 = some (.int .i64 i3))
    (e1 : i1 = l) (e2 : i2 = h) (e3 : i3 = m) (h1 : l ≤ h) (h2 : h ≤ m) (h3 : m ≤ cap) :
    QStep P Γ fr ⟨some d, .slice t x (some x1) (some x2) (some x3), ty, pos, aft, gd⟩ (.slice (if m = l then p else p.map (·.add (l * n))) (h - l) (m - l)) := qs_of (fun a w hf => by
  subst e1 e2 e3
  have hsz := run_sizeOf' (P := P) (t := e) S.size w
  have e3 : (Instr.sliceBounds true len cap (some (.int .i64 l)) (some (.int .i64 h)) (some (.int .i64 m))).run P w = .ok (l, h, m) w := by simp [Instr.sliceBounds, run_sliceBound, h1, h2, h3]
  simp only [execOp, hf.ev hx, Option.map_some, hf.ev g1, hf.ev g2, hf.ev g3, Instr.sliceAt, Instr.slice, Sem.run_bind, run_underlying D.desc, Result.andThen_ok, e3, hsz, Sem.run_pure])
theorem ss_clear {e : TypeId} {b len cap c' : Nat} {xs : List Value} {zv : Value} (D : TDesc P t (.slice e)) (Z : TZero P e zv) (hz : zv.cells = #[zv]) (h1 : zv.oneCell' = true) (hx : ev fr x = some (.slice (some ⟨b, 0, none⟩) len c')) (hl : 0 < len) (s : Sel L (.own (some ⟨b, 0, none⟩) len cap 1 xs e) R) :
    SStep P Γ fr L ⟨none, .call ⟨.builtin .clear, [x].toArray, [t].toArray⟩, ty, pos, aft, gd⟩ (.own (some ⟨b, 0, none⟩) len cap 1 (List.replicate len zv) e :: R) := fun a hf w hh => by
  have hpl := (own_place hh s).1
  rw [Nat.mul_one] at hpl
  obtain ⟨junk, ⟨_, ho⟩, e3, e4, hrow⟩ := hh.ownRow s (by omega)
  have hb := hrow.block .here
  have hone : ∀ v ∈ List.replicate len zv, v.oneCell' = true := fun v hv => by rw [List.eq_of_mem_replicate hv]; exact h1
  have hcl := Lib.run_clear_slice w t e ty zv D.desc (fun w => run_zeroValue' Z.zero w) hz h1 b 0 len c' hl (fun j hj => by
    have : j < (xs ++ junk).length := by simp only [List.length_append]; omega
    simp only [Nat.zero_add, World.cell?, hb, List.getElem?_toArray]
    simp [List.getElem?_eq_getElem this]) (fun j hj => by simp [World.frozen?, hb])
  rw [setCells_row (o := 0) (vs := List.replicate len zv) hb (by simp; omega) hone] at hcl
  have hr : (execOp a.eval ⟨none, .call ⟨.builtin .clear, [x].toArray, [t].toArray⟩, ty, pos, aft, gd⟩).run P w = .ok (.value (.tuple #[])) (w.setRow b ((xs ++ junk).take 0 ++ List.replicate len zv ++ (xs ++ junk).drop (0 + (List.replicate len zv).length)).toArray) := by
    have hb' : ∀ {ats : Array TypeId} {cs : Array Bool} {args : Array Value}, builtin .clear ats ty cs args = (do pure (.value (← Builtin.clear_ ats ty args))) := rfl
    simp only [execOp, resolve, hf.ev hx, List.map_toArray, List.map_cons, List.map_nil, Sem.run_bind, Sem.run_pure, Result.andThen_ok, invoke, hb', hcl]
  unfold opRes
  rw [hr]
  have hset := hrow.setRow (ys := (xs ++ junk).take 0 ++ List.replicate len zv ++ (xs ++ junk).drop (0 + (List.replicate len zv).length)) .here
  refine hset.mono fun h ⟨k1, k2, dj', t1, t2, hc', hr'⟩ => ⟨k1, k2, dj', t1, t2, ⟨⟨by simp, List.all_eq_true.2 hone⟩, .inr ⟨b, junk, rfl, e3, e4, ?_⟩⟩, hr'⟩
  have hc'' : k1 b = some (.cells ((xs ++ junk).take 0 ++ List.replicate len zv ++ (xs ++ junk).drop (0 + (List.replicate len zv).length)).toArray e (0, 0)) := hc'
  rw [hc'']
  congr 2
  simp [← hpl]
end Go.Sl


namespace Go.Sl
theorem sel_mid {α : Type} (x : α) (B : List α) : ∀ A : List α, Sel (A ++ x :: B) x (A ++ B)
  | [] => .here
  | _ :: A => .there (sel_mid x B A)
theorem take_mid {α : Type} (B : List α) : ∀ (X A : List α), Take (A ++ (X ++ B)) X (A ++ B)
  | [], A => .nil
  | x :: X, A => .cons (sel_mid x (X ++ B) A) (take_mid B X A)
theorem all_out {A X B : List Chunk} {h : HP} (a : All (A ++ (X ++ B)) h) : All (X ++ (A ++ B)) h := a.take (take_mid B X A)
theorem all_in {A X B : List Chunk} {h : HP} (a : All (X ++ (A ++ B)) h) : All (A ++ (X ++ B)) h := a.take (take_mid B A X)
theorem all_pack {X R : List Chunk} {h : HP} (a : All (X ++ R) h) : All (.asn (All X) :: R) h := by
  obtain ⟨h1, h2, d, s1, s2, ha, hr⟩ := all_append.1 a
  exact ⟨h1, h2, d, s1, s2, ha, hr⟩
theorem all_unpack {X R : List Chunk} {h : HP} (a : All (.asn (All X) :: R) h) : All (X ++ R) h := by
  obtain ⟨h1, h2, d, s1, s2, ha, hr⟩ := a
  exact all_append.2 ⟨h1, h2, d, s1, s2, ha, hr⟩
theorem does_same {P : Program} {f : FuncId} {args : List Value} {v : Value} {A A' : List Chunk} (d : Does1 P f args A v) (h1 : ∀ h, All A' h → All A h) (h2 : ∀ h, All A h → All A' h) : Does1 P f args A' v := fun Γ w hh =>
  (d Γ w (hh.mono h1)).mono fun e w' ⟨x, hx, he, hB⟩ => ⟨x, hx, he, hB.mono h2⟩
theorem g_conv {Γ : Ctx} {N : Nat} {fr : Fr} {L L' A R : List Chunk} {φ : Act → World → Prop} (t : Take L A R) (c : ∀ h, All (A ++ R) h → All L' h) (g : G Γ N fr L' φ) : G Γ N fr L φ := fun a w hN hd hf hh =>
  g a w hN hd hf ((hh.take t).mono c)
end Go.Sl
namespace Go.Proofs.Ytfjkfcfmbipfhaa
open Go.Sl facts
attribute [local irreducible] Code.wp wpList Exit.then Exit.inBlock bodyPost Back MidQ G GP QStep VStep CStep SStep Does Post Reads
structure Fi where
  f : Nat
  nm : ByteArray
  sp : Option Addr
  safe : List UInt8
  sc : Nat
  lp : Option Addr
  loose : List UInt8
  lc : Nat
abbrev Fi.L (x : Fi) : List Chunk := [frow x.f x.nm x.sp x.safe.length x.sc x.lp x.loose.length x.lc, .own x.sp x.safe.length x.sc 1 (cells8 x.safe) 5, .own x.lp x.loose.length x.lc 1 (cells8 x.loose) 5]
abbrev Bag (fs : List Fi) : Chunk := .asn (All (fs.flatMap Fi.L))
theorem bag_out {A B : List Fi} {x : Fi} {R : List Chunk} {h : HP} (a : All (Bag (A ++ x :: B) :: R) h) : All (x.L ++ (Bag (A ++ B) :: R)) h := by
  have a1 := all_unpack a
  simp only [List.flatMap_append, List.flatMap_cons, List.append_assoc] at a1
  have a2 := all_out (A := A.flatMap Fi.L) (X := x.L) (B := B.flatMap Fi.L ++ R) a1
  have a3 : All (x.L ++ ((A ++ B).flatMap Fi.L ++ R)) h := by simpa only [List.flatMap_append, List.append_assoc] using a2
  obtain ⟨h1, h2, d, s1, s2, ha, hr⟩ := all_append.1 a3
  exact all_append.2 ⟨h1, h2, d, s1, s2, ha, all_pack hr⟩
theorem bag_in {A B : List Fi} {x : Fi} {R : List Chunk} {h : HP} (a : All (x.L ++ (Bag (A ++ B) :: R)) h) : All (Bag (A ++ x :: B) :: R) h := by
  obtain ⟨h1, h2, d, s1, s2, ha, hr⟩ := all_append.1 a
  have a3 := all_append.2 ⟨h1, h2, d, s1, s2, ha, all_unpack hr⟩
  have a2 : All (x.L ++ (A.flatMap Fi.L ++ (B.flatMap Fi.L ++ R))) h := by simpa only [List.flatMap_append, List.append_assoc] using a3
  have a1 := all_in (A := A.flatMap Fi.L) (X := x.L) (B := B.flatMap Fi.L ++ R) a2
  refine all_pack ?_
  simpa only [List.flatMap_append, List.flatMap_cons, List.append_assoc] using a1
theorem does_bag {f : FuncId} {args : List Value} {v : Value} {A B : List Fi} {x : Fi} (d : Does1 Try.prog f args [frow x.f x.nm x.sp x.safe.length x.sc x.lp x.loose.length x.lc] v) : Does1 Try.prog f args [Bag (A ++ x :: B)] v := by
  refine does_same (A := [frow x.f x.nm x.sp x.safe.length x.sc x.lp x.loose.length x.lc] ++ ([.own x.sp x.safe.length x.sc 1 (cells8 x.safe) 5, .own x.lp x.loose.length x.lc 1 (cells8 x.loose) 5] ++ [Bag (A ++ B)])) (Does.frame d _) (fun h a => ?_) (fun h a => ?_)
  · exact bag_out a
  · exact bag_in (x := x) (A := A) (B := B) a
theorem g_bagIn {Γ : Ctx} {N : Nat} {fr : Fr} {L R : List Chunk} {φ : Act → World → Prop} (A B : List Fi) (x : Fi) (t : Take L (x.L ++ [Bag (A ++ B)]) R) (g : G Γ N fr (Bag (A ++ x :: B) :: R) φ) : G Γ N fr L φ :=
  g_conv t (fun _ h => bag_in h) g
end Go.Proofs.Ytfjkfcfmbipfhaa
