/- Contracts: AppendInt. -/
import Derived.Test.YtpilcncdgjnbeaaDoorValI
import Derived.Test.YtpilcncdgjnbeaaDoorShelf
import Derived.Lib.ItoaMem
import Derived.Shelf.Strconv.Itoa1
set_option linter.unusedSimpArgs false
set_option linter.unusedVariables false
namespace Go.Proofs.YtpilcncdgjnbeaaDoor
open Go.Sl
theorem small (i : Nat) (h : i < 100) : Does1 Tryd.prog 108 [int i] [] (.string ⟨(Lib.decDigits i).toArray⟩) := fun Γ w hh =>
  (Any.internal_strconv_small Tryd.laysNm283 i h w).mono fun e w' ⟨h1, h2⟩ => by subst h1 h2; exact ⟨(), trivial, rfl, hh⟩
theorem nd20 (u : Nat) (h : u < 18446744073709551616) : Lib.nDigits u ≤ 20 := by
  by_cases h1 : 1 ≤ u
  · have := Lib.numDigits_eq u h1 h
    split at this <;> omega
  · obtain rfl : u = 0 := by omega
    rw [Lib.nDigits_small (by omega)]; omega
theorem fmt (b u : Nat) (e : TypeId) (h64 : u < 18446744073709551616) : Does Tryd.prog 110 [.slice (some ⟨b, 0, none⟩) (Lib.nDigits u) 24, .int .u64 u] [.row b (List.replicate 24 (.int .u8 0)) e] (X := Unit) (fun _ => .tuple #[])
    (fun _ => [.row b (cells8 (Lib.decDigits u) ++ List.replicate (24 - Lib.nDigits u) (.int .u8 0)) e]) (fun _ => True) := fun Γ w hh => by
  have hb := hh.block .here
  have hnd := nd20 u h64
  have hlen := Lib.decDigits_length u
  have hH : Go.Sort.Holds (fun (b : UInt8) => Value.int .u8 (b.toNat : Int)) w b 0 (Array.replicate (Lib.nDigits u) 0) := fun j hj => by
    rw [Array.size_replicate] at hj
    refine ⟨?_, by simp [World.frozen?, hb]⟩
    have : (Array.replicate (Lib.nDigits u) (0 : UInt8))[j]! = 0 := by
      rw [getElem!_pos _ j (by simpa using hj)]; simp
    rw [this]
    simp only [World.cell?, hb, Nat.zero_add]
    simp only [Option.isSome_none, Bool.false_eq_true, if_false]
    rw [List.getElem?_toArray, List.getElem?_replicate, if_pos (by omega)]
    rfl
  have hc := Any.internal_strconv_formatBase10 Tryd.laysNm285 b 0 24 u (Array.replicate (Lib.nDigits u) 0) w hH (by rw [Array.size_replicate]; exact Lib.lt_pow_nDigits u) h64 (by rw [Array.size_replicate]; omega)
  rw [Array.size_replicate] at hc
  refine hc.mono ?_
  rintro e' w' ⟨rfl, n, v', dk, rfl, hF⟩
  refine ⟨(), trivial, rfl, ?_⟩
  refine hh.update .here rfl rfl rfl ?_ rfl (fun c hc => ?_)
  · show (Array.modify w.heap b _)[b]? = _
    rw [Array.getElem?_modify, if_pos rfl, hb]
    simp only [Option.map_some, Go.Sort.onCells, Option.some.injEq, Obj.cells.injEq, and_self, and_true]
    apply Array.ext_getElem?
    intro j
    simp only [Go.Sort.putCells, Array.getElem?_mapIdx, List.getElem?_toArray, hF.size, Nat.zero_le, true_and, Nat.zero_add, Nat.sub_zero]
    by_cases hj : j < 24
    · rw [List.getElem?_replicate, if_pos hj]
      simp only [Option.map_some]
      by_cases hj2 : j < Lib.nDigits u
      · have hj3 : j < (Lib.decDigits u).length := by omega
        rw [if_pos hj2, List.getElem?_append_left (by rw [cells8_len]; exact hj3), ← Lib.row_is_numeral hF j hj3]
        simp [cells8, hj3]
      · rw [if_neg hj2, List.getElem?_append_right (by rw [cells8_len]; omega), cells8_len, List.getElem?_replicate, if_pos (by omega)]
    · rw [List.getElem?_replicate, if_neg hj, List.getElem?_eq_none (by rw [List.length_append, cells8_len, List.length_replicate]; omega)]
      rfl
  · show (Array.modify w.heap b _)[c]? = _
    rw [Array.getElem?_modify, if_neg (Ne.symm hc)]
end Go.Proofs.YtpilcncdgjnbeaaDoor
namespace Go.Proofs.YtpilcncdgjnbeaaDoor
open Go.Sl facts
attribute [local irreducible] Code.wp wpList Exit.then Exit.inBlock bodyPost Back MidQ G GP QStep VStep CStep SStep Does Post Reads
theorem srcL {P : Program} {Γ : Ctx} {L : List Chunk} {tx : TypeId} {l : List UInt8} (D : TDesc P tx .string) : SrcIs P Γ L 1 tx (.string ⟨l.toArray⟩) l.length (cells8 l) := srcString (s := ⟨l.toArray⟩) D
theorem cells8_one' (l : List UInt8) : (cells8 l).all (·.oneCell') = true := by simp [cells8, Value.oneCell']
theorem zeros24 : ([(.int .u8 0), (.int .u8 0), (.int .u8 0), (.int .u8 0), (.int .u8 0), (.int .u8 0), (.int .u8 0), (.int .u8 0), (.int .u8 0), (.int .u8 0), (.int .u8 0), (.int .u8 0), (.int .u8 0), (.int .u8 0), (.int .u8 0), (.int .u8 0), (.int .u8 0), (.int .u8 0), (.int .u8 0), (.int .u8 0), (.int .u8 0), (.int .u8 0), (.int .u8 0), (.int .u8 0)] : List Value) = List.replicate 24 (.int .u8 0) := rfl
theorem appendUint {H : HP} (hT : Tb H) (q : Option Addr) (c : Nat) (bs : List UInt8) (u : Nat) (h64 : u < 18446744073709551616) (hl : bs.length ≤ 1000000000000) : Does Tryd.prog 93 [bV q c bs, .int .u64 u, int 10] [bO q c bs, Pile H] (X := BX) (fun y => bV y.q y.c (bs ++ Lib.decDigits u)) (fun y => [bO y.q y.c (bs ++ Lib.decDigits u), Pile H]) (fun _ => True) := by
  have hlen := Lib.decDigits_length u
  have hnd := nd20 u h64
  refine fn_intro Tryd.func93 rfl Tryd.ntmps93 rfl (by simp only [argFr, Nat.zero_add, Nat.reduceAdd]; rfl) (fun Γ => ?_)
  repeat (first
    | (refine g_ops ?_; first | refine s_q ?_ | refine s_v ?_ | refine s_s ?_ | refine s_n (fun _ => ?_) | refine s_x ?_ | refine s_y ?_ | refine s_iq ?_ | refine s_mq ?_ | refine s_app (fun _ _ => ?_) | refine s_mv ?_ | refine s_ms ?_ | refine s_b0 (fun _ => ?_) | ((fail_if_success refine g_lit rfl rfl rfl ?_); first | apply g_partM rfl rfl rfl | apply g_partMB rfl rfl rfl | fail))
    | refine g_seq ?_ | refine g_region ?_ | refine g_nil ?_ | refine g_then_normal ?_ | refine g_block ?_ | refine g_in_normal ?_ | refine g_retc ?_ | refine g_then_ret ?_
    | refine g_in_ret ?_ | refine g_exit ?_ | refine g_then_exit ?_ | refine g_in_exit ?_ | refine g_in_other rfl ?_ | refine g_skip ?_ | refine g_label ?_
    | refine g_cond_true rfl ?_ | refine g_cond_false rfl ?_ | exact s_m | intro _)
  refine g_cond_dec rfl (fun h1 => ?_) (fun h1 => ?_)
  · have hs := small u (by omega)
    repeat (first
      | (refine g_ops ?_; first | refine s_q ?_ | refine s_v ?_ | refine s_s ?_ | refine s_n (fun _ => ?_) | refine s_x ?_ | refine s_y ?_ | refine s_iq ?_ | refine s_mq ?_ | refine s_app (fun _ _ => ?_) | refine s_mv ?_ | refine s_ms ?_ | refine s_b0 (fun _ => ?_) | ((fail_if_success refine g_lit rfl rfl rfl ?_); first | apply g_partM rfl rfl rfl | apply g_partMB rfl rfl rfl | fail))
      | refine g_seq ?_ | refine g_region ?_ | refine g_nil ?_ | refine g_then_normal ?_ | refine g_block ?_ | refine g_in_normal ?_ | refine g_retc ?_
      | refine g_then_ret ?_ | refine g_in_ret ?_ | refine g_exit ?_ | refine g_then_exit ?_ | refine g_in_exit ?_ | refine g_in_other rfl ?_ | refine g_skip ?_
      | refine g_label ?_ | refine g_cond_true rfl ?_ | refine g_cond_false rfl ?_ | exact s_m | intro _)
    refine s_q (q := by exact qs_convInt rfl) ?_
    refine g_as 15 (v' := int (u : Nat)) rfl (congrArg (Value.int .i64) (IntWalk.i64_in _ ⟨by omega, by omega⟩)) ?_
    repeat (first
      | (refine g_ops ?_; first | refine s_q ?_ | refine s_v ?_ | refine s_s ?_ | refine s_n (fun _ => ?_) | refine s_x ?_ | refine s_y ?_ | refine s_iq ?_ | refine s_mq ?_ | refine s_app (fun _ _ => ?_) | refine s_mv ?_ | refine s_ms ?_ | refine s_b0 (fun _ => ?_) | ((fail_if_success refine g_lit rfl rfl rfl ?_); first | apply g_partM rfl rfl rfl | apply g_partMB rfl rfl rfl | fail) | refine s_p (hs) ?_)
      | refine g_seq ?_ | refine g_region ?_ | refine g_nil ?_ | refine g_then_normal ?_ | refine g_block ?_ | refine g_in_normal ?_ | refine g_retc ?_
      | refine g_then_ret ?_ | refine g_in_ret ?_ | refine g_exit ?_ | refine g_then_exit ?_ | refine g_in_exit ?_ | refine g_in_other rfl ?_ | refine g_skip ?_
      | refine g_label ?_ | refine g_cond_true rfl ?_ | refine g_cond_false rfl ?_ | exact s_m | intro _)
    refine s_appB (news := Lib.decDigits u) (fun q' c' => ?_) (src := by exact srcL inferInstance)
    repeat (first
      | (refine g_ops ?_; first | refine s_q ?_ | refine s_v ?_ | refine s_s ?_ | refine s_n (fun _ => ?_) | refine s_x ?_ | refine s_y ?_ | refine s_iq ?_ | refine s_mq ?_ | refine s_app (fun _ _ => ?_) | refine s_mv ?_ | refine s_ms ?_ | refine s_b0 (fun _ => ?_) | ((fail_if_success refine g_lit rfl rfl rfl ?_); first | apply g_partM rfl rfl rfl | apply g_partMB rfl rfl rfl | fail))
      | refine g_seq ?_ | refine g_region ?_ | refine g_nil ?_ | refine g_then_normal ?_ | refine g_block ?_ | refine g_in_normal ?_ | refine g_retc ?_
      | refine g_then_ret ?_ | refine g_in_ret ?_ | refine g_exit ?_ | refine g_then_exit ?_ | refine g_in_exit ?_ | refine g_in_other rfl ?_ | refine g_skip ?_
      | refine g_label ?_ | refine g_cond_true rfl ?_ | refine g_cond_false rfl ?_ | exact s_m | intro _)
    exact g_ret (⟨q', c'⟩ : BX) rfl (by (repeat (first | exact RVs.nil | apply RVs.tmp rfl | apply RVs.cellA rfl (by (repeat (first | exact Sel.here | apply Sel.there)); first | done | fail) (by (repeat (first | exact Cut.zero | apply Cut.take | apply Cut.skip)); first | done | fail) | apply RVs.cell1 rfl (by (repeat (first | exact Sel.here | apply Sel.there)); first | done | fail) rfl)); first | done | fail) (by (repeat (first | exact Take.nil | apply Take.cons | exact Sel.here | apply Sel.there)); first | done | fail) rfl trivial
  · have hn := hT.nd u (by omega) h64
    repeat (first
      | (refine g_ops ?_; first | refine s_q ?_ | refine s_v ?_ | refine s_s ?_ | refine s_n (fun _ => ?_) | refine s_x ?_ | refine s_y ?_ | refine s_iq ?_ | refine s_mq ?_ | refine s_app (fun _ _ => ?_) | refine s_mv ?_ | refine s_ms ?_ | refine s_b0 (fun _ => ?_) | ((fail_if_success refine g_lit rfl rfl rfl ?_); first | apply g_partM rfl rfl rfl | apply g_partMB rfl rfl rfl | fail) | refine s_k (hn) ?_)
      | refine g_seq ?_ | refine g_region ?_ | refine g_nil ?_ | refine g_then_normal ?_ | refine g_block ?_ | refine g_in_normal ?_ | refine g_retc ?_
      | refine g_then_ret ?_ | refine g_in_ret ?_ | refine g_exit ?_ | refine g_then_exit ?_ | refine g_in_exit ?_ | refine g_in_other rfl ?_ | refine g_skip ?_
      | refine g_label ?_ | refine g_cond_true rfl ?_ | refine g_cond_false rfl ?_ | exact s_m | intro _)
    rename_i b
    refine s_q (q := by exact qs_sliceArr (n := 24) inferInstance inferInstance rfl rfl (by omega) (by decide)) ?_
    have hf := fun e => fmt b u e h64
    simp only [← zeros24] at hf
    repeat (first
      | (refine g_ops ?_; first | refine s_q ?_ | refine s_v ?_ | refine s_s ?_ | refine s_n (fun _ => ?_) | refine s_x ?_ | refine s_y ?_ | refine s_iq ?_ | refine s_mq ?_ | refine s_app (fun _ _ => ?_) | refine s_mv ?_ | refine s_ms ?_ | refine s_b0 (fun _ => ?_) | ((fail_if_success refine g_lit rfl rfl rfl ?_); first | apply g_partM rfl rfl rfl | apply g_partMB rfl rfl rfl | fail) | refine s_c (hf _) (fun _ _ => ?_))
      | refine g_seq ?_ | refine g_region ?_ | refine g_nil ?_ | refine g_then_normal ?_ | refine g_block ?_ | refine g_in_normal ?_ | refine g_retc ?_
      | refine g_then_ret ?_ | refine g_in_ret ?_ | refine g_exit ?_ | refine g_then_exit ?_ | refine g_in_exit ?_ | refine g_in_other rfl ?_ | refine g_skip ?_
      | refine g_label ?_ | refine g_cond_true rfl ?_ | refine g_cond_false rfl ?_ | exact s_m | intro _)
    refine s_q (q := by exact qs_sliceArr (n := 24) inferInstance inferInstance rfl rfl (by omega) (by decide)) ?_
    refine g_as 26 (v' := .slice (some ⟨b, 0, none⟩) (Lib.decDigits u).length 24) rfl (by rw [hlen]) ?_
    refine s_appB (news := Lib.decDigits u) (fun q' c' => ?_) (src := by exact srcReads inferInstance (Sel.here (L := [Pile H, bO q c bs])) (by rw [cells8_len, Nat.mul_one]) (cells8_one' _) (fun j v hv => reads_row (by rw [Nat.zero_add, List.getElem?_append_left (by have := (List.getElem?_eq_some_iff.1 hv).1; exact this)]; exact hv)))
    repeat (first
      | (refine g_ops ?_; first | refine s_q ?_ | refine s_v ?_ | refine s_s ?_ | refine s_n (fun _ => ?_) | refine s_x ?_ | refine s_y ?_ | refine s_iq ?_ | refine s_mq ?_ | refine s_app (fun _ _ => ?_) | refine s_mv ?_ | refine s_ms ?_ | refine s_b0 (fun _ => ?_) | ((fail_if_success refine g_lit rfl rfl rfl ?_); first | apply g_partM rfl rfl rfl | apply g_partMB rfl rfl rfl | fail))
      | refine g_seq ?_ | refine g_region ?_ | refine g_nil ?_ | refine g_then_normal ?_ | refine g_block ?_ | refine g_in_normal ?_ | refine g_retc ?_
      | refine g_then_ret ?_ | refine g_in_ret ?_ | refine g_exit ?_ | refine g_then_exit ?_ | refine g_in_exit ?_ | refine g_in_other rfl ?_ | refine g_skip ?_
      | refine g_label ?_ | refine g_cond_true rfl ?_ | refine g_cond_false rfl ?_ | exact s_m | intro _)
    exact g_ret (⟨q', c'⟩ : BX) rfl (by (repeat (first | exact RVs.nil | apply RVs.tmp rfl | apply RVs.cellA rfl (by (repeat (first | exact Sel.here | apply Sel.there)); first | done | fail) (by (repeat (first | exact Cut.zero | apply Cut.take | apply Cut.skip)); first | done | fail) | apply RVs.cell1 rfl (by (repeat (first | exact Sel.here | apply Sel.there)); first | done | fail) rfl)); first | done | fail) (by (repeat (first | exact Take.nil | apply Take.cons | exact Sel.here | apply Sel.there)); first | done | fail) rfl trivial
end Go.Proofs.YtpilcncdgjnbeaaDoor
