/- Contracts: owners of a batch's puts; a put in memory of its own. -/
import Derived.Test.YtfachckbjmofgaaCrdB
set_option linter.unusedSimpArgs false
set_option linter.unusedVariables false
namespace Go.Proofs.Ytfachckbjmofgaa
open Go.Sl facts
instance mixed : Mixed Try.prog := ⟨by kernel_rfl⟩
abbrev OA := Option Addr × Nat
/-- A put in memory. -/
structure Pt where
  st : ByteArray
  exp : Int
  dp : Option Addr
  dc : Nat
  data : List ByteArray
abbrev Pt.cells (x : Pt) : List Value := [.string x.st, .int .i64 x.exp, .slice x.dp x.data.length x.dc]
theorem pt_len (x : Pt) : x.cells.length = 3 := rfl
structure PtAt (C : Chunk) (x : Pt) : Prop where
  at_ : SlAt C 1 x.dp x.data.length (x.data.map Value.string)
  len : x.data.length ≤ 1000000000
  nl : x.st.size ≤ 9223372036854775807
theorem PtAt.grow {H H' : HP} {x : Pt} (h : PtAt (Pile H) x) (s : HP.sub H H') : PtAt (Pile H') x := ⟨h.at_.grow s, h.len, h.nl⟩
/-- A batch in memory. -/
structure Bt where
  key : ByteArray
  pp : Option Addr
  pc : Nat
  puts : List Pt
abbrev Bt.cells (x : Bt) : List Value := [.string x.key, .slice x.pp x.puts.length x.pc]
structure BtAt' (C : Chunk) (x : Bt) : Prop where
  sl : SlAt C 3 x.pp x.puts.length (x.puts.flatMap Pt.cells)
  at_ : ∀ y ∈ x.puts, PtAt C y
  len : x.puts.length ≤ 1000000000
attribute [local irreducible] Code.wp wpList Exit.then Exit.inBlock bodyPost Back MidQ G GP QStep VStep CStep SStep Does Post Reads
def ownersL (l : List Rg) (ps : List Pt) : List Int := ps.map fun x => whose l x.st
theorem owners_ {H : HP} (p : Option Addr) (c : Nat) (l : List Rg) (hS : SlAt (Pile H) 4 p l.length (l.flatMap Rg.cells)) (hl : l.length ≤ 1000000000) (x : Bt) (hx : BtAt' (Pile H) x) :
    Does Try.prog 27 [.slice p l.length c, .agg x.cells.toArray] [Pile H] (X := OA) (fun y => .slice y.1 x.puts.length y.2) (fun y => [.own y.1 x.puts.length y.2 1 ((ownersL l x.puts).map int) 3, Pile H]) (fun _ => True) := by
  obtain ⟨key, pp, pc, puts⟩ := x
  obtain ⟨a1, a2, a3⟩ := hx
  dsimp only at a1 a2 a3 ⊢
  refine fn_intro Try.func27 rfl Try.ntmps27 rfl (by simp only [argFr, Nat.zero_add, Nat.reduceAdd]; rfl) (fun Γ => ?_)
  repeat (first
    | (refine g_ops ?_; first | refine s_q ?_ | refine s_v ?_ | refine s_s ?_ | refine s_n (fun _ => ?_) | refine s_x ?_ | refine s_y ?_ | refine s_mq ?_ | refine s_app (fun _ _ => ?_) | refine s_mv ?_ | refine s_ms ?_ | refine s_b0 (fun _ => ?_) | ((fail_if_success refine g_lit rfl rfl rfl ?_); first | apply g_partM rfl rfl rfl | apply g_partMB rfl rfl rfl | fail))
    | refine g_seq ?_ | refine g_region ?_ | refine g_nil ?_ | refine g_then_normal ?_ | refine g_block ?_ | refine g_in_normal ?_ | refine g_retc ?_ | refine g_then_ret ?_
    | refine g_in_ret ?_ | refine g_exit ?_ | refine g_then_exit ?_ | refine g_in_exit ?_ | refine g_in_other rfl ?_ | refine g_skip ?_ | refine g_label ?_
    | refine g_cond_true rfl ?_ | refine g_cond_false rfl ?_ | exact s_m | intro _)
  refine g_own_nil none 1 3 ?_
  refine g_loop (X := Nat × OA) (fun y => [(0, .slice p l.length c), (4, .slice y.2.1 y.1 y.2.2), (10, .slice pp puts.length pc), (11, int puts.length), (12, int y.1)]) (fun y => [.own y.2.1 y.1 y.2.2 1 ((ownersL l (puts.take y.1)).map int) 3, Pile H]) (fun y => y.1 ≤ puts.length) (fun y => puts.length - y.1) ⟨0, none, 0⟩ (Nat.zero_le _) (by (repeat (first | exact FrSub.nil | refine FrSub.cons rfl ?_)); first | done | fail) (by (repeat (first | exact Take.nil | apply Take.cons | exact Sel.here | apply Sel.there)); first | done | fail) (fun y hy => ?_)
  obtain ⟨i, q, qc⟩ := y
  dsimp only at hy ⊢
  repeat (first
    | (refine g_ops ?_; first | refine s_q ?_ | refine s_v ?_ | refine s_s ?_ | refine s_n (fun _ => ?_) | refine s_x ?_ | refine s_y ?_ | refine s_mq ?_ | refine s_app (fun _ _ => ?_) | refine s_mv ?_ | refine s_ms ?_ | refine s_b0 (fun _ => ?_) | ((fail_if_success refine g_lit rfl rfl rfl ?_); first | apply g_partM rfl rfl rfl | apply g_partMB rfl rfl rfl | fail))
    | refine g_seq ?_ | refine g_region ?_ | refine g_nil ?_ | refine g_then_normal ?_ | refine g_block ?_ | refine g_in_normal ?_ | refine g_retc ?_ | refine g_then_ret ?_
    | refine g_in_ret ?_ | refine g_exit ?_ | refine g_then_exit ?_ | refine g_in_exit ?_ | refine g_in_other rfl ?_ | refine g_skip ?_ | refine g_label ?_
    | refine g_cond_true rfl ?_ | refine g_cond_false rfl ?_ | exact s_m | intro _)
  refine g_cond_dec rfl (fun h => ?_) (fun h => ?_)
  · have hi' : i < puts.length := by omega
    obtain ⟨b, o, rfl, hrow⟩ := slAt_elem a1 pt_len (by decide) (i := i) (a := puts[i]) (by simp [hi'])
    have hnl := (a2 puts[i] (List.getElem_mem _)).nl
    have htk : ownersL l (puts.take (i + 1)) = ownersL l (puts.take i) ++ [whose l puts[i].st] := by
      unfold ownersL; rw [List.take_succ_eq_append_getElem hi', List.map_append]; rfl
    generalize puts[i] = x at hrow hnl htk
    repeat (first
      | (refine g_ops ?_; first | refine s_q ?_ | refine s_v ?_ | refine s_s ?_ | refine s_n (fun _ => ?_) | refine s_x ?_ | refine s_y ?_ | refine s_mq ?_ | refine s_app (fun _ _ => ?_) | refine s_mv ?_ | refine s_ms ?_ | refine s_b0 (fun _ => ?_) | ((fail_if_success refine g_lit rfl rfl rfl ?_); first | apply g_partM rfl rfl rfl | apply g_partMB rfl rfl rfl | fail) | refine s_k (ofT p c l hS hl x.st hnl) ?_)
      | refine g_seq ?_ | refine g_region ?_ | refine g_nil ?_ | refine g_then_normal ?_ | refine g_block ?_ | refine g_in_normal ?_ | refine g_retc ?_
      | refine g_then_ret ?_ | refine g_in_ret ?_ | refine g_exit ?_ | refine g_then_exit ?_ | refine g_in_exit ?_ | refine g_in_other rfl ?_ | refine g_skip ?_
      | refine g_label ?_ | refine g_cond_true rfl ?_ | refine g_cond_false rfl ?_ | exact s_m | intro _)
    rename_i q2 c2
    rw [show (ownersL l (puts.take i)).map int ++ [int ((fndR l (hashN x.st)).getD Rg.zero).o] = (ownersL l (puts.take (i + 1))).map int by rw [htk]; simp [whose]]
    refine g_as 12 (v' := int ((i + 1 : Nat) : Int)) rfl (congrArg (Value.int .i64) (by push_cast; rfl)) ?_
    exact g_again ⟨i + 1, q2, c2⟩ (by simp only; omega) hi' (by (repeat (first | exact FrSub.nil | refine FrSub.cons rfl ?_)); first | done | fail) (by (repeat (first | exact Take.nil | apply Take.cons | exact Sel.here | apply Sel.there)); first | done | fail)
  · obtain rfl : i = puts.length := by omega
    rw [List.take_length]
    repeat (first
      | (refine g_ops ?_; first | refine s_q ?_ | refine s_v ?_ | refine s_s ?_ | refine s_n (fun _ => ?_) | refine s_x ?_ | refine s_y ?_ | refine s_mq ?_ | refine s_app (fun _ _ => ?_) | refine s_mv ?_ | refine s_ms ?_ | refine s_b0 (fun _ => ?_) | ((fail_if_success refine g_lit rfl rfl rfl ?_); first | apply g_partM rfl rfl rfl | apply g_partMB rfl rfl rfl | fail))
      | refine g_seq ?_ | refine g_region ?_ | refine g_nil ?_ | refine g_then_normal ?_ | refine g_block ?_ | refine g_in_normal ?_ | refine g_retc ?_
      | refine g_then_ret ?_ | refine g_in_ret ?_ | refine g_exit ?_ | refine g_then_exit ?_ | refine g_in_exit ?_ | refine g_in_other rfl ?_ | refine g_skip ?_
      | refine g_label ?_ | refine g_cond_true rfl ?_ | refine g_cond_false rfl ?_ | exact s_m | intro _)
    exact g_ret (q, qc) rfl (by (repeat (first | exact RVs.nil | apply RVs.tmp rfl | apply RVs.cellA rfl (by (repeat (first | exact Sel.here | apply Sel.there)); first | done | fail) (by (repeat (first | exact Cut.zero | apply Cut.take | apply Cut.skip)); first | done | fail) | apply RVs.cell1 rfl (by (repeat (first | exact Sel.here | apply Sel.there)); first | done | fail) rfl)); first | done | fail) (by (repeat (first | exact Take.nil | apply Take.cons | exact Sel.here | apply Sel.there)); first | done | fail) rfl trivial
theorem cloneS {C : Chunk} {p : Option Addr} {m c : Nat} {news : List Value} (h : SlAt C 1 p m news) (hm : m ≤ 1000000000) : Does Try.prog 45 [.slice p m c] [C] (X := OA) (fun q => .slice q.1 m q.2) (fun q => [.own q.1 m q.2 1 news 9, C]) (fun _ => True) := by
  cases p with
  | none =>
    obtain rfl : m = 0 := h.nil rfl
    obtain rfl : news = [] := List.eq_nil_of_length_eq_zero (by rw [h.len, Nat.zero_mul])
    refine fn_intro Try.func45 rfl Try.ntmps45 rfl (by simp only [argFr, Nat.zero_add, Nat.reduceAdd]; rfl) (fun Γ => ?_)
    repeat (first
      | (refine g_ops ?_; first | refine s_q ?_ | refine s_v ?_ | refine s_s ?_ | refine s_n (fun _ => ?_) | refine s_x ?_ | refine s_y ?_ | refine s_mq ?_ | refine s_app (fun _ _ => ?_) | refine s_mv ?_ | refine s_ms ?_ | refine s_b0 (fun _ => ?_) | ((fail_if_success refine g_lit rfl rfl rfl ?_); first | apply g_partM rfl rfl rfl | apply g_partMB rfl rfl rfl | fail))
      | refine g_seq ?_ | refine g_region ?_ | refine g_nil ?_ | refine g_then_normal ?_ | refine g_block ?_ | refine g_in_normal ?_ | refine g_retc ?_
      | refine g_then_ret ?_ | refine g_in_ret ?_ | refine g_exit ?_ | refine g_then_exit ?_ | refine g_in_exit ?_ | refine g_in_other rfl ?_ | refine g_skip ?_
      | refine g_label ?_ | refine g_cond_true rfl ?_ | refine g_cond_false rfl ?_ | exact s_m | intro _)
    refine g_own_nil none 1 9 ?_
    exact s_r (none, 0)
  | some a =>
    refine fn_intro Try.func45 rfl Try.ntmps45 rfl (by simp only [argFr, Nat.zero_add, Nat.reduceAdd]; rfl) (fun Γ => ?_)
    have hsrc : ∀ {Γ : Ctx} {b : Nat}, SrcIs Try.prog Γ [.own (some ⟨b, 0, none⟩) 0 0 1 [] 9, C] 1 32 (.slice (some a) m c) m news := fun {Γ b} => srcAt h inferInstance (.there .here) (by decide)
    repeat (first
      | (refine g_ops ?_; first | refine s_q ?_ | refine s_v ?_ | refine s_s ?_ | refine s_n (fun _ => ?_) | refine s_x ?_ | refine s_y ?_ | refine s_mq ?_ | refine s_app (fun _ _ => ?_) | refine s_mv ?_ | refine s_ms ?_ | refine s_b0 (fun _ => ?_) | ((fail_if_success refine g_lit rfl rfl rfl ?_); first | apply g_partM rfl rfl rfl | apply g_partMB rfl rfl rfl | fail))
      | refine g_seq ?_ | refine g_region ?_ | refine g_nil ?_ | refine g_then_normal ?_ | refine g_block ?_ | refine g_in_normal ?_ | refine g_retc ?_
      | refine g_then_ret ?_ | refine g_in_ret ?_ | refine g_exit ?_ | refine g_then_exit ?_ | refine g_in_exit ?_ | refine g_in_other rfl ?_ | refine g_skip ?_
      | refine g_label ?_ | refine g_cond_true rfl ?_ | refine g_cond_false rfl ?_ | exact s_m | intro _)
    rename_i q c'
    exact s_r (q, c') (hp := by simp [pack]) (tk := by rw [Nat.zero_add, List.nil_append]; exact (by (repeat (first | exact Take.nil | apply Take.cons | exact Sel.here | apply Sel.there)); first | done | fail))
/-- A put in memory of its own. -/
theorem own_ {H : HP} (x : Pt) (hx : PtAt (Pile H) x) : Does Try.prog 30 [.agg x.cells.toArray] [Pile H] (X := HP × OA) (fun y => .agg (Pt.cells ⟨x.st, x.exp, y.2.1, y.2.2, x.data⟩).toArray) (fun y => [Pile y.1]) (fun y => HP.sub H y.1 ∧ PtAt (Pile y.1) ⟨x.st, x.exp, y.2.1, y.2.2, x.data⟩) := by
  obtain ⟨st, exp, dp, dc, data⟩ := x
  obtain ⟨a1, a2, a3⟩ := hx
  dsimp only at a1 a2 a3 ⊢
  refine fn_intro Try.func30 rfl Try.ntmps30 rfl (by simp only [argFr, Nat.zero_add, Nat.reduceAdd]; rfl) (fun Γ => ?_)
  repeat (first
    | (refine g_ops ?_; first | refine s_q ?_ | refine s_v ?_ | refine s_s ?_ | refine s_n (fun _ => ?_) | refine s_x ?_ | refine s_y ?_ | refine s_mq ?_ | refine s_app (fun _ _ => ?_) | refine s_mv ?_ | refine s_ms ?_ | refine s_b0 (fun _ => ?_) | ((fail_if_success refine g_lit rfl rfl rfl ?_); first | apply g_partM rfl rfl rfl | apply g_partMB rfl rfl rfl | fail) | refine s_c (cloneS a1 a2) (fun _ _ => ?_))
    | refine g_seq ?_ | refine g_region ?_ | refine g_nil ?_ | refine g_then_normal ?_ | refine g_block ?_ | refine g_in_normal ?_ | refine g_retc ?_ | refine g_then_ret ?_
    | refine g_in_ret ?_ | refine g_exit ?_ | refine g_then_exit ?_ | refine g_in_exit ?_ | refine g_in_other rfl ?_ | refine g_skip ?_ | refine g_label ?_
    | refine g_cond_true rfl ?_ | refine g_cond_false rfl ?_ | exact s_m | intro _)
  rename_i b1 b2 q _
  obtain ⟨q1, q2⟩ := q
  dsimp only [List.cons_append, List.nil_append]
  refine g_pile (p := q1) (m := data.length) (c := q2) (n := 1) (xs := data.map .string) (e := 9) (by (repeat (first | exact Sel.here | apply Sel.there)); first | done | fail) (by (repeat (first | exact Sel.here | apply Sel.there)); first | done | fail) (fun H2 hs2 hA2 => ?_)
  repeat (first
    | (refine g_ops ?_; first | refine s_q ?_ | refine s_v ?_ | refine s_s ?_ | refine s_n (fun _ => ?_) | refine s_x ?_ | refine s_y ?_ | refine s_mq ?_ | refine s_app (fun _ _ => ?_) | refine s_mv ?_ | refine s_ms ?_ | refine s_b0 (fun _ => ?_) | ((fail_if_success refine g_lit rfl rfl rfl ?_); first | apply g_partM rfl rfl rfl | apply g_partMB rfl rfl rfl | fail))
    | refine g_seq ?_ | refine g_region ?_ | refine g_nil ?_ | refine g_then_normal ?_ | refine g_block ?_ | refine g_in_normal ?_ | refine g_retc ?_ | refine g_then_ret ?_
    | refine g_in_ret ?_ | refine g_exit ?_ | refine g_then_exit ?_ | refine g_in_exit ?_ | refine g_in_other rfl ?_ | refine g_skip ?_ | refine g_label ?_
    | refine g_cond_true rfl ?_ | refine g_cond_false rfl ?_ | exact s_m | intro _)
  exact g_ret (H2, (q1, q2)) rfl (by (repeat (first | exact RVs.nil | apply RVs.tmp rfl | apply RVs.cellA rfl (by (repeat (first | exact Sel.here | apply Sel.there)); first | done | fail) (by (repeat (first | exact Cut.zero | apply Cut.take | apply Cut.skip)); first | done | fail) | apply RVs.cell1 rfl (by (repeat (first | exact Sel.here | apply Sel.there)); first | done | fail) rfl)); first | done | fail) (by (repeat (first | exact Take.nil | apply Take.cons | exact Sel.here | apply Sel.there)); first | done | fail) rfl ⟨hs2, hA2, a2, a3⟩
end Go.Proofs.Ytfachckbjmofgaa
