/- Contracts and laws that the proof stands on. -/
import Derived.Test.YtfjkfcfmbipfhaaDiskPlays20
import Derived.Test.YtfjkfcfmbipfhaaDiskPlays21
set_option linter.unusedSimpArgs false
set_option linter.unusedVariables false
namespace Go.Proofs.Ytfjkfcfmbipfhaa
open Go.Sl facts
attribute [local irreducible] Code.wp wpList Exit.then Exit.inBlock bodyPost Back MidQ G GP QStep VStep CStep SStep Does Post Reads
theorem mren_off (m : Nat) (room : Int) (q : Option Addr) (n c : Nat) (ops last : Int) (h0 : 0 ≤ ops ∧ ops ≤ 1000000000) (hoff : 0 ≤ last ∧ ops + 1 > last) (nm to : ByteArray) : Does Try.prog 42 [ptr m, .string nm, .string to] [mrow m room q n c ops last] (X := Unit) (fun _ => int 9) (fun _ => [mrow m room q n c (ops + 1) last]) (fun _ => True) := by
  have ho := offM m room q n c ops last h0
  rw [decide_eq_true hoff] at ho
  refine fn_intro Try.func42 rfl Try.ntmps42 rfl (by simp only [argFr, Nat.zero_add, Nat.reduceAdd]; rfl) (fun Γ => ?_)
  repeat (first
    | (refine g_ops ?_; first | refine s_q ?_ | refine s_v ?_ | refine s_s ?_ | refine s_n (fun _ => ?_) | refine s_x ?_ | refine s_y ?_ | refine s_mq ?_ | refine s_app (fun _ _ => ?_) | refine s_mv ?_ | refine s_ms ?_ | refine s_b0 (fun _ => ?_) | ((fail_if_success refine g_lit rfl rfl rfl ?_); first | apply g_partM rfl rfl rfl | apply g_partMB rfl rfl rfl | fail) | refine s_c (ho) (fun _ _ => ?_))
    | refine g_seq ?_ | refine g_region ?_ | refine g_nil ?_ | refine g_then_normal ?_ | refine g_block ?_ | refine g_in_normal ?_ | refine g_retc ?_ | refine g_then_ret ?_
    | refine g_in_ret ?_ | refine g_exit ?_ | refine g_then_exit ?_ | refine g_in_exit ?_ | refine g_in_other rfl ?_ | refine g_skip ?_ | refine g_label ?_
    | refine g_cond_true rfl ?_ | refine g_cond_false rfl ?_ | exact s_m | intro _)
  exact g_ret () rfl (by (repeat (first | exact RVs.nil | apply RVs.tmp rfl | apply RVs.cellA rfl (by (repeat (first | exact Sel.here | apply Sel.there)); first | done | fail) (by (repeat (first | exact Cut.zero | apply Cut.take | apply Cut.skip)); first | done | fail) | apply RVs.cell1 rfl (by (repeat (first | exact Sel.here | apply Sel.there)); first | done | fail) rfl)); first | done | fail) (by (repeat (first | exact Take.nil | apply Take.cons | exact Sel.here | apply Sel.there)); first | done | fail) rfl trivial
theorem mren_no (m : Nat) (room : Int) (q : Option Addr) (c : Nat) (ops last : Int) (ds : List Df) (h0 : 0 ≤ ops ∧ ops ≤ 1000000000) (hoff : ¬ (0 ≤ last ∧ ops + 1 > last)) (nm to : ByteArray) (hW : FndNo ds nm) (hn : ds.length ≤ 2000) :
    Does Try.prog 42 [ptr m, .string nm, .string to] (mL m room ops last q c ds []) (X := Unit) (fun _ => int 4) (fun _ => mL m room (ops + 1) last q c ds []) (fun _ => True) := by
  have ho := offM m room q ds.length c ops last h0
  rw [decide_eq_false hoff] at ho
  have hfi := mfind_no m room (ops + 1) last q c ds nm hW hn
  refine fn_intro Try.func42 rfl Try.ntmps42 rfl (by simp only [argFr, Nat.zero_add, Nat.reduceAdd]; rfl) (fun Γ => ?_)
  repeat (first
    | (refine g_ops ?_; first | refine s_q ?_ | refine s_v ?_ | refine s_s ?_ | refine s_n (fun _ => ?_) | refine s_x ?_ | refine s_y ?_ | refine s_mq ?_ | refine s_app (fun _ _ => ?_) | refine s_mv ?_ | refine s_ms ?_ | refine s_b0 (fun _ => ?_) | ((fail_if_success refine g_lit rfl rfl rfl ?_); first | apply g_partM rfl rfl rfl | apply g_partMB rfl rfl rfl | fail) | refine s_k (hfi) ?_ | refine s_c (ho) (fun _ _ => ?_))
    | refine g_seq ?_ | refine g_region ?_ | refine g_nil ?_ | refine g_then_normal ?_ | refine g_block ?_ | refine g_in_normal ?_ | refine g_retc ?_ | refine g_then_ret ?_
    | refine g_in_ret ?_ | refine g_exit ?_ | refine g_then_exit ?_ | refine g_in_exit ?_ | refine g_in_other rfl ?_ | refine g_skip ?_ | refine g_label ?_
    | refine g_cond_true rfl ?_ | refine g_cond_false rfl ?_ | exact s_m | intro _)
  exact g_ret () rfl (by (repeat (first | exact RVs.nil | apply RVs.tmp rfl | apply RVs.cellA rfl (by (repeat (first | exact Sel.here | apply Sel.there)); first | done | fail) (by (repeat (first | exact Cut.zero | apply Cut.take | apply Cut.skip)); first | done | fail) | apply RVs.cell1 rfl (by (repeat (first | exact Sel.here | apply Sel.there)); first | done | fail) rfl)); first | done | fail) (by (repeat (first | exact Take.nil | apply Take.cons | exact Sel.here | apply Sel.there)); first | done | fail) rfl trivial
theorem mren_bad (m : Nat) (room : Int) (q : Option Addr) (c : Nat) (ops last : Int) (ds : List Df) (h0 : 0 ≤ ops ∧ ops ≤ 1000000000) (hoff : ¬ (0 ≤ last ∧ ops + 1 > last)) (nm to : ByteArray) (k : Nat) (hW : FndAt ds nm k) (hn : ds.length ≤ 2000) (hz : to.size ≤ 9223372036854775807) (hb : nmOk to = false) :
    Does Try.prog 42 [ptr m, .string nm, .string to] (mL m room ops last q c ds []) (X := Unit) (fun _ => int 1) (fun _ => mL m room (ops + 1) last q c ds []) (fun _ => True) := by
  have ho := offM m room q ds.length c ops last h0
  rw [decide_eq_false hoff] at ho
  have hfi := mfind_yes m room (ops + 1) last q c ds nm k hW hn
  have hbd := badM to hz
  rw [hb] at hbd
  refine fn_intro Try.func42 rfl Try.ntmps42 rfl (by simp only [argFr, Nat.zero_add, Nat.reduceAdd]; rfl) (fun Γ => ?_)
  repeat (first
    | (refine g_ops ?_; first | refine s_q ?_ | refine s_v ?_ | refine s_s ?_ | refine s_n (fun _ => ?_) | refine s_x ?_ | refine s_y ?_ | refine s_mq ?_ | refine s_app (fun _ _ => ?_) | refine s_mv ?_ | refine s_ms ?_ | refine s_b0 (fun _ => ?_) | ((fail_if_success refine g_lit rfl rfl rfl ?_); first | apply g_partM rfl rfl rfl | apply g_partMB rfl rfl rfl | fail) | refine s_p (hbd) ?_ | refine s_k (hfi) ?_ | refine s_c (ho) (fun _ _ => ?_))
    | refine g_seq ?_ | refine g_region ?_ | refine g_nil ?_ | refine g_then_normal ?_ | refine g_block ?_ | refine g_in_normal ?_ | refine g_retc ?_ | refine g_then_ret ?_
    | refine g_in_ret ?_ | refine g_exit ?_ | refine g_then_exit ?_ | refine g_in_exit ?_ | refine g_in_other rfl ?_ | refine g_skip ?_ | refine g_label ?_
    | refine g_cond_true rfl ?_ | refine g_cond_false rfl ?_ | exact s_m | intro _)
  exact g_ret () rfl (by (repeat (first | exact RVs.nil | apply RVs.tmp rfl | apply RVs.cellA rfl (by (repeat (first | exact Sel.here | apply Sel.there)); first | done | fail) (by (repeat (first | exact Cut.zero | apply Cut.take | apply Cut.skip)); first | done | fail) | apply RVs.cell1 rfl (by (repeat (first | exact Sel.here | apply Sel.there)); first | done | fail) rfl)); first | done | fail) (by (repeat (first | exact Take.nil | apply Take.cons | exact Sel.here | apply Sel.there)); first | done | fail) rfl trivial
theorem mren_same (m : Nat) (room : Int) (q : Option Addr) (c : Nat) (ops last : Int) (ds : List Df) (h0 : 0 ≤ ops ∧ ops ≤ 1000000000) (hoff : ¬ (0 ≤ last ∧ ops + 1 > last)) (nm : ByteArray) (k : Nat) (hW : FndAt ds nm k) (hn : ds.length ≤ 2000) (hz : nm.size ≤ 9223372036854775807) (hb : nmOk nm = true) :
    Does Try.prog 42 [ptr m, .string nm, .string nm] (mL m room ops last q c ds []) (X := Unit) (fun _ => int 0) (fun _ => mL m room (ops + 1) last q c ds []) (fun _ => True) := by
  have ho := offM m room q ds.length c ops last h0
  rw [decide_eq_false hoff] at ho
  have hfi := mfind_yes m room (ops + 1) last q c ds nm k hW hn
  have hbd := badM nm hz
  rw [hb] at hbd
  refine fn_intro Try.func42 rfl Try.ntmps42 rfl (by simp only [argFr, Nat.zero_add, Nat.reduceAdd]; rfl) (fun Γ => ?_)
  repeat (first
    | (refine g_ops ?_; first | refine s_q ?_ | refine s_v ?_ | refine s_s ?_ | refine s_n (fun _ => ?_) | refine s_x ?_ | refine s_y ?_ | refine s_mq ?_ | refine s_app (fun _ _ => ?_) | refine s_mv ?_ | refine s_ms ?_ | refine s_b0 (fun _ => ?_) | ((fail_if_success refine g_lit rfl rfl rfl ?_); first | apply g_partM rfl rfl rfl | apply g_partMB rfl rfl rfl | fail) | refine s_p (hbd) ?_ | refine s_k (hfi) ?_ | refine s_c (ho) (fun _ _ => ?_))
    | refine g_seq ?_ | refine g_region ?_ | refine g_nil ?_ | refine g_then_normal ?_ | refine g_block ?_ | refine g_in_normal ?_ | refine g_retc ?_ | refine g_then_ret ?_
    | refine g_in_ret ?_ | refine g_exit ?_ | refine g_then_exit ?_ | refine g_in_exit ?_ | refine g_in_other rfl ?_ | refine g_skip ?_ | refine g_label ?_
    | refine g_cond_true rfl ?_ | refine g_cond_false rfl ?_ | exact s_m | intro _)
  refine g_cond_dec rfl (fun _ => ?_) (fun h => absurd rfl h)
  repeat (first
    | (refine g_ops ?_; first | refine s_q ?_ | refine s_v ?_ | refine s_s ?_ | refine s_n (fun _ => ?_) | refine s_x ?_ | refine s_y ?_ | refine s_mq ?_ | refine s_app (fun _ _ => ?_) | refine s_mv ?_ | refine s_ms ?_ | refine s_b0 (fun _ => ?_) | ((fail_if_success refine g_lit rfl rfl rfl ?_); first | apply g_partM rfl rfl rfl | apply g_partMB rfl rfl rfl | fail))
    | refine g_seq ?_ | refine g_region ?_ | refine g_nil ?_ | refine g_then_normal ?_ | refine g_block ?_ | refine g_in_normal ?_ | refine g_retc ?_ | refine g_then_ret ?_
    | refine g_in_ret ?_ | refine g_exit ?_ | refine g_then_exit ?_ | refine g_in_exit ?_ | refine g_in_other rfl ?_ | refine g_skip ?_ | refine g_label ?_
    | refine g_cond_true rfl ?_ | refine g_cond_false rfl ?_ | exact s_m | intro _)
  exact g_ret () rfl (by (repeat (first | exact RVs.nil | apply RVs.tmp rfl | apply RVs.cellA rfl (by (repeat (first | exact Sel.here | apply Sel.there)); first | done | fail) (by (repeat (first | exact Cut.zero | apply Cut.take | apply Cut.skip)); first | done | fail) | apply RVs.cell1 rfl (by (repeat (first | exact Sel.here | apply Sel.there)); first | done | fail) rfl)); first | done | fail) (by (repeat (first | exact Take.nil | apply Take.cons | exact Sel.here | apply Sel.there)); first | done | fail) rfl trivial
abbrev Df.as (x : Df) (to : ByteArray) : Df := ⟨to, x.p, x.c, x.bs, x.sy⟩
set_option maxHeartbeats 2000000 in
theorem mren (m : Nat) (room : Int) (q : Option Addr) (c : Nat) (ops last : Int) (ds : List Df) (h0 : 0 ≤ ops ∧ ops ≤ 1000000000) (hoff : ¬ (0 ≤ last ∧ ops + 1 > last)) (nm to : ByteArray) (hne : nm ≠ to) (k : Nat) (hW : FndAt ds nm k) (hkl : k < ds.length) (hn : ds.length ≤ 2000) (hz : to.size ≤ 9223372036854775807) (hb : nmOk to = true)
    (hNo : FndNo (ddel ds k) to) (j : Nat) (hPut : PutAt (ddel ds k) to j) :
    Does Try.prog 42 [ptr m, .string nm, .string to] (mL m room ops last q c ds []) (X := OA) (fun _ => int 0) (fun y => mL m room (ops + 1) last y.1 y.2 (dins (ddel ds k) j ((ds[k]).as to)) []) (fun _ => True) := by
  have ho := offM m room q ds.length c ops last h0
  rw [decide_eq_false hoff] at ho
  have hfi := mfind_yes m room (ops + 1) last q c ds nm k hW hn
  have hbd := badM to hz
  rw [hb] at hbd
  have hwo := without m room (ops + 1) last q c ds k hkl hn
  have hdl := ddel_len ds k hkl
  have hge : ds[k]? = some ds[k] := by simp [hkl]
  generalize hdx : ds[k] = x at hge ⊢
  refine fn_intro Try.func42 rfl Try.ntmps42 rfl (by simp only [argFr, Nat.zero_add, Nat.reduceAdd]; rfl) (fun Γ => ?_)
  repeat (first
    | (refine g_ops ?_; first | refine s_q ?_ | refine s_v ?_ | refine s_s ?_ | refine s_n (fun _ => ?_) | refine s_x ?_ | refine s_y ?_ | refine s_mq ?_ | refine s_app (fun _ _ => ?_) | refine s_mv ?_ | refine s_ms ?_ | refine s_b0 (fun _ => ?_) | ((fail_if_success refine g_lit rfl rfl rfl ?_); first | apply g_partM rfl rfl rfl | apply g_partMB rfl rfl rfl | fail) | refine s_p (hbd) ?_ | refine s_k (hfi) ?_ | refine s_c (ho) (fun _ _ => ?_))
    | refine g_seq ?_ | refine g_region ?_ | refine g_nil ?_ | refine g_then_normal ?_ | refine g_block ?_ | refine g_in_normal ?_ | refine g_retc ?_ | refine g_then_ret ?_
    | refine g_in_ret ?_ | refine g_exit ?_ | refine g_then_exit ?_ | refine g_in_exit ?_ | refine g_in_other rfl ?_ | refine g_skip ?_ | refine g_label ?_
    | refine g_cond_true rfl ?_ | refine g_cond_false rfl ?_ | exact s_m | intro _)
  refine g_cond_dec rfl (fun h => absurd h hne) (fun _ => ?_)
  refine g_own (p := q) (len := ds.length) (cap := c) (n := 3) (xs := ds.flatMap Df.cells) (e := 97) (by (repeat (first | exact Sel.here | apply Sel.there)); first | done | fail) (fun _ _ hp => ?_)
  obtain ⟨b, rfl⟩ := hp (by omega)
  have hrow := own_at (b := b) (len := ds.length) (cap := c) (e := 97) df_len hge
  repeat (first
    | (refine g_ops ?_; first | refine s_q ?_ | refine s_v ?_ | refine s_s ?_ | refine s_n (fun _ => ?_) | refine s_x ?_ | refine s_y ?_ | refine s_mq ?_ | refine s_app (fun _ _ => ?_) | refine s_mv ?_ | refine s_ms ?_ | refine s_b0 (fun _ => ?_) | ((fail_if_success refine g_lit rfl rfl rfl ?_); first | apply g_partM rfl rfl rfl | apply g_partMB rfl rfl rfl | fail) | refine s_c (hwo) (fun _ _ => ?_))
    | refine g_seq ?_ | refine g_region ?_ | refine g_nil ?_ | refine g_then_normal ?_ | refine g_block ?_ | refine g_in_normal ?_ | refine g_retc ?_ | refine g_then_ret ?_
    | refine g_in_ret ?_ | refine g_exit ?_ | refine g_then_exit ?_ | refine g_in_exit ?_ | refine g_in_other rfl ?_ | refine g_skip ?_ | refine g_label ?_
    | refine g_cond_true rfl ?_ | refine g_cond_false rfl ?_ | exact s_m | intro _)
  rename_i tb y _
  obtain ⟨q2, c2⟩ := y
  have hf2 := mfind_no m room (ops + 1) last q2 c2 (ddel ds k) to hNo (by omega)
  have hpu := put m room (ops + 1) last q2 c2 (ddel ds k) (x.as to) j hPut (by omega)
  dsimp only [List.cons_append, List.nil_append, Df.as, Df.cells] at hpu ⊢
  repeat (first
    | (refine g_ops ?_; first | refine s_q ?_ | refine s_v ?_ | refine s_s ?_ | refine s_n (fun _ => ?_) | refine s_x ?_ | refine s_y ?_ | refine s_mq ?_ | refine s_app (fun _ _ => ?_) | refine s_mv ?_ | refine s_ms ?_ | refine s_b0 (fun _ => ?_) | ((fail_if_success refine g_lit rfl rfl rfl ?_); first | apply g_partM rfl rfl rfl | apply g_partMB rfl rfl rfl | fail) | refine s_k (hf2) ?_)
    | refine g_seq ?_ | refine g_region ?_ | refine g_nil ?_ | refine g_then_normal ?_ | refine g_block ?_ | refine g_in_normal ?_ | refine g_retc ?_ | refine g_then_ret ?_
    | refine g_in_ret ?_ | refine g_exit ?_ | refine g_then_exit ?_ | refine g_in_exit ?_ | refine g_in_other rfl ?_ | refine g_skip ?_ | refine g_label ?_
    | refine g_cond_true rfl ?_ | refine g_cond_false rfl ?_ | exact s_m | intro _)
  repeat (first
    | (refine g_ops ?_; first | refine s_q ?_ | refine s_v ?_ | refine s_s ?_ | refine s_n (fun _ => ?_) | refine s_x ?_ | refine s_y ?_ | refine s_mq ?_ | refine s_app (fun _ _ => ?_) | refine s_mv ?_ | refine s_ms ?_ | refine s_b0 (fun _ => ?_) | ((fail_if_success refine g_lit rfl rfl rfl ?_); first | apply g_partM rfl rfl rfl | apply g_partMB rfl rfl rfl | fail) | refine s_c (hpu) (fun _ _ => ?_))
    | refine g_seq ?_ | refine g_region ?_ | refine g_nil ?_ | refine g_then_normal ?_ | refine g_block ?_ | refine g_in_normal ?_ | refine g_retc ?_ | refine g_then_ret ?_
    | refine g_in_ret ?_ | refine g_exit ?_ | refine g_then_exit ?_ | refine g_in_exit ?_ | refine g_in_other rfl ?_ | refine g_skip ?_ | refine g_label ?_
    | refine g_cond_true rfl ?_ | refine g_cond_false rfl ?_ | exact s_m | intro _)
  rename_i y _
  exact g_ret y rfl (by (repeat (first | exact RVs.nil | apply RVs.tmp rfl | apply RVs.cellA rfl (by (repeat (first | exact Sel.here | apply Sel.there)); first | done | fail) (by (repeat (first | exact Cut.zero | apply Cut.take | apply Cut.skip)); first | done | fail) | apply RVs.cell1 rfl (by (repeat (first | exact Sel.here | apply Sel.there)); first | done | fail) rfl)); first | done | fail) (by (repeat (first | exact Take.nil | apply Take.cons | exact Sel.here | apply Sel.there)); first | done | fail) rfl trivial
set_option maxHeartbeats 2000000 in
theorem mren_to (m : Nat) (room : Int) (q : Option Addr) (c : Nat) (ops last : Int) (ds : List Df) (h0 : 0 ≤ ops ∧ ops ≤ 1000000000) (hoff : ¬ (0 ≤ last ∧ ops + 1 > last)) (nm to : ByteArray) (hne : nm ≠ to) (k : Nat) (hW : FndAt ds nm k) (hkl : k < ds.length) (hn : ds.length ≤ 2000) (hz : to.size ≤ 9223372036854775807) (hb : nmOk to = true)
    (i : Nat) (hYes : FndAt (ddel ds k) to i) (j : Nat) (hPut : PutAt (ddel (ddel ds k) i) to j) :
    Does Try.prog 42 [ptr m, .string nm, .string to] (mL m room ops last q c ds []) (X := OA) (fun _ => int 0) (fun y => mL m room (ops + 1) last y.1 y.2 (dins (ddel (ddel ds k) i) j ((ds[k]).as to)) []) (fun _ => True) := by
  have ho := offM m room q ds.length c ops last h0
  rw [decide_eq_false hoff] at ho
  have hfi := mfind_yes m room (ops + 1) last q c ds nm k hW hn
  have hbd := badM to hz
  rw [hb] at hbd
  have hwo := without m room (ops + 1) last q c ds k hkl hn
  have hdl := ddel_len ds k hkl
  have hil := hYes.lt
  have hdl2 := ddel_len (ddel ds k) i hil
  have hge : ds[k]? = some ds[k] := by simp [hkl]
  generalize hdx : ds[k] = x at hge ⊢
  refine fn_intro Try.func42 rfl Try.ntmps42 rfl (by simp only [argFr, Nat.zero_add, Nat.reduceAdd]; rfl) (fun Γ => ?_)
  repeat (first
    | (refine g_ops ?_; first | refine s_q ?_ | refine s_v ?_ | refine s_s ?_ | refine s_n (fun _ => ?_) | refine s_x ?_ | refine s_y ?_ | refine s_mq ?_ | refine s_app (fun _ _ => ?_) | refine s_mv ?_ | refine s_ms ?_ | refine s_b0 (fun _ => ?_) | ((fail_if_success refine g_lit rfl rfl rfl ?_); first | apply g_partM rfl rfl rfl | apply g_partMB rfl rfl rfl | fail) | refine s_p (hbd) ?_ | refine s_k (hfi) ?_ | refine s_c (ho) (fun _ _ => ?_))
    | refine g_seq ?_ | refine g_region ?_ | refine g_nil ?_ | refine g_then_normal ?_ | refine g_block ?_ | refine g_in_normal ?_ | refine g_retc ?_ | refine g_then_ret ?_
    | refine g_in_ret ?_ | refine g_exit ?_ | refine g_then_exit ?_ | refine g_in_exit ?_ | refine g_in_other rfl ?_ | refine g_skip ?_ | refine g_label ?_
    | refine g_cond_true rfl ?_ | refine g_cond_false rfl ?_ | exact s_m | intro _)
  refine g_cond_dec rfl (fun h => absurd h hne) (fun _ => ?_)
  refine g_own (p := q) (len := ds.length) (cap := c) (n := 3) (xs := ds.flatMap Df.cells) (e := 97) (by (repeat (first | exact Sel.here | apply Sel.there)); first | done | fail) (fun _ _ hp => ?_)
  obtain ⟨b, rfl⟩ := hp (by omega)
  have hrow := own_at (b := b) (len := ds.length) (cap := c) (e := 97) df_len hge
  repeat (first
    | (refine g_ops ?_; first | refine s_q ?_ | refine s_v ?_ | refine s_s ?_ | refine s_n (fun _ => ?_) | refine s_x ?_ | refine s_y ?_ | refine s_mq ?_ | refine s_app (fun _ _ => ?_) | refine s_mv ?_ | refine s_ms ?_ | refine s_b0 (fun _ => ?_) | ((fail_if_success refine g_lit rfl rfl rfl ?_); first | apply g_partM rfl rfl rfl | apply g_partMB rfl rfl rfl | fail) | refine s_c (hwo) (fun _ _ => ?_))
    | refine g_seq ?_ | refine g_region ?_ | refine g_nil ?_ | refine g_then_normal ?_ | refine g_block ?_ | refine g_in_normal ?_ | refine g_retc ?_ | refine g_then_ret ?_
    | refine g_in_ret ?_ | refine g_exit ?_ | refine g_then_exit ?_ | refine g_in_exit ?_ | refine g_in_other rfl ?_ | refine g_skip ?_ | refine g_label ?_
    | refine g_cond_true rfl ?_ | refine g_cond_false rfl ?_ | exact s_m | intro _)
  rename_i tb y _
  obtain ⟨q2, c2⟩ := y
  have hf2 := mfind_yes m room (ops + 1) last q2 c2 (ddel ds k) to i hYes (by omega)
  have hwo2 := without m room (ops + 1) last q2 c2 (ddel ds k) i hil (by omega)
  dsimp only [List.cons_append, List.nil_append]
  repeat (first
    | (refine g_ops ?_; first | refine s_q ?_ | refine s_v ?_ | refine s_s ?_ | refine s_n (fun _ => ?_) | refine s_x ?_ | refine s_y ?_ | refine s_mq ?_ | refine s_app (fun _ _ => ?_) | refine s_mv ?_ | refine s_ms ?_ | refine s_b0 (fun _ => ?_) | ((fail_if_success refine g_lit rfl rfl rfl ?_); first | apply g_partM rfl rfl rfl | apply g_partMB rfl rfl rfl | fail) | refine s_k (hf2) ?_)
    | refine g_seq ?_ | refine g_region ?_ | refine g_nil ?_ | refine g_then_normal ?_ | refine g_block ?_ | refine g_in_normal ?_ | refine g_retc ?_ | refine g_then_ret ?_
    | refine g_in_ret ?_ | refine g_exit ?_ | refine g_then_exit ?_ | refine g_in_exit ?_ | refine g_in_other rfl ?_ | refine g_skip ?_ | refine g_label ?_
    | refine g_cond_true rfl ?_ | refine g_cond_false rfl ?_ | exact s_m | intro _)
  refine g_as 36 (v' := .bool true) rfl (congrArg Value.bool (decide_eq_true (by omega))) ?_
  repeat (first
    | (refine g_ops ?_; first | refine s_q ?_ | refine s_v ?_ | refine s_s ?_ | refine s_n (fun _ => ?_) | refine s_x ?_ | refine s_y ?_ | refine s_mq ?_ | refine s_app (fun _ _ => ?_) | refine s_mv ?_ | refine s_ms ?_ | refine s_b0 (fun _ => ?_) | ((fail_if_success refine g_lit rfl rfl rfl ?_); first | apply g_partM rfl rfl rfl | apply g_partMB rfl rfl rfl | fail) | refine s_c (hwo2) (fun _ _ => ?_))
    | refine g_seq ?_ | refine g_region ?_ | refine g_nil ?_ | refine g_then_normal ?_ | refine g_block ?_ | refine g_in_normal ?_ | refine g_retc ?_ | refine g_then_ret ?_
    | refine g_in_ret ?_ | refine g_exit ?_ | refine g_then_exit ?_ | refine g_in_exit ?_ | refine g_in_other rfl ?_ | refine g_skip ?_ | refine g_label ?_
    | refine g_cond_true rfl ?_ | refine g_cond_false rfl ?_ | exact s_m | intro _)
  rename_i y _
  obtain ⟨q3, c3⟩ := y
  have hpu := put m room (ops + 1) last q3 c3 (ddel (ddel ds k) i) (x.as to) j hPut (by omega)
  dsimp only [List.cons_append, List.nil_append, Df.as, Df.cells] at hpu ⊢
  repeat (first
    | (refine g_ops ?_; first | refine s_q ?_ | refine s_v ?_ | refine s_s ?_ | refine s_n (fun _ => ?_) | refine s_x ?_ | refine s_y ?_ | refine s_mq ?_ | refine s_app (fun _ _ => ?_) | refine s_mv ?_ | refine s_ms ?_ | refine s_b0 (fun _ => ?_) | ((fail_if_success refine g_lit rfl rfl rfl ?_); first | apply g_partM rfl rfl rfl | apply g_partMB rfl rfl rfl | fail) | refine s_c (hpu) (fun _ _ => ?_))
    | refine g_seq ?_ | refine g_region ?_ | refine g_nil ?_ | refine g_then_normal ?_ | refine g_block ?_ | refine g_in_normal ?_ | refine g_retc ?_ | refine g_then_ret ?_
    | refine g_in_ret ?_ | refine g_exit ?_ | refine g_then_exit ?_ | refine g_in_exit ?_ | refine g_in_other rfl ?_ | refine g_skip ?_ | refine g_label ?_
    | refine g_cond_true rfl ?_ | refine g_cond_false rfl ?_ | exact s_m | intro _)
  rename_i y _
  exact g_ret y rfl (by (repeat (first | exact RVs.nil | apply RVs.tmp rfl | apply RVs.cellA rfl (by (repeat (first | exact Sel.here | apply Sel.there)); first | done | fail) (by (repeat (first | exact Cut.zero | apply Cut.take | apply Cut.skip)); first | done | fail) | apply RVs.cell1 rfl (by (repeat (first | exact Sel.here | apply Sel.there)); first | done | fail) rfl)); first | done | fail) (by (repeat (first | exact Take.nil | apply Take.cons | exact Sel.here | apply Sel.there)); first | done | fail) rfl trivial
end Go.Proofs.Ytfjkfcfmbipfhaa

namespace Go.Proofs.Ytfjkfcfmbipfhaa
open Go.Sl facts
attribute [local irreducible] Code.wp wpList Exit.then Exit.inBlock bodyPost Back MidQ G GP QStep VStep CStep SStep Does Post Reads
structure CyX where
  m : Nat
  q : Option Addr
  c : Nat
theorem mcopy (m : Nat) (room : Int) (q : Option Addr) (c : Nat) (ops last : Int) (ds : List Df) (hn : ds.length ≤ 2000) :
    Does Try.prog 47 [ptr m] (mL m room ops last q c ds []) (X := CyX) (fun y => ptr y.m) (fun y => mL y.m room ops last y.q y.c ds (mL m room ops last q c ds [])) (fun _ => True) := by
  refine fn_intro Try.func47 rfl Try.ntmps47 rfl (by simp only [argFr, Nat.zero_add, Nat.reduceAdd]; rfl) (fun Γ => ?_)
  repeat (first
    | (refine g_ops ?_; first | refine s_q ?_ | refine s_v ?_ | refine s_s ?_ | refine s_n (fun _ => ?_) | refine s_x ?_ | refine s_y ?_ | refine s_mq ?_ | refine s_app (fun _ _ => ?_) | refine s_mv ?_ | refine s_ms ?_ | refine s_b0 (fun _ => ?_) | ((fail_if_success refine g_lit rfl rfl rfl ?_); first | apply g_partM rfl rfl rfl | apply g_partMB rfl rfl rfl | fail))
    | refine g_seq ?_ | refine g_region ?_ | refine g_nil ?_ | refine g_then_normal ?_ | refine g_block ?_ | refine g_in_normal ?_ | refine g_retc ?_ | refine g_then_ret ?_
    | refine g_in_ret ?_ | refine g_exit ?_ | refine g_then_exit ?_ | refine g_in_exit ?_ | refine g_in_other rfl ?_ | refine g_skip ?_ | refine g_label ?_
    | refine g_cond_true rfl ?_ | refine g_cond_false rfl ?_ | exact s_m | intro _)
  refine g_draw (.take 0 (.take 1 (.take 2 (.see 3 [] (.take 5 (.take 6 (.take 7 (.see 8 [] (.take 10 (.take 11 (.take 12 (.see 13 [] (.take 14 (.take 15 (.take 16 (.see 17 [] (.one 4 (.one 9 (.take 18 (.one 19 (.take 20 .done))))))))))))))))))))) (by kernel_rfl) (C := mL m room ops last q c ds []) (by (repeat (first | exact Take.nil | apply Take.cons | exact Sel.here | apply Sel.there)); first | done | fail) (fun k hd hk => ?_)
  repeat (first
    | (refine gp_take ?_; first | refine p_q ?_ | refine p_x ?_ | refine p_mq ?_ | ((fail_if_success refine gp_lit rfl rfl rfl rfl ?_); first | apply gp_guard_dec rfl rfl rfl rfl | apply gp_guard rfl rfl rfl rfl | fail))
    | (refine gp_see ?_; first | refine p_f ?_ | refine p_sx ?_ | ((fail_if_success refine gp_lit rfl rfl rfl rfl ?_); first | apply gp_guard_dec rfl rfl rfl rfl | apply gp_guard rfl rfl rfl rfl | fail) | refine p_sq ?_)
    | (refine gp_one ?_; first | refine p_v ?_ | refine p_s ?_ | refine p_n (fun _ => ?_) | refine p_y ?_ | refine p_app (fun _ _ => ?_) | refine p_mv ?_ | refine p_ms ?_ | refine p_b0 (fun _ => ?_) | ((fail_if_success refine gp_lit rfl rfl rfl rfl ?_); first | apply gp_guard_dec rfl rfl rfl rfl | apply gp_guard rfl rfl rfl rfl | fail))
    | refine gp_two ?_ ?_ | refine gp_done hd hk ?_ | intro _ | refine p_ta hd hk (fun _ _ _ hd hk => ?_) | refine p_ts hd hk (fun _ hd hk => ?_))
  refine p_app (src := srcOwnF hd hk inferInstance (by (repeat (first | exact Sel.here | apply Sel.there)); first | done | fail)) (fun q2 c2 => ?_)
  rw [List.nil_append, Nat.zero_add]
  repeat (first
    | (refine gp_take ?_; first | refine p_q ?_ | refine p_x ?_ | refine p_mq ?_ | ((fail_if_success refine gp_lit rfl rfl rfl rfl ?_); first | apply gp_guard_dec rfl rfl rfl rfl | apply gp_guard rfl rfl rfl rfl | fail))
    | (refine gp_see ?_; first | refine p_f ?_ | refine p_sx ?_ | ((fail_if_success refine gp_lit rfl rfl rfl rfl ?_); first | apply gp_guard_dec rfl rfl rfl rfl | apply gp_guard rfl rfl rfl rfl | fail) | refine p_sq ?_)
    | (refine gp_one ?_; first | refine p_v ?_ | refine p_s ?_ | refine p_n (fun _ => ?_) | refine p_y ?_ | refine p_app (fun _ _ => ?_) | refine p_mv ?_ | refine p_ms ?_ | refine p_b0 (fun _ => ?_) | ((fail_if_success refine gp_lit rfl rfl rfl rfl ?_); first | apply gp_guard_dec rfl rfl rfl rfl | apply gp_guard rfl rfl rfl rfl | fail))
    | refine gp_two ?_ ?_ | refine gp_done hd hk ?_ | intro _ | refine p_ta hd hk (fun _ _ _ hd hk => ?_) | refine p_ts hd hk (fun _ hd hk => ?_))
  dsimp only [List.cons_append, List.nil_append]
  repeat (first
    | (refine g_ops ?_; first | refine s_q ?_ | refine s_v ?_ | refine s_s ?_ | refine s_n (fun _ => ?_) | refine s_x ?_ | refine s_y ?_ | refine s_mq ?_ | refine s_app (fun _ _ => ?_) | refine s_mv ?_ | refine s_ms ?_ | refine s_b0 (fun _ => ?_) | ((fail_if_success refine g_lit rfl rfl rfl ?_); first | apply g_partM rfl rfl rfl | apply g_partMB rfl rfl rfl | fail))
    | refine g_seq ?_ | refine g_region ?_ | refine g_nil ?_ | refine g_then_normal ?_ | refine g_block ?_ | refine g_in_normal ?_ | refine g_retc ?_ | refine g_then_ret ?_
    | refine g_in_ret ?_ | refine g_exit ?_ | refine g_then_exit ?_ | refine g_in_exit ?_ | refine g_in_other rfl ?_ | refine g_skip ?_ | refine g_label ?_
    | refine g_cond_true rfl ?_ | refine g_cond_false rfl ?_ | exact s_m | intro _)
  rename_i m2
  exact g_ret (⟨m2, q2, c2⟩ : CyX) rfl (by (repeat (first | exact RVs.nil | apply RVs.tmp rfl | apply RVs.cellA rfl (by (repeat (first | exact Sel.here | apply Sel.there)); first | done | fail) (by (repeat (first | exact Cut.zero | apply Cut.take | apply Cut.skip)); first | done | fail) | apply RVs.cell1 rfl (by (repeat (first | exact Sel.here | apply Sel.there)); first | done | fail) rfl)); first | done | fail) (by (repeat (first | exact Take.nil | apply Take.cons | exact Sel.here | apply Sel.there)); first | done | fail) rfl trivial
def atD (ds : List Df) : Nat → Nat
  | 0 => 0
  | i + 1 => if h : i < ds.length then (if 0 < ds[i].bs.length - ds[i].sy then atD ds i + 1 else atD ds i) else atD ds i
def keepD (l : List Int) (a : Nat) (n : Nat) : Nat := keep n (l.drop a).length ((l.drop a).headD 0)
theorem atD_le (ds : List Df) : ∀ i, atD ds i ≤ i
  | 0 => Nat.le_refl _
  | i + 1 => by
    have := atD_le ds i
    unfold atD
    split
    · split <;> omega
    · omega
def crD (ds : List Df) (l : List Int) (i : Nat) (y : Df) : Prop := ∀ h : i < ds.length, dfD y = (ds[i].nm, ds[i].bs.take (ds[i].sy + keepD l (atD ds i) (ds[i].bs.length - ds[i].sy)), (ds[i].bs.take (ds[i].sy + keepD l (atD ds i) (ds[i].bs.length - ds[i].sy))).length)
structure CeX where
  ds : List Df
  q : Option Addr
  c : Nat
  H : HP
structure CfX where
  m : Nat
  x : CeX
set_option maxHeartbeats 4000000 in
theorem mcrash (m : Nat) (room : Int) (q : Option Addr) (c : Nat) (ops last : Int) (ds : List Df) (hn : ds.length ≤ 2000) {H : HP} (hD : DsAt H ds) (hsy : ∀ x ∈ ds, x.sy ≤ x.bs.length ∧ x.bs.length ≤ 1000000) (k : Pk) (hk : PkAt (Pile H) k) (hkl : k.l.length ≤ 1000000) :
    Does Try.prog 45 [ptr m, .slice k.p k.l.length k.c] (Pile H :: mL m room ops last q c ds []) (X := CfX) (fun y => ptr y.m) (fun y => Pile y.x.H :: mL y.m room 0 (-1) y.x.q y.x.c y.x.ds (mL m room ops last q c ds []))
      (fun y => HP.sub H y.x.H ∧ DsAt y.x.H y.x.ds ∧ y.x.ds.length = ds.length ∧ ∀ (i : Nat) (h : i < y.x.ds.length), crD ds k.l i y.x.ds[i]) := by
  obtain ⟨pp, pl, pc⟩ := k
  dsimp only at hk hkl ⊢
  obtain ⟨_, hka⟩ := hk
  dsimp only at hka
  refine fn_intro Try.func45 rfl Try.ntmps45 rfl (by simp only [argFr, Nat.zero_add, Nat.reduceAdd]; rfl) (fun Γ => ?_)
  repeat (first
    | (refine g_ops ?_; first | refine s_q ?_ | refine s_v ?_ | refine s_s ?_ | refine s_n (fun _ => ?_) | refine s_x ?_ | refine s_y ?_ | refine s_mq ?_ | refine s_app (fun _ _ => ?_) | refine s_mv ?_ | refine s_ms ?_ | refine s_b0 (fun _ => ?_) | ((fail_if_success refine g_lit rfl rfl rfl ?_); first | apply g_partM rfl rfl rfl | apply g_partMB rfl rfl rfl | fail))
    | refine g_seq ?_ | refine g_region ?_ | refine g_nil ?_ | refine g_then_normal ?_ | refine g_block ?_ | refine g_in_normal ?_ | refine g_retc ?_ | refine g_then_ret ?_
    | refine g_in_ret ?_ | refine g_exit ?_ | refine g_then_exit ?_ | refine g_in_exit ?_ | refine g_in_other rfl ?_ | refine g_skip ?_ | refine g_label ?_
    | refine g_cond_true rfl ?_ | refine g_cond_false rfl ?_ | exact s_m | intro _)
  rename_i m2
  refine g_own (p := q) (len := ds.length) (cap := c) (n := 3) (xs := ds.flatMap Df.cells) (e := 97) (by (repeat (first | exact Sel.here | apply Sel.there)); first | done | fail) (fun _ _ hp => ?_)
  refine g_own_nil none 3 97 ?_
  refine g_loop (X := CeX) (fun s => [(0, ptr m), (1, .slice pp pl.length pc), (5, ptr m2), (6, int (atD ds s.ds.length : Nat)), (7, int (s.ds.length : Nat))]) (fun s => Pile s.H :: mL m2 room 0 (-1) s.q s.c s.ds (mL m room ops last q c ds []))
    (fun s => s.ds.length ≤ ds.length ∧ HP.sub H s.H ∧ DsAt s.H s.ds ∧ ∀ (i : Nat) (h : i < s.ds.length), crD ds pl i s.ds[i]) (fun s => ds.length - s.ds.length) ⟨[], none, 0, H⟩ ⟨Nat.zero_le _, HP.sub.refl _, (fun x hx => by cases hx), fun i h => by simp at h⟩ (by (repeat (first | exact FrSub.nil | refine FrSub.cons rfl ?_)); first | done | fail) (by (repeat (first | exact Take.nil | apply Take.cons | exact Sel.here | apply Sel.there)); first | done | fail) (fun s hs => ?_)
  obtain ⟨es, q2, c2, H2⟩ := s
  obtain ⟨hs1, hs2, hs3, hs4⟩ := hs
  dsimp only at hs1 hs2 hs3 hs4 ⊢
  repeat (first
    | (refine g_ops ?_; first | refine s_q ?_ | refine s_v ?_ | refine s_s ?_ | refine s_n (fun _ => ?_) | refine s_x ?_ | refine s_y ?_ | refine s_mq ?_ | refine s_app (fun _ _ => ?_) | refine s_mv ?_ | refine s_ms ?_ | refine s_b0 (fun _ => ?_) | ((fail_if_success refine g_lit rfl rfl rfl ?_); first | apply g_partM rfl rfl rfl | apply g_partMB rfl rfl rfl | fail))
    | refine g_seq ?_ | refine g_region ?_ | refine g_nil ?_ | refine g_then_normal ?_ | refine g_block ?_ | refine g_in_normal ?_ | refine g_retc ?_ | refine g_then_ret ?_
    | refine g_in_ret ?_ | refine g_exit ?_ | refine g_then_exit ?_ | refine g_in_exit ?_ | refine g_in_other rfl ?_ | refine g_skip ?_ | refine g_label ?_
    | refine g_cond_true rfl ?_ | refine g_cond_false rfl ?_ | exact s_m | intro _)
  refine g_cond_dec rfl (fun h => ?_) (fun h => ?_)
  · have hlt : es.length < ds.length := by omega
    obtain ⟨b, rfl⟩ := hp (by omega)
    have hge : ds[es.length]? = some ds[es.length] := by simp [hlt]
    have hrow := own_at (b := b) (len := ds.length) (cap := c) (e := 97) df_len hge
    obtain ⟨hSo, hSc⟩ := (hD.grow hs2) (ds[es.length]'hlt) (List.getElem_mem _)
    obtain ⟨hsy1, hsy2⟩ := hsy (ds[es.length]'hlt) (List.getElem_mem _)
    have hcr : ∀ y : Df, dfD y = (ds[es.length].nm, ds[es.length].bs.take (ds[es.length].sy + keepD pl (atD ds es.length) (ds[es.length].bs.length - ds[es.length].sy)), (ds[es.length].bs.take (ds[es.length].sy + keepD pl (atD ds es.length) (ds[es.length].bs.length - ds[es.length].sy))).length) → crD ds pl es.length y := fun y hy _ => hy
    have hatn : atD ds (es.length + 1) = if 0 < ds[es.length].bs.length - ds[es.length].sy then atD ds es.length + 1 else atD ds es.length := by rw [atD, dif_pos hlt]
    have hatl := atD_le ds es.length
    generalize ds[es.length] = x at hrow hge hSo hSc hsy1 hsy2 hcr hatn
    generalize atD ds es.length = a at hcr hatn hatl ⊢
    obtain ⟨xnm, xp, xc, xbs, xsy⟩ := x
    dsimp only at hSo hSc hsy1 hsy2 hcr hatn
    obtain ⟨n, hne⟩ : ∃ n, xbs.length - xsy = n := ⟨_, rfl⟩
    rw [hne] at hcr hatn
    have hKl := keep_le n (pl.drop a).length ((pl.drop a).headD 0)
    repeat (first
      | (refine g_ops ?_; first | refine s_q ?_ | refine s_v ?_ | refine s_s ?_ | refine s_n (fun _ => ?_) | refine s_x ?_ | refine s_y ?_ | refine s_mq ?_ | refine s_app (fun _ _ => ?_) | refine s_mv ?_ | refine s_ms ?_ | refine s_b0 (fun _ => ?_) | ((fail_if_success refine g_lit rfl rfl rfl ?_); first | apply g_partM rfl rfl rfl | apply g_partMB rfl rfl rfl | fail))
      | refine g_seq ?_ | refine g_region ?_ | refine g_nil ?_ | refine g_then_normal ?_ | refine g_block ?_ | refine g_in_normal ?_ | refine g_retc ?_
      | refine g_then_ret ?_ | refine g_in_ret ?_ | refine g_exit ?_ | refine g_then_exit ?_ | refine g_in_exit ?_ | refine g_in_other rfl ?_ | refine g_skip ?_
      | refine g_label ?_ | refine g_cond_true rfl ?_ | refine g_cond_false rfl ?_ | exact s_m | intro _)
    rename_i tb
    dsimp only
    have hni : (xbs.length : Int) - (xsy : Int) = (n : Int) := by omega
    rw [hni]
    obtain ⟨a2, ha2⟩ : ∃ a2, (if 0 < n then a + 1 else a) = a2 := ⟨_, rfl⟩
    rw [ha2] at hatn
    obtain ⟨K, hKe⟩ : ∃ K, keepD pl a n = K := ⟨_, rfl⟩
    rw [hKe] at hcr
    have hKn : K ≤ n := by rw [← hKe]; exact hKl
    refine g_cutX (X := Unit) (fun _ => [(0, ptr m), (1, .slice pp pl.length pc), (5, ptr m2), (6, int (a2 : Nat)), (7, int (es.length : Nat)), (8, ptr tb), (10, int (K : Nat))]) (fun _ => .row tb [.string xnm, .slice xp xbs.length xc, int xsy] 97 :: Pile H2 :: mL m2 room 0 (-1) q2 c2 es (mL m room ops last (some ⟨b, 0, none⟩) c ds [])) (fun _ => True) ?_ (fun _ _ => ?_)
    · refine g_cond_dec rfl (fun h1 => ?_) (fun h1 => ?_)
      · have hn0 : 0 < n := by omega
        rw [if_pos hn0] at ha2
        repeat (first
          | (refine g_ops ?_; first | refine s_q ?_ | refine s_v ?_ | refine s_s ?_ | refine s_n (fun _ => ?_) | refine s_x ?_ | refine s_y ?_ | refine s_mq ?_ | refine s_app (fun _ _ => ?_) | refine s_mv ?_ | refine s_ms ?_ | refine s_b0 (fun _ => ?_) | ((fail_if_success refine g_lit rfl rfl rfl ?_); first | apply g_partM rfl rfl rfl | apply g_partMB rfl rfl rfl | fail))
          | refine g_seq ?_ | refine g_region ?_ | refine g_nil ?_ | refine g_then_normal ?_ | refine g_block ?_ | refine g_in_normal ?_ | refine g_retc ?_
          | refine g_then_ret ?_ | refine g_in_ret ?_ | refine g_exit ?_ | refine g_then_exit ?_ | refine g_in_exit ?_ | refine g_in_other rfl ?_ | refine g_skip ?_
          | refine g_label ?_ | refine g_cond_true rfl ?_ | refine g_cond_false rfl ?_ | exact s_m | intro _)
        refine g_cond_dec rfl (fun h2 => ?_) (fun h2 => ?_)
        · have hal : a < pl.length := by omega
          obtain ⟨hv, pb, po, rfl, hq⟩ := hka a pl[a] (by simp [hal])
          have hq := reads_grow hs2 hq
          have hhd : (pl.drop a).headD 0 = pl[a] := by rw [List.drop_eq_getElem_cons hal]; rfl
          have hlf := lf_in pl[a] ((n : Int) + 1) (by omega)
          have hK2 : (K : Int) = lf pl[a] ((n : Int) + 1) := by
            rw [← hKe, keepD, keep, if_pos ⟨hn0, by rw [List.length_drop]; omega⟩, hhd]
            omega
          generalize pl[a] = v at hv hq hlf hK2
          have hr : ∀ j, j = a → Reads (Pile H2) ⟨pb, po + j, none⟩ (int v) := fun j e => by subst e; exact hq
          repeat (first
            | (refine g_ops ?_; first | refine s_q ?_ | refine s_v ?_ | refine s_s ?_ | refine s_n (fun _ => ?_) | refine s_x ?_ | refine s_y ?_ | refine s_mq ?_ | refine s_app (fun _ _ => ?_) | refine s_mv ?_ | refine s_ms ?_ | refine s_b0 (fun _ => ?_) | ((fail_if_success refine g_lit rfl rfl rfl ?_); first | apply g_partM rfl rfl rfl | apply g_partMB rfl rfl rfl | fail))
            | refine g_seq ?_ | refine g_region ?_ | refine g_nil ?_ | refine g_then_normal ?_ | refine g_block ?_ | refine g_in_normal ?_ | refine g_retc ?_
            | refine g_then_ret ?_ | refine g_in_ret ?_ | refine g_exit ?_ | refine g_then_exit ?_ | refine g_in_exit ?_ | refine g_in_other rfl ?_ | refine g_skip ?_
            | refine g_label ?_ | refine g_cond_true rfl ?_ | refine g_cond_false rfl ?_ | exact s_m | intro _)
          refine s_q (q := by exact qs_rem rfl rfl (by omega)) ?_
          repeat (first
            | (refine g_ops ?_; first | refine s_q ?_ | refine s_v ?_ | refine s_s ?_ | refine s_n (fun _ => ?_) | refine s_x ?_ | refine s_y ?_ | refine s_mq ?_ | refine s_app (fun _ _ => ?_) | refine s_mv ?_ | refine s_ms ?_ | refine s_b0 (fun _ => ?_) | ((fail_if_success refine g_lit rfl rfl rfl ?_); first | apply g_partM rfl rfl rfl | apply g_partMB rfl rfl rfl | fail))
            | refine g_seq ?_ | refine g_region ?_ | refine g_nil ?_ | refine g_then_normal ?_ | refine g_block ?_ | refine g_in_normal ?_ | refine g_retc ?_
            | refine g_then_ret ?_ | refine g_in_ret ?_ | refine g_exit ?_ | refine g_then_exit ?_ | refine g_in_exit ?_ | refine g_in_other rfl ?_ | refine g_skip ?_
            | refine g_label ?_ | refine g_cond_true rfl ?_ | refine g_cond_false rfl ?_ | exact s_m | intro _)
          refine g_cond_dec rfl (fun h3 => ?_) (fun h3 => ?_)
          · have e : lf v ((n : Int) + 1) = v.tmod ((n : Int) + 1) + ((n : Int) + 1) := if_pos h3
            rw [e] at hK2 hlf
            repeat (first
              | (refine g_ops ?_; first | refine s_q ?_ | refine s_v ?_ | refine s_s ?_ | refine s_n (fun _ => ?_) | refine s_x ?_ | refine s_y ?_ | refine s_mq ?_ | refine s_app (fun _ _ => ?_) | refine s_mv ?_ | refine s_ms ?_ | refine s_b0 (fun _ => ?_) | ((fail_if_success refine g_lit rfl rfl rfl ?_); first | apply g_partM rfl rfl rfl | apply g_partMB rfl rfl rfl | fail))
              | refine g_seq ?_ | refine g_region ?_ | refine g_nil ?_ | refine g_then_normal ?_ | refine g_block ?_ | refine g_in_normal ?_ | refine g_retc ?_
              | refine g_then_ret ?_ | refine g_in_ret ?_ | refine g_exit ?_ | refine g_then_exit ?_ | refine g_in_exit ?_ | refine g_in_other rfl ?_ | refine g_skip ?_
              | refine g_label ?_ | refine g_cond_true rfl ?_ | refine g_cond_false rfl ?_ | exact s_m | intro _)
            refine g_as 10 (v' := int (K : Nat)) rfl (congrArg (Value.int .i64) (by omega)) ?_
            refine g_as 6 (v' := int (a2 : Nat)) rfl (congrArg (Value.int .i64) (by omega)) ?_
            exact g_midX () trivial (by (repeat (first | exact FrSub.nil | refine FrSub.cons rfl ?_)); first | done | fail) (by (repeat (first | exact Take.nil | apply Take.cons | exact Sel.here | apply Sel.there)); first | done | fail)
          · have e : lf v ((n : Int) + 1) = v.tmod ((n : Int) + 1) := if_neg h3
            rw [e] at hK2 hlf
            repeat (first
              | (refine g_ops ?_; first | refine s_q ?_ | refine s_v ?_ | refine s_s ?_ | refine s_n (fun _ => ?_) | refine s_x ?_ | refine s_y ?_ | refine s_mq ?_ | refine s_app (fun _ _ => ?_) | refine s_mv ?_ | refine s_ms ?_ | refine s_b0 (fun _ => ?_) | ((fail_if_success refine g_lit rfl rfl rfl ?_); first | apply g_partM rfl rfl rfl | apply g_partMB rfl rfl rfl | fail))
              | refine g_seq ?_ | refine g_region ?_ | refine g_nil ?_ | refine g_then_normal ?_ | refine g_block ?_ | refine g_in_normal ?_ | refine g_retc ?_
              | refine g_then_ret ?_ | refine g_in_ret ?_ | refine g_exit ?_ | refine g_then_exit ?_ | refine g_in_exit ?_ | refine g_in_other rfl ?_ | refine g_skip ?_
              | refine g_label ?_ | refine g_cond_true rfl ?_ | refine g_cond_false rfl ?_ | exact s_m | intro _)
            refine g_as 10 (v' := int (K : Nat)) rfl (congrArg (Value.int .i64) (by omega)) ?_
            refine g_as 6 (v' := int (a2 : Nat)) rfl (congrArg (Value.int .i64) (by omega)) ?_
            exact g_midX () trivial (by (repeat (first | exact FrSub.nil | refine FrSub.cons rfl ?_)); first | done | fail) (by (repeat (first | exact Take.nil | apply Take.cons | exact Sel.here | apply Sel.there)); first | done | fail)
        · have hK0 : K = 0 := by
            rw [← hKe, keepD, keep, if_neg (by rw [List.length_drop]; omega)]
          subst hK0
          repeat (first
            | (refine g_ops ?_; first | refine s_q ?_ | refine s_v ?_ | refine s_s ?_ | refine s_n (fun _ => ?_) | refine s_x ?_ | refine s_y ?_ | refine s_mq ?_ | refine s_app (fun _ _ => ?_) | refine s_mv ?_ | refine s_ms ?_ | refine s_b0 (fun _ => ?_) | ((fail_if_success refine g_lit rfl rfl rfl ?_); first | apply g_partM rfl rfl rfl | apply g_partMB rfl rfl rfl | fail))
            | refine g_seq ?_ | refine g_region ?_ | refine g_nil ?_ | refine g_then_normal ?_ | refine g_block ?_ | refine g_in_normal ?_ | refine g_retc ?_
            | refine g_then_ret ?_ | refine g_in_ret ?_ | refine g_exit ?_ | refine g_then_exit ?_ | refine g_in_exit ?_ | refine g_in_other rfl ?_ | refine g_skip ?_
            | refine g_label ?_ | refine g_cond_true rfl ?_ | refine g_cond_false rfl ?_ | exact s_m | intro _)
          refine g_as 6 (v' := int (a2 : Nat)) rfl (congrArg (Value.int .i64) (by omega)) ?_
          exact g_midX () trivial (by (repeat (first | exact FrSub.nil | refine FrSub.cons rfl ?_)); first | done | fail) (by (repeat (first | exact Take.nil | apply Take.cons | exact Sel.here | apply Sel.there)); first | done | fail)
      · rw [if_neg (by omega)] at ha2
        have hK0 : K = 0 := by
          rw [← hKe, keepD, keep, if_neg (by omega)]
        subst hK0 ha2
        repeat (first
          | (refine g_ops ?_; first | refine s_q ?_ | refine s_v ?_ | refine s_s ?_ | refine s_n (fun _ => ?_) | refine s_x ?_ | refine s_y ?_ | refine s_mq ?_ | refine s_app (fun _ _ => ?_) | refine s_mv ?_ | refine s_ms ?_ | refine s_b0 (fun _ => ?_) | ((fail_if_success refine g_lit rfl rfl rfl ?_); first | apply g_partM rfl rfl rfl | apply g_partMB rfl rfl rfl | fail))
          | refine g_seq ?_ | refine g_region ?_ | refine g_nil ?_ | refine g_then_normal ?_ | refine g_block ?_ | refine g_in_normal ?_ | refine g_retc ?_
          | refine g_then_ret ?_ | refine g_in_ret ?_ | refine g_exit ?_ | refine g_then_exit ?_ | refine g_in_exit ?_ | refine g_in_other rfl ?_ | refine g_skip ?_
          | refine g_label ?_ | refine g_cond_true rfl ?_ | refine g_cond_false rfl ?_ | exact s_m | intro _)
        exact g_midX () trivial (by (repeat (first | exact FrSub.nil | refine FrSub.cons rfl ?_)); first | done | fail) (by (repeat (first | exact Take.nil | apply Take.cons | exact Sel.here | apply Sel.there)); first | done | fail)
    · have hlt2 : (xbs.take (xsy + K)).length = xsy + K := by simp; omega
      have hS2 := slAt_take hSo (show xsy + K ≤ xbs.length by omega)
      repeat (first
        | (refine g_ops ?_; first | refine s_q ?_ | refine s_v ?_ | refine s_s ?_ | refine s_n (fun _ => ?_) | refine s_x ?_ | refine s_y ?_ | refine s_mq ?_ | refine s_app (fun _ _ => ?_) | refine s_mv ?_ | refine s_ms ?_ | refine s_b0 (fun _ => ?_) | ((fail_if_success refine g_lit rfl rfl rfl ?_); first | apply g_partM rfl rfl rfl | apply g_partMB rfl rfl rfl | fail))
        | refine g_seq ?_ | refine g_region ?_ | refine g_nil ?_ | refine g_then_normal ?_ | refine g_block ?_ | refine g_in_normal ?_ | refine g_retc ?_
        | refine g_then_ret ?_ | refine g_in_ret ?_ | refine g_exit ?_ | refine g_then_exit ?_ | refine g_in_exit ?_ | refine g_in_other rfl ?_ | refine g_skip ?_
        | refine g_label ?_ | refine g_cond_true rfl ?_ | refine g_cond_false rfl ?_ | exact s_m | intro _)
      refine g_as 67 (v' := int ((xsy + K : Nat) : Int)) rfl (congrArg (Value.int .i64) (by push_cast; rfl)) ?_
      refine s_q (q := by exact qs_slice (l := 0) (h := xsy + K) inferInstance inferInstance rfl .none (.some rfl rfl) (Nat.zero_le _) (by omega)) ?_
      refine g_as 68 (v' := .slice xp (xbs.take (xsy + K)).length xc) rfl (by rw [offTake, hlt2]) ?_
      generalize hw : xbs.take (xsy + K) = w at hlt2 hcr hS2 ⊢
      refine s_app (src := srcAt hS2 inferInstance (by (repeat (first | exact Sel.here | apply Sel.there)); first | done | fail) (by decide)) (fun q3 c3 => ?_)
      rw [List.nil_append, Nat.zero_add]
      refine g_own (p := q3) (len := w.length) (cap := c3) (n := 1) (xs := cells8 w) (e := 5) (by (repeat (first | exact Sel.here | apply Sel.there)); first | done | fail) (fun _ hc3 _ => ?_)
      refine g_pile (p := q3) (m := w.length) (c := c3) (n := 1) (xs := cells8 w) (e := 5) (by (repeat (first | exact Sel.here | apply Sel.there)); first | done | fail) (by (repeat (first | exact Sel.here | apply Sel.there)); first | done | fail) (fun H3 hs5 hA3 => ?_)
      repeat (first
        | (refine g_ops ?_; first | refine s_q ?_ | refine s_v ?_ | refine s_s ?_ | refine s_n (fun _ => ?_) | refine s_x ?_ | refine s_y ?_ | refine s_mq ?_ | refine s_app (fun _ _ => ?_) | refine s_mv ?_ | refine s_ms ?_ | refine s_b0 (fun _ => ?_) | ((fail_if_success refine g_lit rfl rfl rfl ?_); first | apply g_partM rfl rfl rfl | apply g_partMB rfl rfl rfl | fail))
        | refine g_seq ?_ | refine g_region ?_ | refine g_nil ?_ | refine g_then_normal ?_ | refine g_block ?_ | refine g_in_normal ?_ | refine g_retc ?_
        | refine g_then_ret ?_ | refine g_in_ret ?_ | refine g_exit ?_ | refine g_then_exit ?_ | refine g_in_exit ?_ | refine g_in_other rfl ?_ | refine g_skip ?_
        | refine g_label ?_ | refine g_cond_true rfl ?_ | refine g_cond_false rfl ?_ | exact s_m | intro _)
      refine g_drawO (p := q2) (len := es.length) (cap := c2) (.take 0 (.take 1 (.take 2 (.take 3 (.see 4 [12,13,14,15] (.take 5 (.see 6 [10,11,12,13,14,15] (.take 7 (.take 8 (.take 9 (.take 10 (.one 11 (.one 12 (.take 13 (.take 14 (.thaw 15 .done)))))))))))))))) (by (repeat (first | exact Sel.here | apply Sel.there)); first | done | fail) (fun k hd hk => ?_)
      repeat (first
        | (refine gp_take ?_; first | refine p_q ?_ | refine p_x ?_ | refine p_mq ?_ | ((fail_if_success refine gp_lit rfl rfl rfl rfl ?_); first | apply gp_guard_dec rfl rfl rfl rfl | apply gp_guard rfl rfl rfl rfl | fail))
        | (refine gp_see ?_; first | refine p_f ?_ | refine p_sx ?_ | ((fail_if_success refine gp_lit rfl rfl rfl rfl ?_); first | apply gp_guard_dec rfl rfl rfl rfl | apply gp_guard rfl rfl rfl rfl | fail) | refine p_sq ?_)
        | (refine gp_one ?_; first | refine p_v ?_ | refine p_s ?_ | refine p_n (fun _ => ?_) | refine p_y ?_ | refine p_app (fun _ _ => ?_) | refine p_mv ?_ | refine p_ms ?_ | refine p_b0 (fun _ => ?_) | ((fail_if_success refine gp_lit rfl rfl rfl rfl ?_); first | apply gp_guard_dec rfl rfl rfl rfl | apply gp_guard rfl rfl rfl rfl | fail))
        | refine gp_two ?_ ?_ | refine gp_done hd hk ?_ | intro _ | refine p_ta hd hk (fun _ _ _ hd hk => ?_) | refine p_ts hd hk (fun _ hd hk => ?_))
      rename_i q4 c4 sb
      dsimp only [List.cons_append, List.nil_append]
      obtain ⟨y, hye⟩ : ∃ y : Df, y = ⟨xnm, q3, c3, w, w.length⟩ := ⟨_, rfl⟩
      have hlc : es.flatMap Df.cells ++ [Value.string xnm, .slice q3 w.length c3, int (w.length : Nat)] = (es ++ [y]).flatMap Df.cells := by subst hye; simp [Df.cells]
      have hll : (es ++ [y]).length = es.length + 1 := by simp
      repeat (first
        | (refine g_ops ?_; first | refine s_q ?_ | refine s_v ?_ | refine s_s ?_ | refine s_n (fun _ => ?_) | refine s_x ?_ | refine s_y ?_ | refine s_mq ?_ | refine s_app (fun _ _ => ?_) | refine s_mv ?_ | refine s_ms ?_ | refine s_b0 (fun _ => ?_) | ((fail_if_success refine g_lit rfl rfl rfl ?_); first | apply g_partM rfl rfl rfl | apply g_partMB rfl rfl rfl | fail))
        | refine g_seq ?_ | refine g_region ?_ | refine g_nil ?_ | refine g_then_normal ?_ | refine g_block ?_ | refine g_in_normal ?_ | refine g_retc ?_
        | refine g_then_ret ?_ | refine g_in_ret ?_ | refine g_exit ?_ | refine g_then_exit ?_ | refine g_in_exit ?_ | refine g_in_other rfl ?_ | refine g_skip ?_
        | refine g_label ?_ | refine g_cond_true rfl ?_ | refine g_cond_false rfl ?_ | exact s_m | intro _)
      rw [hlc, ← hll]
      refine g_as 7 (v' := int ((es ++ [y]).length : Nat)) rfl (congrArg (Value.int .i64) (by rw [hll]; push_cast; rfl)) ?_
      refine g_as 6 (v' := int (atD ds (es ++ [y]).length : Nat)) rfl (by rw [hll, hatn]) ?_
      refine g_again ⟨es ++ [y], q4, c4, H3⟩ (by simp only; omega) ⟨by simp only; omega, hs2.trans hs5, fun z hz => ?_, fun i hi => ?_⟩ (by (repeat (first | exact FrSub.nil | refine FrSub.cons rfl ?_)); first | done | fail) (by (repeat (first | exact Take.nil | apply Take.cons | exact Sel.here | apply Sel.there)); first | done | fail)
      · rcases List.mem_append.1 hz with hz | hz
        · exact (hs3.grow hs5) z hz
        · obtain rfl := List.mem_singleton.1 hz
          subst hye
          exact ⟨hA3, hc3⟩
      · dsimp only at hi ⊢
        by_cases hi2 : i < es.length
        · rw [List.getElem_append_left hi2]
          exact hs4 i hi2
        · have hie : i = es.length := by omega
          subst hie
          rw [List.getElem_append_right (Nat.le_refl _)]
          simp only [Nat.sub_self, List.getElem_cons_zero]
          exact hcr y (by subst hye; rfl)
  · have h' : es.length = ds.length := by omega
    repeat (first
      | (refine g_ops ?_; first | refine s_q ?_ | refine s_v ?_ | refine s_s ?_ | refine s_n (fun _ => ?_) | refine s_x ?_ | refine s_y ?_ | refine s_mq ?_ | refine s_app (fun _ _ => ?_) | refine s_mv ?_ | refine s_ms ?_ | refine s_b0 (fun _ => ?_) | ((fail_if_success refine g_lit rfl rfl rfl ?_); first | apply g_partM rfl rfl rfl | apply g_partMB rfl rfl rfl | fail))
      | refine g_seq ?_ | refine g_region ?_ | refine g_nil ?_ | refine g_then_normal ?_ | refine g_block ?_ | refine g_in_normal ?_ | refine g_retc ?_
      | refine g_then_ret ?_ | refine g_in_ret ?_ | refine g_exit ?_ | refine g_then_exit ?_ | refine g_in_exit ?_ | refine g_in_other rfl ?_ | refine g_skip ?_
      | refine g_label ?_ | refine g_cond_true rfl ?_ | refine g_cond_false rfl ?_ | exact s_m | intro _)
    exact g_ret (⟨m2, ⟨es, q2, c2, H2⟩⟩ : CfX) rfl (by (repeat (first | exact RVs.nil | apply RVs.tmp rfl | apply RVs.cellA rfl (by (repeat (first | exact Sel.here | apply Sel.there)); first | done | fail) (by (repeat (first | exact Cut.zero | apply Cut.take | apply Cut.skip)); first | done | fail) | apply RVs.cell1 rfl (by (repeat (first | exact Sel.here | apply Sel.there)); first | done | fail) rfl)); first | done | fail) (by (repeat (first | exact Take.nil | apply Take.cons | exact Sel.here | apply Sel.there)); first | done | fail) rfl ⟨hs2, hs3, h', hs4⟩
end Go.Proofs.Ytfjkfcfmbipfhaa

namespace Go.Proofs.Ytfjkfcfmbipfhaa
open Go.Sl facts
theorem rel_of {fs : List Fi} {ds : List Df} (hl : ds.length = fs.length) (h : ∀ (i : Nat) (h1 : i < ds.length) (h2 : i < fs.length), dfD ds[i] = fiD fs[i]) : Rel fs ds := by
  refine List.ext_getElem (by simpa using hl) (fun i h1 h2 => ?_)
  simp only [List.getElem_map]
  exact h i (by simpa using h1) (by simpa using h2)
theorem sort_of {fs gs : List Fi} (hl : gs.length = fs.length) (h : ∀ (i : Nat) (h1 : i < gs.length) (h2 : i < fs.length), gs[i].nm = fs[i].nm) (hs : SortF fs) : SortF gs := by
  have e : gs.map Fi.nm = fs.map Fi.nm := by
    refine List.ext_getElem (by simpa using hl) (fun i h1 h2 => ?_)
    simp only [List.getElem_map]
    exact h i (by simpa using h1) (by simpa using h2)
  unfold SortF
  rw [e]
  exact hs
theorem used_of : ∀ {fs gs : List Fi}, gs.length = fs.length → (∀ (i : Nat) (h1 : i < gs.length) (h2 : i < fs.length), gs[i].safe.length + gs[i].loose.length ≤ fs[i].safe.length + fs[i].loose.length) → used gs ≤ used fs
  | [], [], _, _ => Nat.le_refl _
  | [], _ :: _, h, _ => by simp at h
  | _ :: _, [], h, _ => by simp at h
  | x :: fs, y :: gs, h, k => by
    have ih := used_of (fs := fs) (gs := gs) (by simpa using h) (fun i h1 h2 => by
      have := k (i + 1) (by simp; omega) (by simp; omega)
      simpa using this)
    have h0 := k 0 (by simp) (by simp)
    simp only [List.getElem_cons_zero] at h0
    simp only [used]
    omega
theorem picks_same {fs : List Fi} {ds : List Df} (h : Rel fs ds) (k : Pk) : ∀ i, i ≤ fs.length → (pkAt fs k i).l = k.l.drop (atD ds i)
  | 0, _ => rfl
  | i + 1, hi => by
    have ih := picks_same h k i (by omega)
    have hl := h.len
    have hd : i < ds.length := by omega
    obtain ⟨_, e2, e3⟩ := h.at_ hd (show i < fs.length by omega)
    have en : ds[i].bs.length - ds[i].sy = fs[i].loose.length := by rw [e2, e3, List.length_append]; omega
    rw [pkAt, dif_pos (show i < fs.length by omega), atD, dif_pos hd, en]
    unfold Pk.nxt
    rw [ih]
    by_cases h0 : 0 < fs[i].loose.length
    · by_cases h1 : 0 < (k.l.drop (atD ds i)).length
      · rw [if_pos ⟨h0, h1⟩, if_pos h0]
        simp only [ih, List.drop_drop]
      · rw [if_neg (by omega), if_pos h0, ih]
        rw [List.length_drop] at h1
        rw [List.drop_of_length_le (by omega), List.drop_of_length_le (by omega)]
    · rw [if_neg (by omega), if_neg h0, ih]
theorem take_more {α : Type} (a b : List α) (n : Nat) : (a ++ b).take (a.length + n) = a ++ b.take n := by
  rw [List.take_append, List.take_of_length_le (by omega), Nat.add_sub_cancel_left]
theorem crash_rel {fs gs : List Fi} {ds es : List Df} (h : Rel fs ds) (hs : SortF fs) (k : Pk) (hg : gs.length = fs.length) (he : es.length = ds.length) (h1 : ∀ (i : Nat) (h : i < gs.length), crOut fs k i gs[i]) (h2 : ∀ (i : Nat) (h : i < es.length), crD ds k.l i es[i]) :
    Rel gs es ∧ SortF gs ∧ used gs ≤ used fs := by
  have hl := h.len
  refine ⟨rel_of (by omega) (fun i i1 i2 => ?_), sort_of hg (fun i i1 i2 => (h1 i i1 i2).1) hs, used_of hg (fun i i1 i2 => ?_)⟩
  · obtain ⟨a1, a2, a3⟩ := h1 i i2 (by omega)
    have b := h2 i i1 (by omega)
    have hd : i < ds.length := by omega
    obtain ⟨e1, e2, e3⟩ := h.at_ hd (show i < fs.length by omega)
    have en : ds[i].bs.length - ds[i].sy = fs[i].loose.length := by rw [e2, e3, List.length_append]; omega
    rw [b, en, keepD, ← picks_same h k i (by omega), e1, e2, e3, take_more]
    unfold fiD
    rw [a1, a2, a3, List.append_nil]
  · obtain ⟨a1, a2, a3⟩ := h1 i i1 i2
    rw [a2, a3, List.length_append, List.length_take]
    simp only [List.length_nil]
    omega
theorem copy_rel {fs gs : List Fi} {ds : List Df} (h : Rel fs ds) (hs : SortF fs) (hg : gs.length = fs.length) (h1 : ∀ (i : Nat) (h : i < gs.length), cpOut fs i gs[i]) :
    Rel gs ds ∧ SortF gs ∧ used gs ≤ used fs := by
  have hl := h.len
  refine ⟨rel_of (by omega) (fun i i1 i2 => ?_), sort_of hg (fun i i1 i2 => (h1 i i1 i2).1) hs, used_of hg (fun i i1 i2 => ?_)⟩
  · obtain ⟨a1, a2, a3⟩ := h1 i i2 (by omega)
    obtain ⟨e1, e2, e3⟩ := h.at_ i1 (show i < fs.length by omega)
    unfold fiD dfD
    rw [a1, a2, a3, e1, e2, e3]
  · obtain ⟨a1, a2, a3⟩ := h1 i i1 i2
    rw [a2, a3]
    exact Nat.le_refl _
theorem PosIs.one {fs : List Fi} {nm : ByteArray} {p r : Nat} (h : PosIs fs nm p) (k : PosIs fs nm r) : p = r := by
  rcases Nat.lt_trichotomy p r with q | q | q
  · have := h.hi p (by have := k.le; omega) (Nat.le_refl _)
    exact absurd (k.lo p (by have := k.le; omega) q) this
  · exact q
  · have := k.hi r (by have := h.le; omega) (Nat.le_refl _)
    exact absurd (h.lo r (by have := h.le; omega) q) this
theorem pos_del {fs : List Fi} (hs : SortF fs) {pos : Nat} (hlt : pos < fs.length) : PosIs (del fs pos) fs[pos].nm pos ∧ foundB (del fs pos) fs[pos].nm pos = false := by
  have hl := del_len fs pos hlt
  have hlen : (fs.take pos).length = pos := by simp; omega
  have hhi : ∀ (i : Nat) (h : i < (del fs pos).length), pos ≤ i → ltB fs[pos].nm (del fs pos)[i].nm = true := fun i h hp => by
    have e : (del fs pos)[i] = fs[i + 1]'(by omega) := by
      simp only [del]
      rw [List.getElem_append_right (by omega), List.getElem_drop]
      congr 1
      omega
    rw [e]
    exact hs.lt (show pos < i + 1 by omega) (by omega)
  refine ⟨⟨by omega, fun i h hp => ?_, fun i h hp hc => ?_⟩, ?_⟩
  · have e : (del fs pos)[i] = fs[i]'(by omega) := by
      simp only [del]
      rw [List.getElem_append_left (by omega), List.getElem_take]
    rw [e]
    exact cmpS_neg.2 (hs.lt hp hlt)
  · have := ltB_asym (hhi i h hp)
    rw [cmpS_neg.1 hc] at this
    cases this
  · unfold foundB
    split
    · rename_i h
      refine decide_eq_false fun e => ?_
      have e := cmpS_zero.1 e
      have := hhi pos h (Nat.le_refl _)
      rw [e, ltB_irr] at this
      cases this
    · rfl
theorem ins_same {fs : List Fi} {ds : List Df} (h : Rel fs ds) {pos : Nat} (hlt : pos < fs.length) : Rel (ins (del fs pos) pos (fs[pos].as fs[pos].nm)) ds := by
  have e := ins_del fs pos (fs[pos].as fs[pos].nm) hlt
  unfold Rel at h ⊢
  rw [show ins (del fs pos) pos (fs[pos].as fs[pos].nm) = fs.take pos ++ (fs[pos].as fs[pos].nm) :: fs.drop (pos + 1) from e, h]
  have := congrArg (List.map fiD) (split_at fs pos hlt)
  rw [this]
theorem PutAt.del {fs : List Fi} {ds : List Df} (h : Rel fs ds) (hs : SortF fs) {to : ByteArray} {i : Nat} (hP : PosIs fs to i) (hf : foundB fs to i = true) : PutAt (ddel ds i) to i := by
  have hlt := found_lt hf
  have hn := found_nm hf hlt
  obtain ⟨p1, p2⟩ := pos_del hs hlt
  rw [hn] at p1 p2
  exact (h.del i).put (sort_del hs i) p1 p2
end Go.Proofs.Ytfjkfcfmbipfhaa
