/- Contracts and laws that the proof stands on. -/
import Derived.Test.YtfjkfcfmbipfhaaDiskPlays19
import Derived.Test.YtfjkfcfmbipfhaaDiskPlays12
set_option linter.unusedSimpArgs false
set_option linter.unusedVariables false
namespace Go.Proofs.Ytfjkfcfmbipfhaa
open Go.Sl facts
attribute [local irreducible] Code.wp wpList Exit.then Exit.inBlock bodyPost Back MidQ G GP QStep VStep CStep SStep Does Post Reads
theorem msync_off (m : Nat) (room : Int) (q : Option Addr) (n c : Nat) (ops last : Int) (h0 : 0 ≤ ops ∧ ops ≤ 1000000000) (hoff : 0 ≤ last ∧ ops + 1 > last) (nm : ByteArray) : Does Try.prog 41 [ptr m, .string nm] [mrow m room q n c ops last] (X := Unit) (fun _ => int 9) (fun _ => [mrow m room q n c (ops + 1) last]) (fun _ => True) := by
  have ho := offM m room q n c ops last h0
  rw [decide_eq_true hoff] at ho
  refine fn_intro Try.func41 rfl Try.ntmps41 rfl (by simp only [argFr, Nat.zero_add, Nat.reduceAdd]; rfl) (fun Γ => ?_)
  repeat (first
    | (refine g_ops ?_; first | refine s_q ?_ | refine s_v ?_ | refine s_s ?_ | refine s_n (fun _ => ?_) | refine s_x ?_ | refine s_y ?_ | refine s_mq ?_ | refine s_app (fun _ _ => ?_) | refine s_mv ?_ | refine s_ms ?_ | refine s_b0 (fun _ => ?_) | ((fail_if_success refine g_lit rfl rfl rfl ?_); first | apply g_partM rfl rfl rfl | apply g_partMB rfl rfl rfl | fail) | refine s_c (ho) (fun _ _ => ?_))
    | refine g_seq ?_ | refine g_region ?_ | refine g_nil ?_ | refine g_then_normal ?_ | refine g_block ?_ | refine g_in_normal ?_ | refine g_retc ?_ | refine g_then_ret ?_
    | refine g_in_ret ?_ | refine g_exit ?_ | refine g_then_exit ?_ | refine g_in_exit ?_ | refine g_in_other rfl ?_ | refine g_skip ?_ | refine g_label ?_
    | refine g_cond_true rfl ?_ | refine g_cond_false rfl ?_ | exact s_m | intro _)
  exact g_ret () rfl (by (repeat (first | exact RVs.nil | apply RVs.tmp rfl | apply RVs.cellA rfl (by (repeat (first | exact Sel.here | apply Sel.there)); first | done | fail) (by (repeat (first | exact Cut.zero | apply Cut.take | apply Cut.skip)); first | done | fail) | apply RVs.cell1 rfl (by (repeat (first | exact Sel.here | apply Sel.there)); first | done | fail) rfl)); first | done | fail) (by (repeat (first | exact Take.nil | apply Take.cons | exact Sel.here | apply Sel.there)); first | done | fail) rfl trivial
theorem msync_no (m : Nat) (room : Int) (q : Option Addr) (c : Nat) (ops last : Int) (ds : List Df) (h0 : 0 ≤ ops ∧ ops ≤ 1000000000) (hoff : ¬ (0 ≤ last ∧ ops + 1 > last)) (nm : ByteArray) (hW : FndNo ds nm) (hn : ds.length ≤ 2000) :
    Does Try.prog 41 [ptr m, .string nm] (mL m room ops last q c ds []) (X := Unit) (fun _ => int 4) (fun _ => mL m room (ops + 1) last q c ds []) (fun _ => True) := by
  have ho := offM m room q ds.length c ops last h0
  rw [decide_eq_false hoff] at ho
  have hfi := mfind_no m room (ops + 1) last q c ds nm hW hn
  refine fn_intro Try.func41 rfl Try.ntmps41 rfl (by simp only [argFr, Nat.zero_add, Nat.reduceAdd]; rfl) (fun Γ => ?_)
  repeat (first
    | (refine g_ops ?_; first | refine s_q ?_ | refine s_v ?_ | refine s_s ?_ | refine s_n (fun _ => ?_) | refine s_x ?_ | refine s_y ?_ | refine s_mq ?_ | refine s_app (fun _ _ => ?_) | refine s_mv ?_ | refine s_ms ?_ | refine s_b0 (fun _ => ?_) | ((fail_if_success refine g_lit rfl rfl rfl ?_); first | apply g_partM rfl rfl rfl | apply g_partMB rfl rfl rfl | fail) | refine s_k (hfi) ?_ | refine s_c (ho) (fun _ _ => ?_))
    | refine g_seq ?_ | refine g_region ?_ | refine g_nil ?_ | refine g_then_normal ?_ | refine g_block ?_ | refine g_in_normal ?_ | refine g_retc ?_ | refine g_then_ret ?_
    | refine g_in_ret ?_ | refine g_exit ?_ | refine g_then_exit ?_ | refine g_in_exit ?_ | refine g_in_other rfl ?_ | refine g_skip ?_ | refine g_label ?_
    | refine g_cond_true rfl ?_ | refine g_cond_false rfl ?_ | exact s_m | intro _)
  exact g_ret () rfl (by (repeat (first | exact RVs.nil | apply RVs.tmp rfl | apply RVs.cellA rfl (by (repeat (first | exact Sel.here | apply Sel.there)); first | done | fail) (by (repeat (first | exact Cut.zero | apply Cut.take | apply Cut.skip)); first | done | fail) | apply RVs.cell1 rfl (by (repeat (first | exact Sel.here | apply Sel.there)); first | done | fail) rfl)); first | done | fail) (by (repeat (first | exact Take.nil | apply Take.cons | exact Sel.here | apply Sel.there)); first | done | fail) rfl trivial
abbrev Df.sync (x : Df) : Df := ⟨x.nm, x.p, x.c, x.bs, x.bs.length⟩
set_option maxHeartbeats 1000000 in
theorem msync (m : Nat) (room : Int) (q : Option Addr) (c : Nat) (ops last : Int) (ds : List Df) (h0 : 0 ≤ ops ∧ ops ≤ 1000000000) (hoff : ¬ (0 ≤ last ∧ ops + 1 > last)) (nm : ByteArray) (k : Nat) (hW : FndAt ds nm k) (hkl : k < ds.length) (hn : ds.length ≤ 2000) (hb : (ds[k]).bs.length ≤ 1000000) :
    Does Try.prog 41 [ptr m, .string nm] (mL m room ops last q c ds []) (X := Unit) (fun _ => int 0) (fun _ => mL m room (ops + 1) last q c (dupd ds k (ds[k]).sync) []) (fun _ => True) := by
  have ho := offM m room q ds.length c ops last h0
  rw [decide_eq_false hoff] at ho
  have hfi := mfind_yes m room (ops + 1) last q c ds nm k hW hn
  have hge : ds[k]? = some ds[k] := by simp [hkl]
  have hfl := flat_len df_len ds
  have hmem : ∀ z : Df, ds.set k z = dupd ds k z := fun z => set_upd ds k z hkl
  have hlu : ∀ z, (dupd ds k z).length = ds.length := fun z => by simp [dupd]; omega
  generalize hdx : ds[k] = x at hge hb ⊢
  refine fn_intro Try.func41 rfl Try.ntmps41 rfl (by simp only [argFr, Nat.zero_add, Nat.reduceAdd]; rfl) (fun Γ => ?_)
  repeat (first
    | (refine g_ops ?_; first | refine s_q ?_ | refine s_v ?_ | refine s_s ?_ | refine s_n (fun _ => ?_) | refine s_x ?_ | refine s_y ?_ | refine s_mq ?_ | refine s_app (fun _ _ => ?_) | refine s_mv ?_ | refine s_ms ?_ | refine s_b0 (fun _ => ?_) | ((fail_if_success refine g_lit rfl rfl rfl ?_); first | apply g_partM rfl rfl rfl | apply g_partMB rfl rfl rfl | fail) | refine s_k (hfi) ?_ | refine s_c (ho) (fun _ _ => ?_))
    | refine g_seq ?_ | refine g_region ?_ | refine g_nil ?_ | refine g_then_normal ?_ | refine g_block ?_ | refine g_in_normal ?_ | refine g_retc ?_ | refine g_then_ret ?_
    | refine g_in_ret ?_ | refine g_exit ?_ | refine g_then_exit ?_ | refine g_in_exit ?_ | refine g_in_other rfl ?_ | refine g_skip ?_ | refine g_label ?_
    | refine g_cond_true rfl ?_ | refine g_cond_false rfl ?_ | exact s_m | intro _)
  repeat (first
    | (refine g_ops ?_; first | refine s_q ?_ | refine s_v ?_ | refine s_s ?_ | refine s_n (fun _ => ?_) | refine s_x ?_ | refine s_y ?_ | refine s_mq ?_ | refine s_app (fun _ _ => ?_) | refine s_mv ?_ | refine s_ms ?_ | refine s_b0 (fun _ => ?_) | ((fail_if_success refine g_lit rfl rfl rfl ?_); first | apply g_partM rfl rfl rfl | apply g_partMB rfl rfl rfl | fail))
    | refine g_seq ?_ | refine g_region ?_ | refine g_nil ?_ | refine g_then_normal ?_ | refine g_block ?_ | refine g_in_normal ?_ | refine g_retc ?_ | refine g_then_ret ?_
    | refine g_in_ret ?_ | refine g_exit ?_ | refine g_then_exit ?_ | refine g_in_exit ?_ | refine g_in_other rfl ?_ | refine g_skip ?_ | refine g_label ?_
    | refine g_cond_true rfl ?_ | refine g_cond_false rfl ?_ | exact s_m | intro _)
  refine g_own (p := q) (len := ds.length) (cap := c) (n := 3) (xs := ds.flatMap Df.cells) (e := 97) (by (repeat (first | exact Sel.here | apply Sel.there)); first | done | fail) (fun _ _ hp => ?_)
  obtain ⟨b, rfl⟩ := hp (by omega)
  have hcell := own_at (b := b) (len := ds.length) (cap := c) (e := 97) df_len hge
  obtain ⟨xnm, xp, xc, xbs, xsy⟩ := x
  dsimp only at hb hcell ⊢
  refine g_draw (.take 0 (.take 1 (.take 2 (.see 3 [14,15,16] (.take 4 (.take 5 (.take 6 (.take 7 (.see 8 [10,11,12,13,14,15,16] (.take 9 (.take 10 (.take 11 (.see 12 [13,14,15,16] (.take 13 (.take 14 (.take 15 (.thaw 16 .done))))))))))))))))) (by kernel_rfl) (take_all _) (fun k2 hd hk => ?_)
  repeat (first
    | (refine gp_take ?_; first | refine p_q ?_ | refine p_x ?_ | refine p_mq ?_ | ((fail_if_success refine gp_lit rfl rfl rfl rfl ?_); first | apply gp_guard_dec rfl rfl rfl rfl | apply gp_guard rfl rfl rfl rfl | fail))
    | (refine gp_see ?_; first | refine p_f ?_ | refine p_sx ?_ | ((fail_if_success refine gp_lit rfl rfl rfl rfl ?_); first | apply gp_guard_dec rfl rfl rfl rfl | apply gp_guard rfl rfl rfl rfl | fail) | refine p_sq ?_)
    | (refine gp_one ?_; first | refine p_v ?_ | refine p_s ?_ | refine p_n (fun _ => ?_) | refine p_y ?_ | refine p_app (fun _ _ => ?_) | refine p_mv ?_ | refine p_ms ?_ | refine p_b0 (fun _ => ?_) | ((fail_if_success refine gp_lit rfl rfl rfl rfl ?_); first | apply gp_guard_dec rfl rfl rfl rfl | apply gp_guard rfl rfl rfl rfl | fail))
    | refine gp_two ?_ ?_ | refine gp_done hd hk ?_ | intro _ | refine p_ta hd hk (fun _ _ _ hd hk => ?_) | refine p_ts hd hk (fun _ hd hk => ?_))
  refine p_ts hd hk (fun k2 hd hk => ?_) (h := ss_storeOwn inferInstance rfl rfl rfl (by (repeat (first | exact Sel.here | apply Sel.there)); first | done | fail) (by rw [hfl]; omega))
  rw [flat_setC df_len ds k 2 ⟨xnm, xp, xc, xbs, xsy⟩ ⟨xnm, xp, xc, xbs, xbs.length⟩ _ hge rfl (by decide), hmem]
  repeat (first
    | (refine gp_take ?_; first | refine p_q ?_ | refine p_x ?_ | refine p_mq ?_ | ((fail_if_success refine gp_lit rfl rfl rfl rfl ?_); first | apply gp_guard_dec rfl rfl rfl rfl | apply gp_guard rfl rfl rfl rfl | fail))
    | (refine gp_see ?_; first | refine p_f ?_ | refine p_sx ?_ | ((fail_if_success refine gp_lit rfl rfl rfl rfl ?_); first | apply gp_guard_dec rfl rfl rfl rfl | apply gp_guard rfl rfl rfl rfl | fail) | refine p_sq ?_)
    | (refine gp_one ?_; first | refine p_v ?_ | refine p_s ?_ | refine p_n (fun _ => ?_) | refine p_y ?_ | refine p_app (fun _ _ => ?_) | refine p_mv ?_ | refine p_ms ?_ | refine p_b0 (fun _ => ?_) | ((fail_if_success refine gp_lit rfl rfl rfl rfl ?_); first | apply gp_guard_dec rfl rfl rfl rfl | apply gp_guard rfl rfl rfl rfl | fail))
    | refine gp_two ?_ ?_ | refine gp_done hd hk ?_ | intro _ | refine p_ta hd hk (fun _ _ _ hd hk => ?_) | refine p_ts hd hk (fun _ hd hk => ?_))
  dsimp only [List.cons_append, List.nil_append]
  repeat (first
    | (refine g_ops ?_; first | refine s_q ?_ | refine s_v ?_ | refine s_s ?_ | refine s_n (fun _ => ?_) | refine s_x ?_ | refine s_y ?_ | refine s_mq ?_ | refine s_app (fun _ _ => ?_) | refine s_mv ?_ | refine s_ms ?_ | refine s_b0 (fun _ => ?_) | ((fail_if_success refine g_lit rfl rfl rfl ?_); first | apply g_partM rfl rfl rfl | apply g_partMB rfl rfl rfl | fail))
    | refine g_seq ?_ | refine g_region ?_ | refine g_nil ?_ | refine g_then_normal ?_ | refine g_block ?_ | refine g_in_normal ?_ | refine g_retc ?_ | refine g_then_ret ?_
    | refine g_in_ret ?_ | refine g_exit ?_ | refine g_then_exit ?_ | refine g_in_exit ?_ | refine g_in_other rfl ?_ | refine g_skip ?_ | refine g_label ?_
    | refine g_cond_true rfl ?_ | refine g_cond_false rfl ?_ | exact s_m | intro _)
  exact g_ret () rfl (by (repeat (first | exact RVs.nil | apply RVs.tmp rfl | apply RVs.cellA rfl (by (repeat (first | exact Sel.here | apply Sel.there)); first | done | fail) (by (repeat (first | exact Cut.zero | apply Cut.take | apply Cut.skip)); first | done | fail) | apply RVs.cell1 rfl (by (repeat (first | exact Sel.here | apply Sel.there)); first | done | fail) rfl)); first | done | fail) (by dsimp only [mL, mrow, mown]; rw [hlu]; exact (by (repeat (first | exact Take.nil | apply Take.cons | exact Sel.here | apply Sel.there)); first | done | fail)) rfl trivial
theorem mrem_off (m : Nat) (room : Int) (q : Option Addr) (n c : Nat) (ops last : Int) (h0 : 0 ≤ ops ∧ ops ≤ 1000000000) (hoff : 0 ≤ last ∧ ops + 1 > last) (nm : ByteArray) : Does Try.prog 43 [ptr m, .string nm] [mrow m room q n c ops last] (X := Unit) (fun _ => int 9) (fun _ => [mrow m room q n c (ops + 1) last]) (fun _ => True) := by
  have ho := offM m room q n c ops last h0
  rw [decide_eq_true hoff] at ho
  refine fn_intro Try.func43 rfl Try.ntmps43 rfl (by simp only [argFr, Nat.zero_add, Nat.reduceAdd]; rfl) (fun Γ => ?_)
  repeat (first
    | (refine g_ops ?_; first | refine s_q ?_ | refine s_v ?_ | refine s_s ?_ | refine s_n (fun _ => ?_) | refine s_x ?_ | refine s_y ?_ | refine s_mq ?_ | refine s_app (fun _ _ => ?_) | refine s_mv ?_ | refine s_ms ?_ | refine s_b0 (fun _ => ?_) | ((fail_if_success refine g_lit rfl rfl rfl ?_); first | apply g_partM rfl rfl rfl | apply g_partMB rfl rfl rfl | fail) | refine s_c (ho) (fun _ _ => ?_))
    | refine g_seq ?_ | refine g_region ?_ | refine g_nil ?_ | refine g_then_normal ?_ | refine g_block ?_ | refine g_in_normal ?_ | refine g_retc ?_ | refine g_then_ret ?_
    | refine g_in_ret ?_ | refine g_exit ?_ | refine g_then_exit ?_ | refine g_in_exit ?_ | refine g_in_other rfl ?_ | refine g_skip ?_ | refine g_label ?_
    | refine g_cond_true rfl ?_ | refine g_cond_false rfl ?_ | exact s_m | intro _)
  exact g_ret () rfl (by (repeat (first | exact RVs.nil | apply RVs.tmp rfl | apply RVs.cellA rfl (by (repeat (first | exact Sel.here | apply Sel.there)); first | done | fail) (by (repeat (first | exact Cut.zero | apply Cut.take | apply Cut.skip)); first | done | fail) | apply RVs.cell1 rfl (by (repeat (first | exact Sel.here | apply Sel.there)); first | done | fail) rfl)); first | done | fail) (by (repeat (first | exact Take.nil | apply Take.cons | exact Sel.here | apply Sel.there)); first | done | fail) rfl trivial
theorem mrem_no (m : Nat) (room : Int) (q : Option Addr) (c : Nat) (ops last : Int) (ds : List Df) (h0 : 0 ≤ ops ∧ ops ≤ 1000000000) (hoff : ¬ (0 ≤ last ∧ ops + 1 > last)) (nm : ByteArray) (hW : FndNo ds nm) (hn : ds.length ≤ 2000) :
    Does Try.prog 43 [ptr m, .string nm] (mL m room ops last q c ds []) (X := Unit) (fun _ => int 4) (fun _ => mL m room (ops + 1) last q c ds []) (fun _ => True) := by
  have ho := offM m room q ds.length c ops last h0
  rw [decide_eq_false hoff] at ho
  have hfi := mfind_no m room (ops + 1) last q c ds nm hW hn
  refine fn_intro Try.func43 rfl Try.ntmps43 rfl (by simp only [argFr, Nat.zero_add, Nat.reduceAdd]; rfl) (fun Γ => ?_)
  repeat (first
    | (refine g_ops ?_; first | refine s_q ?_ | refine s_v ?_ | refine s_s ?_ | refine s_n (fun _ => ?_) | refine s_x ?_ | refine s_y ?_ | refine s_mq ?_ | refine s_app (fun _ _ => ?_) | refine s_mv ?_ | refine s_ms ?_ | refine s_b0 (fun _ => ?_) | ((fail_if_success refine g_lit rfl rfl rfl ?_); first | apply g_partM rfl rfl rfl | apply g_partMB rfl rfl rfl | fail) | refine s_k (hfi) ?_ | refine s_c (ho) (fun _ _ => ?_))
    | refine g_seq ?_ | refine g_region ?_ | refine g_nil ?_ | refine g_then_normal ?_ | refine g_block ?_ | refine g_in_normal ?_ | refine g_retc ?_ | refine g_then_ret ?_
    | refine g_in_ret ?_ | refine g_exit ?_ | refine g_then_exit ?_ | refine g_in_exit ?_ | refine g_in_other rfl ?_ | refine g_skip ?_ | refine g_label ?_
    | refine g_cond_true rfl ?_ | refine g_cond_false rfl ?_ | exact s_m | intro _)
  exact g_ret () rfl (by (repeat (first | exact RVs.nil | apply RVs.tmp rfl | apply RVs.cellA rfl (by (repeat (first | exact Sel.here | apply Sel.there)); first | done | fail) (by (repeat (first | exact Cut.zero | apply Cut.take | apply Cut.skip)); first | done | fail) | apply RVs.cell1 rfl (by (repeat (first | exact Sel.here | apply Sel.there)); first | done | fail) rfl)); first | done | fail) (by (repeat (first | exact Take.nil | apply Take.cons | exact Sel.here | apply Sel.there)); first | done | fail) rfl trivial
theorem mrem (m : Nat) (room : Int) (q : Option Addr) (c : Nat) (ops last : Int) (ds : List Df) (h0 : 0 ≤ ops ∧ ops ≤ 1000000000) (hoff : ¬ (0 ≤ last ∧ ops + 1 > last)) (nm : ByteArray) (k : Nat) (hW : FndAt ds nm k) (hn : ds.length ≤ 2000) :
    Does Try.prog 43 [ptr m, .string nm] (mL m room ops last q c ds []) (X := OA) (fun _ => int 0) (fun y => mL m room (ops + 1) last y.1 y.2 (ddel ds k) []) (fun _ => True) := by
  have ho := offM m room q ds.length c ops last h0
  rw [decide_eq_false hoff] at ho
  have hfi := mfind_yes m room (ops + 1) last q c ds nm k hW hn
  have hwo := without m room (ops + 1) last q c ds k hW.lt hn
  refine fn_intro Try.func43 rfl Try.ntmps43 rfl (by simp only [argFr, Nat.zero_add, Nat.reduceAdd]; rfl) (fun Γ => ?_)
  repeat (first
    | (refine g_ops ?_; first | refine s_q ?_ | refine s_v ?_ | refine s_s ?_ | refine s_n (fun _ => ?_) | refine s_x ?_ | refine s_y ?_ | refine s_mq ?_ | refine s_app (fun _ _ => ?_) | refine s_mv ?_ | refine s_ms ?_ | refine s_b0 (fun _ => ?_) | ((fail_if_success refine g_lit rfl rfl rfl ?_); first | apply g_partM rfl rfl rfl | apply g_partMB rfl rfl rfl | fail) | refine s_k (hfi) ?_ | refine s_c (ho) (fun _ _ => ?_))
    | refine g_seq ?_ | refine g_region ?_ | refine g_nil ?_ | refine g_then_normal ?_ | refine g_block ?_ | refine g_in_normal ?_ | refine g_retc ?_ | refine g_then_ret ?_
    | refine g_in_ret ?_ | refine g_exit ?_ | refine g_then_exit ?_ | refine g_in_exit ?_ | refine g_in_other rfl ?_ | refine g_skip ?_ | refine g_label ?_
    | refine g_cond_true rfl ?_ | refine g_cond_false rfl ?_ | exact s_m | intro _)
  repeat (first
    | (refine g_ops ?_; first | refine s_q ?_ | refine s_v ?_ | refine s_s ?_ | refine s_n (fun _ => ?_) | refine s_x ?_ | refine s_y ?_ | refine s_mq ?_ | refine s_app (fun _ _ => ?_) | refine s_mv ?_ | refine s_ms ?_ | refine s_b0 (fun _ => ?_) | ((fail_if_success refine g_lit rfl rfl rfl ?_); first | apply g_partM rfl rfl rfl | apply g_partMB rfl rfl rfl | fail) | refine s_c (hwo) (fun _ _ => ?_))
    | refine g_seq ?_ | refine g_region ?_ | refine g_nil ?_ | refine g_then_normal ?_ | refine g_block ?_ | refine g_in_normal ?_ | refine g_retc ?_ | refine g_then_ret ?_
    | refine g_in_ret ?_ | refine g_exit ?_ | refine g_then_exit ?_ | refine g_in_exit ?_ | refine g_in_other rfl ?_ | refine g_skip ?_ | refine g_label ?_
    | refine g_cond_true rfl ?_ | refine g_cond_false rfl ?_ | exact s_m | intro _)
  rename_i y _
  exact g_ret y rfl (by (repeat (first | exact RVs.nil | apply RVs.tmp rfl | apply RVs.cellA rfl (by (repeat (first | exact Sel.here | apply Sel.there)); first | done | fail) (by (repeat (first | exact Cut.zero | apply Cut.take | apply Cut.skip)); first | done | fail) | apply RVs.cell1 rfl (by (repeat (first | exact Sel.here | apply Sel.there)); first | done | fail) rfl)); first | done | fail) (by (repeat (first | exact Take.nil | apply Take.cons | exact Sel.here | apply Sel.there)); first | done | fail) rfl trivial
theorem mread (m : Nat) (room : Int) (q : Option Addr) (c : Nat) (ops last : Int) (ds : List Df) (nm : ByteArray) (k : Nat) (hW : FndAt ds nm k) (hkl : k < ds.length) (hn : ds.length ≤ 2000) {H : HP} (hD : DsAt H ds) (hb : (ds[k]).bs.length ≤ 1000000) :
    Does Try.prog 50 [ptr m, .string nm] (Pile H :: mL m room ops last q c ds []) (X := OA) (fun x => .tuple #[.slice x.1 (ds[k]).bs.length x.2, int 0]) (fun x => .own x.1 (ds[k]).bs.length x.2 1 (cells8 (ds[k]).bs) 5 :: Pile H :: mL m room ops last q c ds []) (fun _ => True) := by
  have hfi := mfind_yes m room ops last q c ds nm k hW hn
  have hge : ds[k]? = some ds[k] := by simp [hkl]
  obtain ⟨hSo, _⟩ := hD ds[k] (List.getElem_mem _)
  generalize hdx : ds[k] = x at hge hSo hb ⊢
  obtain ⟨xnm, xp, xc, xbs, xsy⟩ := x
  dsimp only at hSo hb ⊢
  refine fn_intro Try.func50 rfl Try.ntmps50 rfl (by simp only [argFr, Nat.zero_add, Nat.reduceAdd]; rfl) (fun Γ => ?_)
  repeat (first
    | (refine g_ops ?_; first | refine s_q ?_ | refine s_v ?_ | refine s_s ?_ | refine s_n (fun _ => ?_) | refine s_x ?_ | refine s_y ?_ | refine s_mq ?_ | refine s_app (fun _ _ => ?_) | refine s_mv ?_ | refine s_ms ?_ | refine s_b0 (fun _ => ?_) | ((fail_if_success refine g_lit rfl rfl rfl ?_); first | apply g_partM rfl rfl rfl | apply g_partMB rfl rfl rfl | fail) | refine s_k (hfi) ?_)
    | refine g_seq ?_ | refine g_region ?_ | refine g_nil ?_ | refine g_then_normal ?_ | refine g_block ?_ | refine g_in_normal ?_ | refine g_retc ?_ | refine g_then_ret ?_
    | refine g_in_ret ?_ | refine g_exit ?_ | refine g_then_exit ?_ | refine g_in_exit ?_ | refine g_in_other rfl ?_ | refine g_skip ?_ | refine g_label ?_
    | refine g_cond_true rfl ?_ | refine g_cond_false rfl ?_ | exact s_m | intro _)
  refine g_own (p := q) (len := ds.length) (cap := c) (n := 3) (xs := ds.flatMap Df.cells) (e := 97) (by (repeat (first | exact Sel.here | apply Sel.there)); first | done | fail) (fun _ _ hp => ?_)
  obtain ⟨b, rfl⟩ := hp (by omega)
  have hcell := own_at (b := b) (len := ds.length) (cap := c) (e := 97) df_len hge
  repeat (first
    | (refine g_ops ?_; first | refine s_q ?_ | refine s_v ?_ | refine s_s ?_ | refine s_n (fun _ => ?_) | refine s_x ?_ | refine s_y ?_ | refine s_mq ?_ | refine s_app (fun _ _ => ?_) | refine s_mv ?_ | refine s_ms ?_ | refine s_b0 (fun _ => ?_) | ((fail_if_success refine g_lit rfl rfl rfl ?_); first | apply g_partM rfl rfl rfl | apply g_partMB rfl rfl rfl | fail))
    | refine g_seq ?_ | refine g_region ?_ | refine g_nil ?_ | refine g_then_normal ?_ | refine g_block ?_ | refine g_in_normal ?_ | refine g_retc ?_ | refine g_then_ret ?_
    | refine g_in_ret ?_ | refine g_exit ?_ | refine g_then_exit ?_ | refine g_in_exit ?_ | refine g_in_other rfl ?_ | refine g_skip ?_ | refine g_label ?_
    | refine g_cond_true rfl ?_ | refine g_cond_false rfl ?_ | exact s_m | intro _)
  refine s_app (src := srcAt hSo inferInstance (by (repeat (first | exact Sel.here | apply Sel.there)); first | done | fail) (by decide)) (fun q2 c2 => ?_)
  rw [List.nil_append, Nat.zero_add]
  repeat (first
    | (refine g_ops ?_; first | refine s_q ?_ | refine s_v ?_ | refine s_s ?_ | refine s_n (fun _ => ?_) | refine s_x ?_ | refine s_y ?_ | refine s_mq ?_ | refine s_app (fun _ _ => ?_) | refine s_mv ?_ | refine s_ms ?_ | refine s_b0 (fun _ => ?_) | ((fail_if_success refine g_lit rfl rfl rfl ?_); first | apply g_partM rfl rfl rfl | apply g_partMB rfl rfl rfl | fail))
    | refine g_seq ?_ | refine g_region ?_ | refine g_nil ?_ | refine g_then_normal ?_ | refine g_block ?_ | refine g_in_normal ?_ | refine g_retc ?_ | refine g_then_ret ?_
    | refine g_in_ret ?_ | refine g_exit ?_ | refine g_then_exit ?_ | refine g_in_exit ?_ | refine g_in_other rfl ?_ | refine g_skip ?_ | refine g_label ?_
    | refine g_cond_true rfl ?_ | refine g_cond_false rfl ?_ | exact s_m | intro _)
  exact g_ret ((q2, c2) : OA) rfl (by (repeat (first | exact RVs.nil | apply RVs.tmp rfl | apply RVs.cellA rfl (by (repeat (first | exact Sel.here | apply Sel.there)); first | done | fail) (by (repeat (first | exact Cut.zero | apply Cut.take | apply Cut.skip)); first | done | fail) | apply RVs.cell1 rfl (by (repeat (first | exact Sel.here | apply Sel.there)); first | done | fail) rfl)); first | done | fail) (by (repeat (first | exact Take.nil | apply Take.cons | exact Sel.here | apply Sel.there)); first | done | fail) rfl trivial
structure NnX where
  i : Nat
  q : Option Addr
  c : Nat
theorem mnames (m : Nat) (room : Int) (q : Option Addr) (c : Nat) (ops last : Int) (ds : List Df) (hn : ds.length ≤ 2000) :
    Does Try.prog 48 [ptr m] (mL m room ops last q c ds []) (X := OA) (fun x => .slice x.1 ds.length x.2) (fun x => .own x.1 ds.length x.2 1 (ds.map fun y => .string y.nm) 9 :: mL m room ops last q c ds []) (fun _ => True) := by
  refine fn_intro Try.func48 rfl Try.ntmps48 rfl (by simp only [argFr, Nat.zero_add, Nat.reduceAdd]; rfl) (fun Γ => ?_)
  repeat (first
    | (refine g_ops ?_; first | refine s_q ?_ | refine s_v ?_ | refine s_s ?_ | refine s_n (fun _ => ?_) | refine s_x ?_ | refine s_y ?_ | refine s_mq ?_ | refine s_app (fun _ _ => ?_) | refine s_mv ?_ | refine s_ms ?_ | refine s_b0 (fun _ => ?_) | ((fail_if_success refine g_lit rfl rfl rfl ?_); first | apply g_partM rfl rfl rfl | apply g_partMB rfl rfl rfl | fail))
    | refine g_seq ?_ | refine g_region ?_ | refine g_nil ?_ | refine g_then_normal ?_ | refine g_block ?_ | refine g_in_normal ?_ | refine g_retc ?_ | refine g_then_ret ?_
    | refine g_in_ret ?_ | refine g_exit ?_ | refine g_then_exit ?_ | refine g_in_exit ?_ | refine g_in_other rfl ?_ | refine g_skip ?_ | refine g_label ?_
    | refine g_cond_true rfl ?_ | refine g_cond_false rfl ?_ | exact s_m | intro _)
  refine g_own (p := q) (len := ds.length) (cap := c) (n := 3) (xs := ds.flatMap Df.cells) (e := 97) (by (repeat (first | exact Sel.here | apply Sel.there)); first | done | fail) (fun _ _ hp => ?_)
  refine g_own_nil none 1 9 ?_
  refine g_loop (X := NnX) (fun x => [(0, ptr m), (3, .slice x.q x.i x.c), (4, int x.i)]) (fun x => .own x.q x.i x.c 1 ((ds.take x.i).map fun y => .string y.nm) 9 :: mL m room ops last q c ds []) (fun x => x.i ≤ ds.length) (fun x => ds.length - x.i) ⟨0, none, 0⟩ (Nat.zero_le _) (by (repeat (first | exact FrSub.nil | refine FrSub.cons rfl ?_)); first | done | fail) (by (repeat (first | exact Take.nil | apply Take.cons | exact Sel.here | apply Sel.there)); first | done | fail) (fun x hi => ?_)
  obtain ⟨i, q1, c1⟩ := x
  dsimp only at hi ⊢
  repeat (first
    | (refine g_ops ?_; first | refine s_q ?_ | refine s_v ?_ | refine s_s ?_ | refine s_n (fun _ => ?_) | refine s_x ?_ | refine s_y ?_ | refine s_mq ?_ | refine s_app (fun _ _ => ?_) | refine s_mv ?_ | refine s_ms ?_ | refine s_b0 (fun _ => ?_) | ((fail_if_success refine g_lit rfl rfl rfl ?_); first | apply g_partM rfl rfl rfl | apply g_partMB rfl rfl rfl | fail))
    | refine g_seq ?_ | refine g_region ?_ | refine g_nil ?_ | refine g_then_normal ?_ | refine g_block ?_ | refine g_in_normal ?_ | refine g_retc ?_ | refine g_then_ret ?_
    | refine g_in_ret ?_ | refine g_exit ?_ | refine g_then_exit ?_ | refine g_in_exit ?_ | refine g_in_other rfl ?_ | refine g_skip ?_ | refine g_label ?_
    | refine g_cond_true rfl ?_ | refine g_cond_false rfl ?_ | exact s_m | intro _)
  refine g_cond_dec rfl (fun h => ?_) (fun h => ?_)
  · have hlt : i < ds.length := by omega
    obtain ⟨b, rfl⟩ := hp (by omega)
    have hcell := own_at (b := b) (len := ds.length) (cap := c) (e := 97) df_len (l := ds) (i := i) (a := ds[i]) (by simp [hlt])
    have htk : (ds.take (i + 1)).map (fun y => Value.string y.nm) = (ds.take i).map (fun y => Value.string y.nm) ++ [.string ds[i].nm] := by
      rw [List.take_succ_eq_append_getElem hlt]; simp only [List.map_append, List.map_cons, List.map_nil]
    generalize ds[i] = x at hcell htk
    repeat (first
      | (refine g_ops ?_; first | refine s_q ?_ | refine s_v ?_ | refine s_s ?_ | refine s_n (fun _ => ?_) | refine s_x ?_ | refine s_y ?_ | refine s_mq ?_ | refine s_app (fun _ _ => ?_) | refine s_mv ?_ | refine s_ms ?_ | refine s_b0 (fun _ => ?_) | ((fail_if_success refine g_lit rfl rfl rfl ?_); first | apply g_partM rfl rfl rfl | apply g_partMB rfl rfl rfl | fail))
      | refine g_seq ?_ | refine g_region ?_ | refine g_nil ?_ | refine g_then_normal ?_ | refine g_block ?_ | refine g_in_normal ?_ | refine g_retc ?_
      | refine g_then_ret ?_ | refine g_in_ret ?_ | refine g_exit ?_ | refine g_then_exit ?_ | refine g_in_exit ?_ | refine g_in_other rfl ?_ | refine g_skip ?_
      | refine g_label ?_ | refine g_cond_true rfl ?_ | refine g_cond_false rfl ?_ | exact s_m | intro _)
    rename_i q2 c2
    rw [← htk]
    exact g_again ⟨i + 1, q2, c2⟩ (by simp only; omega) hlt (by (repeat (first | exact FrSub.nil | refine FrSub.cons rfl ?_)); first | done | fail) (by (repeat (first | exact Take.nil | apply Take.cons | exact Sel.here | apply Sel.there)); first | done | fail)
  · obtain rfl : i = ds.length := by omega
    rw [List.take_length]
    repeat (first
      | (refine g_ops ?_; first | refine s_q ?_ | refine s_v ?_ | refine s_s ?_ | refine s_n (fun _ => ?_) | refine s_x ?_ | refine s_y ?_ | refine s_mq ?_ | refine s_app (fun _ _ => ?_) | refine s_mv ?_ | refine s_ms ?_ | refine s_b0 (fun _ => ?_) | ((fail_if_success refine g_lit rfl rfl rfl ?_); first | apply g_partM rfl rfl rfl | apply g_partMB rfl rfl rfl | fail))
      | refine g_seq ?_ | refine g_region ?_ | refine g_nil ?_ | refine g_then_normal ?_ | refine g_block ?_ | refine g_in_normal ?_ | refine g_retc ?_
      | refine g_then_ret ?_ | refine g_in_ret ?_ | refine g_exit ?_ | refine g_then_exit ?_ | refine g_in_exit ?_ | refine g_in_other rfl ?_ | refine g_skip ?_
      | refine g_label ?_ | refine g_cond_true rfl ?_ | refine g_cond_false rfl ?_ | exact s_m | intro _)
    exact g_ret ((q1, c1) : OA) rfl (by (repeat (first | exact RVs.nil | apply RVs.tmp rfl | apply RVs.cellA rfl (by (repeat (first | exact Sel.here | apply Sel.there)); first | done | fail) (by (repeat (first | exact Cut.zero | apply Cut.take | apply Cut.skip)); first | done | fail) | apply RVs.cell1 rfl (by (repeat (first | exact Sel.here | apply Sel.there)); first | done | fail) rfl)); first | done | fail) (by (repeat (first | exact Take.nil | apply Take.cons | exact Sel.here | apply Sel.there)); first | done | fail) rfl trivial
end Go.Proofs.Ytfjkfcfmbipfhaa

namespace Go.Proofs.Ytfjkfcfmbipfhaa
open Go.Sl facts
theorem inI_of {n : Int} (h : (Lit.int .i64 n).wf = true) : inI n := by
  simp only [Lit.wf, Bool.and_eq_true, decide_eq_true_eq] at h
  have h1 : IntKind.i64.min = -9223372036854775808 := by decide
  have h2 : IntKind.i64.max = 9223372036854775807 := by decide
  exact ⟨by rw [← h1]; exact h.1, by rw [← h2]; exact h.2⟩
end Go.Proofs.Ytfjkfcfmbipfhaa
