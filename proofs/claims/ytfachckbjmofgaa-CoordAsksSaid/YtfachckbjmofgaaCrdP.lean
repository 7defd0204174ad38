/- Contract: Asks: what is to be asked of those that have not answered. -/
import Derived.Test.YtfachckbjmofgaaCrdO
set_option linter.unusedSimpArgs false
set_option linter.unusedVariables false
namespace Go.Proofs.Ytfachckbjmofgaa
open Go.Sl facts
attribute [local irreducible] Code.wp wpList Exit.then Exit.inBlock bodyPost Back MidQ G GP QStep VStep CStep SStep Does Post Reads
/-- What is asked, in memory. -/
structure Pq where
  tx : S3
  bt : Bt
  st : S3
abbrev Pq.cells (x : Pq) : List Value := [int x.tx.w, int x.tx.l, int x.tx.n, .string x.bt.key, .slice x.bt.pp x.bt.puts.length x.bt.pc, int x.st.w, int x.st.l, int x.st.n]
theorem pq_len (x : Pq) : x.cells.length = 8 := rfl
/-- What a batch says. -/
abbrev BtD := ByteArray × List PtD
def Bt.d (x : Bt) : BtD := (x.key, x.puts.map Pt.d)
abbrev PqD := S3 × BtD × S3
def Pq.d (x : Pq) : PqD := (x.tx, x.bt.d, x.st)
/-- Those that have not answered. -/
def openL (M : List (Int × An)) (ns : List Int) : List Int := ns.filter fun k => (aget M k).isNone
theorem openL_take {M : List (Int × An)} {ns : List Int} {i : Nat} (h : i < ns.length) : openL M (ns.take (i + 1)) = openL M (ns.take i) ++ if (aget M ns[i]).isNone then [ns[i]] else [] := by
  unfold openL
  rw [List.take_succ_eq_append_getElem h, List.filter_append]
  congr 1
  by_cases e : (aget M ns[i]).isNone <;> simp [e]
structure AsX where
  i : Nat
  q : Option Addr
  c : Nat
  xs : List Pq
  H : HP
structure AqX where
  q : Option Addr
  c : Nat
  ps : List Pt
  H : HP
structure AsY where
  q : Option Addr
  c : Nat
  xs : List Pq
  H : HP
set_option maxHeartbeats 8000000 in
theorem asks_ {H : HP} (g : Gg) (hg : GgAt (Pile H) g) (s : S3) :
    Does Try.prog 12 [ptr g.b, .agg s.cells.toArray] (g.L ++ [Pile H]) (X := AsY) (fun y => .slice y.q y.xs.length y.c) (fun y => .own y.q y.xs.length y.c 8 (y.xs.flatMap Pq.cells) 51 :: (g.L ++ [Pile y.H]))
      (fun y => HP.sub H y.H ∧ (∀ x ∈ y.xs, BtAt' (Pile y.H) x.bt) ∧ y.xs.map Pq.d = (openL g.M g.ns).map fun k => (g.tx, (g.bt.key, (btOf g.bt.key g.T k).puts.map Pt.d), s)) := by
  have hnd := nodes_ (C := Pile H) g hg.ns hg.pts.len
  have hbt := fun k hk => hg.pts.bt g.bt.key (k := k) hk
  have hnl := hg.pts.len
  obtain ⟨b, ⟨t1, t2, t3⟩, bt, np, nc, ns, mp, T, ma, M, op, oc, ws, wt⟩ := g
  obtain ⟨s1, s2, s3⟩ := s
  dsimp only [Gg.L, Gg.cells, S3.cells, List.cons_append, List.nil_append] at hnd hbt hnl ⊢
  refine fn_intro Try.func12 rfl Try.ntmps12 rfl (by simp only [argFr, Nat.zero_add, Nat.reduceAdd]; rfl) (fun Γ => ?_)
  repeat (first
    | (refine g_ops ?_; first | refine s_q ?_ | refine s_v ?_ | refine s_s ?_ | refine s_n (fun _ => ?_) | refine s_x ?_ | refine s_y ?_ | refine s_mq ?_ | refine s_app (fun _ _ => ?_) | refine s_mv ?_ | refine s_ms ?_ | refine s_b0 (fun _ => ?_) | ((fail_if_success refine g_lit rfl rfl rfl ?_); first | apply g_partM rfl rfl rfl | apply g_partMB rfl rfl rfl | fail) | refine s_c (hnd) (fun _ _ => ?_))
    | refine g_seq ?_ | refine g_region ?_ | refine g_nil ?_ | refine g_then_normal ?_ | refine g_block ?_ | refine g_in_normal ?_ | refine g_retc ?_ | refine g_then_ret ?_
    | refine g_in_ret ?_ | refine g_exit ?_ | refine g_then_exit ?_ | refine g_in_exit ?_ | refine g_in_other rfl ?_ | refine g_skip ?_ | refine g_label ?_
    | refine g_cond_true rfl ?_ | refine g_cond_false rfl ?_ | exact s_m | intro _)
  rename_i b3 yn _
  obtain ⟨kp, kc⟩ := yn
  dsimp only [List.cons_append, List.nil_append]
  refine g_own (p := kp) (len := ns.length) (cap := kc) (n := 1) (xs := ns.map int) (e := 3) (by (repeat (first | exact Sel.here | apply Sel.there)); first | done | fail) (fun _ _ hq => ?_)
  refine g_own_nil none 8 51 ?_
  refine g_loop (X := AsX) (fun y => [(0, ptr b), (3, ptr b3), (4, .slice y.q y.xs.length y.c), (13, .slice kp ns.length kc), (14, int ns.length), (15, int y.i)])
    (fun y => [.own y.q y.xs.length y.c 8 (y.xs.flatMap Pq.cells) 51, .own kp ns.length kc 1 (ns.map int) 3, .row b3 [int s1, int s2, int s3] 42, .row b [int t1, int t2, int t3, .string bt.key, .slice bt.pp bt.puts.length bt.pc, .slice np ns.length nc, .map (some mp), .map (some ma), .slice op ws.length oc, int wt] 79, .map mp (pmap bt.key T), .map ma (amap M), Pile y.H])
    (fun y => y.i ≤ ns.length ∧ HP.sub H y.H ∧ (∀ x ∈ y.xs, BtAt' (Pile y.H) x.bt) ∧ y.xs.map Pq.d = (openL M (ns.take y.i)).map fun k => (⟨t1, t2, t3⟩, (bt.key, (btOf bt.key T k).puts.map Pt.d), ⟨s1, s2, s3⟩)) (fun y => ns.length - y.i) ⟨0, none, 0, [], H⟩ ⟨Nat.zero_le _, HP.sub.refl _, (fun x hx => by cases hx), rfl⟩ (by (repeat (first | exact FrSub.nil | refine FrSub.cons rfl ?_)); first | done | fail) (by (repeat (first | exact Take.nil | apply Take.cons | exact Sel.here | apply Sel.there)); first | done | fail) (fun y hy => ?_)
  obtain ⟨i, q, qc, xs, H1⟩ := y
  obtain ⟨hi, hsb, hA, hd0⟩ := hy
  dsimp only at hi hsb hA hd0 ⊢
  repeat (first
    | (refine g_ops ?_; first | refine s_q ?_ | refine s_v ?_ | refine s_s ?_ | refine s_n (fun _ => ?_) | refine s_x ?_ | refine s_y ?_ | refine s_mq ?_ | refine s_app (fun _ _ => ?_) | refine s_mv ?_ | refine s_ms ?_ | refine s_b0 (fun _ => ?_) | ((fail_if_success refine g_lit rfl rfl rfl ?_); first | apply g_partM rfl rfl rfl | apply g_partMB rfl rfl rfl | fail))
    | refine g_seq ?_ | refine g_region ?_ | refine g_nil ?_ | refine g_then_normal ?_ | refine g_block ?_ | refine g_in_normal ?_ | refine g_retc ?_ | refine g_then_ret ?_
    | refine g_in_ret ?_ | refine g_exit ?_ | refine g_then_exit ?_ | refine g_in_exit ?_ | refine g_in_other rfl ?_ | refine g_skip ?_ | refine g_label ?_
    | refine g_cond_true rfl ?_ | refine g_cond_false rfl ?_ | exact s_m | intro _)
  refine g_cond_dec rfl (fun h => ?_) (fun h => ?_)
  · have hi' : i < ns.length := by omega
    have hxl : xs.length ≤ i := by
      have h1 := congrArg List.length hd0
      simp only [List.length_map] at h1
      rw [h1]
      exact Nat.le_trans (List.length_filter_le ..) (by simp only [List.length_take]; omega)
    obtain ⟨kb, rfl⟩ := hq (by omega)
    have hr : ∀ k, k = i → Reads (.own (some ⟨kb, 0, none⟩) ns.length kc 1 (ns.map int) 3) ⟨kb, 0 + k, none⟩ (int ns[i]) := fun k e => by
      subst e; rw [Nat.zero_add]; exact reads_own (by simp [hi'])
    have hop := openL_take (M := M) hi'
    have hb := hbt ns[i] (List.getElem_mem _)
    generalize ns[i] = w at hr hop hb
    repeat (first
      | (refine g_ops ?_; first | refine s_q ?_ | refine s_v ?_ | refine s_s ?_ | refine s_n (fun _ => ?_) | refine s_x ?_ | refine s_y ?_ | refine s_mq ?_ | refine s_app (fun _ _ => ?_) | refine s_mv ?_ | refine s_ms ?_ | refine s_b0 (fun _ => ?_) | ((fail_if_success refine g_lit rfl rfl rfl ?_); first | apply g_partM rfl rfl rfl | apply g_partMB rfl rfl rfl | fail))
      | refine g_seq ?_ | refine g_region ?_ | refine g_nil ?_ | refine g_then_normal ?_ | refine g_block ?_ | refine g_in_normal ?_ | refine g_retc ?_
      | refine g_then_ret ?_ | refine g_in_ret ?_ | refine g_exit ?_ | refine g_then_exit ?_ | refine g_in_exit ?_ | refine g_in_other rfl ?_ | refine g_skip ?_
      | refine g_label ?_ | refine g_cond_true rfl ?_ | refine g_cond_false rfl ?_ | exact s_m | intro _)
    cases hf : aget M w with
    | some a =>
      refine g_v (vs_lookS (κ := Int) (k := w) inferInstance inferInstance inferInstance kindI rfl rfl (by (repeat (first | exact Sel.here | apply Sel.there)); first | done | fail) (by rw [mget_amap, hf]; rfl)) rfl rfl ?_
      rw [hf] at hop
      simp only [Option.isNone_some, Bool.false_eq_true, if_false, List.append_nil] at hop
      repeat (first
        | (refine g_ops ?_; first | refine s_q ?_ | refine s_v ?_ | refine s_s ?_ | refine s_n (fun _ => ?_) | refine s_x ?_ | refine s_y ?_ | refine s_mq ?_ | refine s_app (fun _ _ => ?_) | refine s_mv ?_ | refine s_ms ?_ | refine s_b0 (fun _ => ?_) | ((fail_if_success refine g_lit rfl rfl rfl ?_); first | apply g_partM rfl rfl rfl | apply g_partMB rfl rfl rfl | fail))
        | refine g_seq ?_ | refine g_region ?_ | refine g_nil ?_ | refine g_then_normal ?_ | refine g_block ?_ | refine g_in_normal ?_ | refine g_retc ?_
        | refine g_then_ret ?_ | refine g_in_ret ?_ | refine g_exit ?_ | refine g_then_exit ?_ | refine g_in_exit ?_ | refine g_in_other rfl ?_ | refine g_skip ?_
        | refine g_label ?_ | refine g_cond_true rfl ?_ | refine g_cond_false rfl ?_ | exact s_m | intro _)
      refine g_as 15 (v' := int ((i + 1 : Nat) : Int)) rfl (congrArg (Value.int .i64) (by push_cast; rfl)) ?_
      exact g_again ⟨i + 1, q, qc, xs, H1⟩ (by simp only; omega) ⟨hi', hsb, hA, by simp only; rw [hop, hd0]⟩ (by (repeat (first | exact FrSub.nil | refine FrSub.cons rfl ?_)); first | done | fail) (by (repeat (first | exact Take.nil | apply Take.cons | exact Sel.here | apply Sel.there)); first | done | fail)
    | none =>
      refine g_v (vs_lookN (κ := Int) (k := w) inferInstance inferInstance inferInstance kindI rfl rfl (by (repeat (first | exact Sel.here | apply Sel.there)); first | done | fail) (by rw [mget_amap, hf]; rfl)) rfl rfl ?_
      rw [hf] at hop
      simp only [Option.isNone_none, if_true] at hop
      repeat (first
        | (refine g_ops ?_; first | refine s_q ?_ | refine s_v ?_ | refine s_s ?_ | refine s_n (fun _ => ?_) | refine s_x ?_ | refine s_y ?_ | refine s_mq ?_ | refine s_app (fun _ _ => ?_) | refine s_mv ?_ | refine s_ms ?_ | refine s_b0 (fun _ => ?_) | ((fail_if_success refine g_lit rfl rfl rfl ?_); first | apply g_partM rfl rfl rfl | apply g_partMB rfl rfl rfl | fail))
        | refine g_seq ?_ | refine g_region ?_ | refine g_nil ?_ | refine g_then_normal ?_ | refine g_block ?_ | refine g_in_normal ?_ | refine g_retc ?_
        | refine g_then_ret ?_ | refine g_in_ret ?_ | refine g_exit ?_ | refine g_then_exit ?_ | refine g_in_exit ?_ | refine g_in_other rfl ?_ | refine g_skip ?_
        | refine g_label ?_ | refine g_cond_true rfl ?_ | refine g_cond_false rfl ?_ | exact s_m | intro _)
      refine g_draw (.take 0 (.take 1 (.take 2 (.see 3 [] (.see 4 [] (.take 5 (.take 6 (.take 7 (.take 8 (.see 9 [] (.take 10 (.take 11 (.one 12 (.one 13 .done)))))))))))))) (by kernel_rfl) (C := [.row b3 [int s1, int s2, int s3] 42, .row b [int t1, int t2, int t3, .string bt.key, .slice bt.pp bt.puts.length bt.pc, .slice np ns.length nc, .map (some mp), .map (some ma), .slice op ws.length oc, int wt] 79]) (by (repeat (first | exact Take.nil | apply Take.cons | exact Sel.here | apply Sel.there)); first | done | fail) (fun k hd hk => ?_)
      repeat (first
        | (refine gp_take ?_; first | refine p_q ?_ | refine p_x ?_ | refine p_mq ?_ | ((fail_if_success refine gp_lit rfl rfl rfl rfl ?_); first | apply gp_guard_dec rfl rfl rfl rfl | apply gp_guard rfl rfl rfl rfl | fail))
        | (refine gp_see ?_; first | refine p_f ?_ | refine p_sx ?_ | ((fail_if_success refine gp_lit rfl rfl rfl rfl ?_); first | apply gp_guard_dec rfl rfl rfl rfl | apply gp_guard rfl rfl rfl rfl | fail) | refine p_sq ?_)
        | (refine gp_one ?_; first | refine p_v ?_ | refine p_s ?_ | refine p_n (fun _ => ?_) | refine p_y ?_ | refine p_app (fun _ _ => ?_) | refine p_mv ?_ | refine p_ms ?_ | refine p_b0 (fun _ => ?_) | ((fail_if_success refine gp_lit rfl rfl rfl rfl ?_); first | apply gp_guard_dec rfl rfl rfl rfl | apply gp_guard rfl rfl rfl rfl | fail))
        | refine gp_two ?_ ?_ | refine gp_done hd hk ?_ | intro _ | refine p_ta hd hk (fun _ _ _ hd hk => ?_) | refine p_ts hd hk (fun _ hd hk => ?_))
      repeat (first
        | (refine g_ops ?_; first | refine s_q ?_ | refine s_v ?_ | refine s_s ?_ | refine s_n (fun _ => ?_) | refine s_x ?_ | refine s_y ?_ | refine s_mq ?_ | refine s_app (fun _ _ => ?_) | refine s_mv ?_ | refine s_ms ?_ | refine s_b0 (fun _ => ?_) | ((fail_if_success refine g_lit rfl rfl rfl ?_); first | apply g_partM rfl rfl rfl | apply g_partMB rfl rfl rfl | fail))
        | refine g_seq ?_ | refine g_region ?_ | refine g_nil ?_ | refine g_then_normal ?_ | refine g_block ?_ | refine g_in_normal ?_ | refine g_retc ?_
        | refine g_then_ret ?_ | refine g_in_ret ?_ | refine g_exit ?_ | refine g_then_exit ?_ | refine g_in_exit ?_ | refine g_in_other rfl ?_ | refine g_skip ?_
        | refine g_label ?_ | refine g_cond_true rfl ?_ | refine g_cond_false rfl ?_ | exact s_m | intro _)
      rename_i b7 b9
      refine g_v (vs_lookup (κ := Int) (k := w) inferInstance inferInstance inferInstance kindI rfl rfl (by (repeat (first | exact Sel.here | apply Sel.there)); first | done | fail)) rfl rfl ?_
      refine g_as 46 (v' := .agg (btOf bt.key T w).cells.toArray) rfl (by exact btOf_v bt.key T w) ?_
      obtain ⟨hb1, z, hz, hbz⟩ := hb
      have hb1 := hb1.grow hsb
      have hbk : (btOf bt.key T w).key = bt.key := by rw [hbz]
      obtain ⟨g', hg'⟩ : ∃ g', g' = btOf bt.key T w := ⟨_, rfl⟩
      rw [← hg'] at hb1 hbk ⊢
      obtain ⟨gk, gp, gc, gps⟩ := g'
      obtain ⟨d1, d2, d3⟩ := hb1
      dsimp only at d1 d2 d3 hbk
      repeat (first
        | (refine g_ops ?_; first | refine s_q ?_ | refine s_v ?_ | refine s_s ?_ | refine s_n (fun _ => ?_) | refine s_x ?_ | refine s_y ?_ | refine s_mq ?_ | refine s_app (fun _ _ => ?_) | refine s_mv ?_ | refine s_ms ?_ | refine s_b0 (fun _ => ?_) | ((fail_if_success refine g_lit rfl rfl rfl ?_); first | apply g_partM rfl rfl rfl | apply g_partMB rfl rfl rfl | fail))
        | refine g_seq ?_ | refine g_region ?_ | refine g_nil ?_ | refine g_then_normal ?_ | refine g_block ?_ | refine g_in_normal ?_ | refine g_retc ?_
        | refine g_then_ret ?_ | refine g_in_ret ?_ | refine g_exit ?_ | refine g_then_exit ?_ | refine g_in_exit ?_ | refine g_in_other rfl ?_ | refine g_skip ?_
        | refine g_label ?_ | refine g_cond_true rfl ?_ | refine g_cond_false rfl ?_ | exact s_m | intro _)
      refine g_own_nil none 3 34 ?_
      refine g_loop (X := AqX) (fun y => [(0, ptr b), (3, ptr b3), (4, .slice q xs.length qc), (13, .slice (some ⟨kb, 0, none⟩) ns.length kc), (14, int ns.length), (15, int i), (9, ptr b9), (47, .slice gp gps.length gc), (48, int gps.length), (49, int y.ps.length)])
        (fun y => [.row b9 [int t1, int t2, int t3, .string bt.key, .slice y.q y.ps.length y.c, int s1, int s2, int s3] 51, .own y.q y.ps.length y.c 3 (y.ps.flatMap Pt.cells) 34, .own q xs.length qc 8 (xs.flatMap Pq.cells) 51, .own (some ⟨kb, 0, none⟩) ns.length kc 1 (ns.map int) 3, .row b3 [int s1, int s2, int s3] 42, .row b [int t1, int t2, int t3, .string bt.key, .slice bt.pp bt.puts.length bt.pc, .slice np ns.length nc, .map (some mp), .map (some ma), .slice op ws.length oc, int wt] 79, .map mp (pmap bt.key T), .map ma (amap M), Pile y.H])
        (fun y => y.ps.length ≤ gps.length ∧ HP.sub H1 y.H ∧ (∀ a ∈ y.ps, PtAt (Pile y.H) a) ∧ y.ps.map Pt.d = (gps.take y.ps.length).map Pt.d) (fun y => gps.length - y.ps.length) ⟨none, 0, [], H1⟩ ⟨Nat.zero_le _, HP.sub.refl _, (fun a ha => by cases ha), rfl⟩ (by (repeat (first | exact FrSub.nil | refine FrSub.cons rfl ?_)); first | done | fail) (by (repeat (first | exact Take.nil | apply Take.cons | exact Sel.here | apply Sel.there)); first | done | fail) (fun y hy => ?_)
      obtain ⟨q3, c3, ps, H2⟩ := y
      obtain ⟨hi3, hsb3, hP, hdd⟩ := hy
      dsimp only at hi3 hsb3 hP hdd ⊢
      repeat (first
        | (refine g_ops ?_; first | refine s_q ?_ | refine s_v ?_ | refine s_s ?_ | refine s_n (fun _ => ?_) | refine s_x ?_ | refine s_y ?_ | refine s_mq ?_ | refine s_app (fun _ _ => ?_) | refine s_mv ?_ | refine s_ms ?_ | refine s_b0 (fun _ => ?_) | ((fail_if_success refine g_lit rfl rfl rfl ?_); first | apply g_partM rfl rfl rfl | apply g_partMB rfl rfl rfl | fail))
        | refine g_seq ?_ | refine g_region ?_ | refine g_nil ?_ | refine g_then_normal ?_ | refine g_block ?_ | refine g_in_normal ?_ | refine g_retc ?_
        | refine g_then_ret ?_ | refine g_in_ret ?_ | refine g_exit ?_ | refine g_then_exit ?_ | refine g_in_exit ?_ | refine g_in_other rfl ?_ | refine g_skip ?_
        | refine g_label ?_ | refine g_cond_true rfl ?_ | refine g_cond_false rfl ?_ | exact s_m | intro _)
      refine g_cond_dec rfl (fun h => ?_) (fun h => ?_)
      · have hi4 : ps.length < gps.length := by omega
        obtain ⟨pb, po, rfl, hrow⟩ := slAt_elem (d1.grow hsb3) pt_len (by decide) (i := ps.length) (a := gps[ps.length]) (by simp [hi4])
        have hxa := (d2 gps[ps.length] (List.getElem_mem _)).grow hsb3
        have htk : (gps.take (ps.length + 1)).map Pt.d = ps.map Pt.d ++ [gps[ps.length].d] := by
          rw [List.take_succ_eq_append_getElem hi4, List.map_append, hdd]; rfl
        clear hg' hr
        generalize gps[ps.length] = x at hrow hxa htk
        repeat (first
          | (refine g_ops ?_; first | refine s_q ?_ | refine s_v ?_ | refine s_s ?_ | refine s_n (fun _ => ?_) | refine s_x ?_ | refine s_y ?_ | refine s_mq ?_ | refine s_app (fun _ _ => ?_) | refine s_mv ?_ | refine s_ms ?_ | refine s_b0 (fun _ => ?_) | ((fail_if_success refine g_lit rfl rfl rfl ?_); first | apply g_partM rfl rfl rfl | apply g_partMB rfl rfl rfl | fail))
          | refine g_seq ?_ | refine g_region ?_ | refine g_nil ?_ | refine g_then_normal ?_ | refine g_block ?_ | refine g_in_normal ?_ | refine g_retc ?_
          | refine g_then_ret ?_ | refine g_in_ret ?_ | refine g_exit ?_ | refine g_then_exit ?_ | refine g_in_exit ?_ | refine g_in_other rfl ?_ | refine g_skip ?_
          | refine g_label ?_ | refine g_cond_true rfl ?_ | refine g_cond_false rfl ?_ | exact s_m | intro _)
        rename_i b11
        refine g_draw (.take 0 (.take 1 (.see 2 [6,7,8,9] (.see 3 [4,5,6,7,8,9] (.one 4 (.one 5 (.one 6 (.take 7 (.take 8 (.thaw 9 .done)))))))))) (by kernel_rfl) (C := [.row b9 [int t1, int t2, int t3, .string bt.key, .slice q3 ps.length c3, int s1, int s2, int s3] 51, .row b11 [.string x.st, .int .i64 x.exp, .slice x.dp x.data.length x.dc] 34]) (by (repeat (first | exact Take.nil | apply Take.cons | exact Sel.here | apply Sel.there)); first | done | fail) (fun k' hd hk => ?_)
        repeat (first
          | (refine gp_take ?_; first | refine p_q ?_ | refine p_x ?_ | refine p_mq ?_ | ((fail_if_success refine gp_lit rfl rfl rfl rfl ?_); first | apply gp_guard_dec rfl rfl rfl rfl | apply gp_guard rfl rfl rfl rfl | fail))
          | (refine gp_see ?_; first | refine p_f ?_ | refine p_sx ?_ | ((fail_if_success refine gp_lit rfl rfl rfl rfl ?_); first | apply gp_guard_dec rfl rfl rfl rfl | apply gp_guard rfl rfl rfl rfl | fail) | refine p_sq ?_)
          | (refine gp_one ?_; first | refine p_v ?_ | refine p_s ?_ | refine p_n (fun _ => ?_) | refine p_y ?_ | refine p_app (fun _ _ => ?_) | refine p_mv ?_ | refine p_ms ?_ | refine p_b0 (fun _ => ?_) | ((fail_if_success refine gp_lit rfl rfl rfl rfl ?_); first | apply gp_guard_dec rfl rfl rfl rfl | apply gp_guard rfl rfl rfl rfl | fail) | refine p_c (own_ x hxa) (fun _ _ => ?_))
          | refine gp_two ?_ ?_ | refine gp_done hd hk ?_ | intro _ | refine p_ta hd hk (fun _ _ _ hd hk => ?_) | refine p_ts hd hk (fun _ hd hk => ?_))
        rename_i yo hyo b35 q2 c2 _
        obtain ⟨H4, p2, d4⟩ := yo
        obtain ⟨hs2, hP2⟩ := hyo
        dsimp only [List.cons_append, List.nil_append] at hs2 hP2 ⊢
        rw [show ps.flatMap Pt.cells ++ [.string x.st, .int .i64 x.exp, .slice p2 x.data.length d4] = (ps ++ [(⟨x.st, x.exp, p2, d4, x.data⟩ : Pt)]).flatMap Pt.cells by simp, show ps.length + 1 = (ps ++ [(⟨x.st, x.exp, p2, d4, x.data⟩ : Pt)]).length by simp]
        repeat (first
          | (refine g_ops ?_; first | refine s_q ?_ | refine s_v ?_ | refine s_s ?_ | refine s_n (fun _ => ?_) | refine s_x ?_ | refine s_y ?_ | refine s_mq ?_ | refine s_app (fun _ _ => ?_) | refine s_mv ?_ | refine s_ms ?_ | refine s_b0 (fun _ => ?_) | ((fail_if_success refine g_lit rfl rfl rfl ?_); first | apply g_partM rfl rfl rfl | apply g_partMB rfl rfl rfl | fail))
          | refine g_seq ?_ | refine g_region ?_ | refine g_nil ?_ | refine g_then_normal ?_ | refine g_block ?_ | refine g_in_normal ?_ | refine g_retc ?_
          | refine g_then_ret ?_ | refine g_in_ret ?_ | refine g_exit ?_ | refine g_then_exit ?_ | refine g_in_exit ?_ | refine g_in_other rfl ?_ | refine g_skip ?_
          | refine g_label ?_ | refine g_cond_true rfl ?_ | refine g_cond_false rfl ?_ | exact s_m | intro _)
        refine g_as 49 (v' := int (((ps ++ [(⟨x.st, x.exp, p2, d4, x.data⟩ : Pt)]).length : Nat) : Int)) rfl (congrArg (Value.int .i64) (by simp)) ?_
        exact g_again ⟨q2, c2, ps ++ [(⟨x.st, x.exp, p2, d4, x.data⟩ : Pt)], H4⟩ (by simp only [List.length_append, List.length_cons, List.length_nil]; omega) ⟨by simp only [List.length_append, List.length_cons, List.length_nil]; omega, hsb3.trans hs2, fun a ha => by
          rcases List.mem_append.1 ha with ha | ha
          · exact (hP a ha).grow hs2
          · rw [List.mem_singleton.1 ha]; exact hP2, by
          rw [show (ps ++ [(⟨x.st, x.exp, p2, d4, x.data⟩ : Pt)]).length = ps.length + 1 by simp, htk]
          simp [Pt.d]⟩ (by (repeat (first | exact FrSub.nil | refine FrSub.cons rfl ?_)); first | done | fail) (by (repeat (first | exact Take.nil | apply Take.cons | exact Sel.here | apply Sel.there)); first | done | fail)
      · have hpl : ps.length = gps.length := by omega
        rw [hpl, List.take_length] at hdd
        refine g_pile (p := q3) (m := ps.length) (c := c3) (n := 3) (xs := ps.flatMap Pt.cells) (e := 34) (by (repeat (first | exact Sel.here | apply Sel.there)); first | done | fail) (by (repeat (first | exact Sel.here | apply Sel.there)); first | done | fail) (fun H4 hs4 hA4 => ?_)
        repeat (first
          | (refine g_ops ?_; first | refine s_q ?_ | refine s_v ?_ | refine s_s ?_ | refine s_n (fun _ => ?_) | refine s_x ?_ | refine s_y ?_ | refine s_mq ?_ | refine s_app (fun _ _ => ?_) | refine s_mv ?_ | refine s_ms ?_ | refine s_b0 (fun _ => ?_) | ((fail_if_success refine g_lit rfl rfl rfl ?_); first | apply g_partM rfl rfl rfl | apply g_partMB rfl rfl rfl | fail))
          | refine g_seq ?_ | refine g_region ?_ | refine g_nil ?_ | refine g_then_normal ?_ | refine g_block ?_ | refine g_in_normal ?_ | refine g_retc ?_
          | refine g_then_ret ?_ | refine g_in_ret ?_ | refine g_exit ?_ | refine g_then_exit ?_ | refine g_in_exit ?_ | refine g_in_other rfl ?_ | refine g_skip ?_
          | refine g_label ?_ | refine g_cond_true rfl ?_ | refine g_cond_false rfl ?_ | exact s_m | intro _)
        rename_i b65 q5 c5
        rw [show xs.flatMap Pq.cells ++ [int t1, int t2, int t3, .string bt.key, .slice q3 ps.length c3, int s1, int s2, int s3] = (xs ++ [(⟨⟨t1, t2, t3⟩, ⟨bt.key, q3, c3, ps⟩, ⟨s1, s2, s3⟩⟩ : Pq)]).flatMap Pq.cells by simp, show xs.length + 1 = (xs ++ [(⟨⟨t1, t2, t3⟩, ⟨bt.key, q3, c3, ps⟩, ⟨s1, s2, s3⟩⟩ : Pq)]).length by simp]
        refine g_as 15 (v' := int ((i + 1 : Nat) : Int)) rfl (congrArg (Value.int .i64) (by push_cast; rfl)) ?_
        have hs14 := hsb3.trans hs4
        exact g_again ⟨i + 1, q5, c5, xs ++ [(⟨⟨t1, t2, t3⟩, ⟨bt.key, q3, c3, ps⟩, ⟨s1, s2, s3⟩⟩ : Pq)], H4⟩ (by simp only; omega) ⟨hi', hsb.trans hs14, fun x hx => by
          rcases List.mem_append.1 hx with hx | hx
          · exact (hA x hx).grow hs14
          · rw [List.mem_singleton.1 hx]
            exact ⟨hA4, fun a ha => (hP a ha).grow hs4, by simp only; omega⟩, by
          simp only
          rw [hop, List.map_append, List.map_append, hd0]
          simp only [List.map_cons, List.map_nil, Pq.d, Bt.d, ← hg', hdd]⟩ (by (repeat (first | exact FrSub.nil | refine FrSub.cons rfl ?_)); first | done | fail) (by (repeat (first | exact Take.nil | apply Take.cons | exact Sel.here | apply Sel.there)); first | done | fail)
  · obtain rfl : i = ns.length := by omega
    rw [List.take_length] at hd0
    repeat (first
      | (refine g_ops ?_; first | refine s_q ?_ | refine s_v ?_ | refine s_s ?_ | refine s_n (fun _ => ?_) | refine s_x ?_ | refine s_y ?_ | refine s_mq ?_ | refine s_app (fun _ _ => ?_) | refine s_mv ?_ | refine s_ms ?_ | refine s_b0 (fun _ => ?_) | ((fail_if_success refine g_lit rfl rfl rfl ?_); first | apply g_partM rfl rfl rfl | apply g_partMB rfl rfl rfl | fail))
      | refine g_seq ?_ | refine g_region ?_ | refine g_nil ?_ | refine g_then_normal ?_ | refine g_block ?_ | refine g_in_normal ?_ | refine g_retc ?_
      | refine g_then_ret ?_ | refine g_in_ret ?_ | refine g_exit ?_ | refine g_then_exit ?_ | refine g_in_exit ?_ | refine g_in_other rfl ?_ | refine g_skip ?_
      | refine g_label ?_ | refine g_cond_true rfl ?_ | refine g_cond_false rfl ?_ | exact s_m | intro _)
    exact g_ret (⟨q, qc, xs, H1⟩ : AsY) rfl (by (repeat (first | exact RVs.nil | apply RVs.tmp rfl | apply RVs.cellA rfl (by (repeat (first | exact Sel.here | apply Sel.there)); first | done | fail) (by (repeat (first | exact Cut.zero | apply Cut.take | apply Cut.skip)); first | done | fail) | apply RVs.cell1 rfl (by (repeat (first | exact Sel.here | apply Sel.there)); first | done | fail) rfl)); first | done | fail) (by (repeat (first | exact Take.nil | apply Take.cons | exact Sel.here | apply Sel.there)); first | done | fail) rfl ⟨hsb, hA, hd0⟩
end Go.Proofs.Ytfachckbjmofgaa
