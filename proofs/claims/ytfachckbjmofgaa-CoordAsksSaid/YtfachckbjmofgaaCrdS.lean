/- The walk of CoordAsks. -/
import Derived.Test.YtfachckbjmofgaaCrdR
set_option linter.unusedSimpArgs false
set_option linter.unusedVariables false
namespace Go.Proofs.Ytfachckbjmofgaa
open Go.Sl facts
attribute [local irreducible] Code.wp wpList Exit.then Exit.inBlock bodyPost Back MidQ G GP QStep VStep CStep SStep Does Post Reads
theorem cutL_d (ws : List Int) (ps : List Pt) : cutL ws ps = cutD (ws.zip (ps.map Pt.d)) := by
  unfold cutL
  rw [List.zip_map_right]
  rfl
structure CaX where
  i : Nat
  M : List (Int × An)
  H : HP
structure CkX where
  j : Nat
  kk : Int
structure CfX where
  fp : Option Addr
  fc : Nat
  fs : List Int
  H : HP
structure CjX where
  j : Nat
  a : Nat
abbrev doneL (M : List (Int × An)) (ns : List Int) : List Value := ns.map fun k => .bool (aget M k).isSome
theorem done_set {M : List (Int × An)} {ns : List Int} {m : Nat} {w : Int} (hn : ns.Nodup) (hm : m < ns.length) (hw : ns[m] = w) : (doneL M ns).set m (.bool true) = ns.map fun k => .bool ((aget M k).isSome || decide (k = w)) := by
  apply List.ext_getElem
  · simp
  · intro i h1 h2
    have hi : i < ns.length := by simpa using h2
    rw [List.getElem_set]
    by_cases e : m = i
    · subst e; simp [hw]
    · rw [if_neg e]
      have hne : ns[i] ≠ w := fun e2 => by
        rcases Nat.lt_or_gt_of_ne e with h | h
        · exact List.pairwise_iff_getElem.1 hn m i hm hi h (by rw [hw, e2])
        · exact List.pairwise_iff_getElem.1 hn i m hi hm h (by rw [hw, e2])
      simp [hne]
set_option maxHeartbeats 16000000 in
theorem asksLaw {H : HP} (p : Option Addr) (c : Nat) (l : List Rg) (hS : SlAt (Pile H) 4 p l.length (l.flatMap Rg.cells)) (hlo : ∀ r ∈ l, inI r.o) (x : Bt) (hx : BtIn (Pile H) x) (wp : Option Addr) (wc : Nat) (who : List Int) (hwS : SlAt (Pile H) 1 wp who.length (who.map int)) (hwl : who.length ≤ 9223372036854775807) :
    Does1 Try.prog 4 [.slice p l.length c, .agg x.cells.toArray, .slice wp who.length wc] [Pile H] (.bool true) := by
  have hsm := small_ p c l x hx
  refine fn_intro Try.func4 rfl Try.ntmps4 rfl (by simp only [argFr, Nat.zero_add, Nat.reduceAdd]; rfl) (fun Γ => ?_)
  repeat (first
    | (refine g_ops ?_; first | refine s_q ?_ | refine s_v ?_ | refine s_s ?_ | refine s_n (fun _ => ?_) | refine s_x ?_ | refine s_y ?_ | refine s_mq ?_ | refine s_app (fun _ _ => ?_) | refine s_mv ?_ | refine s_ms ?_ | refine s_b0 (fun _ => ?_) | ((fail_if_success refine g_lit rfl rfl rfl ?_); first | apply g_partM rfl rfl rfl | apply g_partMB rfl rfl rfl | fail) | refine s_c (hsm) (fun _ _ => ?_))
    | refine g_seq ?_ | refine g_region ?_ | refine g_nil ?_ | refine g_then_normal ?_ | refine g_block ?_ | refine g_in_normal ?_ | refine g_retc ?_ | refine g_then_ret ?_
    | refine g_in_ret ?_ | refine g_exit ?_ | refine g_then_exit ?_ | refine g_in_exit ?_ | refine g_in_other rfl ?_ | refine g_skip ?_ | refine g_label ?_
    | refine g_cond_true rfl ?_ | refine g_cond_false rfl ?_ | exact s_m | intro _)
  rename_i b4 sm hsm'
  dsimp only [List.cons_append, List.nil_append]
  by_cases hgo : sm = true ∧ who.length ≤ 20
  · obtain ⟨rfl, hw20⟩ := hgo
    obtain ⟨hl1, hl2, hl3⟩ := hsm' rfl
    have hxB := hx.small hl2 hl3
    refine g_as 23 (v' := .bool false) rfl rfl ?_
    repeat (first
      | (refine g_ops ?_; first | refine s_q ?_ | refine s_v ?_ | refine s_s ?_ | refine s_n (fun _ => ?_) | refine s_x ?_ | refine s_y ?_ | refine s_mq ?_ | refine s_app (fun _ _ => ?_) | refine s_mv ?_ | refine s_ms ?_ | refine s_b0 (fun _ => ?_) | ((fail_if_success refine g_lit rfl rfl rfl ?_); first | apply g_partM rfl rfl rfl | apply g_partMB rfl rfl rfl | fail))
      | refine g_seq ?_ | refine g_region ?_ | refine g_nil ?_ | refine g_then_normal ?_ | refine g_block ?_ | refine g_in_normal ?_ | refine g_retc ?_
      | refine g_then_ret ?_ | refine g_in_ret ?_ | refine g_exit ?_ | refine g_then_exit ?_ | refine g_in_exit ?_ | refine g_in_other rfl ?_ | refine g_skip ?_
      | refine g_label ?_ | refine g_cond_true rfl ?_ | refine g_cond_false rfl ?_ | exact s_m | intro _)
    refine g_as 27 (v' := .bool false) rfl (congrArg Value.bool (by simp; omega)) ?_
    have hbg := begin_ ⟨0, 0, 1⟩ p c l hS (by omega) hlo x hxB
    repeat (first
      | (refine g_ops ?_; first | refine s_q ?_ | refine s_v ?_ | refine s_s ?_ | refine s_n (fun _ => ?_) | refine s_x ?_ | refine s_y ?_ | refine s_mq ?_ | refine s_app (fun _ _ => ?_) | refine s_mv ?_ | refine s_ms ?_ | refine s_b0 (fun _ => ?_) | ((fail_if_success refine g_lit rfl rfl rfl ?_); first | apply g_partM rfl rfl rfl | apply g_partMB rfl rfl rfl | fail) | refine s_c (hbg) (fun _ _ => ?_))
      | refine g_seq ?_ | refine g_region ?_ | refine g_nil ?_ | refine g_then_normal ?_ | refine g_block ?_ | refine g_in_normal ?_ | refine g_retc ?_
      | refine g_then_ret ?_ | refine g_in_ret ?_ | refine g_exit ?_ | refine g_then_exit ?_ | refine g_in_exit ?_ | refine g_in_other rfl ?_ | refine g_skip ?_
      | refine g_label ?_ | refine g_cond_true rfl ?_ | refine g_cond_false rfl ?_ | exact s_m | intro _)
    rename_i y hy
    obtain ⟨g, H1⟩ := y
    obtain ⟨hs1, hg, htx, hky, hpd, hws, hM, hwt⟩ := hy
    dsimp only [List.cons_append, List.nil_append] at hs1 hg htx hky hpd hws hM hwt ⊢
    have hpa := parts_ p c l (hS.grow hs1) (by omega) hlo x (hxB.grow hs1)
    repeat (first
      | (refine g_ops ?_; first | refine s_q ?_ | refine s_v ?_ | refine s_s ?_ | refine s_n (fun _ => ?_) | refine s_x ?_ | refine s_y ?_ | refine s_mq ?_ | refine s_app (fun _ _ => ?_) | refine s_mv ?_ | refine s_ms ?_ | refine s_b0 (fun _ => ?_) | ((fail_if_success refine g_lit rfl rfl rfl ?_); first | apply g_partM rfl rfl rfl | apply g_partMB rfl rfl rfl | fail) | refine s_c (hpa) (fun _ _ => ?_))
      | refine g_seq ?_ | refine g_region ?_ | refine g_nil ?_ | refine g_then_normal ?_ | refine g_block ?_ | refine g_in_normal ?_ | refine g_retc ?_
      | refine g_then_ret ?_ | refine g_in_ret ?_ | refine g_exit ?_ | refine g_then_exit ?_ | refine g_in_exit ?_ | refine g_in_other rfl ?_ | refine g_skip ?_
      | refine g_label ?_ | refine g_cond_true rfl ?_ | refine g_cond_false rfl ?_ | exact s_m | intro _)
    rename_i y2 hy2
    obtain ⟨np, nc, ns, qp, qc, T, H2⟩ := y2
    obtain ⟨hs2, hpt, hcut⟩ := hy2
    dsimp only [List.cons_append, List.nil_append] at hs2 hpt hcut ⊢
    have hTd : T.map Pr.d = g.T.map Pr.d := by
      rw [hcut, hg.cut, hws]
      rw [cutL_d, cutL_d, hpd]
    have hnse := ns_eq hpt hg.pts hTd
    have hnd : ns.Nodup := hpt.inc.imp fun h e => by omega
    have hnl := hpt.len
    repeat (first
      | (refine g_ops ?_; first | refine s_q ?_ | refine s_v ?_ | refine s_s ?_ | refine s_n (fun _ => ?_) | refine s_x ?_ | refine s_y ?_ | refine s_mq ?_ | refine s_app (fun _ _ => ?_) | refine s_mv ?_ | refine s_ms ?_ | refine s_b0 (fun _ => ?_) | ((fail_if_success refine g_lit rfl rfl rfl ?_); first | apply g_partM rfl rfl rfl | apply g_partMB rfl rfl rfl | fail))
      | refine g_seq ?_ | refine g_region ?_ | refine g_nil ?_ | refine g_then_normal ?_ | refine g_block ?_ | refine g_in_normal ?_ | refine g_retc ?_
      | refine g_then_ret ?_ | refine g_in_ret ?_ | refine g_exit ?_ | refine g_then_exit ?_ | refine g_in_exit ?_ | refine g_in_other rfl ?_ | refine g_skip ?_
      | refine g_label ?_ | refine g_cond_true rfl ?_ | refine g_cond_false rfl ?_ | exact s_m | intro _)
    refine g_c (cs_makeV (m := ns.length) (zv := .bool false) inferInstance inferInstance inferInstance inferInstance rfl rfl rfl rfl (by omega) (by decide)) rfl rfl (fun db _ => ?_)
    have hg2 := hg.grow hs2
    obtain ⟨H0, hH0⟩ : ∃ H0, H0 = H := ⟨_, rfl⟩
    rw [← hH0] at hwS
    have hs02 : HP.sub H0 H2 := by rw [hH0]; exact hs1.trans hs2
    have hdn0 : List.replicate ns.length (.bool false) = doneL g.M ns := by
      rw [hM]
      simp only [doneL, aget, Option.isSome_none]
      exact (List.map_const ..).symm
    rw [hdn0]
    refine g_own (p := np) (len := ns.length) (cap := nc) (n := 1) (xs := ns.map int) (e := 3) (by (repeat (first | exact Sel.here | apply Sel.there)); first | done | fail) (fun _ _ hq => ?_)
    refine g_own (p := qp) (len := ns.length) (cap := qc) (n := 2) (xs := (ns.map (btOf x.key T)).flatMap Bt.cells) (e := 25) (by (repeat (first | exact Sel.here | apply Sel.there)); first | done | fail) (fun _ _ hq2 => ?_)
    repeat (first
      | (refine g_ops ?_; first | refine s_q ?_ | refine s_v ?_ | refine s_s ?_ | refine s_n (fun _ => ?_) | refine s_x ?_ | refine s_y ?_ | refine s_mq ?_ | refine s_app (fun _ _ => ?_) | refine s_mv ?_ | refine s_ms ?_ | refine s_b0 (fun _ => ?_) | ((fail_if_success refine g_lit rfl rfl rfl ?_); first | apply g_partM rfl rfl rfl | apply g_partMB rfl rfl rfl | fail))
      | refine g_seq ?_ | refine g_region ?_ | refine g_nil ?_ | refine g_then_normal ?_ | refine g_block ?_ | refine g_in_normal ?_ | refine g_retc ?_
      | refine g_then_ret ?_ | refine g_in_ret ?_ | refine g_exit ?_ | refine g_then_exit ?_ | refine g_in_exit ?_ | refine g_in_other rfl ?_ | refine g_skip ?_
      | refine g_label ?_ | refine g_cond_true rfl ?_ | refine g_cond_false rfl ?_ | exact s_m | intro _)
    refine g_loop (X := CaX) (fun y => [(2, .slice wp who.length wc), (7, ptr g.b), (8, .slice np ns.length nc), (9, .slice qp ns.length qc), (10, .slice (some ⟨db, 0, none⟩) ns.length ns.length), (11, int y.i)])
      (fun y => [.own (some ⟨db, 0, none⟩) ns.length ns.length 1 (doneL y.M ns) 4, .own qp ns.length qc 2 ((ns.map (btOf x.key T)).flatMap Bt.cells) 25, .own np ns.length nc 1 (ns.map int) 3, .row g.b g.cells 79, .map g.mp (pmap g.bt.key g.T), .map g.ma (amap y.M), Pile y.H])
      (fun y => y.i ≤ who.length ∧ HP.sub H2 y.H ∧ GgAt (Pile y.H) { g with M := y.M } ∧ ∀ x ∈ y.M, x.2.code = 0) (fun y => who.length - y.i) ⟨0, g.M, H2⟩ ⟨Nat.zero_le _, HP.sub.refl _, hg2, (fun x hx => by simp only [hM] at hx; cases hx)⟩ (by (repeat (first | exact FrSub.nil | refine FrSub.cons rfl ?_)); first | done | fail) (by (repeat (first | exact Take.nil | apply Take.cons | exact Sel.here | apply Sel.there)); first | done | fail) (fun y hy => ?_)
    obtain ⟨i, M, H3⟩ := y
    obtain ⟨hi, hs3, hgM, hcod⟩ := hy
    dsimp only at hi hs3 hgM hcod ⊢
    repeat (first
      | (refine g_ops ?_; first | refine s_q ?_ | refine s_v ?_ | refine s_s ?_ | refine s_n (fun _ => ?_) | refine s_x ?_ | refine s_y ?_ | refine s_mq ?_ | refine s_app (fun _ _ => ?_) | refine s_mv ?_ | refine s_ms ?_ | refine s_b0 (fun _ => ?_) | ((fail_if_success refine g_lit rfl rfl rfl ?_); first | apply g_partM rfl rfl rfl | apply g_partMB rfl rfl rfl | fail))
      | refine g_seq ?_ | refine g_region ?_ | refine g_nil ?_ | refine g_then_normal ?_ | refine g_block ?_ | refine g_in_normal ?_ | refine g_retc ?_
      | refine g_then_ret ?_ | refine g_in_ret ?_ | refine g_exit ?_ | refine g_then_exit ?_ | refine g_in_exit ?_ | refine g_in_other rfl ?_ | refine g_skip ?_
      | refine g_label ?_ | refine g_cond_true rfl ?_ | refine g_cond_false rfl ?_ | exact s_m | intro _)
    refine g_cond_dec rfl (fun h => ?_) (fun h => ?_)
    · have hi' : i < who.length := by omega
      obtain ⟨wb, wo, rfl, hw0⟩ := slAt_cell (hwS.grow (hs02.trans hs3)) (i := i) (v := int who[i]) (by simp [hi'])
      have hwR : ∀ H', HP.sub H2 H' → Reads (Pile H') ⟨wb, wo + i, none⟩ (int who[i]) := fun H' h => by
        obtain ⟨b', o', e1, e2⟩ := slAt_cell (hwS.grow (hs02.trans h)) (i := i) (v := int who[i]) (by simp [hi'])
        cases e1
        exact e2
      generalize who[i] = w at hw0 hwR
      repeat (first
        | (refine g_ops ?_; first | refine s_q ?_ | refine s_v ?_ | refine s_s ?_ | refine s_n (fun _ => ?_) | refine s_x ?_ | refine s_y ?_ | refine s_mq ?_ | refine s_app (fun _ _ => ?_) | refine s_mv ?_ | refine s_ms ?_ | refine s_b0 (fun _ => ?_) | ((fail_if_success refine g_lit rfl rfl rfl ?_); first | apply g_partM rfl rfl rfl | apply g_partMB rfl rfl rfl | fail))
        | refine g_seq ?_ | refine g_region ?_ | refine g_nil ?_ | refine g_then_normal ?_ | refine g_block ?_ | refine g_in_normal ?_ | refine g_retc ?_
        | refine g_then_ret ?_ | refine g_in_ret ?_ | refine g_exit ?_ | refine g_then_exit ?_ | refine g_in_exit ?_ | refine g_in_other rfl ?_ | refine g_skip ?_
        | refine g_label ?_ | refine g_cond_true rfl ?_ | refine g_cond_false rfl ?_ | exact s_m | intro _)
      refine g_loop (X := CkX) (fun y => [(2, .slice (some ⟨wb, wo, none⟩) who.length wc), (7, ptr g.b), (8, .slice np ns.length nc), (9, .slice qp ns.length qc), (10, .slice (some ⟨db, 0, none⟩) ns.length ns.length), (11, int i), (12, int y.kk), (13, int y.j)])
        (fun y => [.own (some ⟨db, 0, none⟩) ns.length ns.length 1 (doneL M ns) 4, .own qp ns.length qc 2 ((ns.map (btOf x.key T)).flatMap Bt.cells) 25, .own np ns.length nc 1 (ns.map int) 3, .row g.b g.cells 79, .map g.mp (pmap g.bt.key g.T), .map g.ma (amap M), Pile H3])
        (fun y => y.j ≤ ns.length ∧ ((y.kk = -1 ∧ w ∉ ns.take y.j) ∨ ∃ m : Nat, ∃ h : m < ns.length, y.kk = m ∧ m < y.j ∧ ns[m] = w)) (fun y => ns.length - y.j) ⟨0, -1⟩ ⟨Nat.zero_le _, .inl ⟨rfl, by simp⟩⟩ (by (repeat (first | exact FrSub.nil | refine FrSub.cons rfl ?_)); first | done | fail) (by (repeat (first | exact Take.nil | apply Take.cons | exact Sel.here | apply Sel.there)); first | done | fail) (fun y hy => ?_)
      obtain ⟨j, kk⟩ := y
      obtain ⟨hj, hkk⟩ := hy
      dsimp only at hj hkk ⊢
      repeat (first
        | (refine g_ops ?_; first | refine s_q ?_ | refine s_v ?_ | refine s_s ?_ | refine s_n (fun _ => ?_) | refine s_x ?_ | refine s_y ?_ | refine s_mq ?_ | refine s_app (fun _ _ => ?_) | refine s_mv ?_ | refine s_ms ?_ | refine s_b0 (fun _ => ?_) | ((fail_if_success refine g_lit rfl rfl rfl ?_); first | apply g_partM rfl rfl rfl | apply g_partMB rfl rfl rfl | fail))
        | refine g_seq ?_ | refine g_region ?_ | refine g_nil ?_ | refine g_then_normal ?_ | refine g_block ?_ | refine g_in_normal ?_ | refine g_retc ?_
        | refine g_then_ret ?_ | refine g_in_ret ?_ | refine g_exit ?_ | refine g_then_exit ?_ | refine g_in_exit ?_ | refine g_in_other rfl ?_ | refine g_skip ?_
        | refine g_label ?_ | refine g_cond_true rfl ?_ | refine g_cond_false rfl ?_ | exact s_m | intro _)
      refine g_cond_dec rfl (fun h2 => ?_) (fun h2 => ?_)
      · have hj' : j < ns.length := by omega
        obtain ⟨nb, rfl⟩ := hq (by omega)
        have hr : ∀ k, k = j → Reads (.own (some ⟨nb, 0, none⟩) ns.length nc 1 (ns.map int) 3) ⟨nb, 0 + k, none⟩ (int ns[j]) := fun k e => by
          subst e; rw [Nat.zero_add]; exact reads_own (by simp [hj'])
        have hr2 : ∀ k, k = i → Reads (Pile H3) ⟨wb, wo + k, none⟩ (int w) := fun _ e => e ▸ hw0
        have htj : ns.take (j + 1) = ns.take j ++ [ns[j]] := List.take_succ_eq_append_getElem hj'
        obtain ⟨v, hv⟩ : ∃ v, v = ns[j] := ⟨_, rfl⟩
        rw [← hv] at hr htj
        repeat (first
          | (refine g_ops ?_; first | refine s_q ?_ | refine s_v ?_ | refine s_s ?_ | refine s_n (fun _ => ?_) | refine s_x ?_ | refine s_y ?_ | refine s_mq ?_ | refine s_app (fun _ _ => ?_) | refine s_mv ?_ | refine s_ms ?_ | refine s_b0 (fun _ => ?_) | ((fail_if_success refine g_lit rfl rfl rfl ?_); first | apply g_partM rfl rfl rfl | apply g_partMB rfl rfl rfl | fail))
          | apply g_regB (id := 1) 27 | refine g_draw (id := 15) (.take 0 (.take 1 (.take 2 (.see 3 [] (.take 4 (.take 5 (.take 6 (.see 7 [] (.take 8 .done))))))))) (by kernel_rfl) (take_all _) (fun k hd hk => ?_)
          | refine g_drawS (id := 24) 7 (.take 0 (.take 1 (.take 2 (.take 3 (.see 4 [] (.see 5 [] (.take 7 (.one 6 (.take 8 .done))))))))) (fun k hd hk => ?_)
          | apply g_regB (id := 35) 159 | refine g_seq ?_ | refine g_region ?_ | refine g_nil ?_ | refine g_then_normal ?_ | refine g_block ?_ | refine g_in_normal ?_
          | refine g_retc ?_ | refine g_then_ret ?_ | refine g_in_ret ?_ | refine g_exit ?_ | refine g_then_exit ?_ | refine g_in_exit ?_ | refine g_in_other rfl ?_
          | refine g_skip ?_ | refine g_label ?_ | refine g_cond_true rfl ?_ | refine g_cond_false rfl ?_ | exact s_m | intro _ | (refine gp_take ?_; first | refine p_q ?_ | refine p_x ?_ | refine p_mq ?_ | ((fail_if_success refine gp_lit rfl rfl rfl rfl ?_); first | apply gp_guard_dec rfl rfl rfl rfl | apply gp_guard rfl rfl rfl rfl | fail))
          | (refine gp_see ?_; first | refine p_f ?_ | refine p_sx ?_ | ((fail_if_success refine gp_lit rfl rfl rfl rfl ?_); first | apply gp_guard_dec rfl rfl rfl rfl | apply gp_guard rfl rfl rfl rfl | fail) | refine p_sq ?_)
          | (refine gp_one ?_; first | refine p_v ?_ | refine p_s ?_ | refine p_n (fun _ => ?_) | refine p_y ?_ | refine p_app (fun _ _ => ?_) | refine p_mv ?_ | refine p_ms ?_ | refine p_b0 (fun _ => ?_) | ((fail_if_success refine gp_lit rfl rfl rfl rfl ?_); first | apply gp_guard_dec rfl rfl rfl rfl | apply gp_guard rfl rfl rfl rfl | fail))
          | refine gp_two ?_ ?_ | refine gp_done hd hk ?_ | intro _ | refine p_ta hd hk (fun _ _ _ hd hk => ?_) | refine p_ts hd hk (fun _ hd hk => ?_))
        dsimp only [List.cons_append, List.nil_append]
        refine g_cond_dec rfl (fun h3 => ?_) (fun h3 => ?_)
        · repeat (first
            | (refine g_ops ?_; first | refine s_q ?_ | refine s_v ?_ | refine s_s ?_ | refine s_n (fun _ => ?_) | refine s_x ?_ | refine s_y ?_ | refine s_mq ?_ | refine s_app (fun _ _ => ?_) | refine s_mv ?_ | refine s_ms ?_ | refine s_b0 (fun _ => ?_) | ((fail_if_success refine g_lit rfl rfl rfl ?_); first | apply g_partM rfl rfl rfl | apply g_partMB rfl rfl rfl | fail))
            | refine g_seq ?_ | refine g_region ?_ | refine g_nil ?_ | refine g_then_normal ?_ | refine g_block ?_ | refine g_in_normal ?_ | refine g_retc ?_
            | refine g_then_ret ?_ | refine g_in_ret ?_ | refine g_exit ?_ | refine g_then_exit ?_ | refine g_in_exit ?_ | refine g_in_other rfl ?_ | refine g_skip ?_
            | refine g_label ?_ | refine g_cond_true rfl ?_ | refine g_cond_false rfl ?_ | exact s_m | intro _)
          refine g_as 13 (v' := int ((j + 1 : Nat) : Int)) rfl (congrArg (Value.int .i64) (by push_cast; rfl)) ?_
          exact g_again ⟨j + 1, (j : Int)⟩ (by simp only; omega) ⟨hj', .inr ⟨j, hj', rfl, by simp only; omega, by rw [← hv]; exact h3⟩⟩ (by (repeat (first | exact FrSub.nil | refine FrSub.cons rfl ?_)); first | done | fail) (by (repeat (first | exact Take.nil | apply Take.cons | exact Sel.here | apply Sel.there)); first | done | fail)
        · repeat (first
            | (refine g_ops ?_; first | refine s_q ?_ | refine s_v ?_ | refine s_s ?_ | refine s_n (fun _ => ?_) | refine s_x ?_ | refine s_y ?_ | refine s_mq ?_ | refine s_app (fun _ _ => ?_) | refine s_mv ?_ | refine s_ms ?_ | refine s_b0 (fun _ => ?_) | ((fail_if_success refine g_lit rfl rfl rfl ?_); first | apply g_partM rfl rfl rfl | apply g_partMB rfl rfl rfl | fail))
            | refine g_seq ?_ | refine g_region ?_ | refine g_nil ?_ | refine g_then_normal ?_ | refine g_block ?_ | refine g_in_normal ?_ | refine g_retc ?_
            | refine g_then_ret ?_ | refine g_in_ret ?_ | refine g_exit ?_ | refine g_then_exit ?_ | refine g_in_exit ?_ | refine g_in_other rfl ?_ | refine g_skip ?_
            | refine g_label ?_ | refine g_cond_true rfl ?_ | refine g_cond_false rfl ?_ | exact s_m | intro _)
          refine g_as 13 (v' := int ((j + 1 : Nat) : Int)) rfl (congrArg (Value.int .i64) (by push_cast; rfl)) ?_
          exact g_again ⟨j + 1, kk⟩ (by simp only; omega) ⟨hj', by
            rcases hkk with ⟨e1, e2⟩ | ⟨m, e1, e2, e3, e4⟩
            · exact .inl ⟨e1, by simp only; rw [htj]; simp only [List.mem_append, List.mem_singleton, not_or]; exact ⟨e2, fun e => h3 e.symm⟩⟩
            · exact .inr ⟨m, e1, e2, by simp only; omega, e4⟩⟩ (by (repeat (first | exact FrSub.nil | refine FrSub.cons rfl ?_)); first | done | fail) (by (repeat (first | exact Take.nil | apply Take.cons | exact Sel.here | apply Sel.there)); first | done | fail)
      · have hk' : (kk = -1 ∧ w ∉ ns) ∨ ∃ m : Nat, ∃ h : m < ns.length, kk = m ∧ ns[m] = w := by
          rw [show j = ns.length by omega, List.take_length] at hkk
          rcases hkk with e | ⟨m, e1, e2, _, e4⟩
          · exact .inl e
          · exact .inr ⟨m, e1, e2, e4⟩
        repeat (first
          | (refine g_ops ?_; first | refine s_q ?_ | refine s_v ?_ | refine s_s ?_ | refine s_n (fun _ => ?_) | refine s_x ?_ | refine s_y ?_ | refine s_mq ?_ | refine s_app (fun _ _ => ?_) | refine s_mv ?_ | refine s_ms ?_ | refine s_b0 (fun _ => ?_) | ((fail_if_success refine g_lit rfl rfl rfl ?_); first | apply g_partM rfl rfl rfl | apply g_partMB rfl rfl rfl | fail))
          | refine g_seq ?_ | refine g_region ?_ | refine g_nil ?_ | refine g_then_normal ?_ | refine g_block ?_ | refine g_in_normal ?_ | refine g_retc ?_
          | refine g_then_ret ?_ | refine g_in_ret ?_ | refine g_exit ?_ | refine g_then_exit ?_ | refine g_in_exit ?_ | refine g_in_other rfl ?_ | refine g_skip ?_
          | refine g_label ?_ | refine g_cond_true rfl ?_ | refine g_cond_false rfl ?_ | exact s_m | intro _)
        rename_i b14
        refine g_cutX (X := CfX) (fun y => [(2, .slice (some ⟨wb, wo, none⟩) who.length wc), (7, ptr g.b), (8, .slice np ns.length nc), (9, .slice qp ns.length qc), (10, .slice (some ⟨db, 0, none⟩) ns.length ns.length), (11, int i), (12, int kk), (14, ptr b14)])
          (fun y => [.row b14 [int 0, int 0, int 1, int 0, int 5, int 0, int 1, .slice y.fp y.fs.length y.fc] 45, .own (some ⟨db, 0, none⟩) ns.length ns.length 1 (doneL M ns) 4, .own qp ns.length qc 2 ((ns.map (btOf x.key T)).flatMap Bt.cells) 25, .own np ns.length nc 1 (ns.map int) 3, .row g.b g.cells 79, .map g.mp (pmap g.bt.key g.T), .map g.ma (amap M), Pile y.H])
          (fun y => HP.sub H3 y.H ∧ SlAt (Pile y.H) 1 y.fp y.fs.length (y.fs.map int) ∧ y.fs.length ≤ 1000000000 ∧ (w ∈ ns → y.fs.length = partN g w)) ?_ (fun y hy => ?_)
        · rcases hk' with ⟨rfl, hno⟩ | ⟨m, hm, rfl, hmw⟩
          · repeat (first
              | (refine g_ops ?_; first | refine s_q ?_ | refine s_v ?_ | refine s_s ?_ | refine s_n (fun _ => ?_) | refine s_x ?_ | refine s_y ?_ | refine s_mq ?_ | refine s_app (fun _ _ => ?_) | refine s_mv ?_ | refine s_ms ?_ | refine s_b0 (fun _ => ?_) | ((fail_if_success refine g_lit rfl rfl rfl ?_); first | apply g_partM rfl rfl rfl | apply g_partMB rfl rfl rfl | fail))
              | refine g_seq ?_ | refine g_region ?_ | refine g_nil ?_ | refine g_then_normal ?_ | refine g_block ?_ | refine g_in_normal ?_ | refine g_retc ?_
              | refine g_then_ret ?_ | refine g_in_ret ?_ | refine g_exit ?_ | refine g_then_exit ?_ | refine g_in_exit ?_ | refine g_in_other rfl ?_ | refine g_skip ?_
              | refine g_label ?_ | refine g_cond_true rfl ?_ | refine g_cond_false rfl ?_ | exact s_m | intro _)
            exact g_midX (⟨none, 0, [], H3⟩ : CfX) ⟨HP.sub.refl _, ⟨rfl, rfl, fun _ => rfl, fun j v hv => by simp at hv⟩, by simp, fun h => absurd h hno⟩ (by (repeat (first | exact FrSub.nil | refine FrSub.cons rfl ?_)); first | done | fail) (by (repeat (first | exact Take.nil | apply Take.cons | exact Sel.here | apply Sel.there)); first | done | fail)
          · obtain ⟨qb, rfl⟩ := hq2 (by omega)
            have hcell2 := own_at (b := qb) (len := ns.length) (cap := qc) (e := 25) (f := Bt.cells) (n := 2) (fun _ => rfl) (l := ns.map (btOf x.key T)) (i := m) (a := btOf x.key T ns[m]) (by simp [hm])
            have hpn : (btOf x.key T ns[m]).puts.length = partN g w := by
              have h1 := congrArg List.length (btOf_d x.key hTd ns[m]).1
              simp only [List.length_map] at h1
              rw [h1, hmw, partN, hky]
            have hpl : (btOf x.key T ns[m]).puts.length ≤ 1000000000 := (hpt.bt x.key (List.getElem_mem hm)).1.len
            generalize btOf x.key T ns[m] = bm at hcell2 hpn hpl
            refine g_as 70 (v' := .bool true) rfl (congrArg Value.bool (by simp)) ?_
            repeat (first
              | (refine g_ops ?_; first | refine s_q ?_ | refine s_v ?_ | refine s_s ?_ | refine s_n (fun _ => ?_) | refine s_x ?_ | refine s_y ?_ | refine s_mq ?_ | refine s_app (fun _ _ => ?_) | refine s_mv ?_ | refine s_ms ?_ | refine s_b0 (fun _ => ?_) | ((fail_if_success refine g_lit rfl rfl rfl ?_); first | apply g_partM rfl rfl rfl | apply g_partMB rfl rfl rfl | fail))
              | refine g_seq ?_ | refine g_region ?_ | refine g_nil ?_ | refine g_then_normal ?_ | refine g_block ?_ | refine g_in_normal ?_ | refine g_retc ?_
              | refine g_then_ret ?_ | refine g_in_ret ?_ | refine g_exit ?_ | refine g_then_exit ?_ | refine g_in_exit ?_ | refine g_in_other rfl ?_ | refine g_skip ?_
              | refine g_label ?_ | refine g_cond_true rfl ?_ | refine g_cond_false rfl ?_ | exact s_m | intro _)
            refine g_c (cs_makeV (m := bm.puts.length) (zv := int 0) inferInstance inferInstance inferInstance inferInstance rfl rfl rfl rfl (by omega) (by decide)) rfl rfl (fun fb _ => ?_)
            repeat (first
              | (refine g_ops ?_; first | refine s_q ?_ | refine s_v ?_ | refine s_s ?_ | refine s_n (fun _ => ?_) | refine s_x ?_ | refine s_y ?_ | refine s_mq ?_ | refine s_app (fun _ _ => ?_) | refine s_mv ?_ | refine s_ms ?_ | refine s_b0 (fun _ => ?_) | ((fail_if_success refine g_lit rfl rfl rfl ?_); first | apply g_partM rfl rfl rfl | apply g_partMB rfl rfl rfl | fail))
              | refine g_seq ?_ | refine g_region ?_ | refine g_nil ?_ | refine g_then_normal ?_ | refine g_block ?_ | refine g_in_normal ?_ | refine g_retc ?_
              | refine g_then_ret ?_ | refine g_in_ret ?_ | refine g_exit ?_ | refine g_then_exit ?_ | refine g_in_exit ?_ | refine g_in_other rfl ?_ | refine g_skip ?_
              | refine g_label ?_ | refine g_cond_true rfl ?_ | refine g_cond_false rfl ?_ | exact s_m | intro _)
            refine g_pile (p := some ⟨fb, 0, none⟩) (m := bm.puts.length) (c := bm.puts.length) (n := 1) (xs := List.replicate bm.puts.length (int 0)) (e := 3) (by (repeat (first | exact Sel.here | apply Sel.there)); first | done | fail) (by (repeat (first | exact Sel.here | apply Sel.there)); first | done | fail) (fun H4 hs4 hA4 => ?_)
            have hrl : (List.replicate bm.puts.length (0 : Int)).length = bm.puts.length := List.length_replicate ..
            exact g_midX (⟨some ⟨fb, 0, none⟩, bm.puts.length, List.replicate bm.puts.length 0, H4⟩ : CfX) ⟨hs4, by simp only [hrl, List.map_replicate]; exact hA4, by simp only [hrl]; exact hpl, fun _ => by simp only [hrl]; exact hpn⟩ (by (repeat (first | exact FrSub.nil | refine FrSub.cons rfl ?_)); first | done | fail) (by simp only [hrl]; exact (by (repeat (first | exact Take.nil | apply Take.cons | exact Sel.here | apply Sel.there)); first | done | fail))
        · obtain ⟨fp, fc, fs, H4⟩ := y
          obtain ⟨hs4, hfa, hfl, hfn⟩ := hy
          dsimp only at hs4 hfa hfl hfn ⊢
          repeat (first
            | (refine g_ops ?_; first | refine s_q ?_ | refine s_v ?_ | refine s_s ?_ | refine s_n (fun _ => ?_) | refine s_x ?_ | refine s_y ?_ | refine s_mq ?_ | refine s_app (fun _ _ => ?_) | refine s_mv ?_ | refine s_ms ?_ | refine s_b0 (fun _ => ?_) | ((fail_if_success refine g_lit rfl rfl rfl ?_); first | apply g_partM rfl rfl rfl | apply g_partMB rfl rfl rfl | fail))
            | refine g_seq ?_ | refine g_region ?_ | refine g_nil ?_ | refine g_then_normal ?_ | refine g_block ?_ | refine g_in_normal ?_ | refine g_retc ?_
            | refine g_then_ret ?_ | refine g_in_ret ?_ | refine g_exit ?_ | refine g_then_exit ?_ | refine g_in_exit ?_ | refine g_in_other rfl ?_ | refine g_skip ?_
            | refine g_label ?_ | refine g_cond_true rfl ?_ | refine g_cond_false rfl ?_ | exact s_m | intro _)
          obtain ⟨want, hwant⟩ : ∃ want, want = (decide (w ∈ ns) && (aget M w).isNone) := ⟨_, rfl⟩
          refine g_cutX (X := Unit) (fun _ => [(15, .bool want), (2, .slice (some ⟨wb, wo, none⟩) who.length wc), (7, ptr g.b), (8, .slice np ns.length nc), (9, .slice qp ns.length qc), (10, .slice (some ⟨db, 0, none⟩) ns.length ns.length), (11, int i), (14, ptr b14)])
            (fun _ => [.row b14 [int 0, int 0, int 1, int 0, int 5, int 0, int 1, .slice fp fs.length fc] 45, .own (some ⟨db, 0, none⟩) ns.length ns.length 1 (ns.map fun k => .bool ((aget M k).isSome || decide (k = w))) 4, .own qp ns.length qc 2 ((ns.map (btOf x.key T)).flatMap Bt.cells) 25, .own np ns.length nc 1 (ns.map int) 3, .row g.b g.cells 79, .map g.mp (pmap g.bt.key g.T), .map g.ma (amap M), Pile H4]) (fun _ => True) ?_ (fun _ _ => ?_)
          · rcases hk' with ⟨rfl, hno⟩ | ⟨m, hm, rfl, hmw⟩
            · rw [show (decide (w ∈ ns) && (aget M w).isNone) = false by simp [hno]] at hwant
              subst hwant
              have hds : doneL M ns = ns.map fun k => .bool ((aget M k).isSome || decide (k = w)) := List.map_congr_left fun k hk => by
                have : k ≠ w := fun e => hno (e ▸ hk)
                simp [this]
              rw [hds]
              repeat (first
                | (refine g_ops ?_; first | refine s_q ?_ | refine s_v ?_ | refine s_s ?_ | refine s_n (fun _ => ?_) | refine s_x ?_ | refine s_y ?_ | refine s_mq ?_ | refine s_app (fun _ _ => ?_) | refine s_mv ?_ | refine s_ms ?_ | refine s_b0 (fun _ => ?_) | ((fail_if_success refine g_lit rfl rfl rfl ?_); first | apply g_partM rfl rfl rfl | apply g_partMB rfl rfl rfl | fail))
                | refine g_seq ?_ | refine g_region ?_ | refine g_nil ?_ | refine g_then_normal ?_ | refine g_block ?_ | refine g_in_normal ?_ | refine g_retc ?_
                | refine g_then_ret ?_ | refine g_in_ret ?_ | refine g_exit ?_ | refine g_then_exit ?_ | refine g_in_exit ?_ | refine g_in_other rfl ?_
                | refine g_skip ?_ | refine g_label ?_ | refine g_cond_true rfl ?_ | refine g_cond_false rfl ?_ | exact s_m | intro _)
              exact g_midX () trivial (by (repeat (first | exact FrSub.nil | refine FrSub.cons rfl ?_)); first | done | fail) (by (repeat (first | exact Take.nil | apply Take.cons | exact Sel.here | apply Sel.there)); first | done | fail)
            · have hr : ∀ k', k' = m → Reads (.own (some ⟨db, 0, none⟩) ns.length ns.length 1 (doneL M ns) 4) ⟨db, 0 + k', none⟩ (.bool (aget M w).isSome) := fun _ e => by
                subst e; rw [Nat.zero_add]; exact reads_own (by simp [hm, hmw])
              have hwm : w ∈ ns := hmw ▸ List.getElem_mem hm
              refine g_as 80 (v' := .bool true) rfl (congrArg Value.bool (by simp)) ?_
              repeat (first
                | (refine g_ops ?_; first | refine s_q ?_ | refine s_v ?_ | refine s_s ?_ | refine s_n (fun _ => ?_) | refine s_x ?_ | refine s_y ?_ | refine s_mq ?_ | refine s_app (fun _ _ => ?_) | refine s_mv ?_ | refine s_ms ?_ | refine s_b0 (fun _ => ?_) | ((fail_if_success refine g_lit rfl rfl rfl ?_); first | apply g_partM rfl rfl rfl | apply g_partMB rfl rfl rfl | fail))
                | refine g_seq ?_ | refine g_region ?_ | refine g_nil ?_ | refine g_then_normal ?_ | refine g_block ?_ | refine g_in_normal ?_ | refine g_retc ?_
                | refine g_then_ret ?_ | refine g_in_ret ?_ | refine g_exit ?_ | refine g_then_exit ?_ | refine g_in_exit ?_ | refine g_in_other rfl ?_
                | refine g_skip ?_ | refine g_label ?_ | refine g_cond_true rfl ?_ | refine g_cond_false rfl ?_ | exact s_m | intro _)
              refine g_as 88 (v' := .pointer (some ⟨db, m, none⟩)) rfl (by rw [Nat.zero_add]) ?_
              refine g_s (ss_storeOwn (v := .bool true) inferInstance rfl rfl rfl (by (repeat (first | exact Sel.here | apply Sel.there)); first | done | fail) (by simp; omega)) rfl ?_
              rw [done_set hnd hm hmw]
              refine g_as 15 (v' := .bool want) rfl (congrArg Value.bool (by rw [hwant]; cases aget M w <;> simp [hwm])) ?_
              repeat (first
                | (refine g_ops ?_; first | refine s_q ?_ | refine s_v ?_ | refine s_s ?_ | refine s_n (fun _ => ?_) | refine s_x ?_ | refine s_y ?_ | refine s_mq ?_ | refine s_app (fun _ _ => ?_) | refine s_mv ?_ | refine s_ms ?_ | refine s_b0 (fun _ => ?_) | ((fail_if_success refine g_lit rfl rfl rfl ?_); first | apply g_partM rfl rfl rfl | apply g_partMB rfl rfl rfl | fail))
                | refine g_seq ?_ | refine g_region ?_ | refine g_nil ?_ | refine g_then_normal ?_ | refine g_block ?_ | refine g_in_normal ?_ | refine g_retc ?_
                | refine g_then_ret ?_ | refine g_in_ret ?_ | refine g_exit ?_ | refine g_then_exit ?_ | refine g_in_exit ?_ | refine g_in_other rfl ?_
                | refine g_skip ?_ | refine g_label ?_ | refine g_cond_true rfl ?_ | refine g_cond_false rfl ?_ | exact s_m | intro _)
              exact g_midX () trivial (by (repeat (first | exact FrSub.nil | refine FrSub.cons rfl ?_)); first | done | fail) (by (repeat (first | exact Take.nil | apply Take.cons | exact Sel.here | apply Sel.there)); first | done | fail)
          · have hgM4 := hgM.grow hs4
            have htk := take_ { g with M := M } hgM4 w ⟨⟨0, 0, 1⟩, 0, ⟨5, 0, 1⟩, fp, fc, fs⟩ hfa hfl
            have htb : takeB { g with M := M } w ⟨⟨0, 0, 1⟩, 0, ⟨5, 0, 1⟩, fp, fc, fs⟩ = want := by
              rw [hwant]
              have e1 : soundB 5 0 1 = true := by decide
              have e2 : partN { g with M := M } w = partN g w := rfl
              simp only [takeB, htx, e1, e2, ← hnse, goodB]
              by_cases hwm : w ∈ ns
              · simp [hwm, hfn hwm]
                exact fun _ => rfl
              · simp [hwm]
            rw [htb] at htk
            dsimp only [Gg.L, List.cons_append, List.nil_append] at htk
            repeat (first
              | (refine g_ops ?_; first | refine s_q ?_ | refine s_v ?_ | refine s_s ?_ | refine s_n (fun _ => ?_) | refine s_x ?_ | refine s_y ?_ | refine s_mq ?_ | refine s_app (fun _ _ => ?_) | refine s_mv ?_ | refine s_ms ?_ | refine s_b0 (fun _ => ?_) | ((fail_if_success refine g_lit rfl rfl rfl ?_); first | apply g_partM rfl rfl rfl | apply g_partMB rfl rfl rfl | fail))
              | refine g_seq ?_ | refine g_region ?_ | refine g_nil ?_ | refine g_then_normal ?_ | refine g_block ?_ | refine g_in_normal ?_ | refine g_retc ?_
              | refine g_then_ret ?_ | refine g_in_ret ?_ | refine g_exit ?_ | refine g_then_exit ?_ | refine g_in_exit ?_ | refine g_in_other rfl ?_ | refine g_skip ?_
              | refine g_label ?_ | refine g_cond_true rfl ?_ | refine g_cond_false rfl ?_ | exact s_m | intro _)
            refine g_draw (.take 0 (.take 1 (.take 2 (.take 3 (.see 5 [] (.take 7 (.one 4 (.one 6 (.take 8 .done))))))))) (by kernel_rfl) (C := [.row b14 [int 0, int 0, int 1, int 0, int 5, int 0, int 1, .slice fp fs.length fc] 45]) (by (repeat (first | exact Take.nil | apply Take.cons | exact Sel.here | apply Sel.there)); first | done | fail) (fun k hd hk => ?_)
            have hr : ∀ k', k' = i → Reads (Pile H4) ⟨wb, wo + k', none⟩ (int w) := fun _ e => e ▸ hwR H4 (hs3.trans hs4)
            repeat (first
              | (refine gp_take ?_; first | refine p_q ?_ | refine p_x ?_ | refine p_mq ?_ | ((fail_if_success refine gp_lit rfl rfl rfl rfl ?_); first | apply gp_guard_dec rfl rfl rfl rfl | apply gp_guard rfl rfl rfl rfl | fail))
              | (refine gp_see ?_; first | refine p_f ?_ | refine p_sx ?_ | ((fail_if_success refine gp_lit rfl rfl rfl rfl ?_); first | apply gp_guard_dec rfl rfl rfl rfl | apply gp_guard rfl rfl rfl rfl | fail) | refine p_sq ?_)
              | (refine gp_one ?_; first | refine p_v ?_ | refine p_s ?_ | refine p_n (fun _ => ?_) | refine p_y ?_ | refine p_app (fun _ _ => ?_) | refine p_mv ?_ | refine p_ms ?_ | refine p_b0 (fun _ => ?_) | ((fail_if_success refine gp_lit rfl rfl rfl rfl ?_); first | apply gp_guard_dec rfl rfl rfl rfl | apply gp_guard rfl rfl rfl rfl | fail) | refine p_c (htk) (fun _ _ => ?_))
              | refine gp_two ?_ ?_ | refine gp_done hd hk ?_ | intro _ | refine p_ta hd hk (fun _ _ _ hd hk => ?_) | refine p_ts hd hk (fun _ hd hk => ?_))
            rename_i y5 hy5
            obtain ⟨M', H5⟩ := y5
            obtain ⟨hs5, hgM5, hkd⟩ := hy5
            dsimp only [List.cons_append, List.nil_append] at hs5 hgM5 hkd ⊢
            have hcod' := kd_code hkd hcod rfl
            have hsome := kd_some hkd
            have hdn : (ns.map fun k => Value.bool ((aget M k).isSome || decide (k = w))) = doneL M' ns := List.map_congr_left fun k hk => by
              rw [hsome k, hwant]
              by_cases e : k = w
              · subst e
                cases aget M k <;> simp [hk]
              · simp [e]
            rw [hdn]
            refine g_as 97 (v' := .bool false) rfl (congrArg Value.bool (by simp)) ?_
            have hak := asks_ { g with M := M' } hgM5 ⟨9, 0, 1⟩
            dsimp only [Gg.L, List.cons_append, List.nil_append] at hak
            repeat (first
              | (refine g_ops ?_; first | refine s_q ?_ | refine s_v ?_ | refine s_s ?_ | refine s_n (fun _ => ?_) | refine s_x ?_ | refine s_y ?_ | refine s_mq ?_ | refine s_app (fun _ _ => ?_) | refine s_mv ?_ | refine s_ms ?_ | refine s_b0 (fun _ => ?_) | ((fail_if_success refine g_lit rfl rfl rfl ?_); first | apply g_partM rfl rfl rfl | apply g_partMB rfl rfl rfl | fail) | refine s_c (hak) (fun _ _ => ?_))
              | refine g_seq ?_ | refine g_region ?_ | refine g_nil ?_ | refine g_then_normal ?_ | refine g_block ?_ | refine g_in_normal ?_ | refine g_retc ?_
              | refine g_then_ret ?_ | refine g_in_ret ?_ | refine g_exit ?_ | refine g_then_exit ?_ | refine g_in_exit ?_ | refine g_in_other rfl ?_ | refine g_skip ?_
              | refine g_label ?_ | refine g_cond_true rfl ?_ | refine g_cond_false rfl ?_ | exact s_m | intro _)
            rename_i y6 hy6
            obtain ⟨aq, ac, xs, H6⟩ := y6
            obtain ⟨hs6, hxa, hxd⟩ := hy6
            dsimp only [List.cons_append, List.nil_append] at hs6 hxa hxd ⊢
            rw [← hnse] at hxd
            have hxl : xs.length = (openL M' ns).length := by
              have h1 := congrArg List.length hxd
              simpa using h1
            have hxb : xs.length ≤ 1000000000 := by
              have h1 : (openL M' ns).length ≤ ns.length := List.length_filter_le ..
              omega
            refine g_own (p := aq) (len := xs.length) (cap := ac) (n := 8) (xs := xs.flatMap Pq.cells) (e := 51) (by (repeat (first | exact Sel.here | apply Sel.there)); first | done | fail) (fun _ _ hq3 => ?_)
            repeat (first
              | (refine g_ops ?_; first | refine s_q ?_ | refine s_v ?_ | refine s_s ?_ | refine s_n (fun _ => ?_) | refine s_x ?_ | refine s_y ?_ | refine s_mq ?_ | refine s_app (fun _ _ => ?_) | refine s_mv ?_ | refine s_ms ?_ | refine s_b0 (fun _ => ?_) | ((fail_if_success refine g_lit rfl rfl rfl ?_); first | apply g_partM rfl rfl rfl | apply g_partMB rfl rfl rfl | fail))
              | refine g_seq ?_ | refine g_region ?_ | refine g_nil ?_ | refine g_then_normal ?_ | refine g_block ?_ | refine g_in_normal ?_ | refine g_retc ?_
              | refine g_then_ret ?_ | refine g_in_ret ?_ | refine g_exit ?_ | refine g_then_exit ?_ | refine g_in_exit ?_ | refine g_in_other rfl ?_ | refine g_skip ?_
              | refine g_label ?_ | refine g_cond_true rfl ?_ | refine g_cond_false rfl ?_ | exact s_m | intro _)
            refine g_loop (X := CjX) (fun y => [(2, .slice (some ⟨wb, wo, none⟩) who.length wc), (7, ptr g.b), (8, .slice np ns.length nc), (9, .slice qp ns.length qc), (10, .slice (some ⟨db, 0, none⟩) ns.length ns.length), (11, int i), (16, .slice aq xs.length ac), (17, int y.a), (18, int y.j)])
              (fun y => [.own aq xs.length ac 8 (xs.flatMap Pq.cells) 51, .own (some ⟨db, 0, none⟩) ns.length ns.length 1 (doneL M' ns) 4, .own qp ns.length qc 2 ((ns.map (btOf x.key T)).flatMap Bt.cells) 25, .own np ns.length nc 1 (ns.map int) 3, .row g.b g.cells 79, .map g.mp (pmap g.bt.key g.T), .map g.ma (amap M'), Pile H6])
              (fun y => y.j ≤ ns.length ∧ y.a = (openL M' (ns.take y.j)).length) (fun y => ns.length - y.j) ⟨0, 0⟩ ⟨Nat.zero_le _, rfl⟩ (by (repeat (first | exact FrSub.nil | refine FrSub.cons rfl ?_)); first | done | fail) (by (repeat (first | exact Take.nil | apply Take.cons | exact Sel.here | apply Sel.there)); first | done | fail) (fun y hy => ?_)
            obtain ⟨j2, a2⟩ := y
            obtain ⟨hj2, ha2⟩ := hy
            dsimp only at hj2 ha2 ⊢
            repeat (first
              | (refine g_ops ?_; first | refine s_q ?_ | refine s_v ?_ | refine s_s ?_ | refine s_n (fun _ => ?_) | refine s_x ?_ | refine s_y ?_ | refine s_mq ?_ | refine s_app (fun _ _ => ?_) | refine s_mv ?_ | refine s_ms ?_ | refine s_b0 (fun _ => ?_) | ((fail_if_success refine g_lit rfl rfl rfl ?_); first | apply g_partM rfl rfl rfl | apply g_partMB rfl rfl rfl | fail))
              | refine g_seq ?_ | refine g_region ?_ | refine g_nil ?_ | refine g_then_normal ?_ | refine g_block ?_ | refine g_in_normal ?_ | refine g_retc ?_
              | refine g_then_ret ?_ | refine g_in_ret ?_ | refine g_exit ?_ | refine g_then_exit ?_ | refine g_in_exit ?_ | refine g_in_other rfl ?_ | refine g_skip ?_
              | refine g_label ?_ | refine g_cond_true rfl ?_ | refine g_cond_false rfl ?_ | exact s_m | intro _)
            refine g_cond_dec rfl (fun h4 => ?_) (fun h4 => ?_)
            · have hj3 : j2 < ns.length := by omega
              have hr : ∀ k', k' = j2 → Reads (.own (some ⟨db, 0, none⟩) ns.length ns.length 1 (doneL M' ns) 4) ⟨db, 0 + k', none⟩ (.bool (aget M' ns[j2]).isSome) := fun _ e => by
                subst e; rw [Nat.zero_add]; exact reads_own (by simp [hj3])
              have hot := openL_take (M := M') hj3
              repeat (first
                | (refine g_ops ?_; first | refine s_q ?_ | refine s_v ?_ | refine s_s ?_ | refine s_n (fun _ => ?_) | refine s_x ?_ | refine s_y ?_ | refine s_mq ?_ | refine s_app (fun _ _ => ?_) | refine s_mv ?_ | refine s_ms ?_ | refine s_b0 (fun _ => ?_) | ((fail_if_success refine g_lit rfl rfl rfl ?_); first | apply g_partM rfl rfl rfl | apply g_partMB rfl rfl rfl | fail))
                | refine g_seq ?_ | refine g_region ?_ | refine g_nil ?_ | refine g_then_normal ?_ | refine g_block ?_ | refine g_in_normal ?_ | refine g_retc ?_
                | refine g_then_ret ?_ | refine g_in_ret ?_ | refine g_exit ?_ | refine g_then_exit ?_ | refine g_in_exit ?_ | refine g_in_other rfl ?_
                | refine g_skip ?_ | refine g_label ?_ | refine g_cond_true rfl ?_ | refine g_cond_false rfl ?_ | exact s_m | intro _)
              cases hdo : (aget M' ns[j2]).isSome with
              | true =>
                have hna : (aget M' ns[j2]).isNone = false := by cases e : aget M' ns[j2] with
                  | none => rw [e] at hdo; cases hdo
                  | some a => rfl
                rw [hna] at hot
                repeat (first
                  | (refine g_ops ?_; first | refine s_q ?_ | refine s_v ?_ | refine s_s ?_ | refine s_n (fun _ => ?_) | refine s_x ?_ | refine s_y ?_ | refine s_mq ?_ | refine s_app (fun _ _ => ?_) | refine s_mv ?_ | refine s_ms ?_ | refine s_b0 (fun _ => ?_) | ((fail_if_success refine g_lit rfl rfl rfl ?_); first | apply g_partM rfl rfl rfl | apply g_partMB rfl rfl rfl | fail))
                  | refine g_seq ?_ | refine g_region ?_ | refine g_nil ?_ | refine g_then_normal ?_ | refine g_block ?_ | refine g_in_normal ?_ | refine g_retc ?_
                  | refine g_then_ret ?_ | refine g_in_ret ?_ | refine g_exit ?_ | refine g_then_exit ?_ | refine g_in_exit ?_ | refine g_in_other rfl ?_
                  | refine g_skip ?_ | refine g_label ?_ | refine g_cond_true rfl ?_ | refine g_cond_false rfl ?_ | exact s_m | intro _)
                refine g_as 18 (v' := int ((j2 + 1 : Nat) : Int)) rfl (congrArg (Value.int .i64) (by push_cast; rfl)) ?_
                exact g_again ⟨j2 + 1, a2⟩ (by simp only; omega) ⟨hj3, by simp only; rw [hot, ha2]; simp⟩ (by (repeat (first | exact FrSub.nil | refine FrSub.cons rfl ?_)); first | done | fail) (by (repeat (first | exact Take.nil | apply Take.cons | exact Sel.here | apply Sel.there)); first | done | fail)
              | false =>
                have hna : (aget M' ns[j2]).isNone = true := by cases e : aget M' ns[j2] with
                  | none => rfl
                  | some a => rw [e] at hdo; cases hdo
                rw [hna] at hot
                have hsp := openL_split hj3 hdo
                have ha3 : a2 < xs.length := by rw [hxl, hsp, ha2]; simp
                obtain ⟨xb, rfl⟩ := hq3 (by omega)
                obtain ⟨qb, rfl⟩ := hq2 (by omega)
                have hcell := own_at (b := xb) (len := xs.length) (cap := ac) (e := 51) (f := Pq.cells) pq_len (l := xs) (i := a2) (a := xs[a2]) (by simp [ha3])
                have hrow2 := own_at (b := qb) (len := ns.length) (cap := qc) (e := 25) (f := Bt.cells) (n := 2) (fun _ => rfl) (l := ns.map (btOf x.key T)) (i := j2) (a := btOf x.key T ns[j2]) (by simp [hj3])
                have hxd2 : xs[a2].d = (g.tx, (g.bt.key, (btOf g.bt.key g.T ns[j2]).puts.map Pt.d), (⟨9, 0, 1⟩ : S3)) := by
                  have e1 : (xs.map Pq.d)[a2]'(by simpa using ha3) = xs[a2].d := List.getElem_map ..
                  rw [← e1]
                  have e2 := List.getElem_of_eq hxd (i := a2) (by simpa using ha3)
                  rw [e2, List.getElem_map]
                  have e3 : (openL M' ns)[a2]'(by rw [← hxl]; exact ha3) = ns[j2] := by
                    have e4 := List.getElem_of_eq hsp (i := a2) (by rw [← hxl]; exact ha3)
                    rw [e4, List.getElem_append_right (by omega)]
                    simp [ha2]
                  simp only [e3]
                have hbj := (hpt.bt x.key (List.getElem_mem hj3)).1.grow (hs3.trans (hs4.trans (hs5.trans hs6)))
                have hbk : (btOf x.key T ns[j2]).key = x.key := by
                  obtain ⟨_, z, _, e⟩ := hpt.bt x.key (List.getElem_mem hj3)
                  rw [e]
                have hbd := (btOf_d x.key hTd ns[j2]).1
                rw [hky, ← hbd, htx] at hxd2
                have hxa2 := hxa xs[a2] (List.getElem_mem _)
                generalize xs[a2] = xq at hcell hxd2 hxa2
                generalize btOf x.key T ns[j2] = bq at hrow2 hbj hbk hxd2
                obtain ⟨⟨q1, q2, q3⟩, xbt, ⟨r1, r2, r3⟩⟩ := xq
                simp only [Pq.d, Prod.mk.injEq, S3.mk.injEq] at hxd2
                obtain ⟨⟨rfl, rfl, rfl⟩, hbd2, ⟨rfl, rfl, rfl⟩⟩ := hxd2
                have hsb := sameBatch xbt bq hxa2 hbj (by rw [hbd2, ← hbk]; rfl)
                repeat (first
                  | (refine g_ops ?_; first | refine s_q ?_ | refine s_v ?_ | refine s_s ?_ | refine s_n (fun _ => ?_) | refine s_x ?_ | refine s_y ?_ | refine s_mq ?_ | refine s_app (fun _ _ => ?_) | refine s_mv ?_ | refine s_ms ?_ | refine s_b0 (fun _ => ?_) | ((fail_if_success refine g_lit rfl rfl rfl ?_); first | apply g_partM rfl rfl rfl | apply g_partMB rfl rfl rfl | fail))
                  | refine g_seq ?_ | refine g_region ?_ | refine g_nil ?_ | refine g_then_normal ?_ | refine g_block ?_ | refine g_in_normal ?_ | refine g_retc ?_
                  | refine g_then_ret ?_ | refine g_in_ret ?_ | refine g_exit ?_ | refine g_then_exit ?_ | refine g_in_exit ?_ | refine g_in_other rfl ?_
                  | refine g_skip ?_ | refine g_label ?_ | refine g_cond_true rfl ?_ | refine g_cond_false rfl ?_ | exact s_m | intro _)
                refine g_drawBC (id := 32) (u := false) 145 (.take 0 (.take 1 (.take 2 (.take 3 (.take 4 (.take 5 (.take 6 (.take 7 (.take 8 (.see 9 [] (.take 10 (.take 11 (.take 12 (.see 13 [] (.one 14 (.take 15 (.take 16 (.take 17 (.take 18 (.take 19 (.take 20 (.take 21 (.take 22 (.see 23 [] (.take 24 (.take 25 (.take 26 (.take 27 (.take 28 (.take 29 (.take 30 (.take 31 (.see 32 [] (.take 33 (.take 34 .done))))))))))))))))))))))))))))))))))) (by kernel_rfl) (C := [.own (some ⟨xb, 0, none⟩) xs.length ac 8 (xs.flatMap Pq.cells) 51, .own (some ⟨qb, 0, none⟩) ns.length qc 2 ((ns.map (btOf x.key T)).flatMap Bt.cells) 25]) (by (repeat (first | exact Take.nil | apply Take.cons | exact Sel.here | apply Sel.there)); first | done | fail) (fun k hd hk => ?_) ?_
                · clear hr
                  repeat (first
                    | (refine gp_take ?_; first | refine p_q ?_ | refine p_x ?_ | refine p_mq ?_ | ((fail_if_success refine gp_lit rfl rfl rfl rfl ?_); first | apply gp_guard_dec rfl rfl rfl rfl | apply gp_guard rfl rfl rfl rfl | fail))
                    | (refine gp_see ?_; first | refine p_f ?_ | refine p_sx ?_ | ((fail_if_success refine gp_lit rfl rfl rfl rfl ?_); first | apply gp_guard_dec rfl rfl rfl rfl | apply gp_guard rfl rfl rfl rfl | fail) | refine p_sq ?_)
                    | (refine gp_one ?_; first | refine p_v ?_ | refine p_s ?_ | refine p_n (fun _ => ?_) | refine p_y ?_ | refine p_app (fun _ _ => ?_) | refine p_mv ?_ | refine p_ms ?_ | refine p_b0 (fun _ => ?_) | ((fail_if_success refine gp_lit rfl rfl rfl rfl ?_); first | apply gp_guard_dec rfl rfl rfl rfl | apply gp_guard rfl rfl rfl rfl | fail))
                    | refine gp_two ?_ ?_ | refine gp_done hd hk ?_ | intro _ | refine p_ta hd hk (fun _ _ _ hd hk => ?_) | refine p_ts hd hk (fun _ hd hk => ?_))
                  refine gp_as 115 (v' := .bool false) rfl (congrArg Value.bool (by simp; omega)) ?_
                  repeat (first
                    | (refine gp_take ?_; first | refine p_q ?_ | refine p_x ?_ | refine p_mq ?_ | ((fail_if_success refine gp_lit rfl rfl rfl rfl ?_); first | apply gp_guard_dec rfl rfl rfl rfl | apply gp_guard rfl rfl rfl rfl | fail))
                    | (refine gp_see ?_; first | refine p_f ?_ | refine p_sx ?_ | ((fail_if_success refine gp_lit rfl rfl rfl rfl ?_); first | apply gp_guard_dec rfl rfl rfl rfl | apply gp_guard rfl rfl rfl rfl | fail) | refine p_h (hsb) hd hk ?_ | refine p_sq ?_)
                    | (refine gp_one ?_; first | refine p_v ?_ | refine p_s ?_ | refine p_n (fun _ => ?_) | refine p_y ?_ | refine p_app (fun _ _ => ?_) | refine p_mv ?_ | refine p_ms ?_ | refine p_b0 (fun _ => ?_) | ((fail_if_success refine gp_lit rfl rfl rfl rfl ?_); first | apply gp_guard_dec rfl rfl rfl rfl | apply gp_guard rfl rfl rfl rfl | fail) | refine p_k (hsb) ?_)
                    | refine gp_two ?_ ?_ | refine gp_done hd hk ?_ | intro _ | refine p_ta hd hk (fun _ _ _ hd hk => ?_) | refine p_ts hd hk (fun _ hd hk => ?_))
                  refine g_as 145 (v' := .bool false) rfl (congrArg Value.bool (by simp)) ?_
                  repeat (first
                    | (refine g_ops ?_; first | refine s_q ?_ | refine s_v ?_ | refine s_s ?_ | refine s_n (fun _ => ?_) | refine s_x ?_ | refine s_y ?_ | refine s_mq ?_ | refine s_app (fun _ _ => ?_) | refine s_mv ?_ | refine s_ms ?_ | refine s_b0 (fun _ => ?_) | ((fail_if_success refine g_lit rfl rfl rfl ?_); first | apply g_partM rfl rfl rfl | apply g_partMB rfl rfl rfl | fail))
                    | refine g_seq ?_ | refine g_region ?_ | refine g_nil ?_ | refine g_then_normal ?_ | refine g_block ?_ | refine g_in_normal ?_ | refine g_retc ?_
                    | refine g_then_ret ?_ | refine g_in_ret ?_ | refine g_exit ?_ | refine g_then_exit ?_ | refine g_in_exit ?_ | refine g_in_other rfl ?_
                    | refine g_skip ?_ | refine g_label ?_ | refine g_cond_true rfl ?_ | refine g_cond_false rfl ?_ | exact s_m | intro _)
                · repeat (first
                    | (refine g_ops ?_; first | refine s_q ?_ | refine s_v ?_ | refine s_s ?_ | refine s_n (fun _ => ?_) | refine s_x ?_ | refine s_y ?_ | refine s_mq ?_ | refine s_app (fun _ _ => ?_) | refine s_mv ?_ | refine s_ms ?_ | refine s_b0 (fun _ => ?_) | ((fail_if_success refine g_lit rfl rfl rfl ?_); first | apply g_partM rfl rfl rfl | apply g_partMB rfl rfl rfl | fail))
                    | refine g_seq ?_ | refine g_region ?_ | refine g_nil ?_ | refine g_then_normal ?_ | refine g_block ?_ | refine g_in_normal ?_ | refine g_retc ?_
                    | refine g_then_ret ?_ | refine g_in_ret ?_ | refine g_exit ?_ | refine g_then_exit ?_ | refine g_in_exit ?_ | refine g_in_other rfl ?_
                    | refine g_skip ?_ | refine g_label ?_ | refine g_cond_true rfl ?_ | refine g_cond_false rfl ?_ | exact s_m | intro _)
                  refine g_as 17 (v' := int ((a2 + 1 : Nat) : Int)) rfl (congrArg (Value.int .i64) (by push_cast; rfl)) ?_
                  refine g_as 18 (v' := int ((j2 + 1 : Nat) : Int)) rfl (congrArg (Value.int .i64) (by push_cast; rfl)) ?_
                  exact g_again ⟨j2 + 1, a2 + 1⟩ (by simp only; omega) ⟨hj3, by simp only; rw [hot, List.length_append, ha2]; rfl⟩ (by (repeat (first | exact FrSub.nil | refine FrSub.cons rfl ?_)); first | done | fail) (by (repeat (first | exact Take.nil | apply Take.cons | exact Sel.here | apply Sel.there)); first | done | fail)
            · rw [show j2 = ns.length by omega, List.take_length, ← hxl] at ha2
              have hgM6 := hgM5.grow hs6
              have hrp := ripe_ { g with M := M' } hgM6
              have hfu := full_iff hgM6.nd (fun x hx => by have := hgM6.sub x hx; rwa [← hnse] at this) hnd
              have hrb : ripeB { g with M := M' } = decide (xs.length = 0) := by
                have e1 : wrongL M' g.ns = none := wrongL_none hcod' _
                simp only [ripeB, e1, hwt]
                rw [← hnse]
                have e2 : (M'.length = ns.length) ↔ (xs.length = 0) := by rw [hfu, hxl, List.length_eq_zero_iff]
                simp [e2]
              rw [hrb] at hrp
              repeat (first
                | (refine g_ops ?_; first | refine s_q ?_ | refine s_v ?_ | refine s_s ?_ | refine s_n (fun _ => ?_) | refine s_x ?_ | refine s_y ?_ | refine s_mq ?_ | refine s_app (fun _ _ => ?_) | refine s_mv ?_ | refine s_ms ?_ | refine s_b0 (fun _ => ?_) | ((fail_if_success refine g_lit rfl rfl rfl ?_); first | apply g_partM rfl rfl rfl | apply g_partMB rfl rfl rfl | fail))
                | refine g_seq ?_ | refine g_region ?_ | refine g_nil ?_ | refine g_then_normal ?_ | refine g_block ?_ | refine g_in_normal ?_ | refine g_retc ?_
                | refine g_then_ret ?_ | refine g_in_ret ?_ | refine g_exit ?_ | refine g_then_exit ?_ | refine g_in_exit ?_ | refine g_in_other rfl ?_
                | refine g_skip ?_ | refine g_label ?_ | refine g_cond_true rfl ?_ | refine g_cond_false rfl ?_ | exact s_m | intro _)
              refine g_as 152 (v' := .bool false) rfl (congrArg Value.bool (by simp; omega)) ?_
              repeat (first
                | (refine g_ops ?_; first | refine s_q ?_ | refine s_v ?_ | refine s_s ?_ | refine s_n (fun _ => ?_) | refine s_x ?_ | refine s_y ?_ | refine s_mq ?_ | refine s_app (fun _ _ => ?_) | refine s_mv ?_ | refine s_ms ?_ | refine s_b0 (fun _ => ?_) | ((fail_if_success refine g_lit rfl rfl rfl ?_); first | apply g_partM rfl rfl rfl | apply g_partMB rfl rfl rfl | fail) | refine s_k (hrp) ?_)
                | refine g_seq ?_ | refine g_region ?_ | refine g_nil ?_ | refine g_then_normal ?_ | refine g_block ?_ | refine g_in_normal ?_ | refine g_retc ?_
                | refine g_then_ret ?_ | refine g_in_ret ?_ | refine g_exit ?_ | refine g_then_exit ?_ | refine g_in_exit ?_ | refine g_in_other rfl ?_
                | refine g_skip ?_ | refine g_label ?_ | refine g_cond_true rfl ?_ | refine g_cond_false rfl ?_ | exact s_m | intro _)
              dsimp only [List.cons_append, List.nil_append]
              refine g_as 159 (v' := .bool false) rfl (congrArg Value.bool (by simp)) ?_
              repeat (first
                | (refine g_ops ?_; first | refine s_q ?_ | refine s_v ?_ | refine s_s ?_ | refine s_n (fun _ => ?_) | refine s_x ?_ | refine s_y ?_ | refine s_mq ?_ | refine s_app (fun _ _ => ?_) | refine s_mv ?_ | refine s_ms ?_ | refine s_b0 (fun _ => ?_) | ((fail_if_success refine g_lit rfl rfl rfl ?_); first | apply g_partM rfl rfl rfl | apply g_partMB rfl rfl rfl | fail))
                | refine g_seq ?_ | refine g_region ?_ | refine g_nil ?_ | refine g_then_normal ?_ | refine g_block ?_ | refine g_in_normal ?_ | refine g_retc ?_
                | refine g_then_ret ?_ | refine g_in_ret ?_ | refine g_exit ?_ | refine g_then_exit ?_ | refine g_in_exit ?_ | refine g_in_other rfl ?_
                | refine g_skip ?_ | refine g_label ?_ | refine g_cond_true rfl ?_ | refine g_cond_false rfl ?_ | exact s_m | intro _)
              refine g_as 11 (v' := int ((i + 1 : Nat) : Int)) rfl (congrArg (Value.int .i64) (by push_cast; rfl)) ?_
              exact g_again ⟨i + 1, M', H6⟩ (by simp only; omega) ⟨hi', hs3.trans (hs4.trans (hs5.trans hs6)), hgM6, hcod'⟩ (by (repeat (first | exact FrSub.nil | refine FrSub.cons rfl ?_)); first | done | fail) (by (repeat (first | exact Take.nil | apply Take.cons | exact Sel.here | apply Sel.there)); first | done | fail)
    · repeat (first
        | (refine g_ops ?_; first | refine s_q ?_ | refine s_v ?_ | refine s_s ?_ | refine s_n (fun _ => ?_) | refine s_x ?_ | refine s_y ?_ | refine s_mq ?_ | refine s_app (fun _ _ => ?_) | refine s_mv ?_ | refine s_ms ?_ | refine s_b0 (fun _ => ?_) | ((fail_if_success refine g_lit rfl rfl rfl ?_); first | apply g_partM rfl rfl rfl | apply g_partMB rfl rfl rfl | fail) | refine s_c (awake_) (fun _ _ => ?_))
        | refine g_seq ?_ | refine g_region ?_ | refine g_nil ?_ | refine g_then_normal ?_ | refine g_block ?_ | refine g_in_normal ?_ | refine g_retc ?_
        | refine g_then_ret ?_ | refine g_in_ret ?_ | refine g_exit ?_ | refine g_then_exit ?_ | refine g_in_exit ?_ | refine g_in_other rfl ?_ | refine g_skip ?_
        | refine g_label ?_ | refine g_cond_true rfl ?_ | refine g_cond_false rfl ?_ | exact s_m | intro _)
      rename_i H4 hs4
      dsimp only [List.cons_append, List.nil_append]
      refine g_unpile (hs02.trans (hs3.trans hs4)) (by (repeat (first | exact Sel.here | apply Sel.there)); first | done | fail) ?_
      subst hH0
      exact g_ret () rfl (by (repeat (first | exact RVs.nil | apply RVs.tmp rfl | apply RVs.cellA rfl (by (repeat (first | exact Sel.here | apply Sel.there)); first | done | fail) (by (repeat (first | exact Cut.zero | apply Cut.take | apply Cut.skip)); first | done | fail) | apply RVs.cell1 rfl (by (repeat (first | exact Sel.here | apply Sel.there)); first | done | fail) rfl)); first | done | fail) (by (repeat (first | exact Take.nil | apply Take.cons | exact Sel.here | apply Sel.there)); first | done | fail) rfl trivial
  · have hno : (!sm || decide (20 < (who.length : Int))) = true := by
      cases sm with
      | false => rfl
      | true => simp at hgo ⊢; omega
    cases sm with
    | false =>
      refine g_as 23 (v' := .bool true) rfl rfl ?_
      repeat (first
        | (refine g_ops ?_; first | refine s_q ?_ | refine s_v ?_ | refine s_s ?_ | refine s_n (fun _ => ?_) | refine s_x ?_ | refine s_y ?_ | refine s_mq ?_ | refine s_app (fun _ _ => ?_) | refine s_mv ?_ | refine s_ms ?_ | refine s_b0 (fun _ => ?_) | ((fail_if_success refine g_lit rfl rfl rfl ?_); first | apply g_partM rfl rfl rfl | apply g_partMB rfl rfl rfl | fail) | refine s_c (awake_) (fun _ _ => ?_))
        | refine g_seq ?_ | refine g_region ?_ | refine g_nil ?_ | refine g_then_normal ?_ | refine g_block ?_ | refine g_in_normal ?_ | refine g_retc ?_
        | refine g_then_ret ?_ | refine g_in_ret ?_ | refine g_exit ?_ | refine g_then_exit ?_ | refine g_in_exit ?_ | refine g_in_other rfl ?_ | refine g_skip ?_
        | refine g_label ?_ | refine g_cond_true rfl ?_ | refine g_cond_false rfl ?_ | exact s_m | intro _)
      rename_i H2 hs2
      dsimp only [List.cons_append, List.nil_append]
      refine g_unpile hs2 (by (repeat (first | exact Sel.here | apply Sel.there)); first | done | fail) ?_
      exact g_ret () rfl (by (repeat (first | exact RVs.nil | apply RVs.tmp rfl | apply RVs.cellA rfl (by (repeat (first | exact Sel.here | apply Sel.there)); first | done | fail) (by (repeat (first | exact Cut.zero | apply Cut.take | apply Cut.skip)); first | done | fail) | apply RVs.cell1 rfl (by (repeat (first | exact Sel.here | apply Sel.there)); first | done | fail) rfl)); first | done | fail) (by (repeat (first | exact Take.nil | apply Take.cons | exact Sel.here | apply Sel.there)); first | done | fail) rfl trivial
    | true =>
      refine g_as 23 (v' := .bool false) rfl rfl ?_
      repeat (first
        | (refine g_ops ?_; first | refine s_q ?_ | refine s_v ?_ | refine s_s ?_ | refine s_n (fun _ => ?_) | refine s_x ?_ | refine s_y ?_ | refine s_mq ?_ | refine s_app (fun _ _ => ?_) | refine s_mv ?_ | refine s_ms ?_ | refine s_b0 (fun _ => ?_) | ((fail_if_success refine g_lit rfl rfl rfl ?_); first | apply g_partM rfl rfl rfl | apply g_partMB rfl rfl rfl | fail))
        | refine g_seq ?_ | refine g_region ?_ | refine g_nil ?_ | refine g_then_normal ?_ | refine g_block ?_ | refine g_in_normal ?_ | refine g_retc ?_
        | refine g_then_ret ?_ | refine g_in_ret ?_ | refine g_exit ?_ | refine g_then_exit ?_ | refine g_in_exit ?_ | refine g_in_other rfl ?_ | refine g_skip ?_
        | refine g_label ?_ | refine g_cond_true rfl ?_ | refine g_cond_false rfl ?_ | exact s_m | intro _)
      refine g_as 27 (v' := .bool true) rfl (congrArg Value.bool (by simpa using hno)) ?_
      repeat (first
        | (refine g_ops ?_; first | refine s_q ?_ | refine s_v ?_ | refine s_s ?_ | refine s_n (fun _ => ?_) | refine s_x ?_ | refine s_y ?_ | refine s_mq ?_ | refine s_app (fun _ _ => ?_) | refine s_mv ?_ | refine s_ms ?_ | refine s_b0 (fun _ => ?_) | ((fail_if_success refine g_lit rfl rfl rfl ?_); first | apply g_partM rfl rfl rfl | apply g_partMB rfl rfl rfl | fail) | refine s_c (awake_) (fun _ _ => ?_))
        | refine g_seq ?_ | refine g_region ?_ | refine g_nil ?_ | refine g_then_normal ?_ | refine g_block ?_ | refine g_in_normal ?_ | refine g_retc ?_
        | refine g_then_ret ?_ | refine g_in_ret ?_ | refine g_exit ?_ | refine g_then_exit ?_ | refine g_in_exit ?_ | refine g_in_other rfl ?_ | refine g_skip ?_
        | refine g_label ?_ | refine g_cond_true rfl ?_ | refine g_cond_false rfl ?_ | exact s_m | intro _)
      rename_i H2 hs2
      dsimp only [List.cons_append, List.nil_append]
      refine g_unpile hs2 (by (repeat (first | exact Sel.here | apply Sel.there)); first | done | fail) ?_
      exact g_ret () rfl (by (repeat (first | exact RVs.nil | apply RVs.tmp rfl | apply RVs.cellA rfl (by (repeat (first | exact Sel.here | apply Sel.there)); first | done | fail) (by (repeat (first | exact Cut.zero | apply Cut.take | apply Cut.skip)); first | done | fail) | apply RVs.cell1 rfl (by (repeat (first | exact Sel.here | apply Sel.there)); first | done | fail) rfl)); first | done | fail) (by (repeat (first | exact Take.nil | apply Take.cons | exact Sel.here | apply Sel.there)); first | done | fail) rfl trivial
end Go.Proofs.Ytfachckbjmofgaa
