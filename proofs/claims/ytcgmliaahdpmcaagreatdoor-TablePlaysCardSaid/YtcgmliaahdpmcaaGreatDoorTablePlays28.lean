/- Contracts and laws that the proof stands on. -/
import Derived.Test.YtcgmliaahdpmcaaGreatDoorTablePlays27
set_option linter.unusedSimpArgs false
set_option linter.unusedVariables false
namespace Go.Proofs.YtcgmliaahdpmcaaGreatDoor
open Go.Sl facts
theorem InvP.mono {n n' : Nat} {s : Pt} (h : InvP n s) (hn : n ≤ n') : InvP n' s := ⟨h.tw.mono hn hn, h.tk, h.at_⟩
theorem evsOk_sm {l : List Ev} {r : Int} (hr : r ≤ 1000000000) (h : ∀ e ∈ l, (e.st.size : Int) ≤ r ∧ (e.data.size : Int) ≤ r) : ∀ e ∈ l, e.st.size ≤ 1000000000 ∧ e.data.size ≤ 1000000000 := fun e he => by
  have := h e he
  exact ⟨by omega, by omega⟩
theorem strSm_of {y : StrV} {r : Int} (hr : r ≤ 1000000000) (h : StrB r y) : StrSm y := ⟨by have := h.nm; omega, evsOk_sm hr h.evs, fun k hk => by have := h.ks k hk; omega⟩
def StV.r (x : StV) : Rg := ⟨x.r0, x.r1, x.r2, x.r3⟩
theorem dSort_sD (xs : List StrV) : xs.map dSort = (xs.map StrV.d).map sD := by rw [List.map_map]; rfl
theorem putB_nd {xs : List StrV} (h : putB xs = true) : ∀ z ∈ xs.map StrV.d, (z.2.2.map Kn.key).Nodup := fun z hz => by
  obtain ⟨x, hx, rfl⟩ := List.mem_map.1 hz
  unfold putB at h
  simp only [Bool.and_eq_true, List.all_eq_true] at h
  exact ((whole_iff x).1 (h.2 x hx)).2.2.2.2.2.1
theorem sumW_append (a b : List StV) : sumW (a ++ b) = sumW a + sumW b := by unfold sumW; rw [List.map_append, List.sum_append]
def rdL (evs : List Ev) (frm mx : Int) : List Ev := if frm < 1 then [] else readL evs frm mx
theorem all_own_nil (n : Nat) (e : TypeId) {L : List Chunk} {h : HP} (al : All L h) : All (.own none 0 0 n [] e :: L) h := ⟨fun _ => none, h, fun _ => .inl rfl, (fun _ _ q => by cases q), HP.sub.refl _, ⟨⟨by simp, rfl⟩, .inl ⟨rfl, rfl⟩⟩, al⟩
theorem read_any (t : Nat) (mp : Option Nat) (T : List Sm) (nm : ByteArray) (frm mx : Int) (hf : frm ≤ 9223372036854775807) (hl : (evsOf T nm).length ≤ 1000000000) : Does Tryz.prog 18 [ptr t, .string nm, int frm, int mx] (tabL t mp T) (X := OA)
    (fun x => .tuple #[.slice x.1 (rdL (evsOf T nm) frm mx).length x.2, int (if frm < 1 then 1 else 0)]) (fun x => .own x.1 (rdL (evsOf T nm) frm mx).length x.2 7 ((rdL (evsOf T nm) frm mx).flatMap Ev.cells) 68 :: tabL t mp T) (fun _ => True) := by
  by_cases h : frm < 1
  · unfold rdL
    simp only [if_pos h]
    exact does_weak (read_arg .nilIface t mp T nm frm mx h) (fun _ => (none, 0)) (fun y => rfl) (fun y _ al => all_own_nil 7 _ al) (fun _ _ => trivial)
  · unfold rdL
    simp only [if_neg h]
    exact read t mp T nm frm mx (by omega) hf hl
theorem mread_any {H : HP} (m : Nat) (q : Option Addr) (c : Nat) (ds : List StrV) (hM : MAt (Pile H) q ds) (hl : ds.length ≤ 1000000000) (nm : ByteArray) (frm mx : Int) (hf : frm ≤ 9223372036854775807) (hev : (dEvs ds nm).length ≤ 1000000000) : Does Tryz.prog 19 [ptr m, .string nm, int frm, int mx] [mrow m q ds.length c, Pile H] (X := OA)
    (fun x => .tuple #[.slice x.1 (rdL (dEvs ds nm) frm mx).length x.2, int (if frm < 1 then 1 else 0)]) (fun x => [.own x.1 (rdL (dEvs ds nm) frm mx).length x.2 7 ((rdL (dEvs ds nm) frm mx).flatMap Ev.cells) 68, mrow m q ds.length c, Pile H]) (fun _ => True) := by
  by_cases h : frm < 1
  · unfold rdL
    simp only [if_pos h]
    exact does_weak (mread_no m q c ds nm frm mx h) (fun _ => (none, 0)) (fun y => rfl) (fun y _ al => all_own_nil 7 _ al) (fun _ _ => trivial)
  · unfold rdL
    simp only [if_neg h]
    exact mread m q c ds hM hl nm frm mx (by omega) hf hev
structure LpX where
  i : Nat
  s : Pt
attribute [local irreducible] Code.wp wpList Exit.then Exit.inBlock bodyPost Back MidQ G GP QStep VStep CStep SStep Does Post Reads
set_option maxHeartbeats 16000000 in
theorem plays {H : HP} (hU : UtH H) (p : Option Addr) (cap : Nat) (l : List StV) (hS : StepsAt (Pile H) p l) (hlen : l.length ≤ 9223372036854775807) (stream key : ByteArray) (hst : stream.size ≤ 9223372036854775807) (hky : key.size ≤ 9223372036854775807) (frm mx : Int) (hf1 : frm ≤ 9223372036854775807) :
    Does1 Tryz.prog 3 [.slice p l.length cap, .string stream, .string key, int frm, int mx] [Pile H] (.bool true) := by
  have hmost : most = 1099511627776 := rfl
  refine fn_intro Tryz.func3 rfl Tryz.ntmps3 rfl (by simp only [argFr, Nat.zero_add, Nat.reduceAdd]; rfl) (fun Γ => ?_)
  repeat ((fail_if_success refine s_at 30 ?_); first
    | (refine g_ops ?_; first | refine sO ?_ | refine s_n (fun _ => ?_) | refine s_app (fun _ _ => ?_) | refine s_b0 (fun _ => ?_) | ((fail_if_success refine g_lit rfl rfl rfl ?_); first | apply g_partM rfl rfl rfl | apply g_partMB rfl rfl rfl | fail) | refine s_c (small3 p cap l hS hlen) (fun _ _ => ?_))
    | refine gS ?_ | exact s_m | intro _)
  rename_i sb hsb
  dsimp only [List.cons_append, List.nil_append]
  cases sb with
  | false =>
    repeat (first
      | (refine g_ops ?_; first | refine sO ?_ | refine s_n (fun _ => ?_) | refine s_app (fun _ _ => ?_) | refine s_b0 (fun _ => ?_) | ((fail_if_success refine g_lit rfl rfl rfl ?_); first | apply g_partM rfl rfl rfl | apply g_partMB rfl rfl rfl | fail) | refine s_k (awake hU) ?_)
      | refine gS ?_ | exact s_m | intro _)
    exact gR () trivial
  | true =>
    obtain ⟨hl80, hsw, hB⟩ := hsb rfl
    have h3 := sum_up 0 [(stream.size : Int), (key.size : Int)] (by simp) (by omega) (by omega)
    repeat (first
      | (refine g_ops ?_; first | refine sO ?_ | refine s_n (fun _ => ?_) | refine s_app (fun _ _ => ?_) | refine s_b0 (fun _ => ?_) | ((fail_if_success refine g_lit rfl rfl rfl ?_); first | apply g_partM rfl rfl rfl | apply g_partMB rfl rfl rfl | fail) | refine s_k (sum_row _ _ _ 0 [(stream.size : Int), (key.size : Int)] ⟨by omega, by omega⟩ (by simp; omega) (by simp)) ?_)
      | refine gS ?_ | exact s_m | intro _)
    refine g_cond_dec rfl (fun h => ?_) (fun h => ?_)
    · repeat (first
        | (refine g_ops ?_; first | refine sO ?_ | refine s_n (fun _ => ?_) | refine s_app (fun _ _ => ?_) | refine s_b0 (fun _ => ?_) | ((fail_if_success refine g_lit rfl rfl rfl ?_); first | apply g_partM rfl rfl rfl | apply g_partMB rfl rfl rfl | fail) | refine s_k (awake hU) ?_)
        | refine gS ?_ | exact s_m | intro _)
      exact gR () trivial
    have hss : stream.size ≤ 500 ∧ key.size ≤ 500 := by
      have g0 := h3.2.2 (by omega)
      have g1 := g0 (stream.size : Int) (by simp)
      have g2 := g0 (key.size : Int) (by simp)
      exact ⟨by omega, by omega⟩
    clear h h3
    repeat (first
      | (refine g_ops ?_; first | refine sO ?_ | refine s_n (fun _ => ?_) | refine s_app (fun _ _ => ?_) | refine s_b0 (fun _ => ?_) | ((fail_if_success refine g_lit rfl rfl rfl ?_); first | apply g_partM rfl rfl rfl | apply g_partMB rfl rfl rfl | fail) | refine s_c (new) (fun _ _ => ?_))
      | refine gS ?_ | exact s_m | intro _)
    rename_i t _ m
    dsimp only [List.cons_append, List.nil_append]
    have hI0 : InvP 0 ⟨t, none, [], m, none, 0, [], H⟩ := ⟨TW.nil _ _, taken_nil, ⟨SlAt.empty, by simp⟩⟩
    refine g_loop (X := LpX) (fun y => [(0, .slice p l.length cap), (1, .string stream), (2, .string key), (3, int frm), (4, int mx), (10, .bool false), (11, ptr y.s.t), (12, ptr y.s.m), (13, int y.i)]) (fun y => ptL y.s)
      (fun y => y.i ≤ l.length ∧ HP.sub H y.s.H ∧ InvP (sumW (l.take y.i)) y.s) (fun y => l.length - y.i) ⟨0, ⟨t, none, [], m, none, 0, [], H⟩⟩ ⟨Nat.zero_le _, HP.sub.refl _, hI0⟩ (by (repeat (first | exact FrSub.nil | refine FrSub.cons rfl ?_)); first | done | fail) (by (repeat (first | exact Take.nil | apply Take.cons | exact Sel.here | apply Sel.there)); first | done | fail) (fun y hy => ?_)
    obtain ⟨i, s⟩ := y
    obtain ⟨hi, hsH, hI⟩ := hy
    dsimp only at hi hsH hI ⊢
    have hUs := hU.grow hsH
    repeat (first
      | (refine g_ops ?_; first | refine sO ?_ | refine s_n (fun _ => ?_) | refine s_app (fun _ _ => ?_) | refine s_b0 (fun _ => ?_) | ((fail_if_success refine g_lit rfl rfl rfl ?_); first | apply g_partM rfl rfl rfl | apply g_partMB rfl rfl rfl | fail))
      | refine gS ?_ | exact s_m | intro _)
    refine g_cond_dec rfl (fun h => ?_) (fun h => ?_)
    · have hi' : i < l.length := by omega
      obtain ⟨lb, lo, rfl, hrow⟩ := slAt_elem (hS.sl.grow hsH) stv_len (by decide) (i := i) (a := l[i]) (by simp [hi'])
      have hx := (hS.at_ l[i] (List.getElem_mem _)).grow hsH
      have hb := hB l[i] (List.getElem_mem _)
      have hsw1 : sumW (l.take (i + 1)) = sumW (l.take i) + wStep l[i] := by rw [List.take_succ_eq_append_getElem hi', sumW_append]; simp [sumW]
      have hsw2 : sumW (l.take (i + 1)) ≤ 20000 := by
        have e := List.take_append_drop (i + 1) l
        have e2 := sumW_append (l.take (i + 1)) (l.drop (i + 1))
        rw [e] at e2
        omega
      rw [hsw1] at hsw2
      generalize l[i] = x at hrow hx hb hsw1 hsw2
      generalize sumW (l.take i) = n at hI hsw1 hsw2
      have hwx : x.L.length + x.S.length + wT x.S + 1 = wStep x := rfl
      have hlen2 := hI.len
      repeat ((fail_if_success refine s_at 55 ?_); first
        | (refine g_ops ?_; first | refine sO ?_ | refine s_n (fun _ => ?_) | refine s_app (fun _ _ => ?_) | refine s_b0 (fun _ => ?_) | ((fail_if_success refine g_lit rfl rfl rfl ?_); first | apply g_partM rfl rfl rfl | apply g_partMB rfl rfl rfl | fail))
        | refine gS ?_ | exact s_m | intro _)
      first
        | (refine g_ops ?_; first | refine sO ?_ | refine s_n (fun _ => ?_) | refine s_app (fun _ _ => ?_) | refine s_b0 (fun _ => ?_) | ((fail_if_success refine g_lit rfl rfl rfl ?_); first | apply g_partM rfl rfl rfl | apply g_partMB rfl rfl rfl | fail))
        | refine gS ?_ | exact s_m | intro _
      rename_i b14
      repeat (first | refine g_skip ?_ | refine g_then_normal ?_ | refine g_seq ?_ | refine g_nil ?_)
      refine g_cutX (X := Pt) (fun s' => [(0, .slice (some ⟨lb, lo, none⟩) l.length cap), (1, .string stream), (2, .string key), (3, int frm), (4, int mx), (10, .bool false), (11, ptr s'.t), (12, ptr s'.m), (13, int i), (15, .bool true)]) (fun s' => ptL s') (fun s' => HP.sub s.H s'.H ∧ InvP (n + wStep x) s') ?_ (fun s' hs' => ?_)
      · obtain ⟨t, mp, T, m, q, c, ds, H1⟩ := s
        have htw := hI.tw
        have htk := hI.tk
        have hat := hI.at_
        dsimp only at htw htk hat hx hUs hlen2 ⊢
        have hTB := htw.big (by omega) (by omega)
        repeat (first
          | (refine g_ops ?_; first | refine sO ?_ | refine s_n (fun _ => ?_) | refine s_app (fun _ _ => ?_) | refine s_b0 (fun _ => ?_) | ((fail_if_success refine g_lit rfl rfl rfl ?_); first | apply g_partM rfl rfl rfl | apply g_partMB rfl rfl rfl | fail))
          | refine gS ?_ | exact s_m | intro _)
        refine g_cond_dec rfl (fun hk1 => ?_) (fun hk1 => ?_)
        · repeat (first
            | (refine g_ops ?_; first | refine sO ?_ | refine s_n (fun _ => ?_) | refine s_app (fun _ _ => ?_) | refine s_b0 (fun _ => ?_) | ((fail_if_success refine g_lit rfl rfl rfl ?_); first | apply g_partM rfl rfl rfl | apply g_partMB rfl rfl rfl | fail))
            | refine gS ?_ | exact s_m | intro _)
          refine g_draw (.take 0 (.take 1 (.see 2 [] (.take 3 (.see 4 [] (.take 6 (.take 7 (.see 8 [] (.take 9 (.see 10 [] (.one 5 (.one 11 (.take 12 (.take 13 .done)))))))))))))) (by kernel_rfl) (C := [.row b14 x.cells 36]) (by (repeat (first | exact Take.nil | apply Take.cons | exact Sel.here | apply Sel.there)); first | done | fail) (fun k hd hk => ?_)
          repeat (first
            | (refine gp_take ?_; first | refine pT ?_ | ((fail_if_success refine gp_lit rfl rfl rfl rfl ?_); first | apply gp_guard_dec rfl rfl rfl rfl | apply gp_guard rfl rfl rfl rfl | fail))
            | (refine gp_see ?_; first | refine p_f ?_ | refine pS ?_ | ((fail_if_success refine gp_lit rfl rfl rfl rfl ?_); first | apply gp_guard_dec rfl rfl rfl rfl | apply gp_guard rfl rfl rfl rfl | fail))
            | (refine gp_one ?_; first | refine pO ?_ | refine p_n (fun _ => ?_) | refine p_app (fun _ _ => ?_) | refine p_b0 (fun _ => ?_) | ((fail_if_success refine gp_lit rfl rfl rfl rfl ?_); first | apply gp_guard_dec rfl rfl rfl rfl | apply gp_guard rfl rfl rfl rfl | fail) | refine p_c (append_b hUs x.lp x.lc x.L hx.l hx.lo (by omega) t mp T x.key hx.kl htw (by omega)) (fun _ _ => ?_))
            | refine gp_two ?_ ?_ | refine gp_done hd hk ?_ | intro _ | refine p_ta hd hk (fun _ _ _ hd hk => ?_) | refine p_ts hd hk (fun _ hd hk => ?_))
          rename_i y hy
          obtain ⟨e, g, mp', T'⟩ := y
          dsimp only [List.cons_append, List.nil_append] at hy ⊢
          repeat (first
            | (refine gp_take ?_; first | refine pT ?_ | ((fail_if_success refine gp_lit rfl rfl rfl rfl ?_); first | apply gp_guard_dec rfl rfl rfl rfl | apply gp_guard rfl rfl rfl rfl | fail))
            | (refine gp_see ?_; first | refine p_f ?_ | refine pS ?_ | ((fail_if_success refine gp_lit rfl rfl rfl rfl ?_); first | apply gp_guard_dec rfl rfl rfl rfl | apply gp_guard rfl rfl rfl rfl | fail))
            | (refine gp_one ?_; first | refine pO ?_ | refine p_n (fun _ => ?_) | refine p_app (fun _ _ => ?_) | refine p_b0 (fun _ => ?_) | ((fail_if_success refine gp_lit rfl rfl rfl rfl ?_); first | apply gp_guard_dec rfl rfl rfl rfl | apply gp_guard rfl rfl rfl rfl | fail) | refine p_c (mapp m q c ds hat (by omega) x.lp x.lc x.L hx.l hx.lo (evsOk_sm (by decide) hb.L) (by omega) x.key (by have := hb.key; omega) (fun nm => by have := hI.dEvs nm; dsimp only at this; omega)) (fun _ _ => ?_))
            | refine gp_two ?_ ?_ | refine gp_done hd hk ?_ | intro _ | refine p_ta hd hk (fun _ _ _ hd hk => ?_) | refine p_ts hd hk (fun _ hd hk => ?_))
          rename_i z hz
          obtain ⟨e', q', c', ds', H2⟩ := z
          obtain ⟨z1, z2, z3⟩ := hz
          dsimp only [List.cons_append, List.nil_append] at z1 z2 z3 ⊢
          obtain ⟨rfl, r2, r3⟩ := app_rel htk htw hy z3
          repeat (first
            | (refine gp_take ?_; first | refine pT ?_ | ((fail_if_success refine gp_lit rfl rfl rfl rfl ?_); first | apply gp_guard_dec rfl rfl rfl rfl | apply gp_guard rfl rfl rfl rfl | fail))
            | (refine gp_see ?_; first | refine p_f ?_ | refine pS ?_ | ((fail_if_success refine gp_lit rfl rfl rfl rfl ?_); first | apply gp_guard_dec rfl rfl rfl rfl | apply gp_guard rfl rfl rfl rfl | fail))
            | (refine gp_one ?_; first | refine pO ?_ | refine p_n (fun _ => ?_) | refine p_app (fun _ _ => ?_) | refine p_b0 (fun _ => ?_) | ((fail_if_success refine gp_lit rfl rfl rfl rfl ?_); first | apply gp_guard_dec rfl rfl rfl rfl | apply gp_guard rfl rfl rfl rfl | fail))
            | refine gp_two ?_ ?_ | refine gp_done hd hk ?_ | intro _ | refine p_ta hd hk (fun _ _ _ hd hk => ?_) | refine p_ts hd hk (fun _ hd hk => ?_))
          repeat (first
            | (refine g_ops ?_; first | refine sO ?_ | refine s_n (fun _ => ?_) | refine s_app (fun _ _ => ?_) | refine s_b0 (fun _ => ?_) | ((fail_if_success refine g_lit rfl rfl rfl ?_); first | apply g_partM rfl rfl rfl | apply g_partMB rfl rfl rfl | fail))
            | refine gS ?_ | exact s_m | intro _)
          refine g_as 15 (v' := .bool true) rfl (congrArg Value.bool (decide_eq_true rfl)) ?_
          exact gM (⟨t, mp', T', m, q', c', ds', H2⟩ : Pt) ⟨z1, r3.mono (by omega) (by omega), r2, z2⟩
        repeat (first
          | (refine g_ops ?_; first | refine sO ?_ | refine s_n (fun _ => ?_) | refine s_app (fun _ _ => ?_) | refine s_b0 (fun _ => ?_) | ((fail_if_success refine g_lit rfl rfl rfl ?_); first | apply g_partM rfl rfl rfl | apply g_partMB rfl rfl rfl | fail))
          | refine gS ?_ | exact s_m | intro _)
        refine g_cond_dec rfl (fun hk2 => ?_) (fun hk2 => ?_)
        · have hszS : ∀ y ∈ x.S, y.evs.length ≤ 40000 ∧ y.ks.length ≤ 40000 := fun y hy => by have := wT_mem hy; exact ⟨by omega, by omega⟩
          repeat (first
            | (refine g_ops ?_; first | refine sO ?_ | refine s_n (fun _ => ?_) | refine s_app (fun _ _ => ?_) | refine s_b0 (fun _ => ?_) | ((fail_if_success refine g_lit rfl rfl rfl ?_); first | apply g_partM rfl rfl rfl | apply g_partMB rfl rfl rfl | fail))
            | refine gS ?_ | exact s_m | intro _)
          refine g_draw (.take 0 (.take 1 (.see 2 [] (.take 4 (.take 5 (.see 6 [] (.one 3 (.one 7 (.take 8 (.take 9 .done)))))))))) (by kernel_rfl) (C := [.row b14 x.cells 36]) (by (repeat (first | exact Take.nil | apply Take.cons | exact Sel.here | apply Sel.there)); first | done | fail) (fun k hd hk => ?_)
          repeat (first
            | (refine gp_take ?_; first | refine pT ?_ | ((fail_if_success refine gp_lit rfl rfl rfl rfl ?_); first | apply gp_guard_dec rfl rfl rfl rfl | apply gp_guard rfl rfl rfl rfl | fail))
            | (refine gp_see ?_; first | refine p_f ?_ | refine pS ?_ | ((fail_if_success refine gp_lit rfl rfl rfl rfl ?_); first | apply gp_guard_dec rfl rfl rfl rfl | apply gp_guard rfl rfl rfl rfl | fail))
            | (refine gp_one ?_; first | refine pO ?_ | refine p_n (fun _ => ?_) | refine p_app (fun _ _ => ?_) | refine p_b0 (fun _ => ?_) | ((fail_if_success refine gp_lit rfl rfl rfl rfl ?_); first | apply gp_guard_dec rfl rfl rfl rfl | apply gp_guard rfl rfl rfl rfl | fail) | refine p_c (put (vstr hUs) x.sp x.sc x.S hx.s hx.str hszS (by omega) t mp T) (fun _ _ => ?_))
            | refine gp_two ?_ ?_ | refine gp_done hd hk ?_ | intro _ | refine p_ta hd hk (fun _ _ _ hd hk => ?_) | refine p_ts hd hk (fun _ hd hk => ?_))
          rename_i y hy
          obtain ⟨mp', ss⟩ := y
          dsimp only [List.cons_append, List.nil_append] at hy ⊢
          repeat (first
            | (refine gp_take ?_; first | refine pT ?_ | ((fail_if_success refine gp_lit rfl rfl rfl rfl ?_); first | apply gp_guard_dec rfl rfl rfl rfl | apply gp_guard rfl rfl rfl rfl | fail))
            | (refine gp_see ?_; first | refine p_f ?_ | refine pS ?_ | ((fail_if_success refine gp_lit rfl rfl rfl rfl ?_); first | apply gp_guard_dec rfl rfl rfl rfl | apply gp_guard rfl rfl rfl rfl | fail))
            | (refine gp_one ?_; first | refine pO ?_ | refine p_n (fun _ => ?_) | refine p_app (fun _ _ => ?_) | refine p_b0 (fun _ => ?_) | ((fail_if_success refine gp_lit rfl rfl rfl rfl ?_); first | apply gp_guard_dec rfl rfl rfl rfl | apply gp_guard rfl rfl rfl rfl | fail) | refine p_c (mput m q c ds hat (by omega) x.sp x.sc x.S hx.s hx.str (fun y hy => strSm_of (by decide) (hb.S y hy)) hszS (by omega)) (fun _ _ => ?_))
            | refine gp_two ?_ ?_ | refine gp_done hd hk ?_ | intro _ | refine p_ta hd hk (fun _ _ _ hd hk => ?_) | refine p_ts hd hk (fun _ hd hk => ?_))
          rename_i z hz
          obtain ⟨e', q', c', ds', H2⟩ := z
          obtain ⟨z1, z2, z3⟩ := hz
          dsimp only [List.cons_append, List.nil_append] at z1 z2 z3 ⊢
          repeat (first
            | (refine gp_take ?_; first | refine pT ?_ | ((fail_if_success refine gp_lit rfl rfl rfl rfl ?_); first | apply gp_guard_dec rfl rfl rfl rfl | apply gp_guard rfl rfl rfl rfl | fail))
            | (refine gp_see ?_; first | refine p_f ?_ | refine pS ?_ | ((fail_if_success refine gp_lit rfl rfl rfl rfl ?_); first | apply gp_guard_dec rfl rfl rfl rfl | apply gp_guard rfl rfl rfl rfl | fail))
            | (refine gp_one ?_; first | refine pO ?_ | refine p_n (fun _ => ?_) | refine p_app (fun _ _ => ?_) | refine p_b0 (fun _ => ?_) | ((fail_if_success refine gp_lit rfl rfl rfl rfl ?_); first | apply gp_guard_dec rfl rfl rfl rfl | apply gp_guard rfl rfl rfl rfl | fail))
            | refine gp_two ?_ ?_ | refine gp_done hd hk ?_ | intro _ | refine p_ta hd hk (fun _ _ _ hd hk => ?_) | refine p_ts hd hk (fun _ hd hk => ?_))
          repeat (first
            | (refine g_ops ?_; first | refine sO ?_ | refine s_n (fun _ => ?_) | refine s_app (fun _ _ => ?_) | refine s_b0 (fun _ => ?_) | ((fail_if_success refine g_lit rfl rfl rfl ?_); first | apply g_partM rfl rfl rfl | apply g_partMB rfl rfl rfl | fail))
            | refine gS ?_ | exact s_m | intro _)
          refine g_as 15 (v' := .bool true) rfl (congrArg Value.bool (decide_eq_true rfl)) ?_
          have hfin : InvP (n + wStep x) ⟨t, mp', ss.foldl tput T, m, q', c', ds', H2⟩ := by
            rcases z3 with ⟨hp, ys, hys, rfl⟩ | ⟨hp, rfl⟩
            · rw [if_pos hp] at hy
              rw [dSort_sD] at hys
              exact ⟨(htw.puts (w := x.S.length + wT x.S) hp hy ⟨by omega, fun y hy => by have := wT_mem hy; exact ⟨by omega, by omega⟩⟩).mono (by omega) (by omega), put_rel _ ss T ys ds hy hys (putB_nd hp) htk, z2⟩
            · rw [if_neg (by simp [hp])] at hy
              subst hy
              exact ⟨htw.mono (by omega) (by omega), htk, z2⟩
          exact gM (⟨t, mp', ss.foldl tput T, m, q', c', ds', H2⟩ : Pt) ⟨z1, hfin⟩
        repeat (first
          | (refine g_ops ?_; first | refine sO ?_ | refine s_n (fun _ => ?_) | refine s_app (fun _ _ => ?_) | refine s_b0 (fun _ => ?_) | ((fail_if_success refine g_lit rfl rfl rfl ?_); first | apply g_partM rfl rfl rfl | apply g_partMB rfl rfl rfl | fail))
          | refine gS ?_ | exact s_m | intro _)
        refine g_cond_dec rfl (fun hk3 => ?_) (fun hk3 => ?_)
        · repeat (first
            | (refine g_ops ?_; first | refine sO ?_ | refine s_n (fun _ => ?_) | refine s_app (fun _ _ => ?_) | refine s_b0 (fun _ => ?_) | ((fail_if_success refine g_lit rfl rfl rfl ?_); first | apply g_partM rfl rfl rfl | apply g_partMB rfl rfl rfl | fail))
            | refine gS ?_ | exact s_m | intro _)
          refine g_draw (.take 0 (.take 1 (.see 2 [] (.take 4 (.take 5 (.see 6 [] (.one 3 (.one 7 (.take 8 (.take 9 .done)))))))))) (by kernel_rfl) (C := [.row b14 x.cells 36]) (by (repeat (first | exact Take.nil | apply Take.cons | exact Sel.here | apply Sel.there)); first | done | fail) (fun k hd hk => ?_)
          repeat (first
            | (refine gp_take ?_; first | refine pT ?_ | ((fail_if_success refine gp_lit rfl rfl rfl rfl ?_); first | apply gp_guard_dec rfl rfl rfl rfl | apply gp_guard rfl rfl rfl rfl | fail))
            | (refine gp_see ?_; first | refine p_f ?_ | refine pS ?_ | ((fail_if_success refine gp_lit rfl rfl rfl rfl ?_); first | apply gp_guard_dec rfl rfl rfl rfl | apply gp_guard rfl rfl rfl rfl | fail))
            | (refine gp_one ?_; first | refine pO ?_ | refine p_n (fun _ => ?_) | refine p_app (fun _ _ => ?_) | refine p_b0 (fun _ => ?_) | ((fail_if_success refine gp_lit rfl rfl rfl rfl ?_); first | apply gp_guard_dec rfl rfl rfl rfl | apply gp_guard rfl rfl rfl rfl | fail) | refine p_c (drop t mp T x.r hTB) (fun _ _ => ?_))
            | refine gp_two ?_ ?_ | refine gp_done hd hk ?_ | intro _ | refine p_ta hd hk (fun _ _ _ hd hk => ?_) | refine p_ts hd hk (fun _ hd hk => ?_))
          dsimp only [List.cons_append, List.nil_append]
          repeat (first
            | (refine gp_take ?_; first | refine pT ?_ | ((fail_if_success refine gp_lit rfl rfl rfl rfl ?_); first | apply gp_guard_dec rfl rfl rfl rfl | apply gp_guard rfl rfl rfl rfl | fail))
            | (refine gp_see ?_; first | refine p_f ?_ | refine pS ?_ | ((fail_if_success refine gp_lit rfl rfl rfl rfl ?_); first | apply gp_guard_dec rfl rfl rfl rfl | apply gp_guard rfl rfl rfl rfl | fail))
            | (refine gp_one ?_; first | refine pO ?_ | refine p_n (fun _ => ?_) | refine p_app (fun _ _ => ?_) | refine p_b0 (fun _ => ?_) | ((fail_if_success refine gp_lit rfl rfl rfl rfl ?_); first | apply gp_guard_dec rfl rfl rfl rfl | apply gp_guard rfl rfl rfl rfl | fail) | refine p_c (mdrop m q c ds hat (by omega) x.r) (fun _ _ => ?_))
            | refine gp_two ?_ ?_ | refine gp_done hd hk ?_ | intro _ | refine p_ta hd hk (fun _ _ _ hd hk => ?_) | refine p_ts hd hk (fun _ hd hk => ?_))
          rename_i z hz
          obtain ⟨q', c', H2⟩ := z
          obtain ⟨z1, z2⟩ := hz
          dsimp only [List.cons_append, List.nil_append] at z1 z2 ⊢
          repeat (first
            | (refine gp_take ?_; first | refine pT ?_ | ((fail_if_success refine gp_lit rfl rfl rfl rfl ?_); first | apply gp_guard_dec rfl rfl rfl rfl | apply gp_guard rfl rfl rfl rfl | fail))
            | (refine gp_see ?_; first | refine p_f ?_ | refine pS ?_ | ((fail_if_success refine gp_lit rfl rfl rfl rfl ?_); first | apply gp_guard_dec rfl rfl rfl rfl | apply gp_guard rfl rfl rfl rfl | fail))
            | (refine gp_one ?_; first | refine pO ?_ | refine p_n (fun _ => ?_) | refine p_app (fun _ _ => ?_) | refine p_b0 (fun _ => ?_) | ((fail_if_success refine gp_lit rfl rfl rfl rfl ?_); first | apply gp_guard_dec rfl rfl rfl rfl | apply gp_guard rfl rfl rfl rfl | fail))
            | refine gp_two ?_ ?_ | refine gp_done hd hk ?_ | intro _ | refine p_ta hd hk (fun _ _ _ hd hk => ?_) | refine p_ts hd hk (fun _ hd hk => ?_))
          repeat (first
            | (refine g_ops ?_; first | refine sO ?_ | refine s_n (fun _ => ?_) | refine s_app (fun _ _ => ?_) | refine s_b0 (fun _ => ?_) | ((fail_if_success refine g_lit rfl rfl rfl ?_); first | apply g_partM rfl rfl rfl | apply g_partMB rfl rfl rfl | fail))
            | refine gS ?_ | exact s_m | intro _)
          have hcnt := (htk.filt x.r.has).len
          refine g_as 15 (v' := .bool true) rfl (congrArg Value.bool (decide_eq_true (by rw [hcnt]))) ?_
          exact gM (⟨t, mp, T.filter fun s => !x.r.has s.nm, m, q', c', ds.filter fun y => !x.r.has y.nm, H2⟩ : Pt) ⟨z1, (htw.filter _).mono (by omega) (by omega), htk.filt fun nm => !x.r.has nm, z2⟩
        repeat (first
          | (refine g_ops ?_; first | refine sO ?_ | refine s_n (fun _ => ?_) | refine s_app (fun _ _ => ?_) | refine s_b0 (fun _ => ?_) | ((fail_if_success refine g_lit rfl rfl rfl ?_); first | apply g_partM rfl rfl rfl | apply g_partMB rfl rfl rfl | fail))
          | refine gS ?_ | exact s_m | intro _)
        refine g_cond_dec rfl (fun hk4 => ?_) (fun hk4 => ?_)
        · repeat (first
            | (refine g_ops ?_; first | refine sO ?_ | refine s_n (fun _ => ?_) | refine s_app (fun _ _ => ?_) | refine s_b0 (fun _ => ?_) | ((fail_if_success refine g_lit rfl rfl rfl ?_); first | apply g_partM rfl rfl rfl | apply g_partMB rfl rfl rfl | fail) | refine s_c (take t mp T x.r hTB) (fun _ _ => ?_))
            | refine gS ?_ | exact s_m | intro _)
          rename_i y1 hy1
          obtain ⟨wp, wc, ws, H2⟩ := y1
          obtain ⟨sb1, wat, weach, wnames⟩ := hy1
          dsimp only [List.cons_append, List.nil_append] at sb1 wat weach wnames ⊢
          have hTk := taken_of weach wnames
          refine g_pile (p := wp) (m := ws.length) (c := wc) (n := 3) (xs := ws.flatMap StrV.cells) (e := 60) (by (repeat (first | exact Sel.here | apply Sel.there)); first | done | fail) (by (repeat (first | exact Sel.here | apply Sel.there)); first | done | fail) (fun H3 sb2 hSw => ?_)
          have hat3 := hat.grow (sb1.trans sb2)
          repeat (first
            | (refine g_ops ?_; first | refine sO ?_ | refine s_n (fun _ => ?_) | refine s_app (fun _ _ => ?_) | refine s_b0 (fun _ => ?_) | ((fail_if_success refine g_lit rfl rfl rfl ?_); first | apply g_partM rfl rfl rfl | apply g_partMB rfl rfl rfl | fail) | refine s_c (mtake m q c ds hat3 (by omega) x.r) (fun _ _ => ?_))
            | refine gS ?_ | exact s_m | intro _)
          rename_i y2 _
          obtain ⟨dp, dc⟩ := y2
          dsimp only [List.cons_append, List.nil_append]
          have htkF := htk.filt x.r.has
          have hdd := hTk.uniq (htw.filter _).nd htkF
          obtain ⟨hpw, hzw⟩ := hTk.put (htw.filter _).str
          obtain ⟨hpd, hzd⟩ := htkF.put (htw.filter _).str
          have hatF : ∀ y ∈ ds.filter (fun y => x.r.has y.nm), StrAt (Pile H3) y := fun y hy => hat3.at_ y (List.mem_filter.1 hy).1
          have hwl : ws.length = (ds.filter fun y => x.r.has y.nm).length := by simpa using congrArg List.length hdd
          have hdl : (ds.filter fun y => x.r.has y.nm).length ≤ n := Nat.le_trans (List.length_filter_le _ _) hlen2
          generalize ds.filter (fun y => x.r.has y.nm) = dz at htkF hdd hpd hzd hatF hwl hdl ⊢
          refine g_pile (p := dp) (m := dz.length) (c := dc) (n := 3) (xs := dz.flatMap StrV.cells) (e := 60) (by (repeat (first | exact Sel.here | apply Sel.there)); first | done | fail) (by (repeat (first | exact Sel.here | apply Sel.there)); first | done | fail) (fun H4 sb3 hSd => ?_)
          have hU4 := hUs.grow (sb1.trans (sb2.trans sb3))
          have hSw4 := hSw.grow sb3
          have hwat4 : ∀ y ∈ ws, StrAt (Pile H4) y := fun y hy => (wat y hy).grow (sb2.trans sb3)
          have hdat4 : ∀ y ∈ dz, StrAt (Pile H4) y := fun y hy => (hatF y hy).grow sb3
          have hput := put (vstr hU4) wp wc ws hSw4 hwat4 (fun y hy => ⟨by have := (hzw y hy).1; omega, by have := (hzw y hy).2.1; omega⟩) (by omega)
          simp only [hpw, if_true] at hput
          have hss := sameStreams wp dp wc dc ws dz hSw4 hwat4 hSd hdat4 hdd (by omega) (fun y hy => ⟨by have := (hzw y hy).1; omega, by have := (hzw y hy).2.1; omega⟩)
          repeat (first
            | (refine g_ops ?_; first | refine sO ?_ | refine s_n (fun _ => ?_) | refine s_app (fun _ _ => ?_) | refine s_b0 (fun _ => ?_) | ((fail_if_success refine g_lit rfl rfl rfl ?_); first | apply g_partM rfl rfl rfl | apply g_partMB rfl rfl rfl | fail) | refine s_k (hss) ?_ | refine s_c (new) (fun _ _ => ?_))
            | refine gS ?_ | exact s_m | intro _)
          rename_i t2 _ m2
          dsimp only [List.cons_append, List.nil_append]
          have hmp2 := mput (H := H4) m2 none 0 [] ⟨SlAt.empty, by simp⟩ (by simp) dp dc dz hSd hdat4 (fun y hy => whole_sm (hzd y hy).2.2) (fun y hy => ⟨by have := (hzd y hy).1; omega, by have := (hzd y hy).2.1; omega⟩) (by omega)
          simp only [hpd, if_true] at hmp2
          repeat (first
            | (refine g_ops ?_; first | refine sO ?_ | refine s_n (fun _ => ?_) | refine s_app (fun _ _ => ?_) | refine s_b0 (fun _ => ?_) | ((fail_if_success refine g_lit rfl rfl rfl ?_); first | apply g_partM rfl rfl rfl | apply g_partMB rfl rfl rfl | fail) | refine s_c (hput t2 none []) (fun _ _ => ?_))
            | refine gS ?_ | exact s_m | intro _)
          rename_i y3 hy3
          obtain ⟨mp', ss⟩ := y3
          dsimp only [List.cons_append, List.nil_append] at hy3 ⊢
          repeat (first
            | (refine g_ops ?_; first | refine sO ?_ | refine s_n (fun _ => ?_) | refine s_app (fun _ _ => ?_) | refine s_b0 (fun _ => ?_) | ((fail_if_success refine g_lit rfl rfl rfl ?_); first | apply g_partM rfl rfl rfl | apply g_partMB rfl rfl rfl | fail) | refine s_c (hmp2) (fun _ _ => ?_))
            | refine gS ?_ | exact s_m | intro _)
          rename_i z hz
          obtain ⟨e', q', c', ds', H5⟩ := z
          obtain ⟨z1, z2, z3⟩ := hz
          dsimp only [List.cons_append, List.nil_append] at z1 z2 z3 ⊢
          have hfin : InvP (n + wStep x) ⟨t2, mp', ss.foldl tput [], m2, q', c', ds', H5⟩ := by
            rcases z3 with ⟨_, ys, hys, rfl⟩ | ⟨hp, _⟩
            · rw [dSort_sD, ← hdd] at hys
              exact ⟨((TW.nil 0 0).puts (w := n) hpw hy3 ⟨by omega, fun y hy => ⟨(hzw y hy).1, (hzw y hy).2.1⟩⟩).mono (by omega) (by omega), put_rel _ ss [] ys [] hy3 hys (putB_nd hpw) taken_nil, z2⟩
            · cases hp
          exact gM (⟨t2, mp', ss.foldl tput [], m2, q', c', ds', H5⟩ : Pt) ⟨sb1.trans (sb2.trans (sb3.trans z1)), hfin⟩
        · repeat (first
            | (refine g_ops ?_; first | refine sO ?_ | refine s_n (fun _ => ?_) | refine s_app (fun _ _ => ?_) | refine s_b0 (fun _ => ?_) | ((fail_if_success refine g_lit rfl rfl rfl ?_); first | apply g_partM rfl rfl rfl | apply g_partMB rfl rfl rfl | fail))
            | refine gS ?_ | exact s_m | intro _)
          exact gM (⟨t, mp, T, m, q, c, ds, H1⟩ : Pt) ⟨HP.sub.refl _, hI.mono (by omega)⟩
      · obtain ⟨hs1, hI1⟩ := hs'
        repeat (first
          | (refine g_ops ?_; first | refine sO ?_ | refine s_n (fun _ => ?_) | refine s_app (fun _ _ => ?_) | refine s_b0 (fun _ => ?_) | ((fail_if_success refine g_lit rfl rfl rfl ?_); first | apply g_partM rfl rfl rfl | apply g_partMB rfl rfl rfl | fail) | refine s_c (same_ s' hI1 (by omega)) (fun _ _ => ?_))
          | refine gS ?_ | exact s_m | intro _)
        rename_i H2 hH2
        dsimp only [List.cons_append, List.nil_append]
        repeat (first
          | (refine g_ops ?_; first | refine sO ?_ | refine s_n (fun _ => ?_) | refine s_app (fun _ _ => ?_) | refine s_b0 (fun _ => ?_) | ((fail_if_success refine g_lit rfl rfl rfl ?_); first | apply g_partM rfl rfl rfl | apply g_partMB rfl rfl rfl | fail))
          | refine gS ?_ | exact s_m | intro _)
        refine g_as 13 (v' := int ((i + 1 : Nat) : Int)) rfl (congrArg (Value.int .i64) (by push_cast; rfl)) ?_
        exact gA ⟨i + 1, { s' with H := H2 }⟩ (by simp only; omega) ⟨hi', hsH.trans (hs1.trans hH2), by simp only; rw [hsw1]; exact ⟨hI1.tw, hI1.tk, hI1.at_.grow hH2⟩⟩
    · obtain rfl : i = l.length := by omega
      rw [List.take_length] at hI
      obtain ⟨t, mp, T, m, q, c, ds, H1⟩ := s
      have htw := hI.tw
      have htk := hI.tk
      have hat := hI.at_
      have hln := hI.len
      have hev := (hI.dEvs stream).1
      dsimp only at htw htk hat hsH hUs hln hev ⊢
      have hTB := htw.big (by omega) (by omega)
      have he := htk.evs stream
      have hrd := read_any t mp T stream frm mx hf1 (by rw [← he.1]; omega)
      have hmr := mread_any m q c ds hat (by omega) stream frm mx hf1 (by omega)
      have hkn := known t mp T stream key
      have hmk := mknown m q c ds hat (by omega) stream key
      have hvr := version t mp T stream
      have hmv := mver m q c ds hat (by omega) stream
      have hnm := names t mp T hTB.len hTB.nm
      rw [he.1] at hmr
      rw [(htk.kn stream key).1] at hmk
      rw [he.2.2] at hmv
      have hrl : (rdL (evsOf T stream) frm mx).length ≤ 1000000000 := by
        rw [he.1] at hev
        unfold rdL readL
        split
        · simp
        · split
          · simp
          · rw [List.length_take, List.length_drop]; omega
      generalize rdL (evsOf T stream) frm mx = al at hrd hmr hrl
      generalize knOf T stream key = kk at hkn hmk
      generalize (if frm < 1 then (1 : Int) else 0) = ec at hrd hmr
      repeat (first
        | (refine g_ops ?_; first | refine sO ?_ | refine s_n (fun _ => ?_) | refine s_app (fun _ _ => ?_) | refine s_b0 (fun _ => ?_) | ((fail_if_success refine g_lit rfl rfl rfl ?_); first | apply g_partM rfl rfl rfl | apply g_partMB rfl rfl rfl | fail) | refine s_c (hrd) (fun _ _ => ?_))
        | refine gS ?_ | exact s_m | intro _)
      rename_i y _
      obtain ⟨ap, ac⟩ := y
      dsimp only [List.cons_append, List.nil_append]
      repeat (first
        | (refine g_ops ?_; first | refine sO ?_ | refine s_n (fun _ => ?_) | refine s_app (fun _ _ => ?_) | refine s_b0 (fun _ => ?_) | ((fail_if_success refine g_lit rfl rfl rfl ?_); first | apply g_partM rfl rfl rfl | apply g_partMB rfl rfl rfl | fail) | refine s_c (hmr) (fun _ _ => ?_))
        | refine gS ?_ | exact s_m | intro _)
      rename_i y _
      obtain ⟨bp, bc⟩ := y
      dsimp only [List.cons_append, List.nil_append]
      repeat (first
        | (refine g_ops ?_; first | refine sO ?_ | refine s_n (fun _ => ?_) | refine s_app (fun _ _ => ?_) | refine s_b0 (fun _ => ?_) | ((fail_if_success refine g_lit rfl rfl rfl ?_); first | apply g_partM rfl rfl rfl | apply g_partMB rfl rfl rfl | fail) | refine s_k (hkn) ?_ | refine s_k (hmk) ?_)
        | refine gS ?_ | exact s_m | intro _)
      rename_i k1 k2
      dsimp only [List.cons_append, List.nil_append]
      repeat (first
        | (refine g_ops ?_; first | refine sO ?_ | refine s_n (fun _ => ?_) | refine s_app (fun _ _ => ?_) | refine s_b0 (fun _ => ?_) | ((fail_if_success refine g_lit rfl rfl rfl ?_); first | apply g_partM rfl rfl rfl | apply g_partMB rfl rfl rfl | fail) | refine s_c (hnm) (fun _ _ => ?_))
        | refine gS ?_ | exact s_m | intro _)
      rename_i y hy
      obtain ⟨np, nc, ys⟩ := y
      obtain ⟨hy1, hy2⟩ := hy
      dsimp only [List.cons_append, List.nil_append] at hy1 hy2 ⊢
      obtain rfl : ys = ds.map StrV.nm := List.Perm.eq_of_pairwise (le := fun a b => ltB a b = true) (fun a b _ _ h h' => (ltB_asymm h h').elim) hy2 htk.sort (hy1.trans htk.perm.symm)
      simp only [List.length_map]
      refine g_pile (p := ap) (m := al.length) (c := ac) (n := 7) (xs := al.flatMap Ev.cells) (e := 68) (by (repeat (first | exact Sel.here | apply Sel.there)); first | done | fail) (by (repeat (first | exact Sel.here | apply Sel.there)); first | done | fail) (fun H2 hs2 hA2 => ?_)
      refine g_pile (p := bp) (m := al.length) (c := bc) (n := 7) (xs := al.flatMap Ev.cells) (e := 68) (by (repeat (first | exact Sel.here | apply Sel.there)); first | done | fail) (by (repeat (first | exact Sel.here | apply Sel.there)); first | done | fail) (fun H3 hs3 hA3 => ?_)
      refine g_as 168 (v' := .bool false) rfl (congrArg Value.bool (decide_eq_false (fun h => h rfl))) ?_
      generalize kk.getD Kn.zero = kv
      generalize kk.isSome = bv
      have hs13 := hs2.trans hs3
      have hat3 := hat.grow hs13
      have hse := sameEvents ap bp ac bc al (hA2.grow hs3) hA3 hrl
      have hmv3 := mver m q c ds hat3 (by omega) stream
      rw [he.2.2] at hmv3
      repeat (first
        | (refine g_ops ?_; first | refine sO ?_ | refine s_n (fun _ => ?_) | refine s_app (fun _ _ => ?_) | refine s_b0 (fun _ => ?_) | ((fail_if_success refine g_lit rfl rfl rfl ?_); first | apply g_partM rfl rfl rfl | apply g_partMB rfl rfl rfl | fail))
        | refine gS ?_ | exact s_m | intro _)
      refine g_own (p := np) (len := ds.length) (cap := nc) (n := 1) (xs := (ds.map StrV.nm).map .string) (e := 9) (by (repeat (first | exact Sel.here | apply Sel.there)); first | done | fail) (fun _ _ hop => ?_)
      refine g_loop (X := Nat) (fun j => [(1, .string stream), (10, .bool false), (11, ptr t), (12, ptr m), (18, .slice ap al.length ac), (19, int ec), (20, .slice bp al.length bc), (21, int ec), (22, ptr k1), (23, .bool bv), (24, ptr k2), (25, .bool bv), (26, .slice np ds.length nc), (27, int j)])
        (fun _ => [.own np ds.length nc 1 ((ds.map StrV.nm).map .string) 9, .row k1 kv.cells 53, .row k2 kv.cells 53] ++ ptL ⟨t, mp, T, m, q, c, ds, H3⟩) (fun j => j ≤ ds.length) (fun j => ds.length - j) 0 (Nat.zero_le _) (by (repeat (first | exact FrSub.nil | refine FrSub.cons rfl ?_)); first | done | fail) (by (repeat (first | exact Take.nil | apply Take.cons | exact Sel.here | apply Sel.there)); first | done | fail) (fun j hj => ?_)
      dsimp only [List.cons_append, List.nil_append]
      repeat (first
        | (refine g_ops ?_; first | refine sO ?_ | refine s_n (fun _ => ?_) | refine s_app (fun _ _ => ?_) | refine s_b0 (fun _ => ?_) | ((fail_if_success refine g_lit rfl rfl rfl ?_); first | apply g_partM rfl rfl rfl | apply g_partMB rfl rfl rfl | fail))
        | refine gS ?_ | exact s_m | intro _)
      refine g_cond_dec rfl (fun h1 => ?_) (fun h1 => ?_)
      · have hj2 : j < ds.length := by omega
        obtain ⟨nb, rfl⟩ := hop (by omega)
        have hr : ∀ k, k = j → Reads (.own (some ⟨nb, 0, none⟩) ds.length nc 1 ((ds.map StrV.nm).map .string) 9) ⟨nb, 0 + k, none⟩ (.string ds[j].nm) := fun k e => by
          subst e; rw [Nat.zero_add]; exact reads_own (by simp [hj2])
        obtain ⟨db, dO, rfl, hcell⟩ := slAt_elem hat3.sl str_len (by decide) (i := j) (a := ds[j]) (by simp [hj2])
        generalize ds[j] = y at hr hcell
        repeat (first
          | (refine g_ops ?_; first | refine sO ?_ | refine s_n (fun _ => ?_) | refine s_app (fun _ _ => ?_) | refine s_b0 (fun _ => ?_) | ((fail_if_success refine g_lit rfl rfl rfl ?_); first | apply g_partM rfl rfl rfl | apply g_partMB rfl rfl rfl | fail))
          | refine gS ?_ | exact s_m | intro _)
        refine g_draw (.take 0 (.take 1 (.take 2 (.see 3 [] (.take 4 (.take 5 (.take 6 (.see 7 [] (.take 8 (.take 9 (.take 10 (.see 11 [] (.take 12 .done))))))))))))) (by kernel_rfl) (take_all _) (fun k hd hk => ?_)
        repeat (first
          | (refine gp_take ?_; first | refine pT ?_ | ((fail_if_success refine gp_lit rfl rfl rfl rfl ?_); first | apply gp_guard_dec rfl rfl rfl rfl | apply gp_guard rfl rfl rfl rfl | fail))
          | (refine gp_see ?_; first | refine p_f ?_ | refine pS ?_ | ((fail_if_success refine gp_lit rfl rfl rfl rfl ?_); first | apply gp_guard_dec rfl rfl rfl rfl | apply gp_guard rfl rfl rfl rfl | fail))
          | (refine gp_one ?_; first | refine pO ?_ | refine p_n (fun _ => ?_) | refine p_app (fun _ _ => ?_) | refine p_b0 (fun _ => ?_) | ((fail_if_success refine gp_lit rfl rfl rfl rfl ?_); first | apply gp_guard_dec rfl rfl rfl rfl | apply gp_guard rfl rfl rfl rfl | fail))
          | refine gp_two ?_ ?_ | refine gp_done hd hk ?_ | intro _ | refine p_ta hd hk (fun _ _ _ hd hk => ?_) | refine p_ts hd hk (fun _ hd hk => ?_))
        repeat (first
          | (refine g_ops ?_; first | refine sO ?_ | refine s_n (fun _ => ?_) | refine s_app (fun _ _ => ?_) | refine s_b0 (fun _ => ?_) | ((fail_if_success refine g_lit rfl rfl rfl ?_); first | apply g_partM rfl rfl rfl | apply g_partMB rfl rfl rfl | fail))
          | refine gS ?_ | exact s_m | intro _)
        refine g_as 187 (v' := .bool false) rfl (congrArg Value.bool (decide_eq_false (fun h => h rfl))) ?_
        repeat (first
          | (refine g_ops ?_; first | refine sO ?_ | refine s_n (fun _ => ?_) | refine s_app (fun _ _ => ?_) | refine s_b0 (fun _ => ?_) | ((fail_if_success refine g_lit rfl rfl rfl ?_); first | apply g_partM rfl rfl rfl | apply g_partMB rfl rfl rfl | fail))
          | refine gS ?_ | exact s_m | intro _)
        refine g_as 27 (v' := int ((j + 1 : Nat) : Int)) rfl (congrArg (Value.int .i64) (by push_cast; rfl)) ?_
        exact gA (j + 1) (by omega) hj2
      · obtain rfl : j = ds.length := by omega
        repeat (first
          | (refine g_ops ?_; first | refine sO ?_ | refine s_n (fun _ => ?_) | refine s_app (fun _ _ => ?_) | refine s_b0 (fun _ => ?_) | ((fail_if_success refine g_lit rfl rfl rfl ?_); first | apply g_partM rfl rfl rfl | apply g_partMB rfl rfl rfl | fail) | refine s_k (hse) ?_)
          | refine gS ?_ | exact s_m | intro _)
        refine g_as 196 (v' := .bool true) rfl (congrArg Value.bool (decide_eq_true rfl)) ?_
        repeat (first
          | (refine g_ops ?_; first | refine sO ?_ | refine s_n (fun _ => ?_) | refine s_app (fun _ _ => ?_) | refine s_b0 (fun _ => ?_) | ((fail_if_success refine g_lit rfl rfl rfl ?_); first | apply g_partM rfl rfl rfl | apply g_partMB rfl rfl rfl | fail))
          | refine gS ?_ | exact s_m | intro _)
        refine g_as 201 (v' := .bool true) rfl (congrArg Value.bool (by simp)) ?_
        have hUf := hUs.grow hs13
        cases bv
        all_goals
          repeat (first
            | (refine g_ops ?_; first | refine sO ?_ | refine s_n (fun _ => ?_) | refine s_app (fun _ _ => ?_) | refine s_b0 (fun _ => ?_) | ((fail_if_success refine g_lit rfl rfl rfl ?_); first | apply g_partM rfl rfl rfl | apply g_partMB rfl rfl rfl | fail) | refine s_k (hvr) ?_ | refine s_k (hmv3) ?_)
            | refine gS ?_ | exact s_m | intro _)
          dsimp only [List.cons_append, List.nil_append]
          refine g_as 215 (v' := .bool true) rfl (congrArg Value.bool (decide_eq_true rfl)) ?_
          repeat (first
            | (refine g_ops ?_; first | refine sO ?_ | refine s_n (fun _ => ?_) | refine s_app (fun _ _ => ?_) | refine s_b0 (fun _ => ?_) | ((fail_if_success refine g_lit rfl rfl rfl ?_); first | apply g_partM rfl rfl rfl | apply g_partMB rfl rfl rfl | fail) | refine s_k (awake hUf) ?_)
            | refine gS ?_ | exact s_m | intro _)
          dsimp only [List.cons_append, List.nil_append]
          refine g_unpile (hsH.trans hs13) (by (repeat (first | exact Sel.here | apply Sel.there)); first | done | fail) ?_
          exact gR () trivial
end Go.Proofs.YtcgmliaahdpmcaaGreatDoor
