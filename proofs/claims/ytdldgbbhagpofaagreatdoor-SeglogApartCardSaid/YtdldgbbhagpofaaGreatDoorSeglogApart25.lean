/- Contracts and laws that the proof stands on. -/
import Derived.Test.YtdldgbbhagpofaaGreatDoorSeglogApart24
import Derived.Test.YtdldgbbhagpofaaGreatDoorSeglogApart8
import Derived.Test.YtdldgbbhagpofaaGreatDoorSeglogApart5
set_option linter.unusedSimpArgs false
set_option linter.unusedVariables false
namespace Go.Proofs.YtdldgbbhagpofaaGreatDoor
open Go.Sl facts
theorem cs_le (g : GV) : sumL g.rs ≤ cs g ∧ sumL g.rs + 26 * g.rs.length ≤ 13 * cs g := by unfold cs; omega
theorem csL_le (gs : List GV) (i : Nat) : csL (gs.take i) ≤ csL gs := by
  unfold csL
  conv => rhs; rw [← List.take_append_drop i gs]
  simp only [List.map_append, List.sum_append]
  omega
theorem sumL_mem {rs : List BV} {r : BV} (h : r ∈ rs) : r.l.length ≤ sumL rs := by
  obtain ⟨A, B, rfl⟩ := List.append_of_mem h
  unfold sumL
  simp; omega
structure ApaX where
  i : Nat
  S : List Sg
  x : LG
  y : DkX
  ops : Int
  aq : Option Addr
  ac : Nat
  ws : List BV
  H : HP
structure ApaOk (gs : List GV) (m : Nat) (H0 : HP) (z : ApaX) : Prop where
  le : z.i ≤ m
  sub : HP.sub H0 z.H
  jl : JL z.S z.x z.y.fs (csL (gs.take z.i)) (13 * csL (gs.take z.i))
  at_ : BtsAt z.H z.x.rs
  ats : BtsAt z.H z.ws
  all : bts z.ws = flatS z.S
  ops : 0 ≤ z.ops ∧ z.ops ≤ 202 * z.i
  num : z.ws.length ≤ csL (gs.take z.i)
abbrev ApaX.L (z : ApaX) (lg d lg2 d2 : Nat) : List Chunk := z.x.L lg d false ++ bagL d 1048576 z.ops 0 z.y.q z.y.c z.y.fs [.own z.aq z.ws.length z.ac 1 (z.ws.map BV.v) 28, lrow lg2 d2 (.slice none 0 0) (.slice none 0 0) 0 false false, Pile z.H]
theorem ApaOk.next {gs : List GV} {m : Nat} {H0 : HP} {z : ApaX} (h : ApaOk gs m H0 z) (hi : z.i < gs.length) (hm : z.i < m) {w : JX} (hR : BtsAt z.H gs[z.i].rs) (hw : JOk z.H z.S gs[z.i].rs (csL (gs.take z.i)) (13 * csL (gs.take z.i)) z.ops w) (q : Option Addr) (c : Nat) : ∃ T, ApaOk gs m H0 ⟨z.i + 1, T, w.x, w.y, w.ops, q, c, z.ws ++ gs[z.i].rs, w.H⟩ := by
  obtain ⟨T, hT, hf⟩ := hw.jl
  have hst := csL_take gs z.i hi
  obtain ⟨h1, h2⟩ := cs_le gs[z.i]
  have ho := h.ops
  have hwo := hw.ops
  refine ⟨T, hm, h.sub.trans hw.sub, hT.mono (by dsimp only; omega) (by dsimp only; omega), hw.at_, fun r hr => ?_, ?_, by dsimp only; push_cast; omega, ?_⟩
  · rcases List.mem_append.1 hr with h3 | h3
    · exact BtAt.grow (h.ats r h3) hw.sub
    · exact BtAt.grow (hR r h3) hw.sub
  · dsimp only
    rw [hf, ← h.all]
    exact List.map_append
  · have := h.num
    dsimp only
    rw [List.length_append, hst]
    unfold cs; omega
theorem ApaOk.skip {gs : List GV} {m : Nat} {H0 : HP} {z : ApaX} (h : ApaOk gs m H0 z) (hi : z.i < gs.length) (hm : z.i < m) : ApaOk gs m H0 { z with i := z.i + 1 } := by
  have hst := csL_take gs z.i hi
  have ho := h.ops
  exact ⟨hm, h.sub, h.jl.mono (by dsimp only; omega) (by dsimp only; omega), h.at_, h.ats, h.all, by dsimp only; push_cast; omega, by have := h.num; dsimp only; omega⟩
attribute [local irreducible] Code.wp wpList Exit.then Exit.inBlock bodyPost Back MidQ G GP QStep VStep CStep SStep Does Post Reads
attribute [local irreducible] Begin RPost MPost frameB recB partB pbytes frB
theorem open0_ {H : HP} (d : Nat) (room : Int) (q : Option Addr) (c : Nat) (ops : Int) (hc0 : 0 ≤ ops ∧ ops ≤ 10000000) (fs : List Fi) (hF : FsN fs) (hu : used fs ≤ 1000000) (V : Vw) (T : Nat) (hV : View fs V T) :
    Does Tryz.prog 19 [ptr d] (bagL d room ops 0 q c fs [Pile H]) (X := OpX) (fun y => .tuple #[ptr y.lg, int 0]) (fun y => y.x.L y.lg d false ++ bagL d room y.z.ops 0 y.z.y.q y.z.y.c y.z.y.fs [Pile y.H]) (fun y => y.ok = true ∧ ∃ s, OpOk V fs H ops 0 s y) := by
  have hok : ∀ y : OpX, (∃ s, OpOk V fs H ops 0 s y) → y.ok = true ∧ y.z.ct = 0 := fun y ⟨s, h⟩ => by
    refine ⟨?_, by have := h.ctb; omega⟩
    cases ho : y.ok with
    | true => rfl
    | false => exact ((h.no ho).1 rfl).elim
  refine does_map (fun y => y) (take_all _) (fun y hy => ?_) (fun Γ y w hy h => ?_) (fun y hy => ⟨(hok y hy).1, hy⟩) (open_ d room q c ops 0 hc0 ⟨Int.le_refl _, by decide⟩ fs hF hu V T hV)
  · rw [(hok y hy).1]; rfl
  · obtain ⟨h1, h2⟩ := hok y hy
    rw [h1, h2] at h
    exact h
set_option maxHeartbeats 4000000 in
theorem apart11 {H : HP} (p : Option Addr) (c : Nat) (gs : List GV) (at_ : Int) (hG : GsAt H p gs) : Does Tryz.prog 6 [.slice p gs.length c, int at_] [Pile H] (X := HP) (fun _ => .bool true) (fun H' => [Pile H']) (fun H' => HP.sub H H') := by
  have hsm := small_ p c gs hG
  refine fn_intro Tryz.func6 rfl Tryz.ntmps6 rfl (by simp only [argFr, Nat.zero_add, Nat.reduceAdd]; rfl) (fun Γ => ?_)
  repeat (first
    | (refine g_ops ?_; first | refine sO ?_ | refine s_n (fun _ => ?_) | refine s_appB (fun _ _ => ?_) | refine s_app (fun _ _ => ?_) | refine s_b0 (fun _ => ?_) | ((fail_if_success refine g_lit rfl rfl rfl ?_); first | apply g_partM rfl rfl rfl | apply g_partMB rfl rfl rfl | fail) | refine s_c (hsm) (fun _ _ => ?_))
    | refine gS ?_ | exact s_m | intro _)
  rename_i b hb
  cases b with
  | false =>
    repeat (first
      | (refine g_ops ?_; first | refine sO ?_ | refine s_n (fun _ => ?_) | refine s_appB (fun _ _ => ?_) | refine s_app (fun _ _ => ?_) | refine s_b0 (fun _ => ?_) | ((fail_if_success refine g_lit rfl rfl rfl ?_); first | apply g_partM rfl rfl rfl | apply g_partMB rfl rfl rfl | fail) | refine s_k (awake_) ?_)
      | refine gS ?_ | exact s_m | intro _)
    exact gR H (HP.sub.refl _)
  | true =>
    obtain ⟨hg1, hg2, hg3⟩ := hb rfl
    repeat (first
      | (refine g_ops ?_; first | refine sO ?_ | refine s_n (fun _ => ?_) | refine s_appB (fun _ _ => ?_) | refine s_app (fun _ _ => ?_) | refine s_b0 (fun _ => ?_) | ((fail_if_success refine g_lit rfl rfl rfl ?_); first | apply g_partM rfl rfl rfl | apply g_partMB rfl rfl rfl | fail) | refine s_c (fresh0) (fun _ _ => ?_))
      | apply g_regB (id := 5) 40 | apply g_regB (id := 18) 96 | apply g_regB (id := 29) 4 | refine gS ?_ | exact s_m | intro _ | (refine gp_take ?_; first | refine pT ?_ | ((fail_if_success refine gp_lit rfl rfl rfl rfl ?_); first | apply gp_guard_dec rfl rfl rfl rfl | apply gp_guard rfl rfl rfl rfl | fail))
      | (refine gp_see ?_; first | refine p_f ?_ | refine pS ?_ | ((fail_if_success refine gp_lit rfl rfl rfl rfl ?_); first | apply gp_guard_dec rfl rfl rfl rfl | apply gp_guard rfl rfl rfl rfl | fail))
      | (refine gp_one ?_; first | refine pO ?_ | refine p_n (fun _ => ?_) | refine p_appB (fun _ _ => ?_) | refine p_app (fun _ _ => ?_) | refine p_b0 (fun _ => ?_) | ((fail_if_success refine gp_lit rfl rfl rfl rfl ?_); first | apply gp_guard_dec rfl rfl rfl rfl | apply gp_guard rfl rfl rfl rfl | fail) | refine p_c (fresh0) (fun _ _ => ?_))
      | refine gp_two ?_ ?_ | refine gp_done hd hk ?_ | intro _ | refine p_ta hd hk (fun _ _ _ hd hk => ?_) | refine p_ts hd hk (fun _ hd hk => ?_))
    rename_i y1 _ y2 _
    obtain ⟨d, lg⟩ := y1
    obtain ⟨d2, lg2⟩ := y2
    have hlf := lf_in at_ ((gs.length : Int) + 1) (by omega)
    have hrn := round11 at_ ((gs.length : Int) + 1) (by omega) (by omega)
    obtain ⟨m, hm⟩ : ∃ m : Nat, lf at_ ((gs.length : Int) + 1) = (m : Int) := ⟨(lf at_ ((gs.length : Int) + 1)).toNat, by omega⟩
    rw [hm] at hrn
    have hmg : m ≤ gs.length := by omega
    dsimp only [List.cons_append, List.nil_append, List.append_nil]
    repeat (first
      | (refine g_ops ?_; first | refine sO ?_ | refine s_n (fun _ => ?_) | refine s_appB (fun _ _ => ?_) | refine s_app (fun _ _ => ?_) | refine s_b0 (fun _ => ?_) | ((fail_if_success refine g_lit rfl rfl rfl ?_); first | apply g_partM rfl rfl rfl | apply g_partMB rfl rfl rfl | fail) | refine s_p (hrn) ?_)
      | apply g_regB (id := 5) 40 | apply g_regB (id := 18) 96 | apply g_regB (id := 29) 4 | refine gS ?_ | exact s_m | intro _ | (refine gp_take ?_; first | refine pT ?_ | ((fail_if_success refine gp_lit rfl rfl rfl rfl ?_); first | apply gp_guard_dec rfl rfl rfl rfl | apply gp_guard rfl rfl rfl rfl | fail) | refine p_p (hrn) ?_)
      | (refine gp_see ?_; first | refine p_f ?_ | refine pS ?_ | ((fail_if_success refine gp_lit rfl rfl rfl rfl ?_); first | apply gp_guard_dec rfl rfl rfl rfl | apply gp_guard rfl rfl rfl rfl | fail) | refine p_sp (hrn) ?_)
      | (refine gp_one ?_; first | refine pO ?_ | refine p_n (fun _ => ?_) | refine p_appB (fun _ _ => ?_) | refine p_app (fun _ _ => ?_) | refine p_b0 (fun _ => ?_) | ((fail_if_success refine gp_lit rfl rfl rfl rfl ?_); first | apply gp_guard_dec rfl rfl rfl rfl | apply gp_guard rfl rfl rfl rfl | fail))
      | refine gp_two ?_ ?_ | refine gp_done hd hk ?_ | intro _ | refine p_ta hd hk (fun _ _ _ hd hk => ?_) | refine p_ts hd hk (fun _ hd hk => ?_))
    dsimp only [LG.row, LG.own, List.length_nil, List.map_nil]
    refine g_own_nil none 1 28 ?_
    refine g_as 12 (v' := int ((0 : Nat) : Int)) rfl rfl ?_
    refine g_loop (X := ApaX) (fun z => [(0, .slice p gs.length c), (1, int m), (4, .bool false), (5, ptr d), (6, ptr lg), (9, ptr lg2), (11, .slice z.aq z.ws.length z.ac), (12, int z.i)])
      (fun z => z.L lg d lg2 d2) (ApaOk gs m H) (fun z => m - z.i) ⟨0, [], lg0, ⟨none, 0, []⟩, 0, none, 0, [], H⟩ ⟨Nat.zero_le _, HP.sub.refl _, JL.start, fun r hr => by simp at hr, fun r hr => by simp at hr, rfl, ⟨Int.le_refl _, Int.le_refl _⟩, Nat.zero_le _⟩ (by (repeat (first | exact FrSub.nil | refine FrSub.cons rfl ?_)); first | done | fail) (by (repeat (first | exact Take.nil | apply Take.cons | exact Sel.here | apply Sel.there)); first | done | fail) (fun z hz => ?_)
    obtain ⟨i, S, x, ⟨q, c1, fs⟩, op, aq, ac, ws, H1⟩ := z
    have hzl := hz.le
    have hzs := hz.sub
    dsimp only at hzl hzs ⊢
    repeat (first
      | (refine g_ops ?_; first | refine sO ?_ | refine s_n (fun _ => ?_) | refine s_appB (fun _ _ => ?_) | refine s_app (fun _ _ => ?_) | refine s_b0 (fun _ => ?_) | ((fail_if_success refine g_lit rfl rfl rfl ?_); first | apply g_partM rfl rfl rfl | apply g_partMB rfl rfl rfl | fail))
      | refine gS ?_ | exact s_m | intro _)
    refine g_cond_dec rfl (fun h => ?_) (fun h => ?_)
    · have hi : i < m := by omega
      have hig : i < gs.length := by omega
      obtain ⟨rb, ro, rfl, hrow⟩ := slAt_cell (hG.grow hzs).sl (i := i) (v := (gs[i]).v) (by simp [hig])
      have hat := (hG.grow hzs).at_ gs[i] (List.getElem_mem hig)
      have hg2i := hg2 gs[i] (List.getElem_mem hig)
      have hnx := fun w hw q c => hz.next hig hi (w := w) (fun r hr => hat.at_ r hr) hw q c
      have hsk := hz.skip hig hi
      have hst := csL_take gs i hig
      have hle := csL_le gs (i + 1)
      obtain ⟨hc1, hc2⟩ := cs_le gs[i]
      generalize gs[i] = g at hrow hat hg2i hnx hst hc1 hc2
      have hr : ∀ k, k = i → Reads (Pile H1) ⟨rb, ro + k, none⟩ g.v := fun k hk => by rw [hk]; exact hrow
      dsimp only [LG.L, LG.row, LG.own, List.cons_append, List.nil_append] at hnx hsk ⊢
      repeat (first
        | (refine g_ops ?_; first | refine sO ?_ | refine s_n (fun _ => ?_) | refine s_appB (fun _ _ => ?_) | refine s_app (fun _ _ => ?_) | refine s_b0 (fun _ => ?_) | ((fail_if_success refine g_lit rfl rfl rfl ?_); first | apply g_partM rfl rfl rfl | apply g_partMB rfl rfl rfl | fail))
        | refine gS ?_ | exact s_m | intro _)
      by_cases h0 : g.rs.length = 0
      · refine g_as 56 (v' := .bool true) rfl (congrArg Value.bool (decide_eq_true (by omega))) ?_
        repeat (first
          | (refine g_ops ?_; first | refine sO ?_ | refine s_n (fun _ => ?_) | refine s_appB (fun _ _ => ?_) | refine s_app (fun _ _ => ?_) | refine s_b0 (fun _ => ?_) | ((fail_if_success refine g_lit rfl rfl rfl ?_); first | apply g_partM rfl rfl rfl | apply g_partMB rfl rfl rfl | fail))
          | refine gS ?_ | exact s_m | intro _)
        refine g_as 12 (v' := int ((i + 1 : Nat) : Int)) rfl (congrArg (Value.int .i64) (by push_cast; rfl)) ?_
        exact gA (⟨i + 1, S, x, ⟨q, c1, fs⟩, op, aq, ac, ws, H1⟩ : ApaX) (by simp only; omega) hsk
      · refine g_as 56 (v' := .bool false) rfl (congrArg Value.bool (decide_eq_false (by omega))) ?_
        have hops := hz.ops
        have hzn := hz.jl.num
        have hzj := hz.jl
        have hza := hz.at_
        dsimp only at hops hzn hzj hza
        have hwn := hz.num
        have hwl : ws.length = (flatS S).length := by
          have := congrArg List.length hz.all
          dsimp only at this
          rwa [List.length_map] at this
        dsimp only at hwn
        have hap := appendJ (H := H1) lg d x q c1 op ⟨hops.1, by omega⟩ fs S (csL (gs.take i)) (13 * csL (gs.take i)) hzj g hat (by omega) hg2i (fun r hr => by have := sumL_mem hr; omega) (by omega) (by omega) hza (by omega)
        dsimp only [LG.L, LG.row, LG.own, List.cons_append, List.nil_append] at hap
        have hsl := hat.sl
        have hcA : ws.length ≤ 60000 := by omega
        clear hwl hwn
        repeat ((fail_if_success refine s_at 72 ?_); first
          | (refine g_ops ?_; first | refine sO ?_ | refine s_n (fun _ => ?_) | refine s_appB (fun _ _ => ?_) | refine s_app (fun _ _ => ?_) | refine s_b0 (fun _ => ?_) | ((fail_if_success refine g_lit rfl rfl rfl ?_); first | apply g_partM rfl rfl rfl | apply g_partMB rfl rfl rfl | fail) | refine s_c (hap) (fun _ _ => ?_))
          | refine gS ?_ | exact s_m | intro _)
        rename_i w hw
        have hrw : ∀ k, k = i → Reads (Pile w.H) ⟨rb, ro + k, none⟩ g.v := fun k hk => reads_grow hw.sub (hr k hk)
        clear hr
        have hr := hrw
        first
          | (refine g_ops ?_; first | refine sO ?_ | refine s_n (fun _ => ?_) | refine s_appB (fun _ _ => ?_) | refine s_app (fun _ _ => ?_) | refine s_b0 (fun _ => ?_) | ((fail_if_success refine g_lit rfl rfl rfl ?_); first | apply g_partM rfl rfl rfl | apply g_partMB rfl rfl rfl | fail))
          | refine gS ?_ | exact s_m | intro _
        have hslw : SlAt (Pile w.H) 1 g.p g.rs.length (g.rs.map BV.v) := hsl.grow hw.sub
        refine g_c (cs_append (news := g.rs.map BV.v) (m := g.rs.length) inferInstance inferInstance inferInstance inferInstance rfl rfl (by (repeat (first | exact Sel.here | apply Sel.there)); first | done | fail) (srcAt hslw inferInstance (by (repeat (first | exact Sel.here | apply Sel.there)); first | done | fail) (by decide)) rfl (by omega) (by omega)) rfl rfl (fun z1 _ => ?_)
        obtain ⟨q', c'⟩ := z1
        dsimp only
        repeat (first
          | (refine g_ops ?_; first | refine sO ?_ | refine s_n (fun _ => ?_) | refine s_appB (fun _ _ => ?_) | refine s_app (fun _ _ => ?_) | refine s_b0 (fun _ => ?_) | ((fail_if_success refine g_lit rfl rfl rfl ?_); first | apply g_partM rfl rfl rfl | apply g_partMB rfl rfl rfl | fail))
          | refine gS ?_ | exact s_m | intro _)
        have hlr : (ws ++ g.rs).length = ws.length + g.rs.length := List.length_append
        have hmr : (ws ++ g.rs).map BV.v = ws.map BV.v ++ g.rs.map BV.v := List.map_append
        rw [← hlr, ← hmr]
        obtain ⟨T, hT⟩ := hnx w hw q' c'
        obtain ⟨wx, ⟨wq, wc, wf⟩, wo, wH⟩ := w
        refine g_as 12 (v' := int ((i + 1 : Nat) : Int)) rfl (congrArg (Value.int .i64) (by push_cast; rfl)) ?_
        exact gA (⟨i + 1, T, wx, ⟨wq, wc, wf⟩, wo, q', c', ws ++ g.rs, wH⟩ : ApaX) (by simp only; omega) hT
    · obtain rfl : i = m := by omega
      obtain ⟨_, _, hzj, hza, hzw, hall, hops, hzn⟩ := hz
      dsimp only at hzj hza hzw hall hops hzn
      have hcl := csL_le gs i
      have hwl : ws.length = (flatS S).length := by
        have := congrArg List.length hall
        rwa [List.length_map] at this
      have hfl := fs_len hzj.sort hzj.nms
      have hus := hzj.used
      have hcp := copyS d 1048576 op 0 q c1 fs hzj.sort (by omega) (by omega)
      repeat (first
        | (refine g_ops ?_; first | refine sO ?_ | refine s_n (fun _ => ?_) | refine s_appB (fun _ _ => ?_) | refine s_app (fun _ _ => ?_) | refine s_b0 (fun _ => ?_) | ((fail_if_success refine g_lit rfl rfl rfl ?_); first | apply g_partM rfl rfl rfl | apply g_partMB rfl rfl rfl | fail) | refine s_c (hcp) (fun _ _ => ?_))
        | refine gS ?_ | exact s_m | intro _)
      rename_i y hy
      obtain ⟨d3, ⟨fs3, q3, c3⟩⟩ := y
      dsimp only [LG.L, LG.row, LG.own, List.cons_append, List.nil_append] at hy ⊢
      have hdl3 : DLay fs3 S := fun a ha => by rw [hy.at_]; exact hzj.dlay a ha
      have hnm3 := hy.nms hzj.nms
      have hvw := view_S hdl3 hzj.cons (hzj.segs (by omega)) hzj.rec_ (by omega)
      have hopn := open0_ (H := H1) d3 1048576 q3 c3 op ⟨hops.1, by omega⟩ fs3 ⟨hy.sort, hnm3, by have := fs_len hy.sort hnm3; omega⟩ (by rw [hy.used]; omega) (vwS S) S.length hvw
      repeat (first
        | (refine g_ops ?_; first | refine sO ?_ | refine s_n (fun _ => ?_) | refine s_appB (fun _ _ => ?_) | refine s_app (fun _ _ => ?_) | refine s_b0 (fun _ => ?_) | ((fail_if_success refine g_lit rfl rfl rfl ?_); first | apply g_partM rfl rfl rfl | apply g_partMB rfl rfl rfl | fail) | refine s_c (hopn) (fun _ _ => ?_))
        | apply g_regB (id := 5) 40 | apply g_regB (id := 29) 4 | refine gS ?_ | exact s_m | intro _ | (refine gp_take ?_; first | refine pT ?_ | ((fail_if_success refine gp_lit rfl rfl rfl rfl ?_); first | apply gp_guard_dec rfl rfl rfl rfl | apply gp_guard rfl rfl rfl rfl | fail))
        | (refine gp_see ?_; first | refine p_f ?_ | refine pS ?_ | ((fail_if_success refine gp_lit rfl rfl rfl rfl ?_); first | apply gp_guard_dec rfl rfl rfl rfl | apply gp_guard rfl rfl rfl rfl | fail))
        | (refine gp_one ?_; first | refine pO ?_ | refine p_n (fun _ => ?_) | refine p_appB (fun _ _ => ?_) | refine p_app (fun _ _ => ?_) | refine p_b0 (fun _ => ?_) | ((fail_if_success refine gp_lit rfl rfl rfl rfl ?_); first | apply gp_guard_dec rfl rfl rfl rfl | apply gp_guard rfl rfl rfl rfl | fail) | refine p_c (hopn) (fun _ _ => ?_))
        | refine gp_two ?_ ?_ | refine gp_done hd hk ?_ | intro _ | refine p_ta hd hk (fun _ _ _ hd hk => ?_) | refine p_ts hd hk (fun _ hd hk => ?_))
      rename_i w hw
      obtain ⟨hok, s, hs⟩ := hw
      obtain ⟨g1, g2, _⟩ := hs.yes hok
      have hse := run_fin hzj.cons hs.run hs.fin
      rw [hse, sI_all] at g1
      have hsub := hs.sub
      obtain ⟨_, lg3, x3, ⟨⟨q4, c4, fs4⟩, op4, ct4⟩, H2⟩ := w
      dsimp only [LG.L, LG.row, LG.own, List.cons_append, List.nil_append] at g1 g2 hsub ⊢
      have hb3 : bts x3.rs = bts ws := by rw [g1.recs, hall]
      have hrl : ∀ r ∈ x3.rs, r.l.length ≤ 1000000 := fun r hr => by
        have : r.l ∈ flatS S := by rw [← hall, ← hb3]; exact List.mem_map.2 ⟨r, hr, rfl⟩
        have := hzj.rec_ _ this
        omega
      have hx3l : x3.rs.length ≤ 1000000 := by have := bts_len hb3; omega
      have hh1 := has2_ (H := H2) lg3 d3 x3 false aq ac ws (fun r hr => BtAt.grow (hzw r hr) hsub) g2 hb3 hx3l hrl
      have hln2 := len_ lg2 d2 none 0 0 (.slice none 0 0) 0 false false
      dsimp only [LG.L, LG.row, LG.own, List.cons_append, List.nil_append] at hh1
      repeat ((fail_if_success refine s_at 92 ?_); first
        | (refine g_ops ?_; first | refine sO ?_ | refine s_n (fun _ => ?_) | refine s_appB (fun _ _ => ?_) | refine s_app (fun _ _ => ?_) | refine s_b0 (fun _ => ?_) | ((fail_if_success refine g_lit rfl rfl rfl ?_); first | apply g_partM rfl rfl rfl | apply g_partMB rfl rfl rfl | fail) | refine s_k (hln2) ?_ | refine s_c (hh1) (fun _ _ => ?_))
        | apply g_regB (id := 5) 40 | apply g_regB (id := 29) 4 | refine gS ?_ | exact s_m | intro _ | (refine gp_take ?_; first | refine pT ?_ | ((fail_if_success refine gp_lit rfl rfl rfl rfl ?_); first | apply gp_guard_dec rfl rfl rfl rfl | apply gp_guard rfl rfl rfl rfl | fail))
        | (refine gp_see ?_; first | refine p_f ?_ | refine pS ?_ | ((fail_if_success refine gp_lit rfl rfl rfl rfl ?_); first | apply gp_guard_dec rfl rfl rfl rfl | apply gp_guard rfl rfl rfl rfl | fail) | refine p_h (hln2) hd hk ?_)
        | (refine gp_one ?_; first | refine pO ?_ | refine p_n (fun _ => ?_) | refine p_appB (fun _ _ => ?_) | refine p_app (fun _ _ => ?_) | refine p_b0 (fun _ => ?_) | ((fail_if_success refine gp_lit rfl rfl rfl rfl ?_); first | apply gp_guard_dec rfl rfl rfl rfl | apply gp_guard rfl rfl rfl rfl | fail) | refine p_k (hln2) ?_ | refine p_c (hh1) (fun _ _ => ?_))
        | refine gp_two ?_ ?_ | refine gp_done hd hk ?_ | intro _ | refine p_ta hd hk (fun _ _ _ hd hk => ?_) | refine p_ts hd hk (fun _ hd hk => ?_))
      rename_i H3 hs3
      first
        | (refine g_ops ?_; first | refine sO ?_ | refine s_n (fun _ => ?_) | refine s_appB (fun _ _ => ?_) | refine s_app (fun _ _ => ?_) | refine s_b0 (fun _ => ?_) | ((fail_if_success refine g_lit rfl rfl rfl ?_); first | apply g_partM rfl rfl rfl | apply g_partMB rfl rfl rfl | fail))
        | refine gS ?_ | exact s_m | intro _
      refine g_as 92 (v' := .bool false) rfl rfl ?_
      dsimp only [List.cons_append, List.nil_append]
      repeat (first
        | (refine g_ops ?_; first | refine sO ?_ | refine s_n (fun _ => ?_) | refine s_appB (fun _ _ => ?_) | refine s_app (fun _ _ => ?_) | refine s_b0 (fun _ => ?_) | ((fail_if_success refine g_lit rfl rfl rfl ?_); first | apply g_partM rfl rfl rfl | apply g_partMB rfl rfl rfl | fail) | refine s_k (hln2) ?_)
        | apply g_regB (id := 5) 40 | apply g_regB (id := 29) 4 | refine gS ?_ | exact s_m | intro _ | (refine gp_take ?_; first | refine pT ?_ | ((fail_if_success refine gp_lit rfl rfl rfl rfl ?_); first | apply gp_guard_dec rfl rfl rfl rfl | apply gp_guard rfl rfl rfl rfl | fail))
        | (refine gp_see ?_; first | refine p_f ?_ | refine pS ?_ | ((fail_if_success refine gp_lit rfl rfl rfl rfl ?_); first | apply gp_guard_dec rfl rfl rfl rfl | apply gp_guard rfl rfl rfl rfl | fail) | refine p_h (hln2) hd hk ?_)
        | (refine gp_one ?_; first | refine pO ?_ | refine p_n (fun _ => ?_) | refine p_appB (fun _ _ => ?_) | refine p_app (fun _ _ => ?_) | refine p_b0 (fun _ => ?_) | ((fail_if_success refine gp_lit rfl rfl rfl rfl ?_); first | apply gp_guard_dec rfl rfl rfl rfl | apply gp_guard rfl rfl rfl rfl | fail) | refine p_k (hln2) ?_)
        | refine gp_two ?_ ?_ | refine gp_done hd hk ?_ | intro _ | refine p_ta hd hk (fun _ _ _ hd hk => ?_) | refine p_ts hd hk (fun _ hd hk => ?_))
      rename_i nb kq kc
      rw [Nat.zero_add, List.nil_append]
      have hsub3 : HP.sub H1 H3 := hsub.trans hs3
      have hzk := hzw
      dsimp only [List.cons_append, List.nil_append]
      refine g_loop (X := ApaX) (fun z => [(0, .slice p gs.length c), (1, int i), (4, .bool false), (5, ptr d), (6, ptr lg), (9, ptr lg2), (15, ptr lg3), (17, .slice kq ws.length kc), (11, .slice z.aq z.ws.length z.ac), (18, int z.i)])
        (fun z => z.L lg d lg2 d2 ++ (.own kq ws.length kc 1 (ws.map BV.v) 28 :: x3.L lg3 d3 false)) (ApaOk gs gs.length H3) (fun z => gs.length - z.i) ⟨i, S, x, ⟨q, c1, fs⟩, op, aq, ac, ws, H3⟩ ⟨hmg, HP.sub.refl _, hzj, fun r hr => BtAt.grow (hza r hr) hsub3, fun r hr => BtAt.grow (hzw r hr) hsub3, hall, hops, hzn⟩ (by (repeat (first | exact FrSub.nil | refine FrSub.cons rfl ?_)); first | done | fail) (by (repeat (first | exact Take.nil | apply Take.cons | exact Sel.here | apply Sel.there)); first | done | fail) (fun z hz => ?_)
      have hGG := hG.grow (hzs.trans hsub3)
      have hH3 := hzs.trans hsub3
      have hx3g : ∀ {H' : HP}, HP.sub H3 H' → BtsAt H' x3.rs := fun {H'} h r hr => BtAt.grow (g2 r hr) (hs3.trans h)
      have hkg : ∀ {H' : HP}, HP.sub H3 H' → BtsAt H' ws := fun {H'} h r hr => BtAt.grow (hzw r hr) (hsub3.trans h)
      clear hzj hza hzw hall hops hzn hcl hwl hfl hus hcp hvw hopn hh1 hnm3 hdl3 hy g1 hs hzs hG hsm hrn
      rename_i i0
      obtain ⟨i, T, x5, ⟨q5, c5, fs5⟩, op5, aq5, ac5, ws5, H5⟩ := z
      have hzl := hz.le
      have hzs := hz.sub
      dsimp only at hzl hzs ⊢
      repeat (first
        | (refine g_ops ?_; first | refine sO ?_ | refine s_n (fun _ => ?_) | refine s_appB (fun _ _ => ?_) | refine s_app (fun _ _ => ?_) | refine s_b0 (fun _ => ?_) | ((fail_if_success refine g_lit rfl rfl rfl ?_); first | apply g_partM rfl rfl rfl | apply g_partMB rfl rfl rfl | fail))
        | refine gS ?_ | exact s_m | intro _)
      refine g_cond_dec rfl (fun h => ?_) (fun h => ?_)
      · have hig : i < gs.length := by omega
        obtain ⟨rb, ro, rfl, hrow⟩ := slAt_cell (hGG.grow hzs).sl (i := i) (v := (gs[i]).v) (by simp [hig])
        have hat := (hGG.grow hzs).at_ gs[i] (List.getElem_mem hig)
        have hg2i := hg2 gs[i] (List.getElem_mem hig)
        have hnx := fun w hw q c => hz.next hig hig (w := w) (fun r hr => hat.at_ r hr) hw q c
        have hsk := hz.skip hig hig
        have hst := csL_take gs i hig
        have hle := csL_le gs (i + 1)
        obtain ⟨hc1, hc2⟩ := cs_le gs[i]
        generalize gs[i] = g at hrow hat hg2i hnx hst hc1 hc2
        have hr : ∀ k, k = i → Reads (Pile H5) ⟨rb, ro + k, none⟩ g.v := fun k hk => by rw [hk]; exact hrow
        dsimp only [LG.L, LG.row, LG.own, List.cons_append, List.nil_append] at hnx hsk ⊢
        repeat (first
          | (refine g_ops ?_; first | refine sO ?_ | refine s_n (fun _ => ?_) | refine s_appB (fun _ _ => ?_) | refine s_app (fun _ _ => ?_) | refine s_b0 (fun _ => ?_) | ((fail_if_success refine g_lit rfl rfl rfl ?_); first | apply g_partM rfl rfl rfl | apply g_partMB rfl rfl rfl | fail))
          | refine gS ?_ | exact s_m | intro _)
        by_cases h0 : g.rs.length = 0
        · refine g_as 112 (v' := .bool true) rfl (congrArg Value.bool (decide_eq_true (by omega))) ?_
          repeat (first
            | (refine g_ops ?_; first | refine sO ?_ | refine s_n (fun _ => ?_) | refine s_appB (fun _ _ => ?_) | refine s_app (fun _ _ => ?_) | refine s_b0 (fun _ => ?_) | ((fail_if_success refine g_lit rfl rfl rfl ?_); first | apply g_partM rfl rfl rfl | apply g_partMB rfl rfl rfl | fail))
            | refine gS ?_ | exact s_m | intro _)
          refine g_as 18 (v' := int ((i + 1 : Nat) : Int)) rfl (congrArg (Value.int .i64) (by push_cast; rfl)) ?_
          exact gA (⟨i + 1, T, x5, ⟨q5, c5, fs5⟩, op5, aq5, ac5, ws5, H5⟩ : ApaX) (by simp only; omega) hsk
        · refine g_as 112 (v' := .bool false) rfl (congrArg Value.bool (decide_eq_false (by omega))) ?_
          have hops := hz.ops
          have hzn := hz.jl.num
          have hzj := hz.jl
          have hza := hz.at_
          dsimp only at hops hzn hzj hza
          have hwn := hz.num
          have hwl : ws5.length = (flatS T).length := by
            have := congrArg List.length hz.all
            dsimp only at this
            rwa [List.length_map] at this
          dsimp only at hwn
          have hap := appendJ (H := H5) lg d x5 q5 c5 op5 ⟨hops.1, by omega⟩ fs5 T (csL (gs.take i)) (13 * csL (gs.take i)) hzj g hat (by omega) hg2i (fun r hr => by have := sumL_mem hr; omega) (by omega) (by omega) hza (by omega)
          dsimp only [LG.L, LG.row, LG.own, List.cons_append, List.nil_append] at hap
          have hsl := hat.sl
          have hcA : ws5.length ≤ 60000 := by omega
          clear hwl hwn
          repeat ((fail_if_success refine s_at 128 ?_); first
            | (refine g_ops ?_; first | refine sO ?_ | refine s_n (fun _ => ?_) | refine s_appB (fun _ _ => ?_) | refine s_app (fun _ _ => ?_) | refine s_b0 (fun _ => ?_) | ((fail_if_success refine g_lit rfl rfl rfl ?_); first | apply g_partM rfl rfl rfl | apply g_partMB rfl rfl rfl | fail) | refine s_c (hap) (fun _ _ => ?_))
            | refine gS ?_ | exact s_m | intro _)
          rename_i w hw
          have hrw : ∀ k, k = i → Reads (Pile w.H) ⟨rb, ro + k, none⟩ g.v := fun k hk => reads_grow hw.sub (hr k hk)
          clear hr
          have hr := hrw
          first
            | (refine g_ops ?_; first | refine sO ?_ | refine s_n (fun _ => ?_) | refine s_appB (fun _ _ => ?_) | refine s_app (fun _ _ => ?_) | refine s_b0 (fun _ => ?_) | ((fail_if_success refine g_lit rfl rfl rfl ?_); first | apply g_partM rfl rfl rfl | apply g_partMB rfl rfl rfl | fail))
            | refine gS ?_ | exact s_m | intro _
          have hslw : SlAt (Pile w.H) 1 g.p g.rs.length (g.rs.map BV.v) := hsl.grow hw.sub
          refine g_c (cs_append (news := g.rs.map BV.v) (m := g.rs.length) inferInstance inferInstance inferInstance inferInstance rfl rfl (by (repeat (first | exact Sel.here | apply Sel.there)); first | done | fail) (srcAt hslw inferInstance (by (repeat (first | exact Sel.here | apply Sel.there)); first | done | fail) (by decide)) rfl (by omega) (by omega)) rfl rfl (fun z1 _ => ?_)
          obtain ⟨q', c'⟩ := z1
          dsimp only
          repeat (first
            | (refine g_ops ?_; first | refine sO ?_ | refine s_n (fun _ => ?_) | refine s_appB (fun _ _ => ?_) | refine s_app (fun _ _ => ?_) | refine s_b0 (fun _ => ?_) | ((fail_if_success refine g_lit rfl rfl rfl ?_); first | apply g_partM rfl rfl rfl | apply g_partMB rfl rfl rfl | fail))
            | refine gS ?_ | exact s_m | intro _)
          have hlr : (ws5 ++ g.rs).length = ws5.length + g.rs.length := List.length_append
          have hmr : (ws5 ++ g.rs).map BV.v = ws5.map BV.v ++ g.rs.map BV.v := List.map_append
          rw [← hlr, ← hmr]
          obtain ⟨T', hT⟩ := hnx w hw q' c'
          obtain ⟨wx, ⟨wq, wc, wf⟩, wo, wH⟩ := w
          refine g_as 18 (v' := int ((i + 1 : Nat) : Int)) rfl (congrArg (Value.int .i64) (by push_cast; rfl)) ?_
          exact gA (⟨i + 1, T', wx, ⟨wq, wc, wf⟩, wo, q', c', ws5 ++ g.rs, wH⟩ : ApaX) (by simp only; omega) hT
      · obtain ⟨_, _, hzj, hza, hzw, hall, hops, hzn⟩ := hz
        dsimp only at hzj hza hzw hall hops hzn
        have hcl := csL_le gs i
        have hb5 : bts x5.rs = bts ws5 := by rw [hzj.args.2.2.2.2, hall]
        have hrl5 : ∀ r ∈ x5.rs, r.l.length ≤ 1000000 := fun r hr => by
          have : r.l ∈ flatS T := by rw [← hall, ← hb5]; exact List.mem_map.2 ⟨r, hr, rfl⟩
          have := hzj.rec_ _ this
          omega
        have hx5l : x5.rs.length ≤ 1000000 := by have := bts_len hb5; omega
        have hh5 := has2_ (H := H5) lg d x5 false aq5 ac5 ws5 hzw hza hb5 hx5l hrl5
        dsimp only [LG.L, LG.row, LG.own, List.cons_append, List.nil_append] at hh5 ⊢
        repeat ((fail_if_success refine s_at 136 ?_); first
          | (refine g_ops ?_; first | refine sO ?_ | refine s_n (fun _ => ?_) | refine s_appB (fun _ _ => ?_) | refine s_app (fun _ _ => ?_) | refine s_b0 (fun _ => ?_) | ((fail_if_success refine g_lit rfl rfl rfl ?_); first | apply g_partM rfl rfl rfl | apply g_partMB rfl rfl rfl | fail) | refine s_c (hh5) (fun _ _ => ?_))
          | apply g_regB (id := 5) 40 | apply g_regB (id := 18) 96 | refine gS ?_ | exact s_m | intro _ | (refine gp_take ?_; first | refine pT ?_ | ((fail_if_success refine gp_lit rfl rfl rfl rfl ?_); first | apply gp_guard_dec rfl rfl rfl rfl | apply gp_guard rfl rfl rfl rfl | fail))
          | (refine gp_see ?_; first | refine p_f ?_ | refine pS ?_ | ((fail_if_success refine gp_lit rfl rfl rfl rfl ?_); first | apply gp_guard_dec rfl rfl rfl rfl | apply gp_guard rfl rfl rfl rfl | fail))
          | (refine gp_one ?_; first | refine pO ?_ | refine p_n (fun _ => ?_) | refine p_appB (fun _ _ => ?_) | refine p_app (fun _ _ => ?_) | refine p_b0 (fun _ => ?_) | ((fail_if_success refine gp_lit rfl rfl rfl rfl ?_); first | apply gp_guard_dec rfl rfl rfl rfl | apply gp_guard rfl rfl rfl rfl | fail) | refine p_c (hh5) (fun _ _ => ?_))
          | refine gp_two ?_ ?_ | refine gp_done hd hk ?_ | intro _ | refine p_ta hd hk (fun _ _ _ hd hk => ?_) | refine p_ts hd hk (fun _ hd hk => ?_))
        rename_i H6 hs6
        have hh6 := has2_ (H := H6) lg3 d3 x3 false kq kc ws (hkg (hzs.trans hs6)) (hx3g (hzs.trans hs6)) hb3 hx3l hrl
        dsimp only [LG.L, LG.row, LG.own, List.cons_append, List.nil_append] at hh6 ⊢
        repeat ((fail_if_success refine s_at 143 ?_); first
          | (refine g_ops ?_; first | refine sO ?_ | refine s_n (fun _ => ?_) | refine s_appB (fun _ _ => ?_) | refine s_app (fun _ _ => ?_) | refine s_b0 (fun _ => ?_) | ((fail_if_success refine g_lit rfl rfl rfl ?_); first | apply g_partM rfl rfl rfl | apply g_partMB rfl rfl rfl | fail) | refine s_k (hln2) ?_ | refine s_c (hh6) (fun _ _ => ?_))
          | apply g_regB (id := 5) 40 | apply g_regB (id := 18) 96 | refine gS ?_ | exact s_m | intro _ | (refine gp_take ?_; first | refine pT ?_ | ((fail_if_success refine gp_lit rfl rfl rfl rfl ?_); first | apply gp_guard_dec rfl rfl rfl rfl | apply gp_guard rfl rfl rfl rfl | fail))
          | (refine gp_see ?_; first | refine p_f ?_ | refine pS ?_ | ((fail_if_success refine gp_lit rfl rfl rfl rfl ?_); first | apply gp_guard_dec rfl rfl rfl rfl | apply gp_guard rfl rfl rfl rfl | fail) | refine p_h (hln2) hd hk ?_)
          | (refine gp_one ?_; first | refine pO ?_ | refine p_n (fun _ => ?_) | refine p_appB (fun _ _ => ?_) | refine p_app (fun _ _ => ?_) | refine p_b0 (fun _ => ?_) | ((fail_if_success refine gp_lit rfl rfl rfl rfl ?_); first | apply gp_guard_dec rfl rfl rfl rfl | apply gp_guard rfl rfl rfl rfl | fail) | refine p_k (hln2) ?_ | refine p_c (hh6) (fun _ _ => ?_))
          | refine gp_two ?_ ?_ | refine gp_done hd hk ?_ | intro _ | refine p_ta hd hk (fun _ _ _ hd hk => ?_) | refine p_ts hd hk (fun _ hd hk => ?_))
        rename_i H7 hs7
        first
          | (refine g_ops ?_; first | refine sO ?_ | refine s_n (fun _ => ?_) | refine s_appB (fun _ _ => ?_) | refine s_app (fun _ _ => ?_) | refine s_b0 (fun _ => ?_) | ((fail_if_success refine g_lit rfl rfl rfl ?_); first | apply g_partM rfl rfl rfl | apply g_partMB rfl rfl rfl | fail))
          | refine gS ?_ | exact s_m | intro _
        refine g_as 143 (v' := .bool true) rfl rfl ?_
        repeat (first
          | (refine g_ops ?_; first | refine sO ?_ | refine s_n (fun _ => ?_) | refine s_appB (fun _ _ => ?_) | refine s_app (fun _ _ => ?_) | refine s_b0 (fun _ => ?_) | ((fail_if_success refine g_lit rfl rfl rfl ?_); first | apply g_partM rfl rfl rfl | apply g_partMB rfl rfl rfl | fail) | refine s_k (awake_) ?_)
          | apply g_regB (id := 5) 40 | apply g_regB (id := 18) 96 | refine gS ?_ | exact s_m | intro _ | (refine gp_take ?_; first | refine pT ?_ | ((fail_if_success refine gp_lit rfl rfl rfl rfl ?_); first | apply gp_guard_dec rfl rfl rfl rfl | apply gp_guard rfl rfl rfl rfl | fail))
          | (refine gp_see ?_; first | refine p_f ?_ | refine pS ?_ | ((fail_if_success refine gp_lit rfl rfl rfl rfl ?_); first | apply gp_guard_dec rfl rfl rfl rfl | apply gp_guard rfl rfl rfl rfl | fail) | refine p_h (awake_) hd hk ?_)
          | (refine gp_one ?_; first | refine pO ?_ | refine p_n (fun _ => ?_) | refine p_appB (fun _ _ => ?_) | refine p_app (fun _ _ => ?_) | refine p_b0 (fun _ => ?_) | ((fail_if_success refine gp_lit rfl rfl rfl rfl ?_); first | apply gp_guard_dec rfl rfl rfl rfl | apply gp_guard rfl rfl rfl rfl | fail) | refine p_k (awake_) ?_)
          | refine gp_two ?_ ?_ | refine gp_done hd hk ?_ | intro _ | refine p_ta hd hk (fun _ _ _ hd hk => ?_) | refine p_ts hd hk (fun _ hd hk => ?_))
        exact gR H7 (hH3.trans (hzs.trans (hs6.trans hs7)))
end Go.Proofs.YtdldgbbhagpofaaGreatDoor

namespace Go.Sl
open Go
theorem slAt_of {W : World} {α : Type} {A : World → α → List Value → Prop} {n : Nat} {p : Option Addr} {xs : List α} {g : α → List Value} (hn : 0 < n) (hnil : p = none → xs = [])
    (h : ∀ (i : Nat) (x : α), xs[i]? = some x → ∃ b o c, p = some ⟨b, o, none⟩ ∧ A W x c ∧ c.length = n ∧ CellsAt W b (o + i * n) c) (hg : ∀ x c, A W x c → c.length = n → c = g x) (h1 : ∀ x, (g x).all (·.oneCell') = true) (hl : ∀ x, (g x).length = n) :
    SlAt (Init W) n p xs.length (xs.flatMap g) := by
  refine ⟨flat_len hl xs, ?_, fun e => by rw [hnil e]; rfl, fun j v hv => ?_⟩
  · rw [List.all_eq_true]
    intro v hv
    obtain ⟨x, _, hv⟩ := List.mem_flatMap.1 hv
    exact List.all_eq_true.1 (h1 x) v hv
  · have hj := (List.getElem?_eq_some_iff.1 hv).1
    rw [flat_len hl] at hj
    have hi : j / n < xs.length := Nat.div_lt_of_lt_mul (by rw [Nat.mul_comm]; exact hj)
    obtain ⟨b, o, c, rfl, ha, hc, hr⟩ := h (j / n) xs[j / n] (by simp [hi])
    refine ⟨b, o, rfl, reads_init' ?_⟩
    have e := hg _ _ ha hc
    have hd := Nat.div_add_mod j n
    have hv2 : c[j % n]? = some v := by
      rw [e]
      have h2 := Nat.mod_lt j hn
      have h3 : (g xs[j / n])[j % n]? = some ((g xs[j / n])[j % n]'(by rw [hl]; exact h2)) := List.getElem?_eq_getElem _
      have h4 := flat_get hl xs (j / n) xs[j / n] (by simp [hi]) (j % n) _ h3
      rw [show j / n * n + j % n = j by rw [Nat.mul_comm]; exact hd] at h4
      rw [h3, ← h4]; exact hv
    have := hr (j % n) v hv2
    rwa [Nat.add_assoc, show j / n * n + j % n = j by rw [Nat.mul_comm]; exact hd] at this
theorem sl_in {W : World} {α β : Type} {A : World → α → List Value → Prop} {n : Nat} {s : SliceOf α} {f : α → β} {g : β → List Value} {R : β → Prop} (hn : 0 < n)
    (h : s.xs.length ≤ s.cap ∧ s.cap ≤ maxLen ∧ (s.place = none → s.xs = [] ∧ s.cap = 0) ∧ (∀ (i : Nat) (x : α), s.xs[i]? = some x → ∃ b o c, s.place = some ⟨b, o, none⟩ ∧ A W x c ∧ c.length = n ∧ CellsAt W b (o + i * n) c))
    (hg : ∀ x c, A W x c → c = g (f x) ∧ R (f x)) (h1 : ∀ x, (g x).all (·.oneCell') = true) (hl : ∀ x, (g x).length = n) :
    SlAt (Init W) n s.place (s.xs.map f).length ((s.xs.map f).flatMap g) ∧ s.xs.length ≤ 9223372036854775807 ∧ ∀ y ∈ s.xs.map f, R y := by
  obtain ⟨g1, g2, g3, g4⟩ := h
  refine ⟨?_, ?_, fun y hy => ?_⟩
  · rw [List.length_map, List.flatMap_map]
    exact slAt_of (g := fun x => g (f x)) hn (fun e => (g3 e).1) g4 (fun x c hx _ => (hg x c hx).1) (fun x => h1 _) (fun x => hl _)
  · unfold maxLen at g2; omega
  · obtain ⟨x, hx, rfl⟩ := List.mem_map.1 hy
    obtain ⟨i, hi, rfl⟩ := List.mem_iff_getElem.1 hx
    obtain ⟨_, _, c, _, ha, _⟩ := g4 i _ (List.getElem?_eq_getElem hi)
    exact (hg _ _ ha).2
theorem does_less {P : Program} {f : FuncId} {args : List Value} {v : Value} {H : HP} (d : Does P f args [Pile H] (X := HP) (fun _ => v) (fun H' => [Pile H']) (fun H' => HP.sub H H')) : Does1 P f args [Pile H] v := fun Γ w hh =>
  (d Γ w hh).mono fun e w' ⟨H', hs, he, hb⟩ => ⟨(), trivial, he, hb.mono fun h ⟨h1, h2, dj, s1, s2, hc, hr⟩ => by
    have hc' : h1 = H' := hc
    subst hc'
    exact ⟨H, h2, HP.disj_sub dj hs, hs.trans s1, s2, rfl, hr⟩⟩
end Go.Sl
namespace Go.Proofs.YtdldgbbhagpofaaGreatDoor
open Go Go.Sl facts
def u8 (n : Int) : UInt8 := UInt8.ofNat n.toNat
theorem u8_nat {n : Int} (h : (Lit.int .u8 n).wf = true) : ((u8 n).toNat : Int) = n := by
  simp only [Lit.wf, Bool.and_eq_true, decide_eq_true_eq] at h
  have h1 : IntKind.u8.min = 0 := by decide
  have h2 : IntKind.u8.max = 255 := by decide
  rw [h1, h2] at h
  unfold u8
  rw [UInt8.toNat_ofNat']
  omega
theorem btAt_in {W : World} {p : Option Addr} {xs : List Int}
    (h : ∀ (i : Nat) (x : Int), xs[i]? = some x → ∃ b o c, p = some ⟨b, o, none⟩ ∧ Opens.is (P := Tryz.prog) (t := 5) W x c ∧ c.length = 1 ∧ CellsAt W b (o + i * 1) c) : BtAt (Init W) p (xs.map u8) := fun j hj => by
  have hj' : j < xs.length := by simpa using hj
  obtain ⟨b, o, c, rfl, ⟨hc, hw⟩, hl, hr⟩ := h j xs[j] (by simp [hj'])
  refine ⟨b, o, rfl, ?_⟩
  subst hc
  have e : (((xs.map u8).getD j 0).toNat : Int) = xs[j] := by
    rw [show (xs.map u8).getD j 0 = u8 xs[j] by simp [hj']]
    exact u8_nat hw
  rw [e]
  have := hr 0 _ rfl
  rw [Nat.mul_one, Nat.add_zero] at this
  exact reads_init' this
abbrev BsT := SliceOf Int
abbrev RsT := SliceOf BsT
abbrev GsT := SliceOf RsT
def bvOf (z : BsT) : BV := ⟨z.place, z.xs.map u8, z.cap⟩
def gvOf (y : RsT) : GV := ⟨y.place, y.xs.map bvOf, y.cap⟩
theorem bv_of {W : World} {z : BsT} {c : List Value} (h : Opens.is (P := Tryz.prog) (t := 28) W z c) : c = [(bvOf z).v] ∧ BtAt (Init W) (bvOf z).p (bvOf z).l ∧ (bvOf z).l.length ≤ 9223372036854775807 := by
  obtain ⟨h0, h1, h2, h3, h4⟩ := h
  refine ⟨by rw [h0]; simp [SliceOf.val, bvOf], btAt_in h4, ?_⟩
  show (z.xs.map u8).length ≤ _
  rw [List.length_map]
  unfold maxLen at h2; omega
theorem flat_bv (l : List BV) : l.flatMap (fun r => [r.v]) = l.map BV.v := by
  induction l with
  | nil => rfl
  | cons a l ih => simp only [List.flatMap_cons, List.map_cons, ih]; rfl
theorem flat_gv (l : List GV) : l.flatMap (fun r => [r.v]) = l.map GV.v := by
  induction l with
  | nil => rfl
  | cons a l ih => simp only [List.flatMap_cons, List.map_cons, ih]; rfl
theorem gv_of {W : World} {y : RsT} {c : List Value} (h : Opens.is (P := Tryz.prog) (t := 27) W y c) : c = [(gvOf y).v] ∧ RecsAt (wheap W) (gvOf y).p (gvOf y).rs ∧ (gvOf y).rs.length ≤ 9223372036854775807 ∧ ∀ r ∈ (gvOf y).rs, r.l.length ≤ 9223372036854775807 := by
  obtain ⟨h0, h5⟩ := h
  obtain ⟨k1, k2, k3⟩ := sl_in (f := bvOf) (g := fun r : BV => [r.v]) (R := fun r => BtAt (Init W) r.p r.l ∧ r.l.length ≤ 9223372036854775807) (by decide) h5 (fun x c hx => ⟨(bv_of hx).1, (bv_of hx).2⟩) (fun _ => rfl) (fun _ => rfl)
  rw [flat_bv] at k1
  refine ⟨by rw [h0]; simp [SliceOf.val, gvOf], ⟨k1, fun r hr => (k3 r hr).1⟩, ?_, fun r hr => (k3 r hr).2⟩
  show (y.xs.map bvOf).length ≤ _
  rw [List.length_map]
  exact k2
theorem gs_of {W : World} {x : GsT}
    (h : x.xs.length ≤ x.cap ∧ x.cap ≤ maxLen ∧ (x.place = none → x.xs = [] ∧ x.cap = 0) ∧ ∀ (i : Nat) (y : RsT), x.xs[i]? = some y → ∃ b o c, x.place = some ⟨b, o, none⟩ ∧ Opens.is (P := Tryz.prog) (t := 27) W y c ∧ c.length = 1 ∧ CellsAt W b (o + i * 1) c) : x.val = .slice x.place (x.xs.map gvOf).length x.cap ∧ GsAt (wheap W) x.place (x.xs.map gvOf) := by
  obtain ⟨k1, k2, k3⟩ := sl_in (f := gvOf) (g := fun r : GV => [r.v]) (R := fun g => RecsAt (wheap W) g.p g.rs ∧ g.rs.length ≤ 9223372036854775807 ∧ ∀ r ∈ g.rs, r.l.length ≤ 9223372036854775807) (by decide) h (fun x c hx => ⟨(gv_of hx).1, (gv_of hx).2⟩) (fun _ => rfl) (fun _ => rfl)
  rw [flat_gv] at k1
  exact ⟨by simp [SliceOf.val], k1, fun g hg => (k3 g hg).1, by rw [List.length_map]; exact k2, fun g hg => (k3 g hg).2⟩
end Go.Proofs.YtdldgbbhagpofaaGreatDoor
