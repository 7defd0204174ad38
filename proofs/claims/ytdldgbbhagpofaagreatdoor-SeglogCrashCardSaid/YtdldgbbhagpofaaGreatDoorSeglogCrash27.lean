/- Contracts and laws that the proof stands on. -/
import Derived.Test.YtdldgbbhagpofaaGreatDoorSeglogCrash26
set_option linter.unusedSimpArgs false
set_option linter.unusedVariables false
namespace Go.Sl
variable {Γ : Ctx} {L L' R : List Chunk} {N : Nat} {fr fr' : Fr}
theorem g_later {X : Type} (F : X → Fr) (M : X → List Chunk) (φ : X → Prop) {K Q' : Act → World → Prop} (main : (∀ x, φ x → G Γ N (F x) (M x) K) → G Γ N fr L Q') (rest : ∀ x, φ x → G Γ N (F x) (M x) K) : G Γ N fr L Q' := main rest
theorem g_to {K : Act → World → Prop} (s : FrSub fr fr') (t : Take L L' R) (g : G Γ N fr' L' K) : G Γ N fr L K := fun a w hN hd hf hh => g a w hN hd (hf.sub s) (hh.takeDrop t)
end Go.Sl
namespace Go.Proofs.YtdldgbbhagpofaaGreatDoor
open Go.Sl facts
structure FxX where
  y : DkX
  ops : Int
  ct : Int
  kp : Option Addr
  kc : Nat
  ks : List BV
  mp : Option Addr
  mc : Nat
  ms : List BV
  H : HP
structure FxOk (H0 : HP) (z : FxX) : Prop where
  sub : HP.sub H0 z.H
  mR : RecsAt z.H z.mp z.ms
  cap : z.ms.length ≤ z.mc
  num : z.ms.length ≤ 60001
  ops : 0 ≤ z.ops ∧ z.ops ≤ 30000
  ct : 0 ≤ z.ct ∧ z.ct ≤ 301
  inv : ∃ T p c0 g, InvC T p c0 g z.y.fs ∧ Kp T p c0 z.ks z.ms
abbrev FxX.L (z : FxX) (d : Nat) : List Chunk := bagL d 1048576 z.ops z.ct z.y.q z.y.c z.y.fs [Pile z.H]
theorem recs_one {H1 H3 : HP} {ba bl : Nat} (h : HP.sub H1 H3) (hr1 : ∀ p v, Reads (.row ba [.int .u8 120] 5 (1, 2)) p v → Reads (Pile H1) p v) (hA : SlAt (Pile H3) 1 (some ⟨bl, 0, none⟩) 1 [.slice (some ⟨ba, 0, none⟩) 1 1]) : RecsAt H3 (some ⟨bl, 0, none⟩) [⟨some ⟨ba, 0, none⟩, [120], 1⟩] := by
  refine ⟨hA, fun r hr => ?_⟩
  rw [List.mem_singleton.1 hr]
  intro j hj
  obtain rfl : j = 0 := by simp at hj; exact hj
  exact ⟨ba, 0, rfl, reads_grow h (hr1 _ _ (reads_row rfl))⟩
theorem recs_app {H1 H2 H3 : HP} {ba : Nat} {kp q : Option Addr} {ks : List BV} (hk : RecsAt H1 kp ks) (h1 : HP.sub H1 H2) (h : HP.sub H2 H3) (hr1 : ∀ p v, Reads (.row ba [.int .u8 120] 5 (1, 2)) p v → Reads (Pile H2) p v) (hA : SlAt (Pile H3) 1 q (ks ++ [(⟨some ⟨ba, 0, none⟩, [120], 1⟩ : BV)]).length ((ks ++ [(⟨some ⟨ba, 0, none⟩, [120], 1⟩ : BV)]).map BV.v)) : RecsAt H3 q (ks ++ [⟨some ⟨ba, 0, none⟩, [120], 1⟩]) := by
  refine ⟨hA, fun r hr => ?_⟩
  rcases List.mem_append.1 hr with hr | hr
  · exact BtAt.grow (hk.at_ r hr) (h1.trans h)
  · rw [List.mem_singleton.1 hr]
    intro j hj
    obtain rfl : j = 0 := by simp at hj; exact hj
    exact ⟨ba, 0, rfl, reads_grow h (hr1 _ _ (reads_row rfl))⟩
theorem recs_z {H1 H3 : HP} {ba bl : Nat} (h : HP.sub H1 H3) (hr1 : ∀ p v, Reads (.row ba [.int .u8 122] 5 (1, 2)) p v → Reads (Pile H1) p v) (hA : SlAt (Pile H3) 1 (some ⟨bl, 0, none⟩) 1 [.slice (some ⟨ba, 0, none⟩) 1 1]) : RecsAt H3 (some ⟨bl, 0, none⟩) [⟨some ⟨ba, 0, none⟩, [122], 1⟩] := by
  refine ⟨hA, fun r hr => ?_⟩
  rw [List.mem_singleton.1 hr]
  intro j hj
  obtain rfl : j = 0 := by simp at hj; exact hj
  exact ⟨ba, 0, rfl, reads_grow h (hr1 _ _ (reads_row rfl))⟩
structure RdC where
  i : Nat
  d : Nat
  y : DkX
  H : HP
theorem IntsAt.grow2 {H H' : HP} {p : Option Addr} {l : List Int} (h : IntsAt (Pile H) p l) (s : HP.sub H H') : IntsAt (Pile H') p l := fun i x hx => by
  obtain ⟨h1, b, o, e, hr⟩ := h i x hx
  exact ⟨h1, b, o, e, reads_grow s hr⟩
theorem PkAt.grow2 {H H' : HP} {k : Pk} (h : PkAt (Pile H) k) (s : HP.sub H H') : PkAt (Pile H') k := ⟨h.le, h.at_.grow2 s⟩
theorem recs_nil (H : HP) : RecsAt H none [] := ⟨⟨rfl, rfl, fun _ => rfl, fun j v hv => by simp at hv⟩, fun r hr => by simp at hr⟩
attribute [local irreducible] Code.wp wpList Exit.then Exit.inBlock bodyPost Back MidQ G GP QStep VStep CStep SStep Does Post Reads
attribute [local irreducible] Begin RPost MPost frameB recB partB pbytes frB
set_option maxHeartbeats 4000000 in
theorem crash11 {H : HP} (p : Option Addr) (c : Nat) (gs : List GV) (cut : Int) (k : Pk) (cp : Option Addr) (cl : List Int) (cc : Nat) (hG : GsAt H p gs) (hpk : PkAt (Pile H) k) (hC : IntsAt (Pile H) cp cl) : Does Tryz.prog 7 [.slice p gs.length c, int cut, .slice k.p k.l.length k.c, .slice cp cl.length cc] [Pile H] (X := HP) (fun _ => .bool true) (fun H' => [Pile H']) (fun H' => HP.sub H H') := by
  have hsm := small_ p c gs hG
  refine fn_intro Tryz.func7 rfl Tryz.ntmps7 rfl (by simp only [argFr, Nat.zero_add, Nat.reduceAdd]; rfl) (fun Γ => ?_)
  repeat (first
    | (refine g_ops ?_; first | refine sO ?_ | refine s_bl (fun _ => ?_) | refine s_n (fun _ => ?_) | refine s_appB (fun _ _ => ?_) | refine s_app (fun _ _ => ?_) | refine s_b0 (fun _ => ?_) | ((fail_if_success refine g_lit rfl rfl rfl ?_); first | apply g_partM rfl rfl rfl | apply g_partMB rfl rfl rfl | fail) | refine s_c (hsm) (fun _ _ => ?_))
    | refine gS ?_ | exact s_m | intro _)
  rename_i b hb
  cases b with
  | false =>
    refine g_as 29 (v' := .bool true) rfl rfl ?_
    repeat (first
      | (refine g_ops ?_; first | refine sO ?_ | refine s_bl (fun _ => ?_) | refine s_n (fun _ => ?_) | refine s_appB (fun _ _ => ?_) | refine s_app (fun _ _ => ?_) | refine s_b0 (fun _ => ?_) | ((fail_if_success refine g_lit rfl rfl rfl ?_); first | apply g_partM rfl rfl rfl | apply g_partMB rfl rfl rfl | fail) | refine s_k (awake_) ?_)
      | refine gS ?_ | exact s_m | intro _)
    exact gR H (HP.sub.refl _)
  | true =>
  obtain ⟨hg1, hg2, hg3⟩ := hb rfl
  refine g_as 29 (v' := .bool false) rfl rfl ?_
  repeat (first
    | (refine g_ops ?_; first | refine sO ?_ | refine s_bl (fun _ => ?_) | refine s_n (fun _ => ?_) | refine s_appB (fun _ _ => ?_) | refine s_app (fun _ _ => ?_) | refine s_b0 (fun _ => ?_) | ((fail_if_success refine g_lit rfl rfl rfl ?_); first | apply g_partM rfl rfl rfl | apply g_partMB rfl rfl rfl | fail))
    | refine gS ?_ | exact s_m | intro _)
  by_cases h33 : cut < 0
  · refine g_as 33 (v' := .bool true) rfl (congrArg Value.bool (decide_eq_true h33)) ?_
    repeat (first
      | (refine g_ops ?_; first | refine sO ?_ | refine s_bl (fun _ => ?_) | refine s_n (fun _ => ?_) | refine s_appB (fun _ _ => ?_) | refine s_app (fun _ _ => ?_) | refine s_b0 (fun _ => ?_) | ((fail_if_success refine g_lit rfl rfl rfl ?_); first | apply g_partM rfl rfl rfl | apply g_partMB rfl rfl rfl | fail) | refine s_k (awake_) ?_)
      | refine gS ?_ | exact s_m | intro _)
    exact gR H (HP.sub.refl _)
  refine g_as 33 (v' := .bool false) rfl (congrArg Value.bool (decide_eq_false h33)) ?_
  repeat (first
    | (refine g_ops ?_; first | refine sO ?_ | refine s_bl (fun _ => ?_) | refine s_n (fun _ => ?_) | refine s_appB (fun _ _ => ?_) | refine s_app (fun _ _ => ?_) | refine s_b0 (fun _ => ?_) | ((fail_if_success refine g_lit rfl rfl rfl ?_); first | apply g_partM rfl rfl rfl | apply g_partMB rfl rfl rfl | fail))
    | refine gS ?_ | exact s_m | intro _)
  by_cases h37 : 300 < cut
  · refine g_as 37 (v' := .bool true) rfl (congrArg Value.bool (decide_eq_true h37)) ?_
    repeat (first
      | (refine g_ops ?_; first | refine sO ?_ | refine s_bl (fun _ => ?_) | refine s_n (fun _ => ?_) | refine s_appB (fun _ _ => ?_) | refine s_app (fun _ _ => ?_) | refine s_b0 (fun _ => ?_) | ((fail_if_success refine g_lit rfl rfl rfl ?_); first | apply g_partM rfl rfl rfl | apply g_partMB rfl rfl rfl | fail) | refine s_k (awake_) ?_)
      | refine gS ?_ | exact s_m | intro _)
    exact gR H (HP.sub.refl _)
  refine g_as 37 (v' := .bool false) rfl (congrArg Value.bool (decide_eq_false h37)) ?_
  repeat (first
    | (refine g_ops ?_; first | refine sO ?_ | refine s_bl (fun _ => ?_) | refine s_n (fun _ => ?_) | refine s_appB (fun _ _ => ?_) | refine s_app (fun _ _ => ?_) | refine s_b0 (fun _ => ?_) | ((fail_if_success refine g_lit rfl rfl rfl ?_); first | apply g_partM rfl rfl rfl | apply g_partMB rfl rfl rfl | fail))
    | refine gS ?_ | exact s_m | intro _)
  by_cases h42 : (60 : Int) < (k.l.length : Int)
  · refine g_as 42 (v' := .bool true) rfl (congrArg Value.bool (decide_eq_true h42)) ?_
    repeat (first
      | (refine g_ops ?_; first | refine sO ?_ | refine s_bl (fun _ => ?_) | refine s_n (fun _ => ?_) | refine s_appB (fun _ _ => ?_) | refine s_app (fun _ _ => ?_) | refine s_b0 (fun _ => ?_) | ((fail_if_success refine g_lit rfl rfl rfl ?_); first | apply g_partM rfl rfl rfl | apply g_partMB rfl rfl rfl | fail) | refine s_k (awake_) ?_)
      | refine gS ?_ | exact s_m | intro _)
    exact gR H (HP.sub.refl _)
  refine g_as 42 (v' := .bool false) rfl (congrArg Value.bool (decide_eq_false h42)) ?_
  repeat (first
    | (refine g_ops ?_; first | refine sO ?_ | refine s_bl (fun _ => ?_) | refine s_n (fun _ => ?_) | refine s_appB (fun _ _ => ?_) | refine s_app (fun _ _ => ?_) | refine s_b0 (fun _ => ?_) | ((fail_if_success refine g_lit rfl rfl rfl ?_); first | apply g_partM rfl rfl rfl | apply g_partMB rfl rfl rfl | fail))
    | refine gS ?_ | exact s_m | intro _)
  by_cases h46 : (6 : Int) < (cl.length : Int)
  · refine g_as 46 (v' := .bool true) rfl (congrArg Value.bool (decide_eq_true h46)) ?_
    repeat (first
      | (refine g_ops ?_; first | refine sO ?_ | refine s_bl (fun _ => ?_) | refine s_n (fun _ => ?_) | refine s_appB (fun _ _ => ?_) | refine s_app (fun _ _ => ?_) | refine s_b0 (fun _ => ?_) | ((fail_if_success refine g_lit rfl rfl rfl ?_); first | apply g_partM rfl rfl rfl | apply g_partMB rfl rfl rfl | fail) | refine s_k (awake_) ?_)
      | refine gS ?_ | exact s_m | intro _)
    exact gR H (HP.sub.refl _)
  refine g_as 46 (v' := .bool false) rfl (congrArg Value.bool (decide_eq_false h46)) ?_
  repeat (first
    | (refine g_ops ?_; first | refine sO ?_ | refine s_bl (fun _ => ?_) | refine s_n (fun _ => ?_) | refine s_appB (fun _ _ => ?_) | refine s_app (fun _ _ => ?_) | refine s_b0 (fun _ => ?_) | ((fail_if_success refine g_lit rfl rfl rfl ?_); first | apply g_partM rfl rfl rfl | apply g_partMB rfl rfl rfl | fail) | refine s_c (fresh0) (fun _ _ => ?_))
    | apply g_regB (id := 1) 46 | apply g_regB (id := 24) 123 | apply g_regB (id := 34) 185 | apply g_regB (id := 37) 205 | apply g_regB (id := 40) 8 | refine gS ?_
    | exact s_m | intro _ | (refine gp_take ?_; first | refine pT ?_ | ((fail_if_success refine gp_lit rfl rfl rfl rfl ?_); first | apply gp_guard_dec rfl rfl rfl rfl | apply gp_guard rfl rfl rfl rfl | fail))
    | (refine gp_see ?_; first | refine p_f ?_ | refine pS ?_ | ((fail_if_success refine gp_lit rfl rfl rfl rfl ?_); first | apply gp_guard_dec rfl rfl rfl rfl | apply gp_guard rfl rfl rfl rfl | fail))
    | (refine gp_one ?_; first | refine pO ?_ | refine p_n (fun _ => ?_) | refine p_appB (fun _ _ => ?_) | refine p_app (fun _ _ => ?_) | refine p_b0 (fun _ => ?_) | ((fail_if_success refine gp_lit rfl rfl rfl rfl ?_); first | apply gp_guard_dec rfl rfl rfl rfl | apply gp_guard rfl rfl rfl rfl | fail) | refine p_c (fresh0) (fun _ _ => ?_))
    | refine gp_two ?_ ?_ | refine gp_done hd hk ?_ | intro _ | refine p_ta hd hk (fun _ _ _ hd hk => ?_) | refine p_ts hd hk (fun _ hd hk => ?_))
  rename_i y0 _
  obtain ⟨d, lg⟩ := y0
  have hct := cutM d 1048576 (.slice none 0 0) 0 0 cut (by omega)
  rw [show max cut 0 + 1 = cut + 1 by omega] at hct
  dsimp only [LG.row, LG.own, List.length_nil, List.map_nil, List.cons_append, List.nil_append, List.append_nil]
  repeat ((fail_if_success refine s_at 14 ?_); first
    | (refine g_ops ?_; first | refine sO ?_ | refine s_bl (fun _ => ?_) | refine s_n (fun _ => ?_) | refine s_appB (fun _ _ => ?_) | refine s_app (fun _ _ => ?_) | refine s_b0 (fun _ => ?_) | ((fail_if_success refine g_lit rfl rfl rfl ?_); first | apply g_partM rfl rfl rfl | apply g_partMB rfl rfl rfl | fail) | refine s_c (hct) (fun _ _ => ?_))
    | refine gS ?_ | exact s_m | intro _)
  first
    | (refine g_ops ?_; first | refine sO ?_ | refine s_bl (fun _ => ?_) | refine s_n (fun _ => ?_) | refine s_appB (fun _ _ => ?_) | refine s_app (fun _ _ => ?_) | refine s_b0 (fun _ => ?_) | ((fail_if_success refine g_lit rfl rfl rfl ?_); first | apply g_partM rfl rfl rfl | apply g_partMB rfl rfl rfl | fail))
    | refine gS ?_ | exact s_m | intro _
  refine g_as 14 (v' := int ((0 : Nat) : Int)) rfl rfl ?_
  refine g_nil ?_
  refine g_then_normal ?_
  refine g_cutX (X := CeX) (fun z => [(2, .slice k.p k.l.length k.c), (3, .slice cp cl.length cc), (8, .bool false), (9, ptr d), (10, ptr lg), (12, .slice z.kp z.ks.length z.kc), (13, .slice z.mp z.ms.length z.mc)]) (fun z => z.L lg d) (CeOk gs cut H) ?_ (fun z hz => ?_)
  · refine g_block ?_
    refine g_loop (X := CrX) (fun z => [(0, .slice p gs.length c), (2, .slice k.p k.l.length k.c), (3, .slice cp cl.length cc), (8, .bool false), (9, ptr d), (10, ptr lg), (12, .slice z.kp z.ks.length z.kc), (13, .slice z.kp z.ks.length z.kc), (14, int z.i)]) (fun z => z.L lg d) (CrOk gs cut H) (fun z => gs.length - z.i) ⟨0, [], lg0, ⟨none, 0, []⟩, 0, cut + 1, none, 0, [], H⟩ ⟨Nat.zero_le _, HP.sub.refl _, JL.start, fun r hr => by simp at hr, recs_nil H, rfl, ⟨Int.le_refl _, Int.le_refl _⟩, ⟨by dsimp only; omega, Int.le_refl _⟩, Nat.zero_le _, Nat.zero_le _⟩ (by (repeat (first | exact FrSub.nil | refine FrSub.cons rfl ?_)); first | done | fail) (by (repeat (first | exact Take.nil | apply Take.cons | exact Sel.here | apply Sel.there)); first | done | fail) (fun z hz => ?_)
    obtain ⟨i, S, x, ⟨q, c1, fs⟩, op, ct, kp, kc, ks, H1⟩ := z
    have hzl := hz.le
    have hzs := hz.sub
    dsimp only at hzl hzs ⊢
    repeat (first
      | (refine g_ops ?_; first | refine sO ?_ | refine s_bl (fun _ => ?_) | refine s_n (fun _ => ?_) | refine s_appB (fun _ _ => ?_) | refine s_app (fun _ _ => ?_) | refine s_b0 (fun _ => ?_) | ((fail_if_success refine g_lit rfl rfl rfl ?_); first | apply g_partM rfl rfl rfl | apply g_partMB rfl rfl rfl | fail))
      | refine gS ?_ | exact s_m | intro _)
    refine g_cond_dec rfl (fun h => ?_) (fun h => ?_)
    · have hi : i < gs.length := by omega
      obtain ⟨rb, ro, rfl, hrow⟩ := slAt_cell (hG.grow hzs).sl (i := i) (v := (gs[i]).v) (by simp [hi])
      have hat := (hG.grow hzs).at_ gs[i] (List.getElem_mem hi)
      have hg2i := hg2 gs[i] (List.getElem_mem hi)
      have hnx := fun w H1 hH hw ho q c hc hR => hz.next hi (w := w) (H1 := H1) hH hw ho q c hc hR
      have hof := fun h0 w H1 hH hw ho q c hc hR => hz.off hi hg1 h0 (w := w) (H1 := H1) hH hw ho q c hc hR
      have hsk := hz.skip hi
      have hst := csL_take gs i hi
      have hle := csL_le gs (i + 1)
      obtain ⟨hc1, hc2⟩ := cs_le gs[i]
      generalize gs[i] = g at hrow hat hg2i hnx hof hst hc1 hc2
      have hr : ∀ k, k = i → Reads (Pile H1) ⟨rb, ro + k, none⟩ g.v := fun k hk => by rw [hk]; exact hrow
      dsimp only [LG.L, LG.row, LG.own, List.cons_append, List.nil_append] at hnx hsk ⊢
      repeat (first
        | (refine g_ops ?_; first | refine sO ?_ | refine s_bl (fun _ => ?_) | refine s_n (fun _ => ?_) | refine s_appB (fun _ _ => ?_) | refine s_app (fun _ _ => ?_) | refine s_b0 (fun _ => ?_) | ((fail_if_success refine g_lit rfl rfl rfl ?_); first | apply g_partM rfl rfl rfl | apply g_partMB rfl rfl rfl | fail))
        | refine gS ?_ | exact s_m | intro _)
      by_cases h0 : g.rs.length = 0
      · refine g_as 69 (v' := .bool true) rfl (congrArg Value.bool (decide_eq_true (by omega))) ?_
        repeat (first
          | (refine g_ops ?_; first | refine sO ?_ | refine s_bl (fun _ => ?_) | refine s_n (fun _ => ?_) | refine s_appB (fun _ _ => ?_) | refine s_app (fun _ _ => ?_) | refine s_b0 (fun _ => ?_) | ((fail_if_success refine g_lit rfl rfl rfl ?_); first | apply g_partM rfl rfl rfl | apply g_partMB rfl rfl rfl | fail))
          | refine gS ?_ | exact s_m | intro _)
        refine g_as 14 (v' := int ((i + 1 : Nat) : Int)) rfl (congrArg (Value.int .i64) (by push_cast; rfl)) ?_
        exact gA (⟨i + 1, S, x, ⟨q, c1, fs⟩, op, ct, kp, kc, ks, H1⟩ : CrX) (by simp only; omega) hsk
      · refine g_as 69 (v' := .bool false) rfl (congrArg Value.bool (decide_eq_false (by omega))) ?_
        have hops := hz.ops
        have hzc := hz.ct
        have hzn := hz.jl.num
        have hzj := hz.jl
        have hza := hz.at_
        have hkR := hz.kR
        dsimp only at hops hzn hzj hza hkR hzc
        have hwn := hz.num
        have hwl : ks.length = (flatS S).length := by
          have := congrArg List.length hz.all
          dsimp only at this
          rwa [List.length_map] at this
        dsimp only at hwn
        repeat (first
          | (refine g_ops ?_; first | refine sO ?_ | refine s_bl (fun _ => ?_) | refine s_n (fun _ => ?_) | refine s_appB (fun _ _ => ?_) | refine s_app (fun _ _ => ?_) | refine s_b0 (fun _ => ?_) | ((fail_if_success refine g_lit rfl rfl rfl ?_); first | apply g_partM rfl rfl rfl | apply g_partMB rfl rfl rfl | fail))
          | refine gS ?_ | exact s_m | intro _)
        refine g_draw (.take 1 (.take 3 (.take 4 (.take 5 (.see 6 [] (.one 0 (.one 2 (.one 7 (.take 8 .done))))))))) (by kernel_rfl) (C := [Pile H1]) (by (repeat (first | exact Take.nil | apply Take.cons | exact Sel.here | apply Sel.there)); first | done | fail) (fun k2 hd hk => ?_)
        repeat (first
          | (refine gp_take ?_; first | refine pT ?_ | ((fail_if_success refine gp_lit rfl rfl rfl rfl ?_); first | apply gp_guard_dec rfl rfl rfl rfl | apply gp_guard rfl rfl rfl rfl | fail))
          | (refine gp_see ?_; first | refine p_f ?_ | refine pS ?_ | ((fail_if_success refine gp_lit rfl rfl rfl rfl ?_); first | apply gp_guard_dec rfl rfl rfl rfl | apply gp_guard rfl rfl rfl rfl | fail))
          | (refine gp_one ?_; first | refine pO ?_ | refine p_n (fun _ => ?_) | refine p_appB (fun _ _ => ?_) | refine p_app (fun _ _ => ?_) | refine p_b0 (fun _ => ?_) | ((fail_if_success refine gp_lit rfl rfl rfl rfl ?_); first | apply gp_guard_dec rfl rfl rfl rfl | apply gp_guard rfl rfl rfl rfl | fail))
          | refine gp_two ?_ ?_ | refine gp_done hd hk ?_ | intro _ | refine p_ta hd hk (fun _ _ _ hd hk => ?_) | refine p_ts hd hk (fun _ hd hk => ?_))
        refine gp_c (cs_append (news := ks.map BV.v) (m := ks.length) inferInstance inferInstance inferInstance inferInstance rfl rfl (by (repeat (first | exact Sel.here | apply Sel.there)); first | done | fail) (srcF hd hk hkR.sl inferInstance (by (repeat (first | exact Sel.here | apply Sel.there)); first | done | fail) (by decide)) rfl (by omega) (by omega)) rfl rfl rfl (fun z1 _ => ?_)
        obtain ⟨mq1, mc1⟩ := z1
        dsimp only
        refine gp_c (cs_append (news := g.rs.map BV.v) (m := g.rs.length) inferInstance inferInstance inferInstance inferInstance rfl rfl (by (repeat (first | exact Sel.here | apply Sel.there)); first | done | fail) (srcF hd hk hat.sl inferInstance (by (repeat (first | exact Sel.here | apply Sel.there)); first | done | fail) (by decide)) rfl (by omega) (by omega)) rfl rfl rfl (fun z1 _ => ?_)
        obtain ⟨mq, mc⟩ := z1
        dsimp only
        repeat (first
          | (refine gp_take ?_; first | refine pT ?_ | ((fail_if_success refine gp_lit rfl rfl rfl rfl ?_); first | apply gp_guard_dec rfl rfl rfl rfl | apply gp_guard rfl rfl rfl rfl | fail))
          | (refine gp_see ?_; first | refine p_f ?_ | refine pS ?_ | ((fail_if_success refine gp_lit rfl rfl rfl rfl ?_); first | apply gp_guard_dec rfl rfl rfl rfl | apply gp_guard rfl rfl rfl rfl | fail))
          | (refine gp_one ?_; first | refine pO ?_ | refine p_n (fun _ => ?_) | refine p_appB (fun _ _ => ?_) | refine p_app (fun _ _ => ?_) | refine p_b0 (fun _ => ?_) | ((fail_if_success refine gp_lit rfl rfl rfl rfl ?_); first | apply gp_guard_dec rfl rfl rfl rfl | apply gp_guard rfl rfl rfl rfl | fail))
          | refine gp_two ?_ ?_ | refine gp_done hd hk ?_ | intro _ | refine p_ta hd hk (fun _ _ _ hd hk => ?_) | refine p_ts hd hk (fun _ hd hk => ?_))
        have hlr : (ks ++ g.rs).length = 0 + ks.length + g.rs.length := by rw [List.length_append]; omega
        have hmr : (ks ++ g.rs).map BV.v = ([] ++ ks.map BV.v) ++ g.rs.map BV.v := by rw [List.nil_append]; exact List.map_append
        rw [← hlr, ← hmr]
        refine g_own (p := mq) (len := (ks ++ g.rs).length) (cap := mc) (n := 1) (xs := (ks ++ g.rs).map BV.v) (e := 28) (by (repeat (first | exact Sel.here | apply Sel.there)); first | done | fail) (fun _ hmc _ => ?_)
        refine g_pile (p := mq) (m := (ks ++ g.rs).length) (c := mc) (n := 1) (xs := (ks ++ g.rs).map BV.v) (e := 28) (by (repeat (first | exact Sel.here | apply Sel.there)); first | done | fail) (by (repeat (first | exact Sel.here | apply Sel.there)); first | done | fail) (fun H2 hs2 hA2 => ?_)
        have hmR : RecsAt H2 mq (ks ++ g.rs) := ⟨hA2, fun r hr => by
          rcases List.mem_append.1 hr with h | h
          · exact BtAt.grow (hkR.at_ r h) hs2
          · exact BtAt.grow (hat.at_ r h) hs2⟩
        have hr2 : ∀ k, k = i → Reads (Pile H2) ⟨rb, ro + k, none⟩ g.v := fun k hk => reads_grow hs2 (hr k hk)
        clear hr
        have hr := hr2
        clear hr2
        have hap := appendK (H := H2) lg d x q c1 op ct ⟨hops.1, by omega⟩ ⟨hzc.1, by omega⟩ fs S (csL (gs.take i)) (13 * csL (gs.take i)) hzj g (hat.grow hs2) (by omega) hg2i (fun r hr => by have := sumL_mem hr; omega) (by omega) (by omega) (hza.grow hs2) (by omega)
        dsimp only [LG.L, LG.row, LG.own, List.cons_append, List.nil_append] at hap ⊢
        clear hwl hwn
        repeat (first
          | (refine g_ops ?_; first | refine sO ?_ | refine s_bl (fun _ => ?_) | refine s_n (fun _ => ?_) | refine s_appB (fun _ _ => ?_) | refine s_app (fun _ _ => ?_) | refine s_b0 (fun _ => ?_) | ((fail_if_success refine g_lit rfl rfl rfl ?_); first | apply g_partM rfl rfl rfl | apply g_partMB rfl rfl rfl | fail) | refine s_c (hap) (fun _ _ => ?_))
          | refine gS ?_ | exact s_m | intro _)
        rename_i w hw
        obtain ⟨wo, wx, ⟨⟨wq, wc, wf⟩, wop, wct⟩, wH⟩ := w
        cases wo with
        | false =>
          have hce := hof (by omega) _ H2 hs2 hw rfl mq mc hmc (hmR.grow hw.sub)
          refine g_as 88 (v' := .bool true) rfl rfl ?_
          repeat (first
            | (refine g_ops ?_; first | refine sO ?_ | refine s_bl (fun _ => ?_) | refine s_n (fun _ => ?_) | refine s_appB (fun _ _ => ?_) | refine s_app (fun _ _ => ?_) | refine s_b0 (fun _ => ?_) | ((fail_if_success refine g_lit rfl rfl rfl ?_); first | apply g_partM rfl rfl rfl | apply g_partMB rfl rfl rfl | fail))
            | refine gS ?_ | exact s_m | intro _)
          exact gM (⟨true, wx, ⟨wq, wc, wf⟩, wop, wct, kp, kc, ks, mq, mc, ks ++ g.rs, wH⟩ : CeX) hce
        | true =>
          obtain ⟨T, hT⟩ := hnx _ H2 hs2 hw rfl mq mc hmc (hmR.grow hw.sub)
          refine g_as 88 (v' := .bool false) rfl rfl ?_
          repeat (first
            | (refine g_ops ?_; first | refine sO ?_ | refine s_bl (fun _ => ?_) | refine s_n (fun _ => ?_) | refine s_appB (fun _ _ => ?_) | refine s_app (fun _ _ => ?_) | refine s_b0 (fun _ => ?_) | ((fail_if_success refine g_lit rfl rfl rfl ?_); first | apply g_partM rfl rfl rfl | apply g_partMB rfl rfl rfl | fail))
            | refine gS ?_ | exact s_m | intro _)
          refine g_as 90 (v' := .bool false) rfl rfl ?_
          repeat (first
            | (refine g_ops ?_; first | refine sO ?_ | refine s_bl (fun _ => ?_) | refine s_n (fun _ => ?_) | refine s_appB (fun _ _ => ?_) | refine s_app (fun _ _ => ?_) | refine s_b0 (fun _ => ?_) | ((fail_if_success refine g_lit rfl rfl rfl ?_); first | apply g_partM rfl rfl rfl | apply g_partMB rfl rfl rfl | fail))
            | refine gS ?_ | exact s_m | intro _)
          refine g_as 14 (v' := int ((i + 1 : Nat) : Int)) rfl (congrArg (Value.int .i64) (by push_cast; rfl)) ?_
          exact gA (⟨i + 1, T, wx, ⟨wq, wc, wf⟩, wop, wct, mq, mc, ks ++ g.rs, wH⟩ : CrX) (by simp only; omega) hT
    · have hi : i = gs.length := by omega
      repeat (first
        | (refine g_ops ?_; first | refine sO ?_ | refine s_bl (fun _ => ?_) | refine s_n (fun _ => ?_) | refine s_appB (fun _ _ => ?_) | refine s_app (fun _ _ => ?_) | refine s_b0 (fun _ => ?_) | ((fail_if_success refine g_lit rfl rfl rfl ?_); first | apply g_partM rfl rfl rfl | apply g_partMB rfl rfl rfl | fail))
        | refine gS ?_ | exact s_m | intro _)
      exact gM (⟨false, x, ⟨q, c1, fs⟩, op, ct, kp, kc, ks, kp, kc, ks, H1⟩ : CeX) (hz.end_ hi hg1)
  · obtain ⟨off, x, ⟨q, c1, fs⟩, op, ct, kp, kc, ks, mp, mc, ms, H1⟩ := z
    have hzs := hz.sub
    have hzk := hz.kR
    have hzm := hz.mR
    have hzn := hz.num
    have hzo := hz.ops
    have hzc := hz.ct
    have hzp := hz.cap
    dsimp only [LG.L, LG.row, LG.own, List.cons_append, List.nil_append] at hzs hzk hzm hzn hzo hzc hzp ⊢
    apply g_later (X := FxX) (fun z => [(2, .slice k.p k.l.length k.c), (3, .slice cp cl.length cc), (8, .bool false), (9, ptr d), (12, .slice z.kp z.ks.length z.kc), (13, .slice z.mp z.ms.length z.mc)]) (fun z => z.L d) (FxOk H)
    · intro key
      repeat (first
        | (refine g_ops ?_; first | refine sO ?_ | refine s_bl (fun _ => ?_) | refine s_n (fun _ => ?_) | refine s_appB (fun _ _ => ?_) | refine s_app (fun _ _ => ?_) | refine s_b0 (fun _ => ?_) | ((fail_if_success refine g_lit rfl rfl rfl ?_); first | apply g_partM rfl rfl rfl | apply g_partMB rfl rfl rfl | fail))
        | refine gS ?_ | exact s_m | intro _)
      rename_i ba bl
      refine g_pileC (c := .row ba [.int .u8 120] 5 (1, 2)) (by (repeat (first | exact Sel.here | apply Sel.there)); first | done | fail) (by (repeat (first | exact Sel.here | apply Sel.there)); first | done | fail) (fun H2 h2 hr2 => ?_)
      refine g_toOwn (b := bl) (len := 1) (n := 1) (xs := [.slice (some ⟨ba, 0, none⟩) 1 1]) (e := 28) (by (repeat (first | exact Sel.here | apply Sel.there)); first | done | fail) rfl rfl ?_
      refine g_pile (p := some ⟨bl, 0, none⟩) (m := 1) (c := 1) (n := 1) (xs := [.slice (some ⟨ba, 0, none⟩) 1 1]) (e := 28) (by (repeat (first | exact Sel.here | apply Sel.there)); first | done | fail) (by (repeat (first | exact Sel.here | apply Sel.there)); first | done | fail) (fun H3 h3 hA => ?_)
      have hR := recs_one h3 hr2 hA
      have hs3 : HP.sub H1 H3 := h2.trans h3
      by_cases hoff : off = true
      · rw [hoff]
        obtain ⟨hne, T, p', c0, g, hI, hKp⟩ := hz.no hoff
        dsimp only at hne hI hKp
        have had := app_dead (H := H3) lg d (.slice x.rq x.rs.length x.rc) (.slice x.fq x.fs.length x.fc) x.size x.sl (some ⟨bl, 0, none⟩) 1 _ hR (by simp) (by simp) (fun r hr => by rw [List.mem_singleton.1 hr]; simp)
        have hdd := dead_ lg d (.slice x.rq x.rs.length x.rc) (.slice x.fq x.fs.length x.fc) x.size x.sl true
        dsimp only [List.length_cons, List.length_nil, Nat.zero_add] at had
        repeat ((fail_if_success refine s_at 124 ?_); first
          | (refine g_ops ?_; first | refine sO ?_ | refine s_bl (fun _ => ?_) | refine s_n (fun _ => ?_) | refine s_appB (fun _ _ => ?_) | refine s_app (fun _ _ => ?_) | refine s_b0 (fun _ => ?_) | ((fail_if_success refine g_lit rfl rfl rfl ?_); first | apply g_partM rfl rfl rfl | apply g_partMB rfl rfl rfl | fail) | refine s_k (had) ?_ | refine s_k (hdd) ?_)
          | refine gS ?_ | exact s_m | intro _)
        refine g_as 123 (v' := .bool false) rfl (congrArg Value.bool (decide_eq_false (by omega))) ?_
        dsimp only [List.cons_append, List.nil_append]
        repeat ((fail_if_success refine s_at 131 ?_); first
          | (refine g_ops ?_; first | refine sO ?_ | refine s_bl (fun _ => ?_) | refine s_n (fun _ => ?_) | refine s_appB (fun _ _ => ?_) | refine s_app (fun _ _ => ?_) | refine s_b0 (fun _ => ?_) | ((fail_if_success refine g_lit rfl rfl rfl ?_); first | apply g_partM rfl rfl rfl | apply g_partMB rfl rfl rfl | fail))
          | refine gS ?_ | exact s_m | intro _)
        exact g_to (by (repeat (first | exact FrSub.nil | refine FrSub.cons rfl ?_)); first | done | fail) (by (repeat (first | exact Take.nil | apply Take.cons | exact Sel.here | apply Sel.there)); first | done | fail) (key (⟨⟨q, c1, fs⟩, op, ct, kp, kc, ks, mp, mc, ms, H3⟩ : FxX) ⟨hzs.trans hs3, hzm.grow hs3, hzp, by dsimp only; omega, by dsimp only; omega, by dsimp only; omega, T, p', c0, g, hI, hKp⟩)
      · have hoff : off = false := by cases h : off with | true => exact (hoff h).elim | false => rfl
        rw [hoff]
        obtain ⟨e1, e2, e3, hat, S, hJ, hks⟩ := hz.on hoff
        dsimp only at e1 e2 e3 hat hJ hks
        rw [e1, e2, e3]
        have hkl : ks.length = (flatS S).length := by
          have := congrArg List.length hks
          rwa [List.length_map] at this
        have hap := appendK (H := H3) lg d x q c1 op ct ⟨hzo.1, by omega⟩ ⟨hzc.1, by omega⟩ fs S (csL gs) (13 * csL gs) hJ ⟨some ⟨bl, 0, none⟩, [⟨some ⟨ba, 0, none⟩, [120], 1⟩], 1⟩ hR (by simp) (by simp) (fun r hr => by rw [List.mem_singleton.1 hr]; simp) (by simp [sumL]; omega) (by simp [sumL]; omega) (hat.grow hs3) (by omega)
        dsimp only [LG.L, LG.row, LG.own, List.cons_append, List.nil_append, List.length_cons, List.length_nil, Nat.zero_add] at hap
        repeat ((fail_if_success refine s_at 100 ?_); first
          | (refine g_ops ?_; first | refine sO ?_ | refine s_bl (fun _ => ?_) | refine s_n (fun _ => ?_) | refine s_appB (fun _ _ => ?_) | refine s_app (fun _ _ => ?_) | refine s_b0 (fun _ => ?_) | ((fail_if_success refine g_lit rfl rfl rfl ?_); first | apply g_partM rfl rfl rfl | apply g_partMB rfl rfl rfl | fail) | refine s_c (hap) (fun _ _ => ?_))
          | refine gS ?_ | exact s_m | intro _)
        rename_i w hw
        obtain ⟨wo, wx, ⟨⟨wq, wc, wf⟩, wop, wct⟩, wH⟩ := w
        have hws := hw.sub
        have hwo := hw.opb
        have hwc := hw.ctb
        dsimp only at hws hwo hwc
        have hdd := dead_ lg d (.slice wx.rq wx.rs.length wx.rc) (.slice wx.fq wx.fs.length wx.fc) wx.size wx.sl (!wo)
        have hkR : RecsAt wH kp ks := hzk.grow (hs3.trans hws)
        cases wo with
        | false =>
          dsimp only [List.cons_append, List.nil_append]
          repeat ((fail_if_success refine s_at 124 ?_); first
            | (refine g_ops ?_; first | refine sO ?_ | refine s_bl (fun _ => ?_) | refine s_n (fun _ => ?_) | refine s_appB (fun _ _ => ?_) | refine s_app (fun _ _ => ?_) | refine s_b0 (fun _ => ?_) | ((fail_if_success refine g_lit rfl rfl rfl ?_); first | apply g_partM rfl rfl rfl | apply g_partMB rfl rfl rfl | fail) | refine s_k (hdd) ?_)
            | refine gS ?_ | exact s_m | intro _)
          refine g_as 123 (v' := .bool true) rfl (congrArg Value.bool (decide_eq_true rfl)) ?_
          repeat ((fail_if_success refine s_at 126 ?_); first
            | (refine g_ops ?_; first | refine sO ?_ | refine s_bl (fun _ => ?_) | refine s_n (fun _ => ?_) | refine s_appB (fun _ _ => ?_) | refine s_app (fun _ _ => ?_) | refine s_b0 (fun _ => ?_) | ((fail_if_success refine g_lit rfl rfl rfl ?_); first | apply g_partM rfl rfl rfl | apply g_partMB rfl rfl rfl | fail))
            | refine gS ?_ | exact s_m | intro _)
          refine g_c (cs_append (news := ks.map BV.v) (m := ks.length) inferInstance inferInstance inferInstance inferInstance rfl rfl (by (repeat (first | exact Sel.here | apply Sel.there)); first | done | fail) (srcAt hkR.sl inferInstance (by (repeat (first | exact Sel.here | apply Sel.there)); first | done | fail) (by decide)) rfl (by omega) (by omega)) rfl rfl (fun z1 _ => ?_)
          obtain ⟨mq1, mc1⟩ := z1
          dsimp only
          repeat ((fail_if_success refine s_at 131 ?_); first
            | (refine g_ops ?_; first | refine sO ?_ | refine s_bl (fun _ => ?_) | refine s_n (fun _ => ?_) | refine s_appB (fun _ _ => ?_) | refine s_app (fun _ _ => ?_) | refine s_b0 (fun _ => ?_) | ((fail_if_success refine g_lit rfl rfl rfl ?_); first | apply g_partM rfl rfl rfl | apply g_partMB rfl rfl rfl | fail))
            | refine gS ?_ | exact s_m | intro _)
          rename_i ba2 bl2 mq2 mc2
          have hlr : (ks ++ [(⟨some ⟨ba2, 0, none⟩, [120], 1⟩ : BV)]).length = 0 + ks.length + 1 := by rw [List.length_append, List.length_singleton]; omega
          have hmr : (ks ++ [(⟨some ⟨ba2, 0, none⟩, [120], 1⟩ : BV)]).map BV.v = ([] ++ ks.map BV.v) ++ [.slice (some ⟨ba2, 0, none⟩) 1 1] := by rw [List.nil_append]; exact List.map_append
          rw [← hlr, ← hmr]
          refine g_pileC (c := .row ba2 [.int .u8 120] 5 (1, 2)) (by (repeat (first | exact Sel.here | apply Sel.there)); first | done | fail) (by (repeat (first | exact Sel.here | apply Sel.there)); first | done | fail) (fun H4 h4 hr4 => ?_)
          refine g_own (p := mq2) (len := (ks ++ [(⟨some ⟨ba2, 0, none⟩, [120], 1⟩ : BV)]).length) (cap := mc2) (n := 1) (xs := (ks ++ [(⟨some ⟨ba2, 0, none⟩, [120], 1⟩ : BV)]).map BV.v) (e := 28) (by (repeat (first | exact Sel.here | apply Sel.there)); first | done | fail) (fun _ hmc _ => ?_)
          refine g_pile (p := mq2) (m := (ks ++ [(⟨some ⟨ba2, 0, none⟩, [120], 1⟩ : BV)]).length) (c := mc2) (n := 1) (xs := (ks ++ [(⟨some ⟨ba2, 0, none⟩, [120], 1⟩ : BV)]).map BV.v) (e := 28) (by (repeat (first | exact Sel.here | apply Sel.there)); first | done | fail) (by (repeat (first | exact Sel.here | apply Sel.there)); first | done | fail) (fun H5 h5 hA5 => ?_)
          have hmR := recs_app hkR h4 h5 hr4 hA5
          have hall : bts (ks ++ [(⟨some ⟨ba2, 0, none⟩, [120], 1⟩ : BV)]) = flatS S ++ [[120]] := by rw [← hks]; exact List.map_append
          obtain ⟨T, p', c0, g, hI, hlo, hf⟩ := hw.no rfl
          dsimp only at hI
          have hf1 : flatS T = flatS S ++ [[120]] := hf
          exact g_to (by (repeat (first | exact FrSub.nil | refine FrSub.cons rfl ?_)); first | done | fail) (by (repeat (first | exact Take.nil | apply Take.cons | exact Sel.here | apply Sel.there)); first | done | fail) (key (⟨⟨wq, wc, wf⟩, wop, wct, kp, kc, ks, mq2, mc2, ks ++ [⟨some ⟨ba2, 0, none⟩, [120], 1⟩], H5⟩ : FxX) ⟨hzs.trans (hs3.trans (hws.trans (h4.trans h5))), hmR, hmc, by dsimp only; omega, by dsimp only; omega, by dsimp only; omega, T, p', c0, g, hI, by rw [hf1]; exact hall, fun s hs => by dsimp only; rw [hlo s hs]; omega, by dsimp only; rw [hks, hf1, hkl, List.take_left]⟩)
        | true =>
          dsimp only [List.cons_append, List.nil_append]
          repeat ((fail_if_success refine s_at 109 ?_); first
            | (refine g_ops ?_; first | refine sO ?_ | refine s_bl (fun _ => ?_) | refine s_n (fun _ => ?_) | refine s_appB (fun _ _ => ?_) | refine s_app (fun _ _ => ?_) | refine s_b0 (fun _ => ?_) | ((fail_if_success refine g_lit rfl rfl rfl ?_); first | apply g_partM rfl rfl rfl | apply g_partMB rfl rfl rfl | fail) | refine s_k (hdd) ?_)
            | refine gS ?_ | exact s_m | intro _)
          refine g_c (cs_append (news := ks.map BV.v) (m := ks.length) inferInstance inferInstance inferInstance inferInstance rfl rfl (by (repeat (first | exact Sel.here | apply Sel.there)); first | done | fail) (srcAt hkR.sl inferInstance (by (repeat (first | exact Sel.here | apply Sel.there)); first | done | fail) (by decide)) rfl (by omega) (by omega)) rfl rfl (fun z1 _ => ?_)
          obtain ⟨mq1, mc1⟩ := z1
          dsimp only
          repeat ((fail_if_success refine s_at 131 ?_); first
            | (refine g_ops ?_; first | refine sO ?_ | refine s_bl (fun _ => ?_) | refine s_n (fun _ => ?_) | refine s_appB (fun _ _ => ?_) | refine s_app (fun _ _ => ?_) | refine s_b0 (fun _ => ?_) | ((fail_if_success refine g_lit rfl rfl rfl ?_); first | apply g_partM rfl rfl rfl | apply g_partMB rfl rfl rfl | fail))
            | refine gS ?_ | exact s_m | intro _)
          rename_i ba2 bl2 mq2 mc2
          have hlr : (ks ++ [(⟨some ⟨ba2, 0, none⟩, [120], 1⟩ : BV)]).length = 0 + ks.length + 1 := by rw [List.length_append, List.length_singleton]; omega
          have hmr : (ks ++ [(⟨some ⟨ba2, 0, none⟩, [120], 1⟩ : BV)]).map BV.v = ([] ++ ks.map BV.v) ++ [.slice (some ⟨ba2, 0, none⟩) 1 1] := by rw [List.nil_append]; exact List.map_append
          rw [← hlr, ← hmr]
          refine g_pileC (c := .row ba2 [.int .u8 120] 5 (1, 2)) (by (repeat (first | exact Sel.here | apply Sel.there)); first | done | fail) (by (repeat (first | exact Sel.here | apply Sel.there)); first | done | fail) (fun H4 h4 hr4 => ?_)
          refine g_own (p := mq2) (len := (ks ++ [(⟨some ⟨ba2, 0, none⟩, [120], 1⟩ : BV)]).length) (cap := mc2) (n := 1) (xs := (ks ++ [(⟨some ⟨ba2, 0, none⟩, [120], 1⟩ : BV)]).map BV.v) (e := 28) (by (repeat (first | exact Sel.here | apply Sel.there)); first | done | fail) (fun _ hmc _ => ?_)
          refine g_pile (p := mq2) (m := (ks ++ [(⟨some ⟨ba2, 0, none⟩, [120], 1⟩ : BV)]).length) (c := mc2) (n := 1) (xs := (ks ++ [(⟨some ⟨ba2, 0, none⟩, [120], 1⟩ : BV)]).map BV.v) (e := 28) (by (repeat (first | exact Sel.here | apply Sel.there)); first | done | fail) (by (repeat (first | exact Sel.here | apply Sel.there)); first | done | fail) (fun H5 h5 hA5 => ?_)
          have hmR := recs_app hkR h4 h5 hr4 hA5
          have hall : bts (ks ++ [(⟨some ⟨ba2, 0, none⟩, [120], 1⟩ : BV)]) = flatS S ++ [[120]] := by rw [← hks]; exact List.map_append
          obtain ⟨_, T, hT, hf⟩ := hw.yes rfl
          dsimp only at hT
          have hf1 : flatS T = flatS S ++ [[120]] := hf
          have hTl : (flatS T).length = ks.length + 1 := by rw [hf1, List.length_append, ← hkl]; rfl
          have hs1 : sumL [(⟨some ⟨ba, 0, none⟩, [120], 1⟩ : BV)] = 1 := rfl
          rw [hs1] at hT
          obtain ⟨p', c0, hI, hlo⟩ := InvC.of_JL hT (fun e => by rw [e] at hTl; simp [flatS] at hTl) (by omega) (by simp; omega) (by omega)
          exact g_to (by (repeat (first | exact FrSub.nil | refine FrSub.cons rfl ?_)); first | done | fail) (by (repeat (first | exact Take.nil | apply Take.cons | exact Sel.here | apply Sel.there)); first | done | fail) (key (⟨⟨wq, wc, wf⟩, wop, wct, mq2, mc2, _, mq2, mc2, ks ++ [⟨some ⟨ba2, 0, none⟩, [120], 1⟩], H5⟩ : FxX) ⟨hzs.trans (hs3.trans (hws.trans (h4.trans h5))), hmR, hmc, by dsimp only; omega, by dsimp only; omega, by dsimp only; omega, T, p', c0, false, hI, by rw [hf1]; exact hall, fun s hs => by dsimp only; rw [hlo s hs]; omega, by dsimp only; rw [hall, ← hf1, List.take_of_length_le (by omega)]⟩)
    · intro z hz2
      clear hz hzs hzk hzm hzn hzo hzc hzp hsm hct hG
      obtain ⟨⟨q, c1, fs⟩, op, ct, kp, kc, ks, mp, mc, ms, H1⟩ := z
      obtain ⟨hzs, hzm, hzp, hzn, hzo, hzc, T, p', c0, g, hI, hKp⟩ := hz2
      dsimp only at hzs hzm hzp hzn hzo hzc hI hKp ⊢
      have hfl := fs_len hI.sort hI.nms
      have hus := hI.used
      have hcr := crashS (C := Pile H1) d 1048576 op ct q c1 fs hI.sort (by omega) (by omega) k (hpk.grow2 hzs)
      repeat (first
        | (refine g_ops ?_; first | refine sO ?_ | refine s_bl (fun _ => ?_) | refine s_n (fun _ => ?_) | refine s_appB (fun _ _ => ?_) | refine s_app (fun _ _ => ?_) | refine s_b0 (fun _ => ?_) | ((fail_if_success refine g_lit rfl rfl rfl ?_); first | apply g_partM rfl rfl rfl | apply g_partMB rfl rfl rfl | fail) | refine s_c (hcr) (fun _ _ => ?_))
        | refine gS ?_ | exact s_m | intro _)
      rename_i y hy
      obtain ⟨d2, ⟨fs2, q2, c2⟩⟩ := y
      dsimp only at hy
      have hI2 := hI.crash hy
      refine g_as 19 (v' := int ((0 : Nat) : Int)) rfl rfl ?_
      dsimp only [List.cons_append, List.nil_append]
      refine g_loop (X := RdC) (fun z => [(2, .slice k.p k.l.length k.c), (3, .slice cp cl.length cc), (8, .bool false), (9, ptr z.d), (12, .slice kp ks.length kc), (13, .slice mp ms.length mc), (19, int z.i)]) (fun z => bagL z.d 1048576 0 0 z.y.q z.y.c z.y.fs [Pile z.H]) (fun z => z.i ≤ cl.length ∧ HP.sub H1 z.H ∧ InvC T p' c0 g z.y.fs) (fun z => cl.length - z.i) ⟨0, d2, ⟨q2, c2, fs2⟩, H1⟩ ⟨Nat.zero_le _, HP.sub.refl _, hI2⟩ (by (repeat (first | exact FrSub.nil | refine FrSub.cons rfl ?_)); first | done | fail) (by (repeat (first | exact Take.nil | apply Take.cons | exact Sel.here | apply Sel.there)); first | done | fail) (fun z hz => ?_)
      clear hI hI2 hcr hy
      obtain ⟨i, d3, ⟨q3, c3, fs3⟩, H3⟩ := z
      obtain ⟨hil, hs3, hI⟩ := hz
      dsimp only at hil hs3 hI ⊢
      have hfl3 := fs_len hI.sort hI.nms
      have hus3 := hI.used
      repeat (first
        | (refine g_ops ?_; first | refine sO ?_ | refine s_bl (fun _ => ?_) | refine s_n (fun _ => ?_) | refine s_appB (fun _ _ => ?_) | refine s_app (fun _ _ => ?_) | refine s_b0 (fun _ => ?_) | ((fail_if_success refine g_lit rfl rfl rfl ?_); first | apply g_partM rfl rfl rfl | apply g_partMB rfl rfl rfl | fail))
        | refine gS ?_ | exact s_m | intro _)
      refine g_cond_dec rfl (fun h => ?_) (fun h => ?_)
      · have hi : i < cl.length := by omega
        obtain ⟨hin, b, o, rfl, hrd⟩ := (hC.grow2 (hzs.trans hs3)) i cl[i] (List.getElem?_eq_getElem hi)
        generalize cl[i] = v at hin hrd
        have hr : ∀ k, k = i → Reads (Pile H3) ⟨b, o + k, none⟩ (int v) := fun k hk => by rw [hk]; exact hrd
        have hrn := round11 v 12 (by decide) (by decide)
        have hlf := lf_in v 12 (by decide)
        generalize lf v 12 = n at hrn hlf
        have hct := cutM d3 1048576 (.slice q3 fs3.length c3) 0 0 n (by omega)
        rw [show max n 0 + 1 = n + 1 by omega] at hct
        obtain ⟨V, hV⟩ := hI.vof
        have hop := openC (H := H3) d3 1048576 q3 c3 0 (n + 1) ⟨by decide, by decide⟩ ⟨by omega, by omega⟩ fs3 ⟨hI.sort, hI.nms, by omega⟩ (by omega) V T.length (hI.view hV)
        repeat ((fail_if_success refine s_at 149 ?_); first
          | (refine g_ops ?_; first | refine sO ?_ | refine s_bl (fun _ => ?_) | refine s_n (fun _ => ?_) | refine s_appB (fun _ _ => ?_) | refine s_app (fun _ _ => ?_) | refine s_b0 (fun _ => ?_) | ((fail_if_success refine g_lit rfl rfl rfl ?_); first | apply g_partM rfl rfl rfl | apply g_partMB rfl rfl rfl | fail) | refine s_k (hrn) ?_ | refine s_c (hct) (fun _ _ => ?_) | refine s_c (hop) (fun _ _ => ?_))
          | refine gS ?_ | exact s_m | intro _)
        rename_i w hw
        obtain ⟨s, hs⟩ := hw
        have hI3 := OpOk.keep hI hV hs
        have hsb := hs.sub
        obtain ⟨wo, wl, wx, ⟨⟨wq, wc, wf⟩, wop, wct⟩, wH⟩ := w
        dsimp only at hI3 hsb
        have hfl4 := fs_len hI3.sort hI3.nms
        have hus4 := hI3.used
        have hcr := crashS (C := Pile wH) d3 1048576 wop wct wq wc wf hI3.sort (by omega) (by omega) k (hpk.grow2 (hzs.trans (hs3.trans hsb)))
        dsimp only [List.cons_append, List.nil_append]
        repeat (first
          | (refine g_ops ?_; first | refine sO ?_ | refine s_bl (fun _ => ?_) | refine s_n (fun _ => ?_) | refine s_appB (fun _ _ => ?_) | refine s_app (fun _ _ => ?_) | refine s_b0 (fun _ => ?_) | ((fail_if_success refine g_lit rfl rfl rfl ?_); first | apply g_partM rfl rfl rfl | apply g_partMB rfl rfl rfl | fail) | refine s_c (hcr) (fun _ _ => ?_))
          | refine gS ?_ | exact s_m | intro _)
        rename_i y hy
        obtain ⟨d4, ⟨fs4, q4, c4⟩⟩ := y
        dsimp only at hy
        refine g_as 19 (v' := int ((i + 1 : Nat) : Int)) rfl (congrArg (Value.int .i64) (by push_cast; rfl)) ?_
        exact gA (⟨i + 1, d4, ⟨q4, c4, fs4⟩, wH⟩ : RdC) (by simp only; omega) ⟨hi, hs3.trans hsb, hI3.crash hy⟩
      · obtain ⟨V, hV⟩ := hI.vof
        have hop := open0_ (H := H3) d3 1048576 q3 c3 0 ⟨by decide, by decide⟩ fs3 ⟨hI.sort, hI.nms, by omega⟩ (by omega) V T.length (hI.view hV)
        repeat ((fail_if_success refine s_at 157 ?_); first
          | (refine g_ops ?_; first | refine sO ?_ | refine s_bl (fun _ => ?_) | refine s_n (fun _ => ?_) | refine s_appB (fun _ _ => ?_) | refine s_app (fun _ _ => ?_) | refine s_b0 (fun _ => ?_) | ((fail_if_success refine g_lit rfl rfl rfl ?_); first | apply g_partM rfl rfl rfl | apply g_partMB rfl rfl rfl | fail) | refine s_c (hop) (fun _ _ => ?_))
          | refine gS ?_ | exact s_m | intro _)
        rename_i w hw
        obtain ⟨hok, s, hs⟩ := hw
        obtain ⟨g1, g2, g3⟩ := hs.yes hok
        have hF := hI.fin hV hs.run hs.fin
        obtain ⟨L, hL1, hL2, hL3⟩ := hF.pre
        have hsz := run_size (hI.view hV) hs.run
        have hsb := hs.sub
        have hI3 := OpOk.keep hI hV hs
        obtain ⟨_, lg3, x3, ⟨⟨q4, c4, fs4⟩, op4, ct4⟩, H4⟩ := w
        dsimp only [LG.L, LG.row, LG.own, List.cons_append, List.nil_append] at g1 g2 g3 hsb hI3 ⊢
        have hx3 := g1.len
        have hmT : ms.length = (flatS T).length := by
          have := congrArg List.length hKp.all
          rwa [List.length_map] at this
        have hsl : s.recs.length = L := by rw [hL1, List.length_take]; omega
        have hkL : ks.length ≤ L := by
          have hT := List.getElem?_eq_getElem hI.pl
          have h1 := hKp.lo _ hT
          have h2 := hL3 _ hT
          omega
        have hfl4 := fs_len hI3.sort hI3.nms
        have hus4 := hI3.used
        have hln := len_ lg3 d3 x3.rq x3.rs.length x3.rc (.slice x3.fq x3.fs.length x3.fc) x3.size x3.sl false
        have hhe : bts x3.rs = bts (ms.take x3.rs.length) := by
          show _ = (ms.take x3.rs.length).map _
          rw [List.map_take]
          show _ = (bts ms).take _
          rw [hKp.all, hx3.1, hsl, g1.recs, hL1]
        have hrl : ∀ r ∈ x3.rs, r.l.length ≤ 1000000 := fun r hr => by
          have h1 : r.l ∈ bts x3.rs := List.mem_map.2 ⟨r, hr, rfl⟩
          rw [g1.recs, hL1] at h1
          have := hI.rec_ _ (List.mem_of_mem_take h1)
          omega
        have htl : (ms.take x3.rs.length).length = x3.rs.length := by rw [List.length_take]; omega
        have hh := has_ (H := H4) lg3 d3 x3 false _ (mc - 0) _ (recs_take (hzm.grow (hs3.trans hsb)) (L := x3.rs.length) hzp) g2 hhe (by omega) hrl
        dsimp only [LG.L, LG.row, LG.own, List.cons_append, List.nil_append] at hh
        repeat (first
          | (refine g_ops ?_; first | refine sO ?_ | refine s_bl (fun _ => ?_) | refine s_n (fun _ => ?_) | refine s_appB (fun _ _ => ?_) | refine s_app (fun _ _ => ?_) | refine s_b0 (fun _ => ?_) | ((fail_if_success refine g_lit rfl rfl rfl ?_); first | apply g_partM rfl rfl rfl | apply g_partMB rfl rfl rfl | fail) | refine s_k (hln) ?_)
          | refine gS ?_ | exact s_m | intro _)
        refine g_as 170 (v' := .bool false) rfl (congrArg Value.bool (decide_eq_false (by omega))) ?_
        repeat (first
          | (refine g_ops ?_; first | refine sO ?_ | refine s_bl (fun _ => ?_) | refine s_n (fun _ => ?_) | refine s_appB (fun _ _ => ?_) | refine s_app (fun _ _ => ?_) | refine s_b0 (fun _ => ?_) | ((fail_if_success refine g_lit rfl rfl rfl ?_); first | apply g_partM rfl rfl rfl | apply g_partMB rfl rfl rfl | fail) | refine s_k (hln) ?_)
          | refine gS ?_ | exact s_m | intro _)
        refine g_as 177 (v' := .bool false) rfl (congrArg Value.bool (decide_eq_false (by omega))) ?_
        repeat ((fail_if_success refine s_at 182 ?_); first
          | (refine g_ops ?_; first | refine sO ?_ | refine s_bl (fun _ => ?_) | refine s_n (fun _ => ?_) | refine s_appB (fun _ _ => ?_) | refine s_app (fun _ _ => ?_) | refine s_b0 (fun _ => ?_) | ((fail_if_success refine g_lit rfl rfl rfl ?_); first | apply g_partM rfl rfl rfl | apply g_partMB rfl rfl rfl | fail) | refine s_k (hln) ?_)
          | refine gS ?_ | exact s_m | intro _)
        refine g_q (qs_slice (l := 0) (h := x3.rs.length) inferInstance inferInstance rfl .none (.some rfl rfl) (Nat.zero_le _) (by omega)) rfl rfl ?_
        refine g_as 182 (v' := .slice (if mc = 0 then mp else mp.map (·.add (0 * 1))) (ms.take x3.rs.length).length (mc - 0)) rfl (by rw [htl, Nat.sub_zero]) ?_
        repeat (first
          | (refine g_ops ?_; first | refine sO ?_ | refine s_bl (fun _ => ?_) | refine s_n (fun _ => ?_) | refine s_appB (fun _ _ => ?_) | refine s_app (fun _ _ => ?_) | refine s_b0 (fun _ => ?_) | ((fail_if_success refine g_lit rfl rfl rfl ?_); first | apply g_partM rfl rfl rfl | apply g_partMB rfl rfl rfl | fail) | refine s_c (hh) (fun _ _ => ?_))
          | refine gS ?_ | exact s_m | intro _)
        rename_i H5 hs5
        have hcr := crashS (C := Pile H5) d3 1048576 op4 0 q4 c4 fs4 hI3.sort (by omega) (by omega) k (hpk.grow2 (hzs.trans (hs3.trans (hsb.trans hs5))))
        dsimp only [List.cons_append, List.nil_append]
        repeat ((fail_if_success refine s_at 190 ?_); first
          | (refine g_ops ?_; first | refine sO ?_ | refine s_bl (fun _ => ?_) | refine s_n (fun _ => ?_) | refine s_appB (fun _ _ => ?_) | refine s_app (fun _ _ => ?_) | refine s_b0 (fun _ => ?_) | ((fail_if_success refine g_lit rfl rfl rfl ?_); first | apply g_partM rfl rfl rfl | apply g_partMB rfl rfl rfl | fail) | refine s_c (hcr) (fun _ _ => ?_))
          | refine gS ?_ | exact s_m | intro _)
        rename_i y hy
        obtain ⟨d4, ⟨fs5, q5, c5⟩⟩ := y
        dsimp only [List.cons_append, List.nil_append] at hy ⊢
        have hnm5 := hy.nms hI3.nms
        have hfl5 := fs_len hy.sort hnm5
        have hus5 := hy.used
        have hle := hF.le
        have htl5 := hI.tl
        have hvw := view_again (hI.view hV) hs.run g3 hy
        have hop2 := open0_ (H := H5) d4 1048576 q5 c5 0 ⟨by decide, by decide⟩ fs5 ⟨hy.sort, hnm5, by omega⟩ (by omega) _ _ hvw
        clear hop hh hcr
        repeat ((fail_if_success refine s_at 193 ?_); first
          | (refine g_ops ?_; first | refine sO ?_ | refine s_bl (fun _ => ?_) | refine s_n (fun _ => ?_) | refine s_appB (fun _ _ => ?_) | refine s_app (fun _ _ => ?_) | refine s_b0 (fun _ => ?_) | ((fail_if_success refine g_lit rfl rfl rfl ?_); first | apply g_partM rfl rfl rfl | apply g_partMB rfl rfl rfl | fail) | refine s_c (hop2) (fun _ _ => ?_))
          | refine gS ?_ | exact s_m | intro _)
        rename_i w2 hw2
        obtain ⟨hok2, s2, hs2⟩ := hw2
        obtain rfl := fin_vwK hs.run hs2.run hs2.fin
        obtain ⟨k1, k2, _⟩ := hs2.yes hok2
        have hsb2 := hs2.sub
        have hus6 := hs2.used
        have hso6 := hs2.sort
        have hob6 := hs2.opb
        have hfl6 := hs2.len
        clear hop2
        obtain ⟨_, lg4, x4, ⟨⟨q6, c6, fs6⟩, op6, ct6⟩, H6⟩ := w2
        dsimp only [LG.L, LG.row, LG.own, List.cons_append, List.nil_append] at k1 k2 hsb2 hus6 hso6 hob6 hfl6 ⊢
        have hx4 := k1.len
        have hx4s := k1.size
        have hln4 := len_ lg4 d4 x4.rq x4.rs.length x4.rc (.slice x4.fq x4.fs.length x4.fc) x4.size x4.sl false
        repeat (first
          | (refine g_ops ?_; first | refine sO ?_ | refine s_bl (fun _ => ?_) | refine s_n (fun _ => ?_) | refine s_appB (fun _ _ => ?_) | refine s_app (fun _ _ => ?_) | refine s_b0 (fun _ => ?_) | ((fail_if_success refine g_lit rfl rfl rfl ?_); first | apply g_partM rfl rfl rfl | apply g_partMB rfl rfl rfl | fail) | refine s_k (hln) ?_ | refine s_k (hln4) ?_)
          | refine gS ?_ | exact s_m | intro _)
        refine g_as 205 (v' := .bool false) rfl (congrArg Value.bool (by rw [hx4.1, hx3.1]; simp)) ?_
        repeat (first
          | (refine g_ops ?_; first | refine sO ?_ | refine s_bl (fun _ => ?_) | refine s_n (fun _ => ?_) | refine s_appB (fun _ _ => ?_) | refine s_app (fun _ _ => ?_) | refine s_b0 (fun _ => ?_) | ((fail_if_success refine g_lit rfl rfl rfl ?_); first | apply g_partM rfl rfl rfl | apply g_partMB rfl rfl rfl | fail) | refine s_k (hln) ?_ | refine s_k (hln4) ?_)
          | refine gS ?_ | exact s_m | intro _)
        rename_i ba bl
        refine g_pileC (c := .row ba [.int .u8 122] 5 (1, 2)) (by (repeat (first | exact Sel.here | apply Sel.there)); first | done | fail) (by (repeat (first | exact Sel.here | apply Sel.there)); first | done | fail) (fun H7 h7 hr7 => ?_)
        refine g_toOwn (b := bl) (len := 1) (n := 1) (xs := [.slice (some ⟨ba, 0, none⟩) 1 1]) (e := 28) (by (repeat (first | exact Sel.here | apply Sel.there)); first | done | fail) rfl rfl ?_
        refine g_pile (p := some ⟨bl, 0, none⟩) (m := 1) (c := 1) (n := 1) (xs := [.slice (some ⟨ba, 0, none⟩) 1 1]) (e := 28) (by (repeat (first | exact Sel.here | apply Sel.there)); first | done | fail) (by (repeat (first | exact Sel.here | apply Sel.there)); first | done | fail) (fun H8 h8 hA => ?_)
        have hR := recs_z h8 hr7 hA
        have hs1 : sumL [(⟨some ⟨ba, 0, none⟩, [122], 1⟩ : BV)] = 1 := rfl
        have hpk4 := pok x4.fs.length s2.size x4.sl x4.rs.length [(⟨some ⟨ba, 0, none⟩, [122], 1⟩ : BV)] (by simp; omega) (by omega) (by rw [hs1]; omega)
        rw [hs1] at hpk4
        have hap := append_ (H := H8) lg4 d4 x4 1048576 q6 c6 op6 ⟨by omega, by omega⟩ fs6 hso6 (by omega) (by decide) (by omega) (some ⟨bl, 0, none⟩) 1 [⟨some ⟨ba, 0, none⟩, [122], 1⟩] hR (by simp) (by simp) (fun r hr => by rw [List.mem_singleton.1 hr]; simp) (by rw [hs1]; decide) s2.size hx4s (by omega) (k2.grow (h7.trans h8)) (by omega) (by omega) 27 (by decide) (by omega) hpk4
        dsimp only [LG.L, LG.row, LG.own, List.cons_append, List.nil_append, List.length_cons, List.length_nil, Nat.zero_add] at hap
        repeat ((fail_if_success refine s_at 214 ?_); first
          | (refine g_ops ?_; first | refine sO ?_ | refine s_bl (fun _ => ?_) | refine s_n (fun _ => ?_) | refine s_appB (fun _ _ => ?_) | refine s_app (fun _ _ => ?_) | refine s_b0 (fun _ => ?_) | ((fail_if_success refine g_lit rfl rfl rfl ?_); first | apply g_partM rfl rfl rfl | apply g_partMB rfl rfl rfl | fail) | refine s_c (hap) (fun _ _ => ?_))
          | refine gS ?_ | exact s_m | intro _)
        rename_i w3 hw3
        have hsb3 := hw3.sub
        obtain ⟨x5, ⟨q7, c7, fs7⟩, H9⟩ := w3
        dsimp only [LG.L, LG.row, LG.own, List.cons_append, List.nil_append] at hsb3 ⊢
        repeat (first
          | (refine g_ops ?_; first | refine sO ?_ | refine s_bl (fun _ => ?_) | refine s_n (fun _ => ?_) | refine s_appB (fun _ _ => ?_) | refine s_app (fun _ _ => ?_) | refine s_b0 (fun _ => ?_) | ((fail_if_success refine g_lit rfl rfl rfl ?_); first | apply g_partM rfl rfl rfl | apply g_partMB rfl rfl rfl | fail) | refine s_k (hln) ?_)
          | refine gS ?_ | exact s_m | intro _)
        refine g_as 222 (v' := .bool true) rfl (congrArg Value.bool (by rw [hx4.1, hx3.1]; simp)) ?_
        repeat (first
          | (refine g_ops ?_; first | refine sO ?_ | refine s_bl (fun _ => ?_) | refine s_n (fun _ => ?_) | refine s_appB (fun _ _ => ?_) | refine s_app (fun _ _ => ?_) | refine s_b0 (fun _ => ?_) | ((fail_if_success refine g_lit rfl rfl rfl ?_); first | apply g_partM rfl rfl rfl | apply g_partMB rfl rfl rfl | fail) | refine s_k (awake_) ?_)
          | refine gS ?_ | exact s_m | intro _)
        exact gR H9 (hzs.trans (hs3.trans (hsb.trans (hs5.trans (hsb2.trans (h7.trans (h8.trans hsb3)))))))
end Go.Proofs.YtdldgbbhagpofaaGreatDoor
