/- Contracts: two, awake. -/
import Derived.Test.YtfachckbjmofgaaCrdI
set_option linter.unusedSimpArgs false
set_option linter.unusedVariables false
namespace Go.Sl
theorem holds_pile {Γ : Ctx} {w : World} {L R R1 : List Chunk} {H : HP} {p : Option Addr} {m c n : Nat} {xs : List Value} {e : TypeId} (hh : Holds Γ L w) (s1 : Sel L (.own p m c n xs e) R1) (s2 : Sel R1 (Pile H) R) : ∃ H', HP.sub H H' ∧ SlAt (Pile H') n p m xs ∧ Holds Γ (Pile H' :: R) w := by
  have hs := hh.take (Take.cons s1 (Take.cons s2 .nil))
  obtain ⟨hp, hdj, hsub, h1, r1, dj1, a1, a2, hc1, h2, r2, dj2, b1, b2, hc2, hr⟩ := hs.own
  have hH : h2 = H := hc2
  subst hH
  have hd12 : HP.disj h1 h2 := (HP.disj_sub dj1.symm b1).symm
  have hd1r : HP.disj h1 r2 := (HP.disj_sub dj1.symm b2).symm
  refine ⟨HP.union h1 h2, HP.sub_union_right hd12, ?_, ⟨hs.os, hs.tape, hs.output, hs.frz, hs.frame, hp, hdj, hsub, HP.union h1 h2, r2, HP.disj_union hd1r dj2, HP.union_sub a1 (b1.trans a2), b2.trans a2, rfl, hr⟩⟩
  obtain ⟨⟨hl, ho⟩, hcase⟩ := hc1
  refine ⟨hl, ho, ?_, fun j v hv => ?_⟩
  · rintro rfl
    rcases hcase with ⟨e1, _⟩ | ⟨b, junk, e1, _⟩
    · exact e1
    · cases e1
  · rcases hcase with ⟨e1, _⟩ | ⟨b, junk, e1, e3, e4, e2⟩
    · have : xs = [] := List.eq_nil_of_length_eq_zero (by rw [hl, e1, Nat.zero_mul])
      subst this
      simp at hv
    · subst e1
      refine ⟨b, 0, rfl, fun hp' hc' => ?_⟩
      have hc'' : hp' = HP.union h1 h2 := hc'
      subst hc''
      refine ⟨_, _, _, HP.sub_union_left _ _ _ _ e2, rfl, ?_⟩
      have hj := (List.getElem?_eq_some_iff.1 hv).1
      simp only [List.getElem?_toArray, Nat.zero_add]
      rw [List.getElem?_append_left hj]
      exact hv
/-- A row that is handed over is laid to what stands first. -/
theorem does_pile {P : Program} {f : FuncId} {args : List Value} {X : Type} {A R : List Chunk} {A' : HP → List Chunk} {ret : X → Value} {B : X → List Chunk} {φ : X → Prop} {H : HP} {b len n : Nat} {xs : List Value} {e : TypeId} (hl : xs.length = len * n) (ho : xs.all (·.oneCell') = true)
    (tk : ∀ H', Take (Pile H' :: A) (A' H') R) (d : ∀ H', HP.sub H H' → SlAt (Pile H') n (some ⟨b, 0, none⟩) len xs → Does P f args (A' H') ret B φ) : Does P f args (.row b xs e :: Pile H :: A) ret B φ := fun Γ w hh => by
  obtain ⟨H', h1, h2, h3⟩ := holds_pile (hh.toOwn hl ho) .here .here
  exact d H' h1 h2 Γ w ((h3.take (tk H')).mono fun _ al => al.drop_right)
end Go.Sl
namespace Go.Proofs.Ytfachckbjmofgaa
open Go.Sl facts
attribute [local irreducible] Code.wp wpList Exit.then Exit.inBlock bodyPost Back MidQ G GP QStep VStep CStep SStep Does Post Reads
def twoL : List Rg := [⟨0, 2147483647, 1, 1⟩, ⟨2147483648, 4294967295, 2, 1⟩]
theorem two_ {H : HP} : Does Try.prog 16 [] [Pile H] (X := Nat × HP) (fun y => .slice (some ⟨y.1, 0, none⟩) twoL.length 2) (fun y => [Pile y.2]) (fun y => HP.sub H y.2 ∧ SlAt (Pile y.2) 4 (some ⟨y.1, 0, none⟩) twoL.length (twoL.flatMap Rg.cells)) := by
  refine fn_intro Try.func16 rfl Try.ntmps16 rfl (by simp only [argFr, Nat.zero_add, Nat.reduceAdd]; rfl) (fun Γ => ?_)
  repeat (first
    | (refine g_ops ?_; first | refine s_q ?_ | refine s_v ?_ | refine s_s ?_ | refine s_n (fun _ => ?_) | refine s_x ?_ | refine s_y ?_ | refine s_mq ?_ | refine s_app (fun _ _ => ?_) | refine s_mv ?_ | refine s_ms ?_ | refine s_b0 (fun _ => ?_) | ((fail_if_success refine g_lit rfl rfl rfl ?_); first | apply g_partM rfl rfl rfl | apply g_partMB rfl rfl rfl | fail))
    | refine g_seq ?_ | refine g_region ?_ | refine g_nil ?_ | refine g_then_normal ?_ | refine g_block ?_ | refine g_in_normal ?_ | refine g_retc ?_ | refine g_then_ret ?_
    | refine g_in_ret ?_ | refine g_exit ?_ | refine g_then_exit ?_ | refine g_in_exit ?_ | refine g_in_other rfl ?_ | refine g_skip ?_ | refine g_label ?_
    | refine g_cond_true rfl ?_ | refine g_cond_false rfl ?_ | exact s_m | intro _)
  rename_i b
  refine g_toOwn (b := b) (len := 2) (n := 4) (by (repeat (first | exact Sel.here | apply Sel.there)); first | done | fail) rfl rfl ?_
  refine g_pile (p := some ⟨b, 0, none⟩) (m := 2) (c := 2) (n := 4) (xs := twoL.flatMap Rg.cells) (e := 90) (by (repeat (first | exact Sel.here | apply Sel.there)); first | done | fail) (by (repeat (first | exact Sel.here | apply Sel.there)); first | done | fail) (fun H2 hs2 hA2 => ?_)
  repeat (first
    | (refine g_ops ?_; first | refine s_q ?_ | refine s_v ?_ | refine s_s ?_ | refine s_n (fun _ => ?_) | refine s_x ?_ | refine s_y ?_ | refine s_mq ?_ | refine s_app (fun _ _ => ?_) | refine s_mv ?_ | refine s_ms ?_ | refine s_b0 (fun _ => ?_) | ((fail_if_success refine g_lit rfl rfl rfl ?_); first | apply g_partM rfl rfl rfl | apply g_partMB rfl rfl rfl | fail))
    | refine g_seq ?_ | refine g_region ?_ | refine g_nil ?_ | refine g_then_normal ?_ | refine g_block ?_ | refine g_in_normal ?_ | refine g_retc ?_ | refine g_then_ret ?_
    | refine g_in_ret ?_ | refine g_exit ?_ | refine g_then_exit ?_ | refine g_in_exit ?_ | refine g_in_other rfl ?_ | refine g_skip ?_ | refine g_label ?_
    | refine g_cond_true rfl ?_ | refine g_cond_false rfl ?_ | exact s_m | intro _)
  exact g_ret (b, H2) rfl (by (repeat (first | exact RVs.nil | apply RVs.tmp rfl | apply RVs.cellA rfl (by (repeat (first | exact Sel.here | apply Sel.there)); first | done | fail) (by (repeat (first | exact Cut.zero | apply Cut.take | apply Cut.skip)); first | done | fail) | apply RVs.cell1 rfl (by (repeat (first | exact Sel.here | apply Sel.there)); first | done | fail) rfl)); first | done | fail) (by (repeat (first | exact Take.nil | apply Take.cons | exact Sel.here | apply Sel.there)); first | done | fail) rfl ⟨hs2, hA2⟩
theorem two_whose (s : ByteArray) : whose twoL s = 1 ∨ whose twoL s = 2 := by
  have hlt := hashN_lt s
  have hs : soundR twoL = true := by decide
  unfold whose fndR
  rw [if_pos hs]
  simp only [twoL, upTo]
  by_cases h : (hashN s : Int) ≤ 2147483647
  · have h1 : Rg.hasN ⟨0, 2147483647, 1, 1⟩ (hashN s) = true := by simp only [Rg.hasN, Bool.and_eq_true, decide_eq_true_eq]; omega
    simp [h1]
  · have h1 : Rg.hasN ⟨0, 2147483647, 1, 1⟩ (hashN s) = false := by simp only [Rg.hasN, Bool.and_eq_false_iff, decide_eq_false_iff_not]; omega
    have h2 : Rg.hasN ⟨2147483648, 4294967295, 2, 1⟩ (hashN s) = true := by simp only [Rg.hasN, Bool.and_eq_true, decide_eq_true_eq]; omega
    simp [h1, h2]
theorem two_in : ∀ r ∈ twoL, inI r.o := by
  intro r hr
  simp only [twoL, List.mem_cons, List.not_mem_nil, or_false] at hr
  rcases hr with rfl | rfl <;> exact ⟨by decide, by decide⟩
/-- One put, whose owner is known: one part. -/
theorem one_part {C : Chunk} {ns : List Int} {T : List Pr} {x : Pt} {k : Int} {ps : List Pt} (hp : PtsAt C ns T) (hk : k > 0) (hps : ps.map Pt.d = [x.d]) (hD : T.map Pr.d = cutL [k] ps) : ns = [k] ∧ ∃ z, z.k = k ∧ T = [z] ∧ z.puts.map Pt.d = [x.d] := by
  obtain ⟨y, rfl, hy⟩ := List.map_eq_singleton_iff.1 hps
  have h1 : cutL [k] [y] = [(k, [y.d])] := by simp [cutL, cutD, dput, hk]
  rw [h1] at hD
  obtain ⟨z, rfl, hz⟩ := List.map_eq_singleton_iff.1 hD
  simp only [Pr.d, Prod.mk.injEq] at hz
  have h2 := hp.perm
  simp only [List.map_cons, List.map_nil, hz.1] at h2
  exact ⟨List.perm_singleton.1 h2, z, hz.1, rfl, by rw [hz.2, hy]⟩
abbrev awP (q1 : Nat) : Pt := ⟨⟨#[97]⟩, -1, some ⟨q1, 0, none⟩, 1, [⟨#[120]⟩]⟩
abbrev awB (q1 q2 : Nat) : Bt := ⟨ByteArray.empty, some ⟨q2, 0, none⟩, 1, [awP q1]⟩
set_option maxHeartbeats 4000000 in
theorem awake_ {H : HP} : Does Try.prog 8 [] [Pile H] (X := HP) (fun _ => .bool true) (fun y => [Pile y]) (fun y => HP.sub H y) := by
  refine fn_intro Try.func8 rfl Try.ntmps8 rfl (by simp only [argFr, Nat.zero_add, Nat.reduceAdd]; rfl) (fun Γ => ?_)
  repeat (first
    | (refine g_ops ?_; first | refine s_q ?_ | refine s_v ?_ | refine s_s ?_ | refine s_n (fun _ => ?_) | refine s_x ?_ | refine s_y ?_ | refine s_mq ?_ | refine s_app (fun _ _ => ?_) | refine s_mv ?_ | refine s_ms ?_ | refine s_b0 (fun _ => ?_) | ((fail_if_success refine g_lit rfl rfl rfl ?_); first | apply g_partM rfl rfl rfl | apply g_partMB rfl rfl rfl | fail))
    | refine g_seq ?_ | refine g_region ?_ | refine g_nil ?_ | refine g_then_normal ?_ | refine g_block ?_ | refine g_in_normal ?_ | refine g_retc ?_ | refine g_then_ret ?_
    | refine g_in_ret ?_ | refine g_exit ?_ | refine g_then_exit ?_ | refine g_in_exit ?_ | refine g_in_other rfl ?_ | refine g_skip ?_ | refine g_label ?_
    | refine g_cond_true rfl ?_ | refine g_cond_false rfl ?_ | exact s_m | intro _)
  rename_i q1 q2 b1
  refine g_toOwn (b := q1) (len := 1) (n := 1) (by (repeat (first | exact Sel.here | apply Sel.there)); first | done | fail) rfl rfl ?_
  refine g_pile (p := some ⟨q1, 0, none⟩) (m := 1) (c := 1) (n := 1) (xs := [.string ⟨#[120]⟩]) (e := 9) (by (repeat (first | exact Sel.here | apply Sel.there)); first | done | fail) (by (repeat (first | exact Sel.here | apply Sel.there)); first | done | fail) (fun H1 hs1 hA1 => ?_)
  refine g_toOwn (b := q2) (len := 1) (n := 3) (by (repeat (first | exact Sel.here | apply Sel.there)); first | done | fail) rfl rfl ?_
  refine g_pile (p := some ⟨q2, 0, none⟩) (m := 1) (c := 1) (n := 3) (xs := [.string ⟨#[97]⟩, .int .i64 (-1), .slice (some ⟨q1, 0, none⟩) 1 1]) (e := 34) (by (repeat (first | exact Sel.here | apply Sel.there)); first | done | fail) (by (repeat (first | exact Sel.here | apply Sel.there)); first | done | fail) (fun H2 hs2 hA2 => ?_)
  have hx : BtAt' (Pile H2) (awB q1 q2) := ⟨hA2, fun y hy => by
    rw [List.mem_singleton.1 hy]
    exact ⟨hA1.grow hs2, by simp, by show (⟨#[97]⟩ : ByteArray).size ≤ _; decide⟩, by simp⟩
  refine g_draw (.take 0 (.see 2 [] (.one 1 (.one 3 (.take 4 .done))))) (by kernel_rfl) (C := [.row b1 [.string ByteArray.empty, .slice (some ⟨q2, 0, none⟩) 1 1] 25]) (by (repeat (first | exact Take.nil | apply Take.cons | exact Sel.here | apply Sel.there)); first | done | fail) (fun k hd hk => ?_)
  repeat (first
    | (refine gp_take ?_; first | refine p_q ?_ | refine p_x ?_ | refine p_mq ?_ | ((fail_if_success refine gp_lit rfl rfl rfl rfl ?_); first | apply gp_guard_dec rfl rfl rfl rfl | apply gp_guard rfl rfl rfl rfl | fail))
    | (refine gp_see ?_; first | refine p_f ?_ | refine p_sx ?_ | ((fail_if_success refine gp_lit rfl rfl rfl rfl ?_); first | apply gp_guard_dec rfl rfl rfl rfl | apply gp_guard rfl rfl rfl rfl | fail) | refine p_sq ?_)
    | (refine gp_one ?_; first | refine p_v ?_ | refine p_s ?_ | refine p_n (fun _ => ?_) | refine p_y ?_ | refine p_app (fun _ _ => ?_) | refine p_mv ?_ | refine p_ms ?_ | refine p_b0 (fun _ => ?_) | ((fail_if_success refine gp_lit rfl rfl rfl rfl ?_); first | apply gp_guard_dec rfl rfl rfl rfl | apply gp_guard rfl rfl rfl rfl | fail) | refine p_c (two_) (fun _ _ => ?_))
    | refine gp_two ?_ ?_ | refine gp_done hd hk ?_ | intro _ | refine p_ta hd hk (fun _ _ _ hd hk => ?_) | refine p_ts hd hk (fun _ hd hk => ?_))
  rename_i y2 hy2
  obtain ⟨rb, H3⟩ := y2
  obtain ⟨hs3, hR⟩ := hy2
  dsimp only [List.cons_append, List.nil_append] at hs3 hR ⊢
  have hx3 : BtAt' (Pile H3) (awB q1 q2) := hx.grow hs3
  have hbg := begin_ ⟨1, 1, 1⟩ (some ⟨rb, 0, none⟩) 2 twoL hR (by simp [twoL]) two_in (awB q1 q2) hx3
  repeat (first
    | (refine gp_take ?_; first | refine p_q ?_ | refine p_x ?_ | refine p_mq ?_ | ((fail_if_success refine gp_lit rfl rfl rfl rfl ?_); first | apply gp_guard_dec rfl rfl rfl rfl | apply gp_guard rfl rfl rfl rfl | fail))
    | (refine gp_see ?_; first | refine p_f ?_ | refine p_sx ?_ | ((fail_if_success refine gp_lit rfl rfl rfl rfl ?_); first | apply gp_guard_dec rfl rfl rfl rfl | apply gp_guard rfl rfl rfl rfl | fail) | refine p_sq ?_)
    | (refine gp_one ?_; first | refine p_v ?_ | refine p_s ?_ | refine p_n (fun _ => ?_) | refine p_y ?_ | refine p_app (fun _ _ => ?_) | refine p_mv ?_ | refine p_ms ?_ | refine p_b0 (fun _ => ?_) | ((fail_if_success refine gp_lit rfl rfl rfl rfl ?_); first | apply gp_guard_dec rfl rfl rfl rfl | apply gp_guard rfl rfl rfl rfl | fail) | refine p_c (hbg) (fun _ _ => ?_))
    | refine gp_two ?_ ?_ | refine gp_done hd hk ?_ | intro _ | refine p_ta hd hk (fun _ _ _ hd hk => ?_) | refine p_ts hd hk (fun _ hd hk => ?_))
  rename_i y4 hy4
  obtain ⟨g, H4⟩ := y4
  obtain ⟨hs4, hg, htx, hky, hpd, hws, hM, hwt⟩ := hy4
  dsimp only [List.cons_append, List.nil_append] at hs4 hg htx hky hpd hws hM hwt ⊢
  repeat (first
    | (refine g_ops ?_; first | refine s_q ?_ | refine s_v ?_ | refine s_s ?_ | refine s_n (fun _ => ?_) | refine s_x ?_ | refine s_y ?_ | refine s_mq ?_ | refine s_app (fun _ _ => ?_) | refine s_mv ?_ | refine s_ms ?_ | refine s_b0 (fun _ => ?_) | ((fail_if_success refine g_lit rfl rfl rfl ?_); first | apply g_partM rfl rfl rfl | apply g_partMB rfl rfl rfl | fail))
    | refine g_seq ?_ | refine g_region ?_ | refine g_nil ?_ | refine g_then_normal ?_ | refine g_block ?_ | refine g_in_normal ?_ | refine g_retc ?_ | refine g_then_ret ?_
    | refine g_in_ret ?_ | refine g_exit ?_ | refine g_then_exit ?_ | refine g_in_exit ?_ | refine g_in_other rfl ?_ | refine g_skip ?_ | refine g_label ?_
    | refine g_cond_true rfl ?_ | refine g_cond_false rfl ?_ | exact s_m | intro _)
  obtain ⟨k, hke⟩ : ∃ k, k = whose twoL (awP q1).st := ⟨_, rfl⟩
  have hk0 : k > 0 := by rcases two_whose (awP q1).st with h | h <;> omega
  have hcut := hg.cut
  rw [hws] at hcut
  simp only [ownersL, List.map_cons, List.map_nil, ← hke] at hcut
  obtain ⟨hns, z, hzk, hT, hzp⟩ := one_part hg.pts hk0 hpd hcut
  refine g_draw (.see 1 [] (.one 0 (.one 2 (.take 3 (.take 4 (.take 5 (.take 6 (.take 7 .done)))))))) (by kernel_rfl) (C := [.row b1 [.string ByteArray.empty, .slice (some ⟨q2, 0, none⟩) 1 1] 25]) (by (repeat (first | exact Take.nil | apply Take.cons | exact Sel.here | apply Sel.there)); first | done | fail) (fun k' hd hk => ?_)
  repeat (first
    | (refine gp_take ?_; first | refine p_q ?_ | refine p_x ?_ | refine p_mq ?_ | ((fail_if_success refine gp_lit rfl rfl rfl rfl ?_); first | apply gp_guard_dec rfl rfl rfl rfl | apply gp_guard rfl rfl rfl rfl | fail))
    | (refine gp_see ?_; first | refine p_f ?_ | refine p_sx ?_ | ((fail_if_success refine gp_lit rfl rfl rfl rfl ?_); first | apply gp_guard_dec rfl rfl rfl rfl | apply gp_guard rfl rfl rfl rfl | fail) | refine p_sq ?_)
    | (refine gp_one ?_; first | refine p_v ?_ | refine p_s ?_ | refine p_n (fun _ => ?_) | refine p_y ?_ | refine p_app (fun _ _ => ?_) | refine p_mv ?_ | refine p_ms ?_ | refine p_b0 (fun _ => ?_) | ((fail_if_success refine gp_lit rfl rfl rfl rfl ?_); first | apply gp_guard_dec rfl rfl rfl rfl | apply gp_guard rfl rfl rfl rfl | fail) | refine p_c (two_) (fun _ _ => ?_))
    | refine gp_two ?_ ?_ | refine gp_done hd hk ?_ | intro _ | refine p_ta hd hk (fun _ _ _ hd hk => ?_) | refine p_ts hd hk (fun _ hd hk => ?_))
  rename_i y5 hy5
  obtain ⟨rb5, H5⟩ := y5
  obtain ⟨hs5, hR5⟩ := hy5
  dsimp only [List.cons_append, List.nil_append] at hs5 hR5 ⊢
  have hpa := parts_ (some ⟨rb5, 0, none⟩) 2 twoL hR5 (by simp [twoL]) two_in (awB q1 q2) (hx3.grow (hs4.trans hs5))
  repeat (first
    | (refine gp_take ?_; first | refine p_q ?_ | refine p_x ?_ | refine p_mq ?_ | ((fail_if_success refine gp_lit rfl rfl rfl rfl ?_); first | apply gp_guard_dec rfl rfl rfl rfl | apply gp_guard rfl rfl rfl rfl | fail))
    | (refine gp_see ?_; first | refine p_f ?_ | refine p_sx ?_ | ((fail_if_success refine gp_lit rfl rfl rfl rfl ?_); first | apply gp_guard_dec rfl rfl rfl rfl | apply gp_guard rfl rfl rfl rfl | fail) | refine p_sq ?_)
    | (refine gp_one ?_; first | refine p_v ?_ | refine p_s ?_ | refine p_n (fun _ => ?_) | refine p_y ?_ | refine p_app (fun _ _ => ?_) | refine p_mv ?_ | refine p_ms ?_ | refine p_b0 (fun _ => ?_) | ((fail_if_success refine gp_lit rfl rfl rfl rfl ?_); first | apply gp_guard_dec rfl rfl rfl rfl | apply gp_guard rfl rfl rfl rfl | fail) | refine p_c (hpa) (fun _ _ => ?_))
    | refine gp_two ?_ ?_ | refine gp_done hd hk ?_ | intro _ | refine p_ta hd hk (fun _ _ _ hd hk => ?_) | refine p_ts hd hk (fun _ hd hk => ?_))
  rename_i y6 hy6
  obtain ⟨np, nc, ns, qp, qc, T, H6⟩ := y6
  obtain ⟨hs6, hpt, hcut2⟩ := hy6
  dsimp only [List.cons_append, List.nil_append] at hs6 hpt hcut2 ⊢
  simp only [ownersL, List.map_cons, List.map_nil, ← hke] at hcut2
  obtain ⟨rfl, _⟩ := one_part hpt hk0 rfl hcut2
  refine g_own (p := np) (len := 1) (cap := nc) (n := 1) (xs := [int k]) (e := 3) (by (repeat (first | exact Sel.here | apply Sel.there)); first | done | fail) (fun _ _ hq => ?_)
  obtain ⟨ob, rfl⟩ := hq (by omega)
  have hr : ∀ k', k' = 0 → Reads (.own (some ⟨ob, 0, none⟩) 1 nc 1 [int k] 3) ⟨ob, 0 + k', none⟩ (int k) := fun k e => by
    subst e; exact reads_own rfl
  have hg6 := hg.grow (hs5.trans hs6)
  have hrip := ripe_ g hg6
  rw [show ripeB g = false by simp [ripeB, hns, hM, hwt, wrongL, badOf, aget]] at hrip
  have htxv := tx_ g
  rw [htx] at htxv
  have htake : ∀ fb, Does Try.prog 11 [ptr g.b, int k, .agg (An.cells ⟨⟨1, 1, 1⟩, 0, ⟨6, 0, 2⟩, some ⟨fb, 0, none⟩, 1, [1]⟩).toArray] (.row fb [int 1] 3 :: Pile H6 :: g.L) (X := TkX) (fun _ => .bool true) (fun y => Gg.L { g with M := y.M } ++ [Pile y.H])
      (fun y => HP.sub H6 y.H ∧ GgAt (Pile y.H) { g with M := y.M } ∧ ∃ a : An, a.code = 0 ∧ y.M = [(k, a)]) := fun fb =>
    does_pile (len := 1) (n := 1) (A' := fun H' => g.L ++ [Pile H']) rfl rfl (fun H' => (by (repeat (first | exact Take.nil | apply Take.cons | exact Sel.here | apply Sel.there)); first | done | fail)) fun H' hs' hA' => by
      have h := take_ g (hg6.grow hs') k ⟨⟨1, 1, 1⟩, 0, ⟨6, 0, 2⟩, some ⟨fb, 0, none⟩, 1, [1]⟩ hA' (by simp)
      have htb : takeB g k ⟨⟨1, 1, 1⟩, 0, ⟨6, 0, 2⟩, some ⟨fb, 0, none⟩, 1, [1]⟩ = true := by
        have h1 : z.puts.length = 1 := by rw [← List.length_map (f := Pt.d), hzp]; rfl
        simp [takeB, htx, hns, hM, aget, goodB, partN, btOf, hT, fndP, hzk, h1]
        decide
      rw [htb] at h
      refine does_post (fun y hy => ?_) h
      obtain ⟨h1, h2, h3⟩ := hy
      refine ⟨hs'.trans h1, h2, ?_⟩
      rw [hM, if_pos rfl] at h3
      simp only [List.map_nil, List.nil_append] at h3
      obtain ⟨⟨k', a⟩, h4, h5⟩ := List.map_eq_singleton_iff.1 h3
      simp only [An.d, Prod.mk.injEq, AnD.mk.injEq] at h5
      exact ⟨a, h5.2.2.1, by rw [h4, h5.1]⟩
  repeat (first
    | (refine g_ops ?_; first | refine s_q ?_ | refine s_v ?_ | refine s_s ?_ | refine s_n (fun _ => ?_) | refine s_x ?_ | refine s_y ?_ | refine s_mq ?_ | refine s_app (fun _ _ => ?_) | refine s_mv ?_ | refine s_ms ?_ | refine s_b0 (fun _ => ?_) | ((fail_if_success refine g_lit rfl rfl rfl ?_); first | apply g_partM rfl rfl rfl | apply g_partMB rfl rfl rfl | fail))
    | refine g_seq ?_ | refine g_region ?_ | refine g_nil ?_ | refine g_then_normal ?_ | refine g_block ?_ | refine g_in_normal ?_ | refine g_retc ?_ | refine g_then_ret ?_
    | refine g_in_ret ?_ | refine g_exit ?_ | refine g_then_exit ?_ | refine g_in_exit ?_ | refine g_in_other rfl ?_ | refine g_skip ?_ | refine g_label ?_
    | refine g_cond_true rfl ?_ | refine g_cond_false rfl ?_ | exact s_m | intro _)
  refine g_draw (.take 0 (.take 1 (.take 2 (.take 3 (.take 4 (.take 5 (.take 6 (.take 7 (.take 8 (.take 9 (.take 10 (.take 11 (.take 12 (.take 13 (.one 14 (.take 15 (.take 16 (.take 17 (.take 18 (.take 19 (.take 20 (.see 21 [] (.take 22 (.take 24 (.two 23 (.one 25 (.take 26 (.one 27 (.take 28 (.take 29 (.take 30 (.one 31 (.take 32 (.take 33 .done))))))))) 25 (.one 23 (.take 26 (.one 27 (.take 28 (.take 29 (.take 30 (.one 31 (.take 32 (.take 33 .done)))))))))))))))))))))))))))))))))) (by kernel_rfl) (C := [.own (some ⟨ob, 0, none⟩) 1 nc 1 [int k] 3]) (by (repeat (first | exact Take.nil | apply Take.cons | exact Sel.here | apply Sel.there)); first | done | fail) (fun k' hd hk => ?_)
  repeat (first
    | (refine gp_take ?_; first | refine p_q ?_ | refine p_x ?_ | refine p_mq ?_ | ((fail_if_success refine gp_lit rfl rfl rfl rfl ?_); first | apply gp_guard_dec rfl rfl rfl rfl | apply gp_guard rfl rfl rfl rfl | fail))
    | (refine gp_see ?_; first | refine p_f ?_ | refine p_sx ?_ | ((fail_if_success refine gp_lit rfl rfl rfl rfl ?_); first | apply gp_guard_dec rfl rfl rfl rfl | apply gp_guard rfl rfl rfl rfl | fail) | refine p_h (hrip) hd hk ?_ | refine p_sq ?_)
    | (refine gp_one ?_; first | refine p_v ?_ | refine p_s ?_ | refine p_n (fun _ => ?_) | refine p_y ?_ | refine p_app (fun _ _ => ?_) | refine p_mv ?_ | refine p_ms ?_ | refine p_b0 (fun _ => ?_) | ((fail_if_success refine gp_lit rfl rfl rfl rfl ?_); first | apply gp_guard_dec rfl rfl rfl rfl | apply gp_guard rfl rfl rfl rfl | fail) | refine p_k (hrip) ?_)
    | refine gp_two ?_ ?_ | refine gp_done hd hk ?_ | intro _ | refine p_ta hd hk (fun _ _ _ hd hk => ?_) | refine p_ts hd hk (fun _ hd hk => ?_))
  have hkl : [k].length = 1 := rfl
  dsimp only [List.cons_append, List.nil_append]
  repeat (first
    | (refine gp_take ?_; first | refine p_q ?_ | refine p_x ?_ | refine p_mq ?_ | ((fail_if_success refine gp_lit rfl rfl rfl rfl ?_); first | apply gp_guard_dec rfl rfl rfl rfl | apply gp_guard rfl rfl rfl rfl | fail))
    | (refine gp_see ?_; first | refine p_f ?_ | refine p_sx ?_ | ((fail_if_success refine gp_lit rfl rfl rfl rfl ?_); first | apply gp_guard_dec rfl rfl rfl rfl | apply gp_guard rfl rfl rfl rfl | fail) | refine p_h (htxv) hd hk ?_ | refine p_sq ?_)
    | (refine gp_one ?_; first | refine p_v ?_ | refine p_s ?_ | refine p_n (fun _ => ?_) | refine p_y ?_ | refine p_app (fun _ _ => ?_) | refine p_mv ?_ | refine p_ms ?_ | refine p_b0 (fun _ => ?_) | ((fail_if_success refine gp_lit rfl rfl rfl rfl ?_); first | apply gp_guard_dec rfl rfl rfl rfl | apply gp_guard rfl rfl rfl rfl | fail) | refine p_k (htxv) ?_)
    | refine gp_two ?_ ?_ | refine gp_done hd hk ?_ | intro _ | refine p_ta hd hk (fun _ _ _ hd hk => ?_) | refine p_ts hd hk (fun _ hd hk => ?_))
  · rename_i fb
    try dsimp only [List.cons_append, List.nil_append]
    repeat (first
      | (refine gp_take ?_; first | refine p_q ?_ | refine p_x ?_ | refine p_mq ?_ | ((fail_if_success refine gp_lit rfl rfl rfl rfl ?_); first | apply gp_guard_dec rfl rfl rfl rfl | apply gp_guard rfl rfl rfl rfl | fail))
      | (refine gp_see ?_; first | refine p_f ?_ | refine p_sx ?_ | ((fail_if_success refine gp_lit rfl rfl rfl rfl ?_); first | apply gp_guard_dec rfl rfl rfl rfl | apply gp_guard rfl rfl rfl rfl | fail) | refine p_sq ?_)
      | (refine gp_one ?_; first | refine p_v ?_ | refine p_s ?_ | refine p_n (fun _ => ?_) | refine p_y ?_ | refine p_app (fun _ _ => ?_) | refine p_mv ?_ | refine p_ms ?_ | refine p_b0 (fun _ => ?_) | ((fail_if_success refine gp_lit rfl rfl rfl rfl ?_); first | apply gp_guard_dec rfl rfl rfl rfl | apply gp_guard rfl rfl rfl rfl | fail) | refine p_c (htake fb) (fun _ _ => ?_))
      | refine gp_two ?_ ?_ | refine gp_done hd hk ?_ | intro _ | refine p_ta hd hk (fun _ _ _ hd hk => ?_) | refine p_ts hd hk (fun _ hd hk => ?_))
    rename_i y7 hy7
    obtain ⟨M', H7⟩ := y7
    obtain ⟨hs7, hg7, a, hac, rfl⟩ := hy7
    try dsimp only [List.cons_append, List.nil_append] at hs7 hg7 ⊢
    have hrip2 := ripe_ { g with M := [(k, a)] } hg7
    rw [show ripeB { g with M := [(k, a)] } = true by simp [ripeB, hns]] at hrip2
    repeat (first
      | (refine gp_take ?_; first | refine p_q ?_ | refine p_x ?_ | refine p_mq ?_ | ((fail_if_success refine gp_lit rfl rfl rfl rfl ?_); first | apply gp_guard_dec rfl rfl rfl rfl | apply gp_guard rfl rfl rfl rfl | fail))
      | (refine gp_see ?_; first | refine p_f ?_ | refine p_sx ?_ | ((fail_if_success refine gp_lit rfl rfl rfl rfl ?_); first | apply gp_guard_dec rfl rfl rfl rfl | apply gp_guard rfl rfl rfl rfl | fail) | refine p_h (hrip2) hd hk ?_ | refine p_sq ?_)
      | (refine gp_one ?_; first | refine p_v ?_ | refine p_s ?_ | refine p_n (fun _ => ?_) | refine p_y ?_ | refine p_app (fun _ _ => ?_) | refine p_mv ?_ | refine p_ms ?_ | refine p_b0 (fun _ => ?_) | ((fail_if_success refine gp_lit rfl rfl rfl rfl ?_); first | apply gp_guard_dec rfl rfl rfl rfl | apply gp_guard rfl rfl rfl rfl | fail) | refine p_k (hrip2) ?_)
      | refine gp_two ?_ ?_ | refine gp_done hd hk ?_ | intro _ | refine p_ta hd hk (fun _ _ _ hd hk => ?_) | refine p_ts hd hk (fun _ hd hk => ?_))
    try dsimp only [List.cons_append, List.nil_append]
    repeat (first
      | (refine g_ops ?_; first | refine s_q ?_ | refine s_v ?_ | refine s_s ?_ | refine s_n (fun _ => ?_) | refine s_x ?_ | refine s_y ?_ | refine s_mq ?_ | refine s_app (fun _ _ => ?_) | refine s_mv ?_ | refine s_ms ?_ | refine s_b0 (fun _ => ?_) | ((fail_if_success refine g_lit rfl rfl rfl ?_); first | apply g_partM rfl rfl rfl | apply g_partMB rfl rfl rfl | fail))
      | refine g_seq ?_ | refine g_region ?_ | refine g_nil ?_ | refine g_then_normal ?_ | refine g_block ?_ | refine g_in_normal ?_ | refine g_retc ?_
      | refine g_then_ret ?_ | refine g_in_ret ?_ | refine g_exit ?_ | refine g_then_exit ?_ | refine g_in_exit ?_ | refine g_in_other rfl ?_ | refine g_skip ?_
      | refine g_label ?_ | refine g_cond_true rfl ?_ | refine g_cond_false rfl ?_ | exact s_m | intro _)
    exact g_ret H7 rfl (by (repeat (first | exact RVs.nil | apply RVs.tmp rfl | apply RVs.cellA rfl (by (repeat (first | exact Sel.here | apply Sel.there)); first | done | fail) (by (repeat (first | exact Cut.zero | apply Cut.take | apply Cut.skip)); first | done | fail) | apply RVs.cell1 rfl (by (repeat (first | exact Sel.here | apply Sel.there)); first | done | fail) rfl)); first | done | fail) (by (repeat (first | exact Take.nil | apply Take.cons | exact Sel.here | apply Sel.there)); first | done | fail) rfl (hs1.trans (hs2.trans (hs3.trans (hs4.trans (hs5.trans (hs6.trans hs7))))))
  · repeat (first
      | (refine gp_take ?_; first | refine p_q ?_ | refine p_x ?_ | refine p_mq ?_ | ((fail_if_success refine gp_lit rfl rfl rfl rfl ?_); first | apply gp_guard_dec rfl rfl rfl rfl | apply gp_guard rfl rfl rfl rfl | fail))
      | (refine gp_see ?_; first | refine p_f ?_ | refine p_sx ?_ | ((fail_if_success refine gp_lit rfl rfl rfl rfl ?_); first | apply gp_guard_dec rfl rfl rfl rfl | apply gp_guard rfl rfl rfl rfl | fail) | refine p_h (htxv) hd hk ?_ | refine p_sq ?_)
      | (refine gp_one ?_; first | refine p_v ?_ | refine p_s ?_ | refine p_n (fun _ => ?_) | refine p_y ?_ | refine p_app (fun _ _ => ?_) | refine p_mv ?_ | refine p_ms ?_ | refine p_b0 (fun _ => ?_) | ((fail_if_success refine gp_lit rfl rfl rfl rfl ?_); first | apply gp_guard_dec rfl rfl rfl rfl | apply gp_guard rfl rfl rfl rfl | fail) | refine p_k (htxv) ?_)
      | refine gp_two ?_ ?_ | refine gp_done hd hk ?_ | intro _ | refine p_ta hd hk (fun _ _ _ hd hk => ?_) | refine p_ts hd hk (fun _ hd hk => ?_))
    rename_i fb
    try dsimp only [List.cons_append, List.nil_append]
    repeat (first
      | (refine gp_take ?_; first | refine p_q ?_ | refine p_x ?_ | refine p_mq ?_ | ((fail_if_success refine gp_lit rfl rfl rfl rfl ?_); first | apply gp_guard_dec rfl rfl rfl rfl | apply gp_guard rfl rfl rfl rfl | fail))
      | (refine gp_see ?_; first | refine p_f ?_ | refine p_sx ?_ | ((fail_if_success refine gp_lit rfl rfl rfl rfl ?_); first | apply gp_guard_dec rfl rfl rfl rfl | apply gp_guard rfl rfl rfl rfl | fail) | refine p_sq ?_)
      | (refine gp_one ?_; first | refine p_v ?_ | refine p_s ?_ | refine p_n (fun _ => ?_) | refine p_y ?_ | refine p_app (fun _ _ => ?_) | refine p_mv ?_ | refine p_ms ?_ | refine p_b0 (fun _ => ?_) | ((fail_if_success refine gp_lit rfl rfl rfl rfl ?_); first | apply gp_guard_dec rfl rfl rfl rfl | apply gp_guard rfl rfl rfl rfl | fail) | refine p_c (htake fb) (fun _ _ => ?_))
      | refine gp_two ?_ ?_ | refine gp_done hd hk ?_ | intro _ | refine p_ta hd hk (fun _ _ _ hd hk => ?_) | refine p_ts hd hk (fun _ hd hk => ?_))
    rename_i y7 hy7
    obtain ⟨M', H7⟩ := y7
    obtain ⟨hs7, hg7, a, hac, rfl⟩ := hy7
    try dsimp only [List.cons_append, List.nil_append] at hs7 hg7 ⊢
    have hrip2 := ripe_ { g with M := [(k, a)] } hg7
    rw [show ripeB { g with M := [(k, a)] } = true by simp [ripeB, hns]] at hrip2
    repeat (first
      | (refine gp_take ?_; first | refine p_q ?_ | refine p_x ?_ | refine p_mq ?_ | ((fail_if_success refine gp_lit rfl rfl rfl rfl ?_); first | apply gp_guard_dec rfl rfl rfl rfl | apply gp_guard rfl rfl rfl rfl | fail))
      | (refine gp_see ?_; first | refine p_f ?_ | refine p_sx ?_ | ((fail_if_success refine gp_lit rfl rfl rfl rfl ?_); first | apply gp_guard_dec rfl rfl rfl rfl | apply gp_guard rfl rfl rfl rfl | fail) | refine p_h (hrip2) hd hk ?_ | refine p_sq ?_)
      | (refine gp_one ?_; first | refine p_v ?_ | refine p_s ?_ | refine p_n (fun _ => ?_) | refine p_y ?_ | refine p_app (fun _ _ => ?_) | refine p_mv ?_ | refine p_ms ?_ | refine p_b0 (fun _ => ?_) | ((fail_if_success refine gp_lit rfl rfl rfl rfl ?_); first | apply gp_guard_dec rfl rfl rfl rfl | apply gp_guard rfl rfl rfl rfl | fail) | refine p_k (hrip2) ?_)
      | refine gp_two ?_ ?_ | refine gp_done hd hk ?_ | intro _ | refine p_ta hd hk (fun _ _ _ hd hk => ?_) | refine p_ts hd hk (fun _ hd hk => ?_))
    try dsimp only [List.cons_append, List.nil_append]
    repeat (first
      | (refine g_ops ?_; first | refine s_q ?_ | refine s_v ?_ | refine s_s ?_ | refine s_n (fun _ => ?_) | refine s_x ?_ | refine s_y ?_ | refine s_mq ?_ | refine s_app (fun _ _ => ?_) | refine s_mv ?_ | refine s_ms ?_ | refine s_b0 (fun _ => ?_) | ((fail_if_success refine g_lit rfl rfl rfl ?_); first | apply g_partM rfl rfl rfl | apply g_partMB rfl rfl rfl | fail))
      | refine g_seq ?_ | refine g_region ?_ | refine g_nil ?_ | refine g_then_normal ?_ | refine g_block ?_ | refine g_in_normal ?_ | refine g_retc ?_
      | refine g_then_ret ?_ | refine g_in_ret ?_ | refine g_exit ?_ | refine g_then_exit ?_ | refine g_in_exit ?_ | refine g_in_other rfl ?_ | refine g_skip ?_
      | refine g_label ?_ | refine g_cond_true rfl ?_ | refine g_cond_false rfl ?_ | exact s_m | intro _)
    exact g_ret H7 rfl (by (repeat (first | exact RVs.nil | apply RVs.tmp rfl | apply RVs.cellA rfl (by (repeat (first | exact Sel.here | apply Sel.there)); first | done | fail) (by (repeat (first | exact Cut.zero | apply Cut.take | apply Cut.skip)); first | done | fail) | apply RVs.cell1 rfl (by (repeat (first | exact Sel.here | apply Sel.there)); first | done | fail) rfl)); first | done | fail) (by (repeat (first | exact Take.nil | apply Take.cons | exact Sel.here | apply Sel.there)); first | done | fail) rfl (hs1.trans (hs2.trans (hs3.trans (hs4.trans (hs5.trans (hs6.trans hs7))))))
end Go.Proofs.Ytfachckbjmofgaa
