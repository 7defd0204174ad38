/- Contracts and laws that the proof stands on. -/
import Derived.Test.YtaahibcibgljbaaDoorCallForms27
set_option linter.unusedSimpArgs false
set_option linter.unusedVariables false
namespace Go.Proofs.YtaahibcibgljbaaDoor
open Go.Sl facts
attribute [local irreducible] Code.wp wpList Exit.then Exit.inBlock bodyPost Back MidQ G GP QStep VStep CStep SStep Does Post Reads
theorem d_get {ps qs : List Pt} (h : ps.map Pt.d = qs.map Pt.d) (hl : ps.length = qs.length) (i : Nat) (h1 : i < ps.length) (h2 : i < qs.length) : ps[i].d = qs[i].d := by
  have e1 : (ps.map Pt.d)[i]'(by simpa using h1) = ps[i].d := List.getElem_map ..
  have e2 : (qs.map Pt.d)[i]'(by simpa using h2) = qs[i].d := List.getElem_map ..
  rw [← e1, ← e2]
  exact List.getElem_of_eq h _
set_option maxHeartbeats 8000000 in
theorem sameBatch {H : HP} (key : ByteArray) (pp qp : Option Addr) (pc qc : Nat) (ps qs : List Pt) (a1 : SlAt (Pile H) 3 pp ps.length (ps.flatMap Pt.cells)) (a2 : ∀ x ∈ ps, PtAt (Pile H) x) (a3 : ps.length ≤ 1000000000) (c1 : SlAt (Pile H) 3 qp qs.length (qs.flatMap Pt.cells)) (c2 : ∀ x ∈ qs, PtAt (Pile H) x) (hd0 : ps.map Pt.d = qs.map Pt.d) : Does1 Tryd.prog 30 [.agg #[.string key, .slice pp ps.length pc], .agg #[.string key, .slice qp qs.length qc]] [Pile H] (.bool true) := by
  have hpq : ps.length = qs.length := by rw [← List.length_map (f := Pt.d), hd0, List.length_map]
  refine fn_intro Tryd.func30 rfl Tryd.ntmps30 rfl (by simp only [argFr, Nat.zero_add, Nat.reduceAdd]; rfl) (fun Γ => ?_)
  repeat (first
    | (refine g_ops ?_; first | refine sO ?_ | refine s_n (fun _ => ?_) | refine s_app (fun _ _ => ?_) | refine s_b0 (fun _ => ?_) | ((fail_if_success refine g_lit rfl rfl rfl ?_); first | apply g_partM rfl rfl rfl | apply g_partMB rfl rfl rfl | fail))
    | refine gS ?_ | exact s_m | intro _)
  rename_i b2 b3
  refine g_as 14 (v' := .bool false) rfl (congrArg Value.bool (by simp)) ?_
  repeat (first
    | (refine g_ops ?_; first | refine sO ?_ | refine s_n (fun _ => ?_) | refine s_app (fun _ _ => ?_) | refine s_b0 (fun _ => ?_) | ((fail_if_success refine g_lit rfl rfl rfl ?_); first | apply g_partM rfl rfl rfl | apply g_partMB rfl rfl rfl | fail))
    | refine gS ?_ | exact s_m | intro _)
  refine g_as 22 (v' := .bool false) rfl (congrArg Value.bool (by simp [hpq])) ?_
  repeat (first
    | (refine g_ops ?_; first | refine sO ?_ | refine s_n (fun _ => ?_) | refine s_app (fun _ _ => ?_) | refine s_b0 (fun _ => ?_) | ((fail_if_success refine g_lit rfl rfl rfl ?_); first | apply g_partM rfl rfl rfl | apply g_partMB rfl rfl rfl | fail))
    | refine gS ?_ | exact s_m | intro _)
  refine g_loop (X := Nat) (fun i => [(2, ptr b2), (3, ptr b3), (5, int i)]) (fun _ => [.row b2 [.string key, .slice pp ps.length pc] 32, .row b3 [.string key, .slice qp qs.length qc] 32, Pile H]) (fun i => i ≤ ps.length) (fun i => ps.length - i) 0 (Nat.zero_le _) (by (repeat (first | exact FrSub.nil | refine FrSub.cons rfl ?_)); first | done | fail) (by (repeat (first | exact Take.nil | apply Take.cons | exact Sel.here | apply Sel.there)); first | done | fail) (fun i hi => ?_)
  repeat (first
    | (refine g_ops ?_; first | refine sO ?_ | refine s_n (fun _ => ?_) | refine s_app (fun _ _ => ?_) | refine s_b0 (fun _ => ?_) | ((fail_if_success refine g_lit rfl rfl rfl ?_); first | apply g_partM rfl rfl rfl | apply g_partMB rfl rfl rfl | fail))
    | refine gS ?_ | exact s_m | intro _)
  refine g_cond_dec rfl (fun h => ?_) (fun h => ?_)
  · have hi' : i < ps.length := by omega
    have hi2 : i < qs.length := by omega
    obtain ⟨pb, po, rfl, hrow⟩ := slAt_elem a1 pt_len (by decide) (i := i) (a := ps[i]) (by simp [hi'])
    obtain ⟨qb, qo, rfl, hrow2⟩ := slAt_elem c1 pt_len (by decide) (i := i) (a := qs[i]) (by simp [hi2])
    have ha := a2 ps[i] (List.getElem_mem _)
    have hc := c2 qs[i] (List.getElem_mem _)
    have hde := d_get hd0 hpq i hi' hi2
    generalize ps[i] = x at hrow ha hde
    generalize qs[i] = y at hrow2 hc hde
    obtain ⟨st, ex, dp, dc, data⟩ := x
    obtain ⟨st2, ex2, ep, ec, data2⟩ := y
    simp only [Pt.d, PtD.mk.injEq] at hde
    obtain ⟨rfl, rfl, rfl⟩ := hde
    obtain ⟨ha1, ha2⟩ := ha
    obtain ⟨hc1, hc2⟩ := hc
    dsimp only at ha1 ha2 hc1 hc2 hrow hrow2
    repeat (first
      | (refine g_ops ?_; first | refine sO ?_ | refine s_n (fun _ => ?_) | refine s_app (fun _ _ => ?_) | refine s_b0 (fun _ => ?_) | ((fail_if_success refine g_lit rfl rfl rfl ?_); first | apply g_partM rfl rfl rfl | apply g_partMB rfl rfl rfl | fail))
      | refine gS ?_ | exact s_m | intro _)
    rename_i b6 b7
    clear hrow hrow2
    refine g_as 45 (v' := .bool false) rfl (congrArg Value.bool (by simp)) ?_
    repeat (first
      | (refine g_ops ?_; first | refine sO ?_ | refine s_n (fun _ => ?_) | refine s_app (fun _ _ => ?_) | refine s_b0 (fun _ => ?_) | ((fail_if_success refine g_lit rfl rfl rfl ?_); first | apply g_partM rfl rfl rfl | apply g_partMB rfl rfl rfl | fail))
      | refine gS ?_ | exact s_m | intro _)
    refine g_as 52 (v' := .bool false) rfl (congrArg Value.bool (by simp)) ?_
    repeat (first
      | (refine g_ops ?_; first | refine sO ?_ | refine s_n (fun _ => ?_) | refine s_app (fun _ _ => ?_) | refine s_b0 (fun _ => ?_) | ((fail_if_success refine g_lit rfl rfl rfl ?_); first | apply g_partM rfl rfl rfl | apply g_partMB rfl rfl rfl | fail))
      | refine gS ?_ | exact s_m | intro _)
    refine g_as 60 (v' := .bool false) rfl (congrArg Value.bool (by simp)) ?_
    repeat (first
      | (refine g_ops ?_; first | refine sO ?_ | refine s_n (fun _ => ?_) | refine s_app (fun _ _ => ?_) | refine s_b0 (fun _ => ?_) | ((fail_if_success refine g_lit rfl rfl rfl ?_); first | apply g_partM rfl rfl rfl | apply g_partMB rfl rfl rfl | fail))
      | refine gS ?_ | exact s_m | intro _)
    refine g_loop (X := Nat) (fun j => [(2, ptr b2), (3, ptr b3), (5, int i), (6, ptr b6), (7, ptr b7), (8, int j)]) (fun _ => [.row b6 [.string st, int ex, .slice dp data.length dc] 80, .row b7 [.string st, int ex, .slice ep data.length ec] 80, .row b2 [.string key, .slice (some ⟨pb, po, none⟩) ps.length pc] 32, .row b3 [.string key, .slice (some ⟨qb, qo, none⟩) qs.length qc] 32, Pile H]) (fun j => j ≤ data.length) (fun j => data.length - j) 0 (Nat.zero_le _) (by (repeat (first | exact FrSub.nil | refine FrSub.cons rfl ?_)); first | done | fail) (by (repeat (first | exact Take.nil | apply Take.cons | exact Sel.here | apply Sel.there)); first | done | fail) (fun j hj => ?_)
    repeat (first
      | (refine g_ops ?_; first | refine sO ?_ | refine s_n (fun _ => ?_) | refine s_app (fun _ _ => ?_) | refine s_b0 (fun _ => ?_) | ((fail_if_success refine g_lit rfl rfl rfl ?_); first | apply g_partM rfl rfl rfl | apply g_partMB rfl rfl rfl | fail))
      | refine gS ?_ | exact s_m | intro _)
    refine g_cond_dec rfl (fun h2 => ?_) (fun h2 => ?_)
    · have hj' : j < data.length := by omega
      obtain ⟨db, do_, rfl, hr0⟩ := slAt_cell ha1 (i := j) (v := .string data[j]) (by simp [hj'])
      obtain ⟨eb, eo, rfl, hs0⟩ := slAt_cell hc1 (i := j) (v := .string data[j]) (by simp [hj'])
      generalize data[j] = t at hr0 hs0
      have hr : ∀ k', k' = j → Reads (Pile H) ⟨db, do_ + k', none⟩ (.string t) := fun _ e => e ▸ hr0
      have hr2 : ∀ k', k' = j → Reads (Pile H) ⟨eb, eo + k', none⟩ (.string t) := fun _ e => e ▸ hs0
      repeat (first
        | (refine g_ops ?_; first | refine sO ?_ | refine s_n (fun _ => ?_) | refine s_app (fun _ _ => ?_) | refine s_b0 (fun _ => ?_) | ((fail_if_success refine g_lit rfl rfl rfl ?_); first | apply g_partM rfl rfl rfl | apply g_partMB rfl rfl rfl | fail))
        | apply g_regB (id := 1) 22 | apply g_regB (id := 8) 60 | refine g_draw (id := 13) (.take 0 (.see 1 [] (.take 2 (.take 3 (.see 4 [] (.take 5 (.see 6 [] (.take 7 (.take 8 (.see 9 [] (.take 10 .done))))))))))) (by kernel_rfl) (take_all _) (fun k hd hk => ?_)
        | refine gS ?_ | exact s_m | intro _ | (refine gp_take ?_; first | refine pT ?_ | ((fail_if_success refine gp_lit rfl rfl rfl rfl ?_); first | apply gp_guard_dec rfl rfl rfl rfl | apply gp_guard rfl rfl rfl rfl | fail))
        | (refine gp_see ?_; first | refine p_f ?_ | refine pS ?_ | ((fail_if_success refine gp_lit rfl rfl rfl rfl ?_); first | apply gp_guard_dec rfl rfl rfl rfl | apply gp_guard rfl rfl rfl rfl | fail))
        | (refine gp_one ?_; first | refine pO ?_ | refine p_n (fun _ => ?_) | refine p_app (fun _ _ => ?_) | refine p_b0 (fun _ => ?_) | ((fail_if_success refine gp_lit rfl rfl rfl rfl ?_); first | apply gp_guard_dec rfl rfl rfl rfl | apply gp_guard rfl rfl rfl rfl | fail))
        | refine gp_two ?_ ?_ | refine gp_done hd hk ?_ | intro _ | refine p_ta hd hk (fun _ _ _ hd hk => ?_) | refine p_ts hd hk (fun _ hd hk => ?_))
      dsimp only [List.cons_append, List.nil_append]
      refine g_as 78 (v' := .bool false) rfl (congrArg Value.bool (by simp)) ?_
      repeat (first
        | (refine g_ops ?_; first | refine sO ?_ | refine s_n (fun _ => ?_) | refine s_app (fun _ _ => ?_) | refine s_b0 (fun _ => ?_) | ((fail_if_success refine g_lit rfl rfl rfl ?_); first | apply g_partM rfl rfl rfl | apply g_partMB rfl rfl rfl | fail))
        | refine gS ?_ | exact s_m | intro _)
      refine g_as 8 (v' := int ((j + 1 : Nat) : Int)) rfl (congrArg (Value.int .i64) (by push_cast; rfl)) ?_
      exact gA (j + 1) (by omega) hj'
    · repeat (first
        | (refine g_ops ?_; first | refine sO ?_ | refine s_n (fun _ => ?_) | refine s_app (fun _ _ => ?_) | refine s_b0 (fun _ => ?_) | ((fail_if_success refine g_lit rfl rfl rfl ?_); first | apply g_partM rfl rfl rfl | apply g_partMB rfl rfl rfl | fail))
        | refine gS ?_ | exact s_m | intro _)
      refine g_as 5 (v' := int ((i + 1 : Nat) : Int)) rfl (congrArg (Value.int .i64) (by push_cast; rfl)) ?_
      exact gA (i + 1) (by omega) hi'
  · repeat (first
      | (refine g_ops ?_; first | refine sO ?_ | refine s_n (fun _ => ?_) | refine s_app (fun _ _ => ?_) | refine s_b0 (fun _ => ?_) | ((fail_if_success refine g_lit rfl rfl rfl ?_); first | apply g_partM rfl rfl rfl | apply g_partMB rfl rfl rfl | fail))
      | refine gS ?_ | exact s_m | intro _)
    exact gR () trivial
theorem PtsOf.same {H : HP} {l : List V} {ps qs : List Pt} (h1 : PtsOf H l ps) (h2 : PtsOf H l qs) (hall : ∀ y ∈ l, (putV y).isSome = true) : ps.map Pt.d = qs.map Pt.d := by
  apply List.ext_getElem
  · simp [h1.1, h2.1]
  · intro i g1 g2
    have g1 : i < ps.length := by simpa using g1
    have g2 : i < qs.length := by simpa using g2
    have hi : i < l.length := by rw [← h1.1]; exact g1
    obtain ⟨d, hd⟩ := Option.isSome_iff_exists.1 (hall l[i] (List.getElem_mem _))
    simp only [List.getElem_map]
    rw [h1.2.2 i _ _ d (List.getElem?_eq_getElem hi) (List.getElem?_eq_getElem g1) hd, h2.2.2 i _ _ d (List.getElem?_eq_getElem hi) (List.getElem?_eq_getElem g2) hd]
set_option maxHeartbeats 8000000 in
theorem same28 {H : HP} {x y : Cl} {d : ClV} (hx : ClAt H x d) (hy : ClAt H y d) (hall : ∀ z ∈ d.pv, (putV z).isSome = true) (hl : d.pv.length ≤ 1000000000) : Does1 Tryd.prog 12 [.agg x.cells.toArray, .agg y.cells.toArray] [Pile H] (.bool true) := by
  have hd := hx.pts.same hy.pts hall
  have hsb := sameBatch (H := H) d.key x.pp y.pp x.pc y.pc x.pts y.pts hx.sl hx.pts.2.1 (by rw [hx.pts.1]; exact hl) hy.sl hy.pts.2.1 hd
  obtain ⟨x1, x2, x3, x4, x5, x6, x7, x8, x9, x10, x11⟩ := x
  obtain ⟨y1, y2, y3, y4, y5, y6, y7, y8, y9, y10, y11⟩ := y
  obtain ⟨a1, a2, a3, a4, a5, a6, a7, a8, a9, a10⟩ := hx
  obtain ⟨b1, b2, b3, b4, b5, b6, b7, b8, b9, b10⟩ := hy
  obtain ⟨d1, d2, d3, d4, d5, d6, d7, d8, d9⟩ := d
  dsimp only at a1 a2 a5 a6 a7 a8 a9 a10 b1 b2 b5 b6 b7 b8 b9 b10 hsb
  subst a1 a2 a5 a6 a7 a8 a9 a10
  subst b1 b2 b5 b6 b7 b8 b9 b10
  dsimp only [Cl.cells]
  refine fn_intro Tryd.func12 rfl Tryd.ntmps12 rfl (by simp only [argFr, Nat.zero_add, Nat.reduceAdd]; rfl) (fun Γ => ?_)
  repeat (first
    | (refine g_ops ?_; first | refine sO ?_ | refine s_n (fun _ => ?_) | refine s_app (fun _ _ => ?_) | refine s_b0 (fun _ => ?_) | ((fail_if_success refine g_lit rfl rfl rfl ?_); first | apply g_partM rfl rfl rfl | apply g_partMB rfl rfl rfl | fail) | refine s_k (hsb) ?_)
    | refine gS ?_ | exact s_m | intro _)
  refine g_as 10 (v' := .bool true) rfl (congrArg Value.bool (by simp)) ?_
  repeat (first
    | (refine g_ops ?_; first | refine sO ?_ | refine s_n (fun _ => ?_) | refine s_app (fun _ _ => ?_) | refine s_b0 (fun _ => ?_) | ((fail_if_success refine g_lit rfl rfl rfl ?_); first | apply g_partM rfl rfl rfl | apply g_partMB rfl rfl rfl | fail) | refine s_k (hsb) ?_)
    | refine gS ?_ | exact s_m | intro _)
  refine g_as 17 (v' := .bool true) rfl (congrArg Value.bool (by simp)) ?_
  repeat (first
    | (refine g_ops ?_; first | refine sO ?_ | refine s_n (fun _ => ?_) | refine s_app (fun _ _ => ?_) | refine s_b0 (fun _ => ?_) | ((fail_if_success refine g_lit rfl rfl rfl ?_); first | apply g_partM rfl rfl rfl | apply g_partMB rfl rfl rfl | fail) | refine s_k (hsb) ?_)
    | refine gS ?_ | exact s_m | intro _)
  refine g_as 24 (v' := .bool true) rfl (congrArg Value.bool (by simp)) ?_
  repeat (first
    | (refine g_ops ?_; first | refine sO ?_ | refine s_n (fun _ => ?_) | refine s_app (fun _ _ => ?_) | refine s_b0 (fun _ => ?_) | ((fail_if_success refine g_lit rfl rfl rfl ?_); first | apply g_partM rfl rfl rfl | apply g_partMB rfl rfl rfl | fail) | refine s_k (hsb) ?_)
    | refine gS ?_ | exact s_m | intro _)
  refine g_as 31 (v' := .bool true) rfl (congrArg Value.bool (by simp)) ?_
  repeat (first
    | (refine g_ops ?_; first | refine sO ?_ | refine s_n (fun _ => ?_) | refine s_app (fun _ _ => ?_) | refine s_b0 (fun _ => ?_) | ((fail_if_success refine g_lit rfl rfl rfl ?_); first | apply g_partM rfl rfl rfl | apply g_partMB rfl rfl rfl | fail) | refine s_k (hsb) ?_)
    | refine gS ?_ | exact s_m | intro _)
  refine g_as 38 (v' := .bool true) rfl (congrArg Value.bool (by simp)) ?_
  repeat (first
    | (refine g_ops ?_; first | refine sO ?_ | refine s_n (fun _ => ?_) | refine s_app (fun _ _ => ?_) | refine s_b0 (fun _ => ?_) | ((fail_if_success refine g_lit rfl rfl rfl ?_); first | apply g_partM rfl rfl rfl | apply g_partMB rfl rfl rfl | fail) | refine s_k (hsb) ?_)
    | refine gS ?_ | exact s_m | intro _)
  refine g_as 45 (v' := .bool true) rfl (congrArg Value.bool (by simp)) ?_
  repeat (first
    | (refine g_ops ?_; first | refine sO ?_ | refine s_n (fun _ => ?_) | refine s_app (fun _ _ => ?_) | refine s_b0 (fun _ => ?_) | ((fail_if_success refine g_lit rfl rfl rfl ?_); first | apply g_partM rfl rfl rfl | apply g_partMB rfl rfl rfl | fail) | refine s_k (hsb) ?_)
    | refine gS ?_ | exact s_m | intro _)
  refine g_as 52 (v' := .bool true) rfl (congrArg Value.bool (by simp)) ?_
  repeat (first
    | (refine g_ops ?_; first | refine sO ?_ | refine s_n (fun _ => ?_) | refine s_app (fun _ _ => ?_) | refine s_b0 (fun _ => ?_) | ((fail_if_success refine g_lit rfl rfl rfl ?_); first | apply g_partM rfl rfl rfl | apply g_partMB rfl rfl rfl | fail) | refine s_k (hsb) ?_)
    | refine gS ?_ | exact s_m | intro _)
  refine g_as 59 (v' := .bool true) rfl (congrArg Value.bool (by simp)) ?_
  repeat (first
    | (refine g_ops ?_; first | refine sO ?_ | refine s_n (fun _ => ?_) | refine s_app (fun _ _ => ?_) | refine s_b0 (fun _ => ?_) | ((fail_if_success refine g_lit rfl rfl rfl ?_); first | apply g_partM rfl rfl rfl | apply g_partMB rfl rfl rfl | fail) | refine s_k (hsb) ?_)
    | refine gS ?_ | exact s_m | intro _)
  refine g_as 66 (v' := .bool true) rfl (congrArg Value.bool (by simp)) ?_
  repeat (first
    | (refine g_ops ?_; first | refine sO ?_ | refine s_n (fun _ => ?_) | refine s_app (fun _ _ => ?_) | refine s_b0 (fun _ => ?_) | ((fail_if_success refine g_lit rfl rfl rfl ?_); first | apply g_partM rfl rfl rfl | apply g_partMB rfl rfl rfl | fail) | refine s_k (hsb) ?_)
    | refine gS ?_ | exact s_m | intro _)
  refine g_as 4 (v' := .bool true) rfl (congrArg Value.bool (by simp)) ?_
  exact gR () trivial
theorem ClAt.grow {H H' : HP} {x : Cl} {d : ClV} (h : ClAt H x d) (s : HP.sub H H') : ClAt H' x d := ⟨h.kind, h.key, h.sl.grow s, h.pts.grow s, h.stream, h.frm, h.pattern, h.max, h.first, h.tt⟩
theorem doc_pv {v : V} (hb : Bnd2 v) : (∀ z ∈ ((docOf v).getD {}).pv, (putV z).isSome = true) ∧ ((docOf v).getD {}).pv.length ≤ 1000000000 := by
  have h0 : (∀ z ∈ (({} : ClV)).pv, (putV z).isSome = true) ∧ (({} : ClV)).pv.length ≤ 1000000000 := ⟨(fun _ h => by cases h), Nat.zero_le _⟩
  unfold docOf
  split
  · exact h0
  split
  · rename_i hF
    split
    · rename_i hp
      refine ⟨List.all_eq_true.1 hp, ?_⟩
      simp only [Option.getD_some]
      unfold kid
      cases hg : v.kids with
      | nil => simp [nilV, V.kids]
      | cons x l =>
        have := (hb.2 x (by rw [hg]; simp)).1
        simp only [List.getD_cons_zero]
        omega
    · exact h0
  split
  · exact h0
  split
  · exact h0
  split
  · exact h0
  split
  · exact h0
  split
  · exact h0
  · exact h0
attribute [local irreducible] weigh weighL callS ofOk ofC docOf
set_option maxHeartbeats 8000000 in
theorem forms {H : HP} (hT : Tb H) (hE : ErrH H) (v : V) (u : Vc) (hu : VAt (Pile H) v u) : Does1 Tryd.prog 3 [.agg u.cells.toArray] [Pile H] (.bool true) := by
  have hs := sound28 v u hu
  have aw := awake28 hT hE
  have hmd := fun (h1 : SmV v) (h2 : szV v ≤ 3000) (h3 : (weigh v 0 0).1 = 0) => made28 v H u 0 0 hu h1 (by omega) ⟨by decide, by decide⟩ (by decide) h3
  have hof := fun (H' : HP) (hs : HP.sub H H') (h1 : SmV v) (h2 : szV v ≤ 3000) => ofD v u (hu.grow hs) h1 (by omega) (.of (by omega))
  have hlk : SmV v → v.kind = 6 → v.keys.length = v.kids.length := fun h => by
    cases h with
    | mk h6 _ _ _ => exact h6
  unfold Made28D at hmd
  dsimp only [Vc.cells] at hs hmd hof ⊢
  refine fn_intro Tryd.func3 rfl Tryd.ntmps3 rfl (by simp only [argFr, Nat.zero_add, Nat.reduceAdd]; rfl) (fun Γ => ?_)
  repeat (first
    | (refine g_ops ?_; first | refine sO ?_ | refine s_n (fun _ => ?_) | refine s_app (fun _ _ => ?_) | refine s_b0 (fun _ => ?_) | ((fail_if_success refine g_lit rfl rfl rfl ?_); first | apply g_partM rfl rfl rfl | apply g_partMB rfl rfl rfl | fail) | refine s_c (hs) (fun _ _ => ?_))
    | refine gS ?_ | exact s_m | intro _)
  rename_i ub r hr
  cases r with
  | false =>
    repeat (first
      | (refine g_ops ?_; first | refine sO ?_ | refine s_n (fun _ => ?_) | refine s_app (fun _ _ => ?_) | refine s_b0 (fun _ => ?_) | ((fail_if_success refine g_lit rfl rfl rfl ?_); first | apply g_partM rfl rfl rfl | apply g_partMB rfl rfl rfl | fail) | refine s_k (aw) ?_)
      | refine gS ?_ | exact s_m | intro _)
    exact s_r ()
  | true =>
    obtain ⟨h1, h2, h3⟩ := hr rfl
    have hm := hmd h1 h2 h3
    have hbd : Bnd2 v := .of (by omega)
    obtain ⟨e1, e2⟩ := of_same (hlk h1)
    repeat (first
      | (refine g_ops ?_; first | refine sO ?_ | refine s_n (fun _ => ?_) | refine s_app (fun _ _ => ?_) | refine s_b0 (fun _ => ?_) | ((fail_if_success refine g_lit rfl rfl rfl ?_); first | apply g_partM rfl rfl rfl | apply g_partMB rfl rfl rfl | fail) | refine s_c (hm) (fun _ _ => ?_))
      | refine gS ?_ | exact s_m | intro _)
    rename_i y1 hy1
    obtain ⟨H1, w⟩ := y1
    obtain ⟨hs1, hw⟩ := hy1
    dsimp only at hs1 hw ⊢
    try dsimp only [List.cons_append, List.nil_append, List.append_eq]
    have ho1 := of1 (hT.grow hs1).vs hw hbd
    rw [e1, e2] at ho1
    repeat (first
      | (refine g_ops ?_; first | refine sO ?_ | refine s_n (fun _ => ?_) | refine s_app (fun _ _ => ?_) | refine s_b0 (fun _ => ?_) | ((fail_if_success refine g_lit rfl rfl rfl ?_); first | apply g_partM rfl rfl rfl | apply g_partMB rfl rfl rfl | fail) | refine s_c (ho1) (fun _ _ => ?_))
      | refine gS ?_ | exact s_m | intro _)
    rename_i y2 hy2 b3
    obtain ⟨H2, c1⟩ := y2
    obtain ⟨hs2, hc1⟩ := hy2
    dsimp only at hs2 hc1 ⊢
    try dsimp only [List.cons_append, List.nil_append, List.append_eq]
    have ho2 := hof H2 (hs1.trans hs2) h1 h2
    repeat (first
      | (refine g_ops ?_; first | refine sO ?_ | refine s_n (fun _ => ?_) | refine s_app (fun _ _ => ?_) | refine s_b0 (fun _ => ?_) | ((fail_if_success refine g_lit rfl rfl rfl ?_); first | apply g_partM rfl rfl rfl | apply g_partMB rfl rfl rfl | fail) | refine s_c (ho2) (fun _ _ => ?_))
      | refine gS ?_ | exact s_m | intro _)
    rename_i y3 hy3 b5
    obtain ⟨H3, c2⟩ := y3
    obtain ⟨hs3, hc2⟩ := hy3
    dsimp only at hs3 hc2 ⊢
    try dsimp only [List.cons_append, List.nil_append, List.append_eq]
    obtain ⟨p1, p2⟩ := doc_pv hbd
    have hsm := same28 (hc1.grow hs3) hc2 p1 p2
    have hs4 := (hs1.trans hs2).trans hs3
    have aw3 := awake28 (hT.grow hs4) (hE.grow hs4)
    dsimp only [Cl.cells] at hsm ⊢
    repeat (first
      | (refine g_ops ?_; first | refine sO ?_ | refine s_n (fun _ => ?_) | refine s_app (fun _ _ => ?_) | refine s_b0 (fun _ => ?_) | ((fail_if_success refine g_lit rfl rfl rfl ?_); first | apply g_partM rfl rfl rfl | apply g_partMB rfl rfl rfl | fail) | refine s_k (hsm) ?_ | refine s_k (aw3) ?_)
      | refine gS ?_ | exact s_m | intro _)
    refine g_as 30 (v' := .bool true) rfl (congrArg Value.bool (by simp)) ?_
    repeat (first
      | (refine g_ops ?_; first | refine sO ?_ | refine s_n (fun _ => ?_) | refine s_app (fun _ _ => ?_) | refine s_b0 (fun _ => ?_) | ((fail_if_success refine g_lit rfl rfl rfl ?_); first | apply g_partM rfl rfl rfl | apply g_partMB rfl rfl rfl | fail) | refine s_k (aw3) ?_)
      | refine gS ?_ | exact s_m | intro _)
    refine g_unpile hs4 (by (repeat (first | exact Sel.here | apply Sel.there)); first | done | fail) ?_
    exact s_r ()
end Go.Proofs.YtaahibcibgljbaaDoor
