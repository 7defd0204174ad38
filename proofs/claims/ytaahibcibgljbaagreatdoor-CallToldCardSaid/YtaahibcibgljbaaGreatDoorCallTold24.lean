/- Contracts and laws that the proof stands on. -/
import Derived.Test.YtaahibcibgljbaaGreatDoorCallTold23
import Derived.Test.YtaahibcibgljbaaGreatDoorCallTold21
set_option linter.unusedSimpArgs false
set_option linter.unusedVariables false
namespace Go.Proofs.YtaahibcibgljbaaGreatDoor
open Go.Sl facts
abbrev kNode : ByteArray := ⟨#[110, 111, 100, 101]⟩
abbrev kCursor : ByteArray := ⟨#[99, 117, 114, 115, 111, 114]⟩
abbrev kEvents : ByteArray := ⟨#[101, 118, 101, 110, 116, 115]⟩
abbrev kFirsts : ByteArray := ⟨#[102, 105, 114, 115, 116, 115]⟩
abbrev kRanges : ByteArray := ⟨#[114, 97, 110, 103, 101, 115]⟩
abbrev kStamp : ByteArray := ⟨#[115, 116, 97, 109, 112]⟩
abbrev KV := ByteArray × V
def curL (x : Rp) : V := listV [textV (stext x.cw x.cl x.cn), intV x.ci, textV x.cs]
def oC (x : Rp) : List KV := if x.cw = 0 ∧ x.cl = 0 ∧ x.cn = 0 ∧ x.ci = 0 ∧ x.cs = ByteArray.empty then [] else [(kCursor, curL x)]
def oE (es : List Evt) : List KV := if 0 < es.length then [(kEvents, listV (es.map evL))] else []
def oF (fs : List Int) : List KV := if 0 < fs.length then [(kFirsts, listV (fs.map intV))] else []
def oR (rs : List Rge) : List KV := if 0 < rs.length then [(kRanges, listV (rs.map rgL))] else []
def oS (x : Rp) : List KV := if x.w = 0 ∧ x.l = 0 ∧ x.n = 0 then [] else [(kStamp, textV (stext x.w x.l x.n))]
theorem oC_len (x : Rp) : (oC x).length ≤ 1 := by unfold oC; split <;> simp
theorem oE_len (x : List Evt) : (oE x).length ≤ 1 := by unfold oE; split <;> simp
theorem oF_len (x : List Int) : (oF x).length ≤ 1 := by unfold oF; split <;> simp
theorem oR_len (x : List Rge) : (oR x).length ≤ 1 := by unfold oR; split <;> simp
theorem oS_len (x : Rp) : (oS x).length ≤ 1 := by unfold oS; split <;> simp
def formR (x : Rp) (fs : List Int) (es : List Evt) (rs : List Rge) : List KV :=
  if x.code = 8 ∧ x.node ≠ 0 then [(kCode, intV x.code)] ++ [(kNode, intV x.node)]
  else if x.code ≠ 0 then [(kCode, intV x.code)]
  else [(kCode, intV x.code)] ++ oC x ++ oE es ++ oF fs ++ oR rs ++ oS x
def kvV (l : List KV) : V := pairsV (l.map (·.1)) (l.map (·.2))
attribute [local irreducible] Code.wp wpList Exit.then Exit.inBlock bodyPost Back MidQ G GP QStep VStep CStep SStep Does Post Reads
def FoAt (H : HP) (F : List KV) (ps : List Pr) : Prop := ps.length = F.length ∧ F.map (·.1) = ps.map Pr.k ∧ (∀ q ∈ ps, q.k.size ≤ 9223372036854775807) ∧ ∀ (i : Nat) f q, F[i]? = some f → ps[i]? = some q → TAt H f.2 q.v
theorem FoAt.one {H : HP} {k : ByteArray} {v : V} {w : Value} (hk : k.size ≤ 9223372036854775807) (hv : TAt H v w) : FoAt H [(k, v)] [⟨k, w⟩] := by
  refine ⟨rfl, rfl, fun q hq => ?_, fun i f q h1 h2 => ?_⟩
  · rw [List.mem_singleton] at hq; rw [hq]; exact hk
  · match i with
    | 0 => cases h1; cases h2; exact hv
    | i + 1 => simp at h1
theorem FoAt.grow {H H' : HP} {F : List KV} {ps : List Pr} (h : FoAt H F ps) (s : HP.sub H H') : FoAt H' F ps := ⟨h.1, h.2.1, h.2.2.1, fun i f q h1 h2 => (h.2.2.2 i f q h1 h2).grow s⟩
theorem FoAt.app {H : HP} {F G : List KV} {ps qs : List Pr} (h : FoAt H F ps) (g : FoAt H G qs) : FoAt H (F ++ G) (ps ++ qs) := by
  refine ⟨by simp [h.1, g.1], by rw [List.map_append, List.map_append, h.2.1, g.2.1], fun q hq => ?_, fun i f q h1 h2 => ?_⟩
  · rcases List.mem_append.1 hq with hq | hq
    · exact h.2.2.1 q hq
    · exact g.2.2.1 q hq
  · rcases Nat.lt_or_ge i F.length with hj | hj
    · rw [List.getElem?_append_left hj] at h1
      rw [List.getElem?_append_left (by rw [h.1]; exact hj)] at h2
      exact h.2.2.2 i f q h1 h2
    · rw [List.getElem?_append_right hj] at h1
      rw [List.getElem?_append_right (by rw [h.1]; exact hj), h.1] at h2
      exact g.2.2.2 _ f q h1 h2
theorem FoAt.tat {H H' : HP} {F : List KV} {ps : List Pr} {q : Option Addr} {c : Nat} (h : FoAt H F ps) (s : HP.sub H H') (hS : SlAt (Pile H') 2 q ps.length (ps.flatMap Pr.cells)) (hc : ps.length ≤ c) (hl : F.length ≤ 9223372036854775807) : TAt H' (kvV F) (.iface 89 (.slice q ps.length c)) := by
  have e : ps.length = (F.map (·.2)).length := by rw [h.1, List.length_map]
  unfold kvV
  rw [e] at hS hc ⊢
  refine .pairs ps e ⟨by rw [List.length_map]; exact hl, hc⟩ h.2.1 h.2.2.1 hS fun i a w h1 h2 => ?_
  rw [List.getElem?_map, Option.map_eq_some_iff] at h1
  obtain ⟨f, h1, rfl⟩ := h1
  exact (h.2.2.2 i f w h1 h2).grow s
theorem pr_snoc (ps : List Pr) (k : ByteArray) (w : Value) : ps.flatMap Pr.cells ++ [.string k, w] = (ps ++ [(⟨k, w⟩ : Pr)]).flatMap Pr.cells := by simp [Pr.cells]
theorem pr_len (ps : List Pr) (p : Pr) : ps.length + 1 = (ps ++ [p]).length := by simp
structure FoX where
  ps : List Pr
  q : Option Addr
  c : Nat
  H : HP
set_option maxHeartbeats 32000000 in
theorem reply_ {H : HP} (hI : ItH H) (x : Rp) {fs : List Int} {es : List Evt} {rs : List Rge} (hx : RpIn H x fs es rs) : Does Tryz.prog 26 [.agg x.cells.toArray] [Pile H] (X := HP × Value) (fun y => y.2) (fun y => [Pile y.1]) (fun y => HP.sub H y.1 ∧ TAt y.1 (kvV (formR x fs es rs)) y.2) := by
  have hcl := fun (H' : HP) (s : HP.sub H H') => clists (hI.grow s) x (hx.grow s)
  have htc := fun (H' : HP) (s : HP.sub H H') => stText (hI.grow s) x.cw x.cl x.cn hx.i5 hx.i6 hx.i7
  have hts := fun (H' : HP) (s : HP.sub H H') => stText (hI.grow s) x.w x.l x.n hx.i2 hx.i3 hx.i4
  have zc := stext_len x.cw x.cl x.cn hx.i5 hx.i6 hx.i7
  have zs := stext_len x.w x.l x.n hx.i2 hx.i3 hx.i4
  obtain ⟨code, w, l, n, fp, fn, fc, ep, en, ec, cw, cl, cn, ci, cs, rp, rn, rc, node⟩ := x
  obtain ⟨rfl, rfl, rfl, _, _, _, _, _, _, j1, _, _, _, _, _, _, j8, j9, jz, fz, ez, rz⟩ := hx
  dsimp only [Rp.cells] at hcl htc hts zc zs j1 j8 j9 jz ⊢
  generalize hV : formR ⟨code, w, l, n, fp, fs.length, fc, ep, es.length, ec, cw, cl, cn, ci, cs, rp, rs.length, rc, node⟩ fs es rs = V0
  unfold formR at hV
  dsimp only at hV
  have lC := oC_len ⟨code, w, l, n, fp, fs.length, fc, ep, es.length, ec, cw, cl, cn, ci, cs, rp, rs.length, rc, node⟩
  have lS := oS_len ⟨code, w, l, n, fp, fs.length, fc, ep, es.length, ec, cw, cl, cn, ci, cs, rp, rs.length, rc, node⟩
  have lE := oE_len es
  have lF := oF_len fs
  have lR := oR_len rs
  refine fn_intro Tryz.func26 rfl Tryz.ntmps26 rfl (by simp only [argFr, Nat.zero_add, Nat.reduceAdd]; rfl) (fun Γ => ?_)
  repeat (first
    | (refine g_ops ?_; first | refine sO ?_ | refine s_n (fun _ => ?_) | refine s_app (fun _ _ => ?_) | refine s_b0 (fun _ => ?_) | ((fail_if_success refine g_lit rfl rfl rfl ?_); first | apply g_partM rfl rfl rfl | apply g_partMB rfl rfl rfl | fail))
    | refine gS ?_ | exact s_m | intro _)
  rename_i rb lb
  refine g_toOwn (b := lb) (len := 1) (n := 2) (by (repeat (first | exact Sel.here | apply Sel.there)); first | done | fail) rfl rfl ?_
  have f0 : FoAt H [(kCode, intV code)] [⟨kCode, .iface 3 (int code)⟩] := .one (by decide) (.int j1)
  by_cases h8 : code = 8
  · refine g_as 15 (v' := .bool true) rfl (congrArg Value.bool (decide_eq_true h8)) ?_
    repeat (first
      | (refine g_ops ?_; first | refine sO ?_ | refine s_n (fun _ => ?_) | refine s_app (fun _ _ => ?_) | refine s_b0 (fun _ => ?_) | ((fail_if_success refine g_lit rfl rfl rfl ?_); first | apply g_partM rfl rfl rfl | apply g_partMB rfl rfl rfl | fail))
      | refine gS ?_ | exact s_m | intro _)
    refine g_cond_dec rfl (fun hnd => ?_) (fun hnd => ?_)
    · rw [if_pos ⟨h8, hnd⟩] at hV
      subst hV
      repeat (first
        | (refine g_ops ?_; first | refine sO ?_ | refine s_n (fun _ => ?_) | refine s_app (fun _ _ => ?_) | refine s_b0 (fun _ => ?_) | ((fail_if_success refine g_lit rfl rfl rfl ?_); first | apply g_partM rfl rfl rfl | apply g_partMB rfl rfl rfl | fail))
        | refine gS ?_ | exact s_m | intro _)
      rename_i q2 c2
      refine g_capO (by (repeat (first | exact Sel.here | apply Sel.there)); first | done | fail) (fun hcap => ?_)
      refine g_pile (n := 2) (by (repeat (first | exact Sel.here | apply Sel.there)); first | done | fail) (by (repeat (first | exact Sel.here | apply Sel.there)); first | done | fail) (fun H2 hs2 hS2 => ?_)
      exact gR (H2, .iface 89 (.slice q2 2 c2)) ⟨hs2, (f0.app (FoAt.one (k := kNode) (by decide) (.int j9))).tat hs2 hS2 hcap (by simp)⟩
    · rw [if_neg (fun h => hnd h.2), if_pos (by omega)] at hV
      subst hV
      repeat (first
        | (refine g_ops ?_; first | refine sO ?_ | refine s_n (fun _ => ?_) | refine s_app (fun _ _ => ?_) | refine s_b0 (fun _ => ?_) | ((fail_if_success refine g_lit rfl rfl rfl ?_); first | apply g_partM rfl rfl rfl | apply g_partMB rfl rfl rfl | fail))
        | refine gS ?_ | exact s_m | intro _)
      refine g_cond_dec rfl (fun hnz => ?_) (fun hnz => by omega)
      repeat (first
        | (refine g_ops ?_; first | refine sO ?_ | refine s_n (fun _ => ?_) | refine s_app (fun _ _ => ?_) | refine s_b0 (fun _ => ?_) | ((fail_if_success refine g_lit rfl rfl rfl ?_); first | apply g_partM rfl rfl rfl | apply g_partMB rfl rfl rfl | fail))
        | refine gS ?_ | exact s_m | intro _)
      refine g_pile (n := 2) (by (repeat (first | exact Sel.here | apply Sel.there)); first | done | fail) (by (repeat (first | exact Sel.here | apply Sel.there)); first | done | fail) (fun H2 hs2 hS2 => ?_)
      exact gR (H2, .iface 89 (.slice (some ⟨lb, 0, none⟩) 1 1)) ⟨hs2, f0.tat hs2 hS2 (Nat.le_refl _) (by simp)⟩
  refine g_as 15 (v' := .bool false) rfl (congrArg Value.bool (decide_eq_false h8)) ?_
  rw [if_neg (fun h => h8 h.1)] at hV
  repeat (first
    | (refine g_ops ?_; first | refine sO ?_ | refine s_n (fun _ => ?_) | refine s_app (fun _ _ => ?_) | refine s_b0 (fun _ => ?_) | ((fail_if_success refine g_lit rfl rfl rfl ?_); first | apply g_partM rfl rfl rfl | apply g_partMB rfl rfl rfl | fail))
    | refine gS ?_ | exact s_m | intro _)
  refine g_cond_dec rfl (fun hnz => ?_) (fun hnz => ?_)
  · rw [if_pos hnz] at hV
    subst hV
    repeat (first
      | (refine g_ops ?_; first | refine sO ?_ | refine s_n (fun _ => ?_) | refine s_app (fun _ _ => ?_) | refine s_b0 (fun _ => ?_) | ((fail_if_success refine g_lit rfl rfl rfl ?_); first | apply g_partM rfl rfl rfl | apply g_partMB rfl rfl rfl | fail))
      | refine gS ?_ | exact s_m | intro _)
    refine g_pile (n := 2) (by (repeat (first | exact Sel.here | apply Sel.there)); first | done | fail) (by (repeat (first | exact Sel.here | apply Sel.there)); first | done | fail) (fun H2 hs2 hS2 => ?_)
    exact gR (H2, .iface 89 (.slice (some ⟨lb, 0, none⟩) 1 1)) ⟨hs2, f0.tat hs2 hS2 (Nat.le_refl _) (by simp)⟩
  rw [if_neg hnz] at hV
  subst hV
  have hC0 : (cw = 0 ∧ cl = 0 ∧ cn = 0 ∧ ci = 0 ∧ cs = ByteArray.empty) → oC ⟨code, w, l, n, fp, fs.length, fc, ep, es.length, ec, cw, cl, cn, ci, cs, rp, rs.length, rc, node⟩ = [] := fun h => if_pos h
  have hC1 : ¬ (cw = 0 ∧ cl = 0 ∧ cn = 0 ∧ ci = 0 ∧ cs = ByteArray.empty) → oC ⟨code, w, l, n, fp, fs.length, fc, ep, es.length, ec, cw, cl, cn, ci, cs, rp, rs.length, rc, node⟩ = [(kCursor, listV [textV (stext cw cl cn), intV ci, textV cs])] := fun h => if_neg h
  have hS0 : (w = 0 ∧ l = 0 ∧ n = 0) → oS ⟨code, w, l, n, fp, fs.length, fc, ep, es.length, ec, cw, cl, cn, ci, cs, rp, rs.length, rc, node⟩ = [] := fun h => if_pos h
  have hS1 : ¬ (w = 0 ∧ l = 0 ∧ n = 0) → oS ⟨code, w, l, n, fp, fs.length, fc, ep, es.length, ec, cw, cl, cn, ci, cs, rp, rs.length, rc, node⟩ = [(kStamp, textV (stext w l n))] := fun h => if_neg h
  generalize oC ⟨code, w, l, n, fp, fs.length, fc, ep, es.length, ec, cw, cl, cn, ci, cs, rp, rs.length, rc, node⟩ = OC at *
  generalize oS ⟨code, w, l, n, fp, fs.length, fc, ep, es.length, ec, cw, cl, cn, ci, cs, rp, rs.length, rc, node⟩ = OS at *
  repeat (first
    | (refine g_ops ?_; first | refine s_qa ?_ | refine sO ?_ | refine s_n (fun _ => ?_) | refine s_app (fun _ _ => ?_) | refine s_b0 (fun _ => ?_) | ((fail_if_success refine g_lit rfl rfl rfl ?_); first | apply g_partM rfl rfl rfl | apply g_partMB rfl rfl rfl | fail))
    | refine gS ?_ | exact s_m | intro _)
  refine g_cutX (X := FoX) (fun y => [(1, ptr rb), (2, .nilIface), (3, .slice y.q y.ps.length y.c)]) (fun y => [.own y.q y.ps.length y.c 2 (y.ps.flatMap Pr.cells) 104, .row rb [int code, int w, int l, int n, .slice fp fs.length fc, .slice ep es.length ec, int cw, int cl, int cn, int ci, .string cs, .slice rp rs.length rc, int node] 52, Pile y.H]) (fun y => HP.sub H y.H ∧ FoAt y.H ([(kCode, intV code)] ++ OC) y.ps) ?_ (fun y hy => ?_)
  · by_cases hc : cw = 0 ∧ cl = 0 ∧ cn = 0 ∧ ci = 0 ∧ cs = ByteArray.empty
    · refine g_as 36 (v' := .bool false) rfl (congrArg Value.bool (by simp [hc])) ?_
      repeat (first
        | (refine g_ops ?_; first | refine sO ?_ | refine s_n (fun _ => ?_) | refine s_app (fun _ _ => ?_) | refine s_b0 (fun _ => ?_) | ((fail_if_success refine g_lit rfl rfl rfl ?_); first | apply g_partM rfl rfl rfl | apply g_partMB rfl rfl rfl | fail))
        | refine gS ?_ | exact s_m | intro _)
      exact gM ⟨[⟨kCode, .iface 3 (int code)⟩], some ⟨lb, 0, none⟩, 1, H⟩ ⟨HP.sub.refl _, by rw [hC0 hc, List.append_nil]; exact f0⟩
    · refine g_as 36 (v' := .bool true) rfl (congrArg Value.bool (by simp; apply Classical.byContradiction; intro h; simp only [not_or, Decidable.not_not] at h; exact hc ⟨h.1.1, h.1.2.1, h.1.2.2, h.2.1, h.2.2⟩)) ?_
      have htx := htc H (HP.sub.refl _)
      repeat (first | refine gS ?_ | refine g_cond_true rfl ?_)
      refine g_draw (.take 0 (.take 1 (.take 2 (.see 3 [] (.take 6 (.take 7 (.see 8 [] (.take 9 (.take 10 (.take 11 (.see 12 [] (.take 13 (.one 4 (.take 5 (.one 14 (.take 15 (.take 16 (.one 17 (.one 18 (.take 19 .done)))))))))))))))))))) (by kernel_rfl) (C := [.row rb [int code, int w, int l, int n, .slice fp fs.length fc, .slice ep es.length ec, int cw, int cl, int cn, int ci, .string cs, .slice rp rs.length rc, int node] 52, Pile H]) (by (repeat (first | exact Take.nil | apply Take.cons | exact Sel.here | apply Sel.there)); first | done | fail) (fun m hd hk => ?_)
      repeat (first
        | (refine gp_take ?_; first | refine pT ?_ | ((fail_if_success refine gp_lit rfl rfl rfl rfl ?_); first | apply gp_guard_dec rfl rfl rfl rfl | apply gp_guard rfl rfl rfl rfl | fail))
        | (refine gp_see ?_; first | refine p_f ?_ | refine pS ?_ | ((fail_if_success refine gp_lit rfl rfl rfl rfl ?_); first | apply gp_guard_dec rfl rfl rfl rfl | apply gp_guard rfl rfl rfl rfl | fail))
        | (refine gp_one ?_; first | refine pO ?_ | refine p_n (fun _ => ?_) | refine p_app (fun _ _ => ?_) | refine p_b0 (fun _ => ?_) | ((fail_if_success refine gp_lit rfl rfl rfl rfl ?_); first | apply gp_guard_dec rfl rfl rfl rfl | apply gp_guard rfl rfl rfl rfl | fail) | refine p_cP (htx) hd hk (fun _ _ => ?_))
        | refine gp_two ?_ ?_ | refine gp_done hd hk ?_ | intro _ | refine p_ta hd hk (fun _ _ _ hd hk => ?_) | refine p_ts hd hk (fun _ hd hk => ?_))
      rename_i lb2 _ q6 c6
      dsimp only [List.cons_append, List.nil_append, List.append_eq]
      refine g_toOwn (b := lb2) (len := 3) (n := 1) (by (repeat (first | exact Sel.here | apply Sel.there)); first | done | fail) rfl rfl ?_
      refine g_pile (p := some ⟨lb2, 0, none⟩) (n := 1) (by (repeat (first | exact Sel.here | apply Sel.there)); first | done | fail) (by (repeat (first | exact Sel.here | apply Sel.there)); first | done | fail) (fun H2 hs2 hS2 => ?_)
      have hit : TAt H2 (listV [textV (stext cw cl cn), intV ci, textV cs]) (.iface 105 (.slice (some ⟨lb2, 0, none⟩) 3 3)) :=
        (((LvAt.nil.snoc (HP.sub.refl _) (TAt.text (H := H2) (s := stext cw cl cn) (by omega))).snoc (HP.sub.refl _) (.int j8)).snoc (HP.sub.refl _) (.text jz)).tat (HP.sub.refl _) rfl hS2 (by omega) (by simp)
      exact gM ⟨[⟨kCode, .iface 3 (int code)⟩, ⟨kCursor, .iface 105 (.slice (some ⟨lb2, 0, none⟩) 3 3)⟩], q6, c6, H2⟩ ⟨hs2, by rw [hC1 hc]; exact (f0.grow hs2).app (.one (by decide) hit)⟩
  obtain ⟨ps, q, c, H1⟩ := y
  obtain ⟨hs1, hF⟩ := hy
  dsimp only at hs1 hF ⊢
  have hc1 := hcl H1 hs1
  repeat (first
    | (refine g_ops ?_; first | refine sO ?_ | refine s_n (fun _ => ?_) | refine s_app (fun _ _ => ?_) | refine s_b0 (fun _ => ?_) | ((fail_if_success refine g_lit rfl rfl rfl ?_); first | apply g_partM rfl rfl rfl | apply g_partMB rfl rfl rfl | fail) | refine s_c (hc1) (fun _ _ => ?_))
    | refine gS ?_ | exact s_m | intro _)
  rename_i z hz
  obtain ⟨H2, q1, c1, q2, c2, q3, c3⟩ := z
  obtain ⟨hs2, tE, tF, tR⟩ := hz
  dsimp only at hs2 tE tF tR ⊢
  try dsimp only [List.cons_append, List.nil_append, List.append_eq]
  have hF := hF.grow hs2
  have hs3 := hs1.trans hs2
  have hpl := hF.1
  rw [show ([(kCode, intV code)] ++ OC).length = _ from rfl] at hpl
  simp only [List.length_append, List.length_singleton] at hpl
  refine g_cutX (X := FoX) (fun y => [(1, ptr rb), (2, .nilIface), (3, .slice y.q y.ps.length y.c), (4, .slice q1 es.length c1), (5, .slice q2 fs.length c2), (6, .slice q3 rs.length c3)]) (fun y => [.own y.q y.ps.length y.c 2 (y.ps.flatMap Pr.cells) 104, .row rb [int code, int w, int l, int n, .slice fp fs.length fc, .slice ep es.length ec, int cw, int cl, int cn, int ci, .string cs, .slice rp rs.length rc, int node] 52, Pile H2]) (fun y => FoAt H2 (([(kCode, intV code)] ++ OC) ++ oE es) y.ps) ?_ (fun y hy => ?_)
  · refine g_cond_dec rfl (fun g => ?_) (fun g => ?_)
    · repeat (first
        | (refine g_ops ?_; first | refine sO ?_ | refine s_n (fun _ => ?_) | refine s_app (fun _ _ => ?_) | refine s_b0 (fun _ => ?_) | ((fail_if_success refine g_lit rfl rfl rfl ?_); first | apply g_partM rfl rfl rfl | apply g_partMB rfl rfl rfl | fail))
        | refine gS ?_ | exact s_m | intro _)
      rename_i q6 c6
      rw [pr_snoc, pr_len ps ⟨kEvents, .iface 105 (.slice q1 es.length c1)⟩]
      exact gM ⟨ps ++ [⟨kEvents, .iface 105 (.slice q1 es.length c1)⟩], q6, c6, H2⟩ (hF.app (by rw [show oE es = _ from if_pos (by omega)]; exact .one (by decide) tE))
    · repeat (first
        | (refine g_ops ?_; first | refine sO ?_ | refine s_n (fun _ => ?_) | refine s_app (fun _ _ => ?_) | refine s_b0 (fun _ => ?_) | ((fail_if_success refine g_lit rfl rfl rfl ?_); first | apply g_partM rfl rfl rfl | apply g_partMB rfl rfl rfl | fail))
        | refine gS ?_ | exact s_m | intro _)
      exact gM ⟨ps, q, c, H2⟩ (by rw [show oE es = [] from if_neg (by omega), List.append_nil]; exact hF)
  clear hF hpl
  obtain ⟨ps, q, c, _⟩ := y
  have hF := hy
  dsimp only at hF ⊢
  repeat (first
    | (refine g_ops ?_; first | refine s_qa ?_ | refine sO ?_ | refine s_n (fun _ => ?_) | refine s_app (fun _ _ => ?_) | refine s_b0 (fun _ => ?_) | ((fail_if_success refine g_lit rfl rfl rfl ?_); first | apply g_partM rfl rfl rfl | apply g_partMB rfl rfl rfl | fail))
    | refine gS ?_ | exact s_m | intro _)
  have hpl := hF.1
  rw [show (([(kCode, intV code)] ++ OC) ++ oE es).length = _ from rfl] at hpl
  simp only [List.length_append, List.length_singleton] at hpl
  refine g_cutX (X := FoX) (fun y => [(1, ptr rb), (2, .nilIface), (3, .slice y.q y.ps.length y.c), (4, .slice q1 es.length c1), (5, .slice q2 fs.length c2), (6, .slice q3 rs.length c3)]) (fun y => [.own y.q y.ps.length y.c 2 (y.ps.flatMap Pr.cells) 104, .row rb [int code, int w, int l, int n, .slice fp fs.length fc, .slice ep es.length ec, int cw, int cl, int cn, int ci, .string cs, .slice rp rs.length rc, int node] 52, Pile H2]) (fun y => FoAt H2 ((([(kCode, intV code)] ++ OC) ++ oE es) ++ oF fs) y.ps) ?_ (fun y hy => ?_)
  · refine g_cond_dec rfl (fun g => ?_) (fun g => ?_)
    · repeat (first
        | (refine g_ops ?_; first | refine sO ?_ | refine s_n (fun _ => ?_) | refine s_app (fun _ _ => ?_) | refine s_b0 (fun _ => ?_) | ((fail_if_success refine g_lit rfl rfl rfl ?_); first | apply g_partM rfl rfl rfl | apply g_partMB rfl rfl rfl | fail))
        | refine gS ?_ | exact s_m | intro _)
      rename_i q6 c6
      rw [pr_snoc, pr_len ps ⟨kFirsts, .iface 105 (.slice q2 fs.length c2)⟩]
      exact gM ⟨ps ++ [⟨kFirsts, .iface 105 (.slice q2 fs.length c2)⟩], q6, c6, H2⟩ (hF.app (by rw [show oF fs = _ from if_pos (by omega)]; exact .one (by decide) tF))
    · repeat (first
        | (refine g_ops ?_; first | refine sO ?_ | refine s_n (fun _ => ?_) | refine s_app (fun _ _ => ?_) | refine s_b0 (fun _ => ?_) | ((fail_if_success refine g_lit rfl rfl rfl ?_); first | apply g_partM rfl rfl rfl | apply g_partMB rfl rfl rfl | fail))
        | refine gS ?_ | exact s_m | intro _)
      exact gM ⟨ps, q, c, H2⟩ (by rw [show oF fs = [] from if_neg (by omega), List.append_nil]; exact hF)
  clear hF hpl
  obtain ⟨ps, q, c, _⟩ := y
  have hF := hy
  dsimp only at hF ⊢
  repeat (first
    | (refine g_ops ?_; first | refine s_qa ?_ | refine sO ?_ | refine s_n (fun _ => ?_) | refine s_app (fun _ _ => ?_) | refine s_b0 (fun _ => ?_) | ((fail_if_success refine g_lit rfl rfl rfl ?_); first | apply g_partM rfl rfl rfl | apply g_partMB rfl rfl rfl | fail))
    | refine gS ?_ | exact s_m | intro _)
  have hpl := hF.1
  rw [show ((([(kCode, intV code)] ++ OC) ++ oE es) ++ oF fs).length = _ from rfl] at hpl
  simp only [List.length_append, List.length_singleton] at hpl
  refine g_cutX (X := FoX) (fun y => [(1, ptr rb), (2, .nilIface), (3, .slice y.q y.ps.length y.c), (4, .slice q1 es.length c1), (5, .slice q2 fs.length c2), (6, .slice q3 rs.length c3)]) (fun y => [.own y.q y.ps.length y.c 2 (y.ps.flatMap Pr.cells) 104, .row rb [int code, int w, int l, int n, .slice fp fs.length fc, .slice ep es.length ec, int cw, int cl, int cn, int ci, .string cs, .slice rp rs.length rc, int node] 52, Pile H2]) (fun y => FoAt H2 (((([(kCode, intV code)] ++ OC) ++ oE es) ++ oF fs) ++ oR rs) y.ps) ?_ (fun y hy => ?_)
  · refine g_cond_dec rfl (fun g => ?_) (fun g => ?_)
    · repeat (first
        | (refine g_ops ?_; first | refine sO ?_ | refine s_n (fun _ => ?_) | refine s_app (fun _ _ => ?_) | refine s_b0 (fun _ => ?_) | ((fail_if_success refine g_lit rfl rfl rfl ?_); first | apply g_partM rfl rfl rfl | apply g_partMB rfl rfl rfl | fail))
        | refine gS ?_ | exact s_m | intro _)
      rename_i q6 c6
      rw [pr_snoc, pr_len ps ⟨kRanges, .iface 105 (.slice q3 rs.length c3)⟩]
      exact gM ⟨ps ++ [⟨kRanges, .iface 105 (.slice q3 rs.length c3)⟩], q6, c6, H2⟩ (hF.app (by rw [show oR rs = _ from if_pos (by omega)]; exact .one (by decide) tR))
    · repeat (first
        | (refine g_ops ?_; first | refine sO ?_ | refine s_n (fun _ => ?_) | refine s_app (fun _ _ => ?_) | refine s_b0 (fun _ => ?_) | ((fail_if_success refine g_lit rfl rfl rfl ?_); first | apply g_partM rfl rfl rfl | apply g_partMB rfl rfl rfl | fail))
        | refine gS ?_ | exact s_m | intro _)
      exact gM ⟨ps, q, c, H2⟩ (by rw [show oR rs = [] from if_neg (by omega), List.append_nil]; exact hF)
  clear hF hpl
  obtain ⟨ps, q, c, _⟩ := y
  have hF := hy
  dsimp only at hF ⊢
  repeat (first
    | (refine g_ops ?_; first | refine s_qa ?_ | refine sO ?_ | refine s_n (fun _ => ?_) | refine s_app (fun _ _ => ?_) | refine s_b0 (fun _ => ?_) | ((fail_if_success refine g_lit rfl rfl rfl ?_); first | apply g_partM rfl rfl rfl | apply g_partMB rfl rfl rfl | fail))
    | refine gS ?_ | exact s_m | intro _)
  have hpl := hF.1
  simp only [List.length_append, List.length_singleton] at hpl
  refine g_cutX (X := FoX) (fun y => [(1, ptr rb), (2, .nilIface), (3, .slice y.q y.ps.length y.c)]) (fun y => [.own y.q y.ps.length y.c 2 (y.ps.flatMap Pr.cells) 104, .row rb [int code, int w, int l, int n, .slice fp fs.length fc, .slice ep es.length ec, int cw, int cl, int cn, int ci, .string cs, .slice rp rs.length rc, int node] 52, Pile y.H]) (fun y => HP.sub H2 y.H ∧ FoAt y.H ((((([(kCode, intV code)] ++ OC) ++ oE es) ++ oF fs) ++ oR rs) ++ OS) y.ps) ?_ (fun y hy => ?_)
  · by_cases hc : w = 0 ∧ l = 0 ∧ n = 0
    · refine g_as 92 (v' := .bool false) rfl (congrArg Value.bool (by simp [hc])) ?_
      repeat (first
        | (refine g_ops ?_; first | refine sO ?_ | refine s_n (fun _ => ?_) | refine s_app (fun _ _ => ?_) | refine s_b0 (fun _ => ?_) | ((fail_if_success refine g_lit rfl rfl rfl ?_); first | apply g_partM rfl rfl rfl | apply g_partMB rfl rfl rfl | fail))
        | refine gS ?_ | exact s_m | intro _)
      exact gM ⟨ps, q, c, H2⟩ ⟨HP.sub.refl _, by rw [hS0 hc, List.append_nil]; exact hF⟩
    · refine g_as 92 (v' := .bool true) rfl (congrArg Value.bool (by simp; apply Classical.byContradiction; intro h; simp only [not_or, Decidable.not_not] at h; exact hc ⟨h.1, h.2.1, h.2.2⟩)) ?_
      have htx := hts H2 hs3
      repeat (first
        | (refine g_ops ?_; first | refine sO ?_ | refine s_n (fun _ => ?_) | refine s_app (fun _ _ => ?_) | refine s_b0 (fun _ => ?_) | ((fail_if_success refine g_lit rfl rfl rfl ?_); first | apply g_partM rfl rfl rfl | apply g_partMB rfl rfl rfl | fail) | refine s_k (htx) ?_)
        | refine gS ?_ | exact s_m | intro _)
      rename_i q6 c6
      rw [pr_snoc, pr_len ps ⟨kStamp, .iface 9 (.string (stext w l n))⟩]
      exact gM ⟨ps ++ [⟨kStamp, .iface 9 (.string (stext w l n))⟩], q6, c6, H2⟩ ⟨HP.sub.refl _, hF.app (by rw [hS1 hc]; exact .one (by decide) (.text (by omega)))⟩
  obtain ⟨ps, q, c, H3⟩ := y
  obtain ⟨hs4, hF⟩ := hy
  dsimp only at hs4 hF ⊢
  have hpl := hF.1
  have hpl2 := hpl
  simp only [List.length_append, List.length_singleton] at hpl2
  refine g_capO (by (repeat (first | exact Sel.here | apply Sel.there)); first | done | fail) (fun hcap => ?_)
  repeat (first
    | (refine g_ops ?_; first | refine sO ?_ | refine s_n (fun _ => ?_) | refine s_app (fun _ _ => ?_) | refine s_b0 (fun _ => ?_) | ((fail_if_success refine g_lit rfl rfl rfl ?_); first | apply g_partM rfl rfl rfl | apply g_partMB rfl rfl rfl | fail))
    | refine gS ?_ | exact s_m | intro _)
  refine g_pile (n := 2) (by (repeat (first | exact Sel.here | apply Sel.there)); first | done | fail) (by (repeat (first | exact Sel.here | apply Sel.there)); first | done | fail) (fun H4 hs5 hS2 => ?_)
  exact gR (H4, .iface 89 (.slice q ps.length c)) ⟨hs3.trans (hs4.trans hs5), hF.tat hs5 hS2 hcap (by rw [← hpl]; omega)⟩
end Go.Proofs.YtaahibcibgljbaaGreatDoor

namespace Go.Sl
variable {P : Program} {Γ : Ctx} {L R : List Chunk} {N : Nat} {fr : Fr} {Q : Exit → Act → World → Prop} {ops : Array Oper} {rest : List Oper}
variable {d : Nat} {ty : TypeId} {pos : String} {aft : Array Edge} {gd : Option (Nat × Bool)} {x y z : Operand} {v u : Value} {t t2 tx : TypeId}
theorem madeR (zs : List Value) (hn : 0 < zs.length) (m : Nat) : (madeCells zs.toArray (m * zs.length)).toList = (List.replicate m ()).flatMap (fun _ => zs) := by
  simp only [madeCells]
  induction m with
  | zero => simp
  | succ m ih =>
    rw [List.replicate_succ', List.flatMap_append, List.flatMap_singleton, ← ih]
    apply List.ext_getElem
    · simp [Nat.succ_mul]
    · intro i h1 h2
      simp only [Array.length_toList, Array.size_map, Array.size_range] at h1
      rw [Nat.succ_mul] at h1
      rw [List.getElem_append]
      split
      · simp
      · rename_i h
        simp only [Array.length_toList, Array.size_map, Array.size_range] at h
        have hm : i % zs.length = i - m * zs.length := by
          have hr : i - m * zs.length < zs.length := by omega
          have e : i = (i - m * zs.length) + zs.length * m := by rw [Nat.mul_comm zs.length m]; omega
          rw [e, Nat.add_mul_mod_self_left, Nat.mod_eq_of_lt hr, ← e]
        have hr : i - m * zs.length < zs.length := by omega
        simp [hm, hr]
theorem cs_makeR {e m n k : Nat} {zs : List Value} {zv : Value} (D : TDesc P t (.slice e)) (S : TSize P e n) (Z : TZero P e zv) (B : TBytes P e k) (hz1 : zv.cells = zs.toArray) (hz2 : zs.length = n) (hn : 0 < n) (hz3 : zs.all (·.oneCell') = true) (hx : ev fr x = some (.int .i64 (m : Int))) (hy : ev fr y = some (.int .i64 (m : Int))) (h63 : m ≤ 1000000000) (hb : k ≤ 1000) :
    CStep P Γ fr L ⟨some d, .makeSlice t x y, ty, pos, aft, gd⟩ (X := Nat) (fun b => .slice (some ⟨b, 0, none⟩) m m) (fun b => .own (some ⟨b, 0, none⟩) m m n ((List.replicate m ()).flatMap fun _ => zs) e :: L) (fun _ => True) :=
  cs_of (fun a w hf hh => by
    subst hz2
    cases hi : P.info? e with
    | none => have := S.size; simp [hi] at this
    | some i =>
      have hsz : i.size = zs.length := by have := S.size; simpa [hi] using this
      have hz : i.zero = some zv := by have := Z.zero; simpa [hi] using this
      have hk : i.bytes = k := by have := B.bytes; simpa [hi] using this
      have hmul : k * m ≤ 1000 * 1000000000 := Nat.mul_le_mul hb h63
      have hr := run_make w t e i _ D.desc hi hz .i64 .i64 (m : Int) (m : Int) (by omega) (Int.le_refl _) (by rw [hk]; rw [← Int.natCast_mul]; omega) (by omega)
      rw [hsz, Int.toNat_natCast] at hr
      refine ⟨w.heap.size, w.alloc (.cells (madeCells zv.cells (m * zs.length)) e), trivial, by simp only [execOp, hf.ev hx, hf.ev hy]; rw [Sem.run_bind, hr]; rfl, ?_⟩
      refine Holds.toOwn ?_ (by rw [← madeR zs hn]; simp [size_madeCells]) (by
        rw [List.all_eq_true]
        intro c hc
        obtain ⟨_, _, hc⟩ := List.mem_flatMap.1 hc
        exact List.all_eq_true.1 hz3 c hc)
      have hnew := hh.newRow (e := e) (xs := madeCells zv.cells (m * zs.length))
      have e1 : madeCells zv.cells (m * zs.length) = ((List.replicate m ()).flatMap fun _ => zs).toArray := by
        apply Array.ext'
        rw [hz1]
        exact madeR zs hn m
      rw [e1] at hnew ⊢
      exact hnew)
theorem ss_storeOwnA {b k len cap n m : Nat} {xs vs : List Value} {e : TypeId} (T : TSize P t m) (hx : ev fr x = some (.pointer (some ⟨b, k, none⟩))) (hy : ev fr y = some v) (hv : v.cells.toList = vs) (hm : vs.length = m) (h1 : vs.all (·.oneCell') = true) (s : Sel L (.own (some ⟨b, 0, none⟩) len cap n xs e) R) (hk : k + vs.length ≤ xs.length) (hk0 : 0 < xs.length) :
    SStep P Γ fr L ⟨none, .store t x y, ty, pos, aft, gd⟩ (.own (some ⟨b, 0, none⟩) len cap n (xs.take k ++ vs ++ xs.drop (k + vs.length)) e :: R) := fun a hf w hh => by
  obtain ⟨junk, ⟨hl, ho⟩, e3, e4, hrow⟩ := hh.ownRow s hk0
  have hst := ss_storeE (P := P) (Γ := Γ) (fr := fr) (t := t) (ty := ty) (pos := pos) (aft := aft) (gd := gd) (n := m) (vs := vs) (ys := (xs ++ junk).take k ++ vs ++ (xs ++ junk).drop (k + vs.length)) hx hy (.here (L := R)) hv hm h1 (Nat.zero_le _) ⟨by simp only [List.length_append]; omega, rfl⟩ a hf w hrow
  refine hst.mono fun u w' h => h.mono fun _ ⟨k1, k2, dj', t1, t2, hc', hr'⟩ => ⟨k1, k2, dj', t1, t2, ⟨⟨by rw [← hl]; simp; omega, ?_⟩, .inr ⟨b, junk, rfl, e3, e4, ?_⟩⟩, hr'⟩
  · rw [List.all_eq_true] at ho h1 ⊢
    intro z hz
    rcases List.mem_append.1 hz with hz | hz
    · rcases List.mem_append.1 hz with hz | hz
      · exact ho z (List.mem_of_mem_take hz)
      · exact h1 z hz
    · exact ho z (List.mem_of_mem_drop hz)
  · have hc'' : k1 b = some (.cells ((xs ++ junk).take k ++ vs ++ (xs ++ junk).drop (k + vs.length)).toArray e (0, 0)) := hc'
    rw [hc'', List.take_append_of_le_length (by omega), List.drop_append_of_le_length (by omega)]
    simp
end Go.Sl
namespace Go.Proofs.YtaahibcibgljbaaGreatDoor
open Go.Sl facts
attribute [local irreducible] Code.wp wpList Exit.then Exit.inBlock bodyPost Back MidQ G GP QStep VStep CStep SStep Does Post Reads
abbrev zPr : List Value := [.string ByteArray.empty, .nilIface]
theorem flat_len' {qs : List Pr} {l : List V} {i : Nat} (h : qs.length = i) : (qs.flatMap Pr.cells ++ (List.replicate (l.length - i) ()).flatMap fun _ => zPr).length = i * 2 + (l.length - i) * 2 := by
  rw [List.length_append, flat_len Pr.len, flat_len (f := fun _ : Unit => zPr) (n := 2) (fun _ => rfl), List.length_replicate, h]
theorem put_next {qs : List Pr} {m i : Nat} (hl : qs.length = i) (k : ByteArray) (w : Value) :
    (qs.flatMap Pr.cells ++ (List.replicate (m + 1) ()).flatMap fun _ => zPr).take (0 + i * 2) ++ [.string k, w] ++ (qs.flatMap Pr.cells ++ (List.replicate (m + 1) ()).flatMap fun _ => zPr).drop (0 + i * 2 + [Value.string k, w].length) = (qs ++ [(⟨k, w⟩ : Pr)]).flatMap Pr.cells ++ (List.replicate m ()).flatMap fun _ => zPr := by
  have e : 0 + i * 2 = (qs.flatMap Pr.cells).length := by rw [flat_len Pr.len, hl]; omega
  have e2 : (List.replicate (m + 1) ()).flatMap (fun _ => zPr) = zPr ++ (List.replicate m ()).flatMap fun _ => zPr := by rw [List.replicate_succ, List.flatMap_cons]
  rw [e, List.take_left' rfl, e2, ← List.drop_drop, List.drop_left, List.flatMap_append]
  simp [Pr.cells]
theorem tatq_at {H H' : HP} {l : List V} {qs : List Pr} {i : Nat} {x : V} {k : ByteArray} {w : Value} (hs : HP.sub H H') (hl : qs.length = i) (h : ∀ (j : Nat) a q, l[j]? = some a → qs[j]? = some q → TAt H a q.v) (hx : l[i]? = some x) (hw : TAt H' x w) : ∀ (j : Nat) a q', l[j]? = some a → (qs ++ [(⟨k, w⟩ : Pr)])[j]? = some q' → TAt H' a q'.v := fun j a u' h1 h2 => by
  rcases Nat.lt_or_ge j qs.length with hlt | hge
  · rw [List.getElem?_append_left hlt] at h2
    exact (h j a u' h1 h2).grow hs
  · rw [List.getElem?_append_right hge] at h2
    have hj : j = i := by
      have := (List.getElem?_eq_some_iff.1 h2).1
      simp only [List.length_singleton] at this
      omega
    subst hj
    rw [hl, Nat.sub_self] at h2
    rw [hx] at h1
    cases h1
    cases h2
    exact hw
structure OpX where
  i : Nat
  qs : List Pr
  H : HP
structure OwX where
  i : Nat
  ws : List Value
  H : HP
theorem flat_nil1 (m : Nat) (v : Value) : ((List.replicate m ()).flatMap fun _ => [v]) = List.replicate m v := by
  induction m with
  | zero => rfl
  | succ m ih => rw [List.replicate_succ, List.flatMap_cons, ih, List.replicate_succ]; rfl
theorem set_next (ws : List Value) (m : Nat) (z w : Value) : (ws ++ List.replicate (m + 1) z).set ws.length w = ws ++ [w] ++ List.replicate m z := by
  rw [List.set_append_right _ _ (Nat.le_refl _), Nat.sub_self, List.replicate_succ]; simp
theorem tats_at {H H' : HP} {l : List V} {ws : List Value} {i : Nat} {x : V} {w : Value} (hs : HP.sub H H') (hl : ws.length = i) (h : ∀ (j : Nat) a u, l[j]? = some a → ws[j]? = some u → TAt H a u) (hx : l[i]? = some x) (hw : TAt H' x w) : ∀ (j : Nat) a u', l[j]? = some a → (ws ++ [w])[j]? = some u' → TAt H' a u' := fun j a u' h1 h2 => by
  rcases Nat.lt_or_ge j ws.length with hlt | hge
  · rw [List.getElem?_append_left hlt] at h2
    exact (h j a u' h1 h2).grow hs
  · rw [List.getElem?_append_right hge] at h2
    have hj : j = i := by
      have := (List.getElem?_eq_some_iff.1 h2).1
      simp only [List.length_singleton] at this
      omega
    subst hj
    rw [hl, Nat.sub_self] at h2
    rw [hx] at h1
    cases h1
    cases h2
    exact hw
abbrev OwnD (H : HP) (v : V) (x : Value) : Prop := Does Tryz.prog 28 [x] [Pile H] (X := HP × Value) (fun y => y.2) (fun y => [Pile y.1]) (fun y => HP.sub H y.1 ∧ TAt y.1 v y.2)
set_option maxHeartbeats 4000000 in
theorem own_ (v : V) : ∀ (H : HP) (x : Value), TAt H v x → szV v ≤ 100000000 → OwnD H v x := by
  refine V.ind (Q := fun v => ∀ (H : HP) (x : Value), TAt H v x → szV v ≤ 100000000 → OwnD H v x) (fun k y n s ks l ih H x hx hsz => ?_) v
  unfold OwnD
  rw [szV_mk] at hsz
  have hsl := szK_len l
  have hx0 := hx
  cases hx with
  | nil =>
    refine fn_intro Tryz.func28 rfl Tryz.ntmps28 rfl (by simp only [argFr, Nat.zero_add, Nat.reduceAdd]; rfl) (fun Γ => ?_)
    repeat (first
      | (refine g_ops ?_; first | refine sO ?_ | refine s_n (fun _ => ?_) | refine s_app (fun _ _ => ?_) | refine s_b0 (fun _ => ?_) | ((fail_if_success refine g_lit rfl rfl rfl ?_); first | apply g_partM rfl rfl rfl | apply g_partMB rfl rfl rfl | fail))
      | refine gS ?_ | exact s_m | intro _)
    exact gR (H, .nilIface) ⟨HP.sub.refl _, hx0⟩
  | bool =>
    refine fn_intro Tryz.func28 rfl Tryz.ntmps28 rfl (by simp only [argFr, Nat.zero_add, Nat.reduceAdd]; rfl) (fun Γ => ?_)
    repeat (first
      | (refine g_ops ?_; first | refine sO ?_ | refine s_n (fun _ => ?_) | refine s_app (fun _ _ => ?_) | refine s_b0 (fun _ => ?_) | ((fail_if_success refine g_lit rfl rfl rfl ?_); first | apply g_partM rfl rfl rfl | apply g_partMB rfl rfl rfl | fail))
      | refine gS ?_ | exact s_m | intro _)
    exact gR (H, .iface 4 (.bool y)) ⟨HP.sub.refl _, hx0⟩
  | int hn =>
    refine fn_intro Tryz.func28 rfl Tryz.ntmps28 rfl (by simp only [argFr, Nat.zero_add, Nat.reduceAdd]; rfl) (fun Γ => ?_)
    repeat (first
      | (refine g_ops ?_; first | refine sO ?_ | refine s_n (fun _ => ?_) | refine s_app (fun _ _ => ?_) | refine s_b0 (fun _ => ?_) | ((fail_if_success refine g_lit rfl rfl rfl ?_); first | apply g_partM rfl rfl rfl | apply g_partMB rfl rfl rfl | fail))
      | refine gS ?_ | exact s_m | intro _)
    exact gR (H, .iface 3 (int n)) ⟨HP.sub.refl _, hx0⟩
  | text hs =>
    refine fn_intro Tryz.func28 rfl Tryz.ntmps28 rfl (by simp only [argFr, Nat.zero_add, Nat.reduceAdd]; rfl) (fun Γ => ?_)
    repeat (first
      | (refine g_ops ?_; first | refine sO ?_ | refine s_n (fun _ => ?_) | refine s_app (fun _ _ => ?_) | refine s_b0 (fun _ => ?_) | ((fail_if_success refine g_lit rfl rfl rfl ?_); first | apply g_partM rfl rfl rfl | apply g_partMB rfl rfl rfl | fail))
      | refine gS ?_ | exact s_m | intro _)
    exact gR (H, .iface 9 (.string s)) ⟨HP.sub.refl _, hx0⟩
  | list vs hv hl hS h =>
    rename_i p c
    refine fn_intro Tryz.func28 rfl Tryz.ntmps28 rfl (by simp only [argFr, Nat.zero_add, Nat.reduceAdd]; rfl) (fun Γ => ?_)
    repeat (first
      | (refine g_ops ?_; first | refine sO ?_ | refine s_n (fun _ => ?_) | refine s_app (fun _ _ => ?_) | refine s_b0 (fun _ => ?_) | ((fail_if_success refine g_lit rfl rfl rfl ?_); first | apply g_partM rfl rfl rfl | apply g_partMB rfl rfl rfl | fail))
      | refine gS ?_ | exact s_m | intro _)
    refine g_ops ?_
    refine s_n (q := cs_makeR (zs := [.nilIface]) (n := 1) inferInstance inferInstance inferInstance inferInstance rfl rfl (by decide) rfl rfl rfl (by omega) (by decide)) (fun b => ?_)
    repeat (first
      | (refine g_ops ?_; first | refine sO ?_ | refine s_n (fun _ => ?_) | refine s_app (fun _ _ => ?_) | refine s_b0 (fun _ => ?_) | ((fail_if_success refine g_lit rfl rfl rfl ?_); first | apply g_partM rfl rfl rfl | apply g_partMB rfl rfl rfl | fail))
      | refine gS ?_ | exact s_m | intro _)
    rw [flat_nil1]
    refine g_loop (X := OwX) (fun x => [(18, .slice p l.length c), (19, int l.length), (20, int x.i), (4, .slice (some ⟨b, 0, none⟩) l.length l.length)]) (fun x => [.own (some ⟨b, 0, none⟩) l.length l.length 1 (x.ws ++ List.replicate (l.length - x.i) .nilIface) 20, Pile x.H])
      (fun x => x.i ≤ l.length ∧ x.ws.length = x.i ∧ HP.sub H x.H ∧ ∀ (j : Nat) a w, l[j]? = some a → x.ws[j]? = some w → TAt x.H a w) (fun x => l.length - x.i) ⟨0, [], H⟩ ⟨Nat.zero_le _, rfl, HP.sub.refl _, fun j a w _ hw => (nil_get hw).elim⟩ (by (repeat (first | exact FrSub.nil | refine FrSub.cons rfl ?_)); first | done | fail) (by (repeat (first | exact Take.nil | apply Take.cons | exact Sel.here | apply Sel.there)); first | done | fail) (fun x hx => ?_)
    obtain ⟨i, ws, H1⟩ := x
    obtain ⟨hi, hwl, hs1, hts⟩ := hx
    dsimp only at hi hwl hs1 hts ⊢
    repeat (first
      | (refine g_ops ?_; first | refine sO ?_ | refine s_n (fun _ => ?_) | refine s_app (fun _ _ => ?_) | refine s_b0 (fun _ => ?_) | ((fail_if_success refine g_lit rfl rfl rfl ?_); first | apply g_partM rfl rfl rfl | apply g_partMB rfl rfl rfl | fail))
      | refine gS ?_ | exact s_m | intro _)
    refine g_cond_dec rfl (fun h2 => ?_) (fun h2 => ?_)
    · have hi' : i < l.length := by omega
      have hgl : l[i]? = some l[i] := List.getElem?_eq_getElem hi'
      have hgv : vs[i]? = some (vs[i]'(by omega)) := List.getElem?_eq_getElem _
      have hmem : l[i] ∈ l := List.getElem_mem _
      have hat := (h i _ _ hgl hgv).grow hs1
      obtain ⟨b3, o, rfl, hr0⟩ := slAt_cell (hS.grow hs1) hgv
      have hsx := szK_mem hmem
      generalize l[i] = x at hat hmem hsx hgl
      generalize vs[i]'_ = w at hat hr0
      have hr : ∀ k', k' = i → Reads (Pile H1) ⟨b3, o + k', none⟩ w := fun _ e => e ▸ hr0
      have hc := ih x hmem H1 w hat (by omega)
      unfold OwnD at hc
      have hw1 := hat.one
      repeat (first
        | (refine g_ops ?_; first | refine sO ?_ | refine s_n (fun _ => ?_) | refine s_app (fun _ _ => ?_) | refine s_b0 (fun _ => ?_) | ((fail_if_success refine g_lit rfl rfl rfl ?_); first | apply g_partM rfl rfl rfl | apply g_partMB rfl rfl rfl | fail) | refine s_c (hc) (fun _ _ => ?_))
        | refine gS ?_ | exact s_m | intro _)
      rename_i z hz
      obtain ⟨H2, w2⟩ := z
      obtain ⟨hs2, hat2⟩ := hz
      dsimp only [List.cons_append, List.nil_append] at hs2 hat2 ⊢
      have hw2 := hat2.one
      refine g_ops ?_
      refine g_s (ss_storeOwn (v := w2) inferInstance rfl rfl hw2 (by (repeat (first | exact Sel.here | apply Sel.there)); first | done | fail) (by simp; omega)) rfl ?_
      rw [show 0 + i = ws.length by omega, show l.length - i = (l.length - (i + 1)) + 1 by omega, set_next]
      repeat (first
        | (refine g_ops ?_; first | refine sO ?_ | refine s_n (fun _ => ?_) | refine s_app (fun _ _ => ?_) | refine s_b0 (fun _ => ?_) | ((fail_if_success refine g_lit rfl rfl rfl ?_); first | apply g_partM rfl rfl rfl | apply g_partMB rfl rfl rfl | fail))
        | refine gS ?_ | exact s_m | intro _)
      refine g_as 20 (v' := int ((i + 1 : Nat) : Int)) rfl (congrArg (Value.int .i64) (by push_cast; rfl)) ?_
      refine gA ⟨i + 1, ws ++ [w2], H2⟩ (by simp only; omega) ⟨hi', by simp [hwl], hs1.trans hs2, tats_at hs2 hwl hts hgl hat2⟩
    · obtain rfl : i = l.length := by omega
      rw [Nat.sub_self, List.replicate_zero, List.append_nil]
      repeat (first
        | (refine g_ops ?_; first | refine sO ?_ | refine s_n (fun _ => ?_) | refine s_app (fun _ _ => ?_) | refine s_b0 (fun _ => ?_) | ((fail_if_success refine g_lit rfl rfl rfl ?_); first | apply g_partM rfl rfl rfl | apply g_partMB rfl rfl rfl | fail))
        | refine gS ?_ | exact s_m | intro _)
      refine g_pile (n := 1) (by (repeat (first | exact Sel.here | apply Sel.there)); first | done | fail) (by (repeat (first | exact Sel.here | apply Sel.there)); first | done | fail) (fun H2 hs2 hS2 => ?_)
      exact gR (H2, .iface 105 (.slice (some ⟨b, 0, none⟩) l.length l.length)) ⟨hs1.trans hs2, .list ws hwl (by omega) hS2 fun j a w h1 h2 => (hts j a w h1 h2).grow hs2⟩
  | pairs ps hv hl hk hz hS h =>
    rename_i p c
    refine fn_intro Tryz.func28 rfl Tryz.ntmps28 rfl (by simp only [argFr, Nat.zero_add, Nat.reduceAdd]; rfl) (fun Γ => ?_)
    repeat (first
      | (refine g_ops ?_; first | refine sO ?_ | refine s_n (fun _ => ?_) | refine s_app (fun _ _ => ?_) | refine s_b0 (fun _ => ?_) | ((fail_if_success refine g_lit rfl rfl rfl ?_); first | apply g_partM rfl rfl rfl | apply g_partMB rfl rfl rfl | fail))
      | refine gS ?_ | exact s_m | intro _)
    refine g_ops ?_
    refine s_n (q := cs_makeR (zs := zPr) (n := 2) inferInstance inferInstance inferInstance inferInstance rfl rfl (by decide) rfl rfl rfl (by omega) (by decide)) (fun b => ?_)
    repeat (first
      | (refine g_ops ?_; first | refine sO ?_ | refine s_n (fun _ => ?_) | refine s_app (fun _ _ => ?_) | refine s_b0 (fun _ => ?_) | ((fail_if_success refine g_lit rfl rfl rfl ?_); first | apply g_partM rfl rfl rfl | apply g_partMB rfl rfl rfl | fail))
      | refine gS ?_ | exact s_m | intro _)
    refine g_loop (X := OpX) (fun x => [(39, .slice p l.length c), (40, int l.length), (41, int x.i), (8, .slice (some ⟨b, 0, none⟩) l.length l.length)]) (fun x => [.own (some ⟨b, 0, none⟩) l.length l.length 2 (x.qs.flatMap Pr.cells ++ (List.replicate (l.length - x.i) ()).flatMap fun _ => zPr) 104, Pile x.H])
      (fun x => x.i ≤ l.length ∧ x.qs.length = x.i ∧ x.qs.map Pr.k = ks.take x.i ∧ HP.sub H x.H ∧ ∀ (j : Nat) a q, l[j]? = some a → x.qs[j]? = some q → TAt x.H a q.v) (fun x => l.length - x.i) ⟨0, [], H⟩ ⟨Nat.zero_le _, rfl, rfl, HP.sub.refl _, fun j a w _ hw => by simp at hw⟩ (by (repeat (first | exact FrSub.nil | refine FrSub.cons rfl ?_)); first | done | fail) (by (repeat (first | exact Take.nil | apply Take.cons | exact Sel.here | apply Sel.there)); first | done | fail) (fun x hx => ?_)
    obtain ⟨i, qs, H1⟩ := x
    obtain ⟨hi, hwl, hqk, hs1, hts⟩ := hx
    dsimp only at hi hwl hqk hs1 hts ⊢
    repeat (first
      | (refine g_ops ?_; first | refine sO ?_ | refine s_n (fun _ => ?_) | refine s_app (fun _ _ => ?_) | refine s_b0 (fun _ => ?_) | ((fail_if_success refine g_lit rfl rfl rfl ?_); first | apply g_partM rfl rfl rfl | apply g_partMB rfl rfl rfl | fail))
      | refine gS ?_ | exact s_m | intro _)
    refine g_cond_dec rfl (fun h2 => ?_) (fun h2 => ?_)
    · have hi' : i < l.length := by omega
      have hgl : l[i]? = some l[i] := List.getElem?_eq_getElem hi'
      have hgv : ps[i]? = some (ps[i]'(by omega)) := List.getElem?_eq_getElem _
      have hmem : l[i] ∈ l := List.getElem_mem _
      have hat := (h i _ _ hgl hgv).grow hs1
      obtain ⟨b3, o, rfl, hrow⟩ := slAt_elem (hS.grow hs1) Pr.len (by decide) hgv
      have hsx := szK_mem hmem
      generalize l[i] = x at hat hmem hsx hgl
      generalize ps[i]'_ = w at hat hrow hgv
      have htake : ks.take (i + 1) = ks.take i ++ [w.k] := by rw [List.take_add_one, hk, List.getElem?_map, hgv]; rfl
      obtain ⟨wk, wv⟩ := w
      replace hrow : ∀ (j : Nat) (v : Value), [Value.string wk, wv][j]? = some v → Reads (Pile H1) ⟨b3, o + i * 2 + j, none⟩ v := hrow
      dsimp only at hat htake
      have hc := ih x hmem H1 wv hat (by omega)
      unfold OwnD at hc
      have hw1 := hat.one
      repeat (first
        | (refine g_ops ?_; first | refine sO ?_ | refine s_n (fun _ => ?_) | refine s_app (fun _ _ => ?_) | refine s_b0 (fun _ => ?_) | ((fail_if_success refine g_lit rfl rfl rfl ?_); first | apply g_partM rfl rfl rfl | apply g_partMB rfl rfl rfl | fail))
        | refine gS ?_ | exact s_m | intro _)
      rename_i pb
      refine g_ops ?_
      refine s_s (q := ss_storeA' inferInstance rfl rfl rfl (show ([Value.string wk, wv].all (·.oneCell')) = true by simp only [List.all_cons, List.all_nil, hw1]; rfl) (by (repeat (first | exact Sel.here | apply Sel.there)); first | done | fail) (by (repeat (first | exact Put.nil | apply Put.here | apply Put.skip)); first | done | fail)) ?_
      repeat (first | refine gS ?_ | refine g_cond_true rfl ?_)
      refine g_draw (.take 0 (.take 1 (.take 2 (.see 3 [] (.take 4 (.see 5 [] (.one 6 (.take 7 (.take 8 (.one 9 .done)))))))))) (by kernel_rfl) (C := [.row pb [.string wk, wv] 104]) (by (repeat (first | exact Take.nil | apply Take.cons | exact Sel.here | apply Sel.there)); first | done | fail) (fun m hd hk => ?_)
      repeat (first
        | (refine gp_take ?_; first | refine pT ?_ | ((fail_if_success refine gp_lit rfl rfl rfl rfl ?_); first | apply gp_guard_dec rfl rfl rfl rfl | apply gp_guard rfl rfl rfl rfl | fail))
        | (refine gp_see ?_; first | refine p_f ?_ | refine pS ?_ | ((fail_if_success refine gp_lit rfl rfl rfl rfl ?_); first | apply gp_guard_dec rfl rfl rfl rfl | apply gp_guard rfl rfl rfl rfl | fail))
        | (refine gp_one ?_; first | refine pO ?_ | refine p_n (fun _ => ?_) | refine p_app (fun _ _ => ?_) | refine p_b0 (fun _ => ?_) | ((fail_if_success refine gp_lit rfl rfl rfl rfl ?_); first | apply gp_guard_dec rfl rfl rfl rfl | apply gp_guard rfl rfl rfl rfl | fail) | refine p_c (hc) (fun _ _ => ?_))
        | refine gp_two ?_ ?_ | refine gp_done hd hk ?_ | intro _ | refine p_ta hd hk (fun _ _ _ hd hk => ?_) | refine p_ts hd hk (fun _ hd hk => ?_))
      rename_i z hz
      obtain ⟨H2, w2⟩ := z
      obtain ⟨hs2, hat2⟩ := hz
      dsimp only [List.cons_append, List.nil_append, List.append_eq] at hs2 hat2 ⊢
      rcases hat2.shape with rfl | ⟨t, v', rfl⟩
      · repeat (first
          | (refine gp_take ?_; first | refine pT ?_ | ((fail_if_success refine gp_lit rfl rfl rfl rfl ?_); first | apply gp_guard_dec rfl rfl rfl rfl | apply gp_guard rfl rfl rfl rfl | fail))
          | (refine gp_see ?_; first | refine p_f ?_ | refine pS ?_ | ((fail_if_success refine gp_lit rfl rfl rfl rfl ?_); first | apply gp_guard_dec rfl rfl rfl rfl | apply gp_guard rfl rfl rfl rfl | fail))
          | (refine gp_one ?_; first | refine pO ?_ | refine p_n (fun _ => ?_) | refine p_app (fun _ _ => ?_) | refine p_b0 (fun _ => ?_) | ((fail_if_success refine gp_lit rfl rfl rfl rfl ?_); first | apply gp_guard_dec rfl rfl rfl rfl | apply gp_guard rfl rfl rfl rfl | fail))
          | refine gp_two ?_ ?_ | refine gp_done hd hk ?_ | intro _ | refine p_ta hd hk (fun _ _ _ hd hk => ?_) | refine p_ts hd hk (fun _ hd hk => ?_))
        refine gp_one ?_
        refine p_s (q := ss_storeOwnA (vs := [.string wk, .nilIface]) inferInstance rfl rfl rfl rfl rfl (by (repeat (first | exact Sel.here | apply Sel.there)); first | done | fail) (by rw [flat_len' hwl]; simp only [List.length_cons, List.length_nil]; omega) (by rw [flat_len' hwl]; omega)) ?_
        refine gp_done hd hk ?_
        rw [show l.length - i = (l.length - (i + 1)) + 1 by omega, put_next hwl]
        dsimp only [List.cons_append, List.nil_append, List.append_eq]
        repeat (first
          | (refine g_ops ?_; first | refine sO ?_ | refine s_n (fun _ => ?_) | refine s_app (fun _ _ => ?_) | refine s_b0 (fun _ => ?_) | ((fail_if_success refine g_lit rfl rfl rfl ?_); first | apply g_partM rfl rfl rfl | apply g_partMB rfl rfl rfl | fail))
          | refine gS ?_ | exact s_m | intro _)
        refine g_as 41 (v' := int ((i + 1 : Nat) : Int)) rfl (congrArg (Value.int .i64) (by push_cast; rfl)) ?_
        refine gA ⟨i + 1, qs ++ [⟨wk, .nilIface⟩], H2⟩ (by simp only; omega) ⟨hi', by simp [hwl], by dsimp only; rw [List.map_append, hqk, htake]; rfl, hs1.trans hs2, tatq_at hs2 hwl hts hgl hat2⟩
      · repeat (first
          | (refine gp_take ?_; first | refine pT ?_ | ((fail_if_success refine gp_lit rfl rfl rfl rfl ?_); first | apply gp_guard_dec rfl rfl rfl rfl | apply gp_guard rfl rfl rfl rfl | fail))
          | (refine gp_see ?_; first | refine p_f ?_ | refine pS ?_ | ((fail_if_success refine gp_lit rfl rfl rfl rfl ?_); first | apply gp_guard_dec rfl rfl rfl rfl | apply gp_guard rfl rfl rfl rfl | fail))
          | (refine gp_one ?_; first | refine pO ?_ | refine p_n (fun _ => ?_) | refine p_app (fun _ _ => ?_) | refine p_b0 (fun _ => ?_) | ((fail_if_success refine gp_lit rfl rfl rfl rfl ?_); first | apply gp_guard_dec rfl rfl rfl rfl | apply gp_guard rfl rfl rfl rfl | fail))
          | refine gp_two ?_ ?_ | refine gp_done hd hk ?_ | intro _ | refine p_ta hd hk (fun _ _ _ hd hk => ?_) | refine p_ts hd hk (fun _ hd hk => ?_))
        refine gp_one ?_
        refine p_s (q := ss_storeOwnA (vs := [.string wk, .iface t v']) inferInstance rfl rfl rfl rfl rfl (by (repeat (first | exact Sel.here | apply Sel.there)); first | done | fail) (by rw [flat_len' hwl]; simp only [List.length_cons, List.length_nil]; omega) (by rw [flat_len' hwl]; omega)) ?_
        refine gp_done hd hk ?_
        rw [show l.length - i = (l.length - (i + 1)) + 1 by omega, put_next hwl]
        dsimp only [List.cons_append, List.nil_append, List.append_eq]
        repeat (first
          | (refine g_ops ?_; first | refine sO ?_ | refine s_n (fun _ => ?_) | refine s_app (fun _ _ => ?_) | refine s_b0 (fun _ => ?_) | ((fail_if_success refine g_lit rfl rfl rfl ?_); first | apply g_partM rfl rfl rfl | apply g_partMB rfl rfl rfl | fail))
          | refine gS ?_ | exact s_m | intro _)
        refine g_as 41 (v' := int ((i + 1 : Nat) : Int)) rfl (congrArg (Value.int .i64) (by push_cast; rfl)) ?_
        refine gA ⟨i + 1, qs ++ [⟨wk, .iface t v'⟩], H2⟩ (by simp only; omega) ⟨hi', by simp [hwl], by dsimp only; rw [List.map_append, hqk, htake]; rfl, hs1.trans hs2, tatq_at hs2 hwl hts hgl hat2⟩
    · obtain rfl : i = l.length := by omega
      rw [Nat.sub_self, List.replicate_zero, List.flatMap_nil, List.append_nil]
      have hkk : ks.take l.length = ks := List.take_of_length_le (by rw [hk, List.length_map]; omega)
      rw [hkk] at hqk
      repeat (first
        | (refine g_ops ?_; first | refine sO ?_ | refine s_n (fun _ => ?_) | refine s_app (fun _ _ => ?_) | refine s_b0 (fun _ => ?_) | ((fail_if_success refine g_lit rfl rfl rfl ?_); first | apply g_partM rfl rfl rfl | apply g_partMB rfl rfl rfl | fail))
        | refine gS ?_ | exact s_m | intro _)
      refine g_pile (n := 2) (by (repeat (first | exact Sel.here | apply Sel.there)); first | done | fail) (by (repeat (first | exact Sel.here | apply Sel.there)); first | done | fail) (fun H2 hs2 hS2 => ?_)
      exact gR (H2, .iface 89 (.slice (some ⟨b, 0, none⟩) l.length l.length)) ⟨hs1.trans hs2, .pairs qs hwl (by omega) hqk.symm (fun q hq => by
        have hm : q.k ∈ ps.map Pr.k := by rw [← hk, ← hqk]; exact List.mem_map_of_mem hq
        obtain ⟨q', hq', e⟩ := List.mem_map.1 hm
        rw [← e]; exact hz q' hq') hS2 fun j a w h1 h2 => (hts j a w h1 h2).grow hs2⟩
  | other hk h1 h2 h3 h4 h5 =>
    rename_i t u
    refine fn_intro Tryz.func28 rfl Tryz.ntmps28 rfl (by simp only [argFr, Nat.zero_add, Nat.reduceAdd]; rfl) (fun Γ => ?_)
    repeat (first
      | (refine g_ops ?_; first | refine sO ?_ | refine s_n (fun _ => ?_) | refine s_app (fun _ _ => ?_) | refine s_b0 (fun _ => ?_) | ((fail_if_success refine g_lit rfl rfl rfl ?_); first | apply g_partM rfl rfl rfl | apply g_partMB rfl rfl rfl | fail))
      | refine gS ?_ | exact s_m | intro _)
    exact gR (H, .iface t u) ⟨HP.sub.refl _, hx0⟩
end Go.Proofs.YtaahibcibgljbaaGreatDoor
