/- Contracts and laws that the proof stands on. -/
import Derived.Test.YtaahibcibgljbaaDoorCallReplies24
set_option linter.unusedSimpArgs false
set_option linter.unusedVariables false
namespace Go.Proofs.YtaahibcibgljbaaDoor
open Go.Sl facts
abbrev kNode : ByteArray := ⟨#[110, 111, 100, 101]⟩
abbrev kCursor : ByteArray := ⟨#[99, 117, 114, 115, 111, 114]⟩
abbrev kEvents : ByteArray := ⟨#[101, 118, 101, 110, 116, 115]⟩
abbrev kFirsts : ByteArray := ⟨#[102, 105, 114, 115, 116, 115]⟩
abbrev kRanges : ByteArray := ⟨#[114, 97, 110, 103, 101, 115]⟩
abbrev kStamp : ByteArray := ⟨#[115, 116, 97, 109, 112]⟩
abbrev KV := ByteArray × V
def curL (x : Rp) : V := listV [textV (stext x.cw x.cl x.cn), intV x.ci, textV x.cs]
def oC (x : Rp) : List KV := if x.cw = 0 ∧ x.cl = 0 ∧ x.cn = 0 ∧ x.ci = 0 ∧ x.cs = ByteArray.empty then [] else [(kCursor, curL x)]
def oE (es : List Evt) : List KV := if 0 < es.length then [(kEvents, listV (es.map evL))] else []
def oF (fs : List Int) : List KV := if 0 < fs.length then [(kFirsts, listV (fs.map intV))] else []
def oR (rs : List Rge) : List KV := if 0 < rs.length then [(kRanges, listV (rs.map rgL))] else []
def oS (x : Rp) : List KV := if x.w = 0 ∧ x.l = 0 ∧ x.n = 0 then [] else [(kStamp, textV (stext x.w x.l x.n))]
theorem oC_len (x : Rp) : (oC x).length ≤ 1 := by unfold oC; split <;> simp
theorem oE_len (x : List Evt) : (oE x).length ≤ 1 := by unfold oE; split <;> simp
theorem oF_len (x : List Int) : (oF x).length ≤ 1 := by unfold oF; split <;> simp
theorem oR_len (x : List Rge) : (oR x).length ≤ 1 := by unfold oR; split <;> simp
theorem oS_len (x : Rp) : (oS x).length ≤ 1 := by unfold oS; split <;> simp
def formR (x : Rp) (fs : List Int) (es : List Evt) (rs : List Rge) : List KV :=
  if x.code = 8 ∧ x.node ≠ 0 then [(kCode, intV x.code)] ++ [(kNode, intV x.node)]
  else if x.code ≠ 0 then [(kCode, intV x.code)]
  else [(kCode, intV x.code)] ++ oC x ++ oE es ++ oF fs ++ oR rs ++ oS x
def kvV (l : List KV) : V := pairsV (l.map (·.1)) (l.map (·.2))
attribute [local irreducible] Code.wp wpList Exit.then Exit.inBlock bodyPost Back MidQ G GP QStep VStep CStep SStep Does Post Reads
def FoAt (H : HP) (F : List KV) (ps : List Pr) : Prop := ps.length = F.length ∧ F.map (·.1) = ps.map Pr.k ∧ (∀ q ∈ ps, q.k.size ≤ 9223372036854775807) ∧ ∀ (i : Nat) f q, F[i]? = some f → ps[i]? = some q → TAt H f.2 q.v
theorem FoAt.one {H : HP} {k : ByteArray} {v : V} {w : Value} (hk : k.size ≤ 9223372036854775807) (hv : TAt H v w) : FoAt H [(k, v)] [⟨k, w⟩] := by
  refine ⟨rfl, rfl, fun q hq => ?_, fun i f q h1 h2 => ?_⟩
  · rw [List.mem_singleton] at hq; rw [hq]; exact hk
  · match i with
    | 0 => cases h1; cases h2; exact hv
    | i + 1 => simp at h1
theorem FoAt.grow {H H' : HP} {F : List KV} {ps : List Pr} (h : FoAt H F ps) (s : HP.sub H H') : FoAt H' F ps := ⟨h.1, h.2.1, h.2.2.1, fun i f q h1 h2 => (h.2.2.2 i f q h1 h2).grow s⟩
theorem FoAt.app {H : HP} {F G : List KV} {ps qs : List Pr} (h : FoAt H F ps) (g : FoAt H G qs) : FoAt H (F ++ G) (ps ++ qs) := by
  refine ⟨by simp [h.1, g.1], by rw [List.map_append, List.map_append, h.2.1, g.2.1], fun q hq => ?_, fun i f q h1 h2 => ?_⟩
  · rcases List.mem_append.1 hq with hq | hq
    · exact h.2.2.1 q hq
    · exact g.2.2.1 q hq
  · rcases Nat.lt_or_ge i F.length with hj | hj
    · rw [List.getElem?_append_left hj] at h1
      rw [List.getElem?_append_left (by rw [h.1]; exact hj)] at h2
      exact h.2.2.2 i f q h1 h2
    · rw [List.getElem?_append_right hj] at h1
      rw [List.getElem?_append_right (by rw [h.1]; exact hj), h.1] at h2
      exact g.2.2.2 _ f q h1 h2
theorem FoAt.tat {H H' : HP} {F : List KV} {ps : List Pr} {q : Option Addr} {c : Nat} (h : FoAt H F ps) (s : HP.sub H H') (hS : SlAt (Pile H') 2 q ps.length (ps.flatMap Pr.cells)) (hc : ps.length ≤ c) (hl : F.length ≤ 9223372036854775807) : TAt H' (kvV F) (.iface 59 (.slice q ps.length c)) := by
  have e : ps.length = (F.map (·.2)).length := by rw [h.1, List.length_map]
  unfold kvV
  rw [e] at hS hc ⊢
  refine .pairs ps e ⟨by rw [List.length_map]; exact hl, hc⟩ h.2.1 h.2.2.1 hS fun i a w h1 h2 => ?_
  rw [List.getElem?_map, Option.map_eq_some_iff] at h1
  obtain ⟨f, h1, rfl⟩ := h1
  exact (h.2.2.2 i f w h1 h2).grow s
theorem pr_snoc (ps : List Pr) (k : ByteArray) (w : Value) : ps.flatMap Pr.cells ++ [.string k, w] = (ps ++ [(⟨k, w⟩ : Pr)]).flatMap Pr.cells := by simp [Pr.cells]
theorem pr_len (ps : List Pr) (p : Pr) : ps.length + 1 = (ps ++ [p]).length := by simp
structure FoX where
  ps : List Pr
  q : Option Addr
  c : Nat
  H : HP
set_option maxHeartbeats 32000000 in
theorem reply_ {H : HP} (hI : ItH H) (x : Rp) {fs : List Int} {es : List Evt} {rs : List Rge} (hx : RpIn H x fs es rs) : Does Tryd.prog 31 [.agg x.cells.toArray] [Pile H] (X := HP × Value) (fun y => y.2) (fun y => [Pile y.1]) (fun y => HP.sub H y.1 ∧ TAt y.1 (kvV (formR x fs es rs)) y.2) := by
  have hcl := fun (H' : HP) (s : HP.sub H H') => clists (hI.grow s) x (hx.grow s)
  have htc := fun (H' : HP) (s : HP.sub H H') => stText (hI.grow s) x.cw x.cl x.cn hx.i5 hx.i6 hx.i7
  have hts := fun (H' : HP) (s : HP.sub H H') => stText (hI.grow s) x.w x.l x.n hx.i2 hx.i3 hx.i4
  have zc := stext_len x.cw x.cl x.cn hx.i5 hx.i6 hx.i7
  have zs := stext_len x.w x.l x.n hx.i2 hx.i3 hx.i4
  obtain ⟨code, w, l, n, fp, fn, fc, ep, en, ec, cw, cl, cn, ci, cs, rp, rn, rc, node⟩ := x
  obtain ⟨rfl, rfl, rfl, _, _, _, _, _, _, j1, _, _, _, _, _, _, j8, j9, jz, fz, ez, rz⟩ := hx
  dsimp only [Rp.cells] at hcl htc hts zc zs j1 j8 j9 jz ⊢
  generalize hV : formR ⟨code, w, l, n, fp, fs.length, fc, ep, es.length, ec, cw, cl, cn, ci, cs, rp, rs.length, rc, node⟩ fs es rs = V0
  unfold formR at hV
  dsimp only at hV
  have lC := oC_len ⟨code, w, l, n, fp, fs.length, fc, ep, es.length, ec, cw, cl, cn, ci, cs, rp, rs.length, rc, node⟩
  have lS := oS_len ⟨code, w, l, n, fp, fs.length, fc, ep, es.length, ec, cw, cl, cn, ci, cs, rp, rs.length, rc, node⟩
  have lE := oE_len es
  have lF := oF_len fs
  have lR := oR_len rs
  refine fn_intro Tryd.func31 rfl Tryd.ntmps31 rfl (by simp only [argFr, Nat.zero_add, Nat.reduceAdd]; rfl) (fun Γ => ?_)
  repeat (first
    | (refine g_ops ?_; first | refine sO ?_ | refine s_n (fun _ => ?_) | refine s_app (fun _ _ => ?_) | refine s_b0 (fun _ => ?_) | ((fail_if_success refine g_lit rfl rfl rfl ?_); first | apply g_partM rfl rfl rfl | apply g_partMB rfl rfl rfl | fail))
    | refine gS ?_ | exact s_m | intro _)
  rename_i rb lb
  refine g_toOwn (b := lb) (len := 1) (n := 2) (by (repeat (first | exact Sel.here | apply Sel.there)); first | done | fail) rfl rfl ?_
  have f0 : FoAt H [(kCode, intV code)] [⟨kCode, .iface 3 (int code)⟩] := .one (by decide) (.int j1)
  by_cases h8 : code = 8
  · refine g_as 15 (v' := .bool true) rfl (congrArg Value.bool (decide_eq_true h8)) ?_
    repeat (first
      | (refine g_ops ?_; first | refine sO ?_ | refine s_n (fun _ => ?_) | refine s_app (fun _ _ => ?_) | refine s_b0 (fun _ => ?_) | ((fail_if_success refine g_lit rfl rfl rfl ?_); first | apply g_partM rfl rfl rfl | apply g_partMB rfl rfl rfl | fail))
      | refine gS ?_ | exact s_m | intro _)
    refine g_cond_dec rfl (fun hnd => ?_) (fun hnd => ?_)
    · rw [if_pos ⟨h8, hnd⟩] at hV
      subst hV
      repeat (first
        | (refine g_ops ?_; first | refine sO ?_ | refine s_n (fun _ => ?_) | refine s_app (fun _ _ => ?_) | refine s_b0 (fun _ => ?_) | ((fail_if_success refine g_lit rfl rfl rfl ?_); first | apply g_partM rfl rfl rfl | apply g_partMB rfl rfl rfl | fail))
        | refine gS ?_ | exact s_m | intro _)
      rename_i q2 c2
      refine g_capO (by (repeat (first | exact Sel.here | apply Sel.there)); first | done | fail) (fun hcap => ?_)
      refine g_pile (n := 2) (by (repeat (first | exact Sel.here | apply Sel.there)); first | done | fail) (by (repeat (first | exact Sel.here | apply Sel.there)); first | done | fail) (fun H2 hs2 hS2 => ?_)
      exact gR (H2, .iface 59 (.slice q2 2 c2)) ⟨hs2, (f0.app (FoAt.one (k := kNode) (by decide) (.int j9))).tat hs2 hS2 hcap (by simp)⟩
    · rw [if_neg (fun h => hnd h.2), if_pos (by omega)] at hV
      subst hV
      repeat (first
        | (refine g_ops ?_; first | refine sO ?_ | refine s_n (fun _ => ?_) | refine s_app (fun _ _ => ?_) | refine s_b0 (fun _ => ?_) | ((fail_if_success refine g_lit rfl rfl rfl ?_); first | apply g_partM rfl rfl rfl | apply g_partMB rfl rfl rfl | fail))
        | refine gS ?_ | exact s_m | intro _)
      refine g_cond_dec rfl (fun hnz => ?_) (fun hnz => by omega)
      repeat (first
        | (refine g_ops ?_; first | refine sO ?_ | refine s_n (fun _ => ?_) | refine s_app (fun _ _ => ?_) | refine s_b0 (fun _ => ?_) | ((fail_if_success refine g_lit rfl rfl rfl ?_); first | apply g_partM rfl rfl rfl | apply g_partMB rfl rfl rfl | fail))
        | refine gS ?_ | exact s_m | intro _)
      refine g_pile (n := 2) (by (repeat (first | exact Sel.here | apply Sel.there)); first | done | fail) (by (repeat (first | exact Sel.here | apply Sel.there)); first | done | fail) (fun H2 hs2 hS2 => ?_)
      exact gR (H2, .iface 59 (.slice (some ⟨lb, 0, none⟩) 1 1)) ⟨hs2, f0.tat hs2 hS2 (Nat.le_refl _) (by simp)⟩
  refine g_as 15 (v' := .bool false) rfl (congrArg Value.bool (decide_eq_false h8)) ?_
  rw [if_neg (fun h => h8 h.1)] at hV
  repeat (first
    | (refine g_ops ?_; first | refine sO ?_ | refine s_n (fun _ => ?_) | refine s_app (fun _ _ => ?_) | refine s_b0 (fun _ => ?_) | ((fail_if_success refine g_lit rfl rfl rfl ?_); first | apply g_partM rfl rfl rfl | apply g_partMB rfl rfl rfl | fail))
    | refine gS ?_ | exact s_m | intro _)
  refine g_cond_dec rfl (fun hnz => ?_) (fun hnz => ?_)
  · rw [if_pos hnz] at hV
    subst hV
    repeat (first
      | (refine g_ops ?_; first | refine sO ?_ | refine s_n (fun _ => ?_) | refine s_app (fun _ _ => ?_) | refine s_b0 (fun _ => ?_) | ((fail_if_success refine g_lit rfl rfl rfl ?_); first | apply g_partM rfl rfl rfl | apply g_partMB rfl rfl rfl | fail))
      | refine gS ?_ | exact s_m | intro _)
    refine g_pile (n := 2) (by (repeat (first | exact Sel.here | apply Sel.there)); first | done | fail) (by (repeat (first | exact Sel.here | apply Sel.there)); first | done | fail) (fun H2 hs2 hS2 => ?_)
    exact gR (H2, .iface 59 (.slice (some ⟨lb, 0, none⟩) 1 1)) ⟨hs2, f0.tat hs2 hS2 (Nat.le_refl _) (by simp)⟩
  rw [if_neg hnz] at hV
  subst hV
  have hC0 : (cw = 0 ∧ cl = 0 ∧ cn = 0 ∧ ci = 0 ∧ cs = ByteArray.empty) → oC ⟨code, w, l, n, fp, fs.length, fc, ep, es.length, ec, cw, cl, cn, ci, cs, rp, rs.length, rc, node⟩ = [] := fun h => if_pos h
  have hC1 : ¬ (cw = 0 ∧ cl = 0 ∧ cn = 0 ∧ ci = 0 ∧ cs = ByteArray.empty) → oC ⟨code, w, l, n, fp, fs.length, fc, ep, es.length, ec, cw, cl, cn, ci, cs, rp, rs.length, rc, node⟩ = [(kCursor, listV [textV (stext cw cl cn), intV ci, textV cs])] := fun h => if_neg h
  have hS0 : (w = 0 ∧ l = 0 ∧ n = 0) → oS ⟨code, w, l, n, fp, fs.length, fc, ep, es.length, ec, cw, cl, cn, ci, cs, rp, rs.length, rc, node⟩ = [] := fun h => if_pos h
  have hS1 : ¬ (w = 0 ∧ l = 0 ∧ n = 0) → oS ⟨code, w, l, n, fp, fs.length, fc, ep, es.length, ec, cw, cl, cn, ci, cs, rp, rs.length, rc, node⟩ = [(kStamp, textV (stext w l n))] := fun h => if_neg h
  generalize oC ⟨code, w, l, n, fp, fs.length, fc, ep, es.length, ec, cw, cl, cn, ci, cs, rp, rs.length, rc, node⟩ = OC at *
  generalize oS ⟨code, w, l, n, fp, fs.length, fc, ep, es.length, ec, cw, cl, cn, ci, cs, rp, rs.length, rc, node⟩ = OS at *
  repeat (first
    | (refine g_ops ?_; first | refine s_qa ?_ | refine sO ?_ | refine s_n (fun _ => ?_) | refine s_app (fun _ _ => ?_) | refine s_b0 (fun _ => ?_) | ((fail_if_success refine g_lit rfl rfl rfl ?_); first | apply g_partM rfl rfl rfl | apply g_partMB rfl rfl rfl | fail))
    | refine gS ?_ | exact s_m | intro _)
  refine g_cutX (X := FoX) (fun y => [(1, ptr rb), (2, .nilIface), (3, .slice y.q y.ps.length y.c)]) (fun y => [.own y.q y.ps.length y.c 2 (y.ps.flatMap Pr.cells) 58, .row rb [int code, int w, int l, int n, .slice fp fs.length fc, .slice ep es.length ec, int cw, int cl, int cn, int ci, .string cs, .slice rp rs.length rc, int node] 50, Pile y.H]) (fun y => HP.sub H y.H ∧ FoAt y.H ([(kCode, intV code)] ++ OC) y.ps) ?_ (fun y hy => ?_)
  · by_cases hc : cw = 0 ∧ cl = 0 ∧ cn = 0 ∧ ci = 0 ∧ cs = ByteArray.empty
    · refine g_as 36 (v' := .bool false) rfl (congrArg Value.bool (by simp [hc])) ?_
      repeat (first
        | (refine g_ops ?_; first | refine sO ?_ | refine s_n (fun _ => ?_) | refine s_app (fun _ _ => ?_) | refine s_b0 (fun _ => ?_) | ((fail_if_success refine g_lit rfl rfl rfl ?_); first | apply g_partM rfl rfl rfl | apply g_partMB rfl rfl rfl | fail))
        | refine gS ?_ | exact s_m | intro _)
      exact gM ⟨[⟨kCode, .iface 3 (int code)⟩], some ⟨lb, 0, none⟩, 1, H⟩ ⟨HP.sub.refl _, by rw [hC0 hc, List.append_nil]; exact f0⟩
    · refine g_as 36 (v' := .bool true) rfl (congrArg Value.bool (by simp; apply Classical.byContradiction; intro h; simp only [not_or, Decidable.not_not] at h; exact hc ⟨h.1.1, h.1.2.1, h.1.2.2, h.2.1, h.2.2⟩)) ?_
      have htx := htc H (HP.sub.refl _)
      repeat (first | refine gS ?_ | refine g_cond_true rfl ?_)
      refine g_draw (.take 0 (.take 1 (.take 2 (.see 3 [] (.take 6 (.take 7 (.see 8 [] (.take 9 (.take 10 (.take 11 (.see 12 [] (.take 13 (.one 4 (.take 5 (.one 14 (.take 15 (.take 16 (.one 17 (.one 18 (.take 19 .done)))))))))))))))))))) (by kernel_rfl) (C := [.row rb [int code, int w, int l, int n, .slice fp fs.length fc, .slice ep es.length ec, int cw, int cl, int cn, int ci, .string cs, .slice rp rs.length rc, int node] 50, Pile H]) (by (repeat (first | exact Take.nil | apply Take.cons | exact Sel.here | apply Sel.there)); first | done | fail) (fun m hd hk => ?_)
      repeat (first
        | (refine gp_take ?_; first | refine pT ?_ | ((fail_if_success refine gp_lit rfl rfl rfl rfl ?_); first | apply gp_guard_dec rfl rfl rfl rfl | apply gp_guard rfl rfl rfl rfl | fail))
        | (refine gp_see ?_; first | refine p_f ?_ | refine pS ?_ | ((fail_if_success refine gp_lit rfl rfl rfl rfl ?_); first | apply gp_guard_dec rfl rfl rfl rfl | apply gp_guard rfl rfl rfl rfl | fail))
        | (refine gp_one ?_; first | refine pO ?_ | refine p_n (fun _ => ?_) | refine p_app (fun _ _ => ?_) | refine p_b0 (fun _ => ?_) | ((fail_if_success refine gp_lit rfl rfl rfl rfl ?_); first | apply gp_guard_dec rfl rfl rfl rfl | apply gp_guard rfl rfl rfl rfl | fail) | refine p_cP (htx) hd hk (fun _ _ => ?_))
        | refine gp_two ?_ ?_ | refine gp_done hd hk ?_ | intro _ | refine p_ta hd hk (fun _ _ _ hd hk => ?_) | refine p_ts hd hk (fun _ hd hk => ?_))
      rename_i lb2 _ q6 c6
      dsimp only [List.cons_append, List.nil_append, List.append_eq]
      refine g_toOwn (b := lb2) (len := 3) (n := 1) (by (repeat (first | exact Sel.here | apply Sel.there)); first | done | fail) rfl rfl ?_
      refine g_pile (p := some ⟨lb2, 0, none⟩) (n := 1) (by (repeat (first | exact Sel.here | apply Sel.there)); first | done | fail) (by (repeat (first | exact Sel.here | apply Sel.there)); first | done | fail) (fun H2 hs2 hS2 => ?_)
      have hit : TAt H2 (listV [textV (stext cw cl cn), intV ci, textV cs]) (.iface 60 (.slice (some ⟨lb2, 0, none⟩) 3 3)) :=
        (((LvAt.nil.snoc (HP.sub.refl _) (TAt.text (H := H2) (s := stext cw cl cn) (by omega))).snoc (HP.sub.refl _) (.int j8)).snoc (HP.sub.refl _) (.text jz)).tat (HP.sub.refl _) rfl hS2 (by omega) (by simp)
      exact gM ⟨[⟨kCode, .iface 3 (int code)⟩, ⟨kCursor, .iface 60 (.slice (some ⟨lb2, 0, none⟩) 3 3)⟩], q6, c6, H2⟩ ⟨hs2, by rw [hC1 hc]; exact (f0.grow hs2).app (.one (by decide) hit)⟩
  obtain ⟨ps, q, c, H1⟩ := y
  obtain ⟨hs1, hF⟩ := hy
  dsimp only at hs1 hF ⊢
  have hc1 := hcl H1 hs1
  repeat (first
    | (refine g_ops ?_; first | refine sO ?_ | refine s_n (fun _ => ?_) | refine s_app (fun _ _ => ?_) | refine s_b0 (fun _ => ?_) | ((fail_if_success refine g_lit rfl rfl rfl ?_); first | apply g_partM rfl rfl rfl | apply g_partMB rfl rfl rfl | fail) | refine s_c (hc1) (fun _ _ => ?_))
    | refine gS ?_ | exact s_m | intro _)
  rename_i z hz
  obtain ⟨H2, q1, c1, q2, c2, q3, c3⟩ := z
  obtain ⟨hs2, tE, tF, tR⟩ := hz
  dsimp only at hs2 tE tF tR ⊢
  try dsimp only [List.cons_append, List.nil_append, List.append_eq]
  have hF := hF.grow hs2
  have hs3 := hs1.trans hs2
  have hpl := hF.1
  rw [show ([(kCode, intV code)] ++ OC).length = _ from rfl] at hpl
  simp only [List.length_append, List.length_singleton] at hpl
  refine g_cutX (X := FoX) (fun y => [(1, ptr rb), (2, .nilIface), (3, .slice y.q y.ps.length y.c), (4, .slice q1 es.length c1), (5, .slice q2 fs.length c2), (6, .slice q3 rs.length c3)]) (fun y => [.own y.q y.ps.length y.c 2 (y.ps.flatMap Pr.cells) 58, .row rb [int code, int w, int l, int n, .slice fp fs.length fc, .slice ep es.length ec, int cw, int cl, int cn, int ci, .string cs, .slice rp rs.length rc, int node] 50, Pile H2]) (fun y => FoAt H2 (([(kCode, intV code)] ++ OC) ++ oE es) y.ps) ?_ (fun y hy => ?_)
  · refine g_cond_dec rfl (fun g => ?_) (fun g => ?_)
    · repeat (first
        | (refine g_ops ?_; first | refine sO ?_ | refine s_n (fun _ => ?_) | refine s_app (fun _ _ => ?_) | refine s_b0 (fun _ => ?_) | ((fail_if_success refine g_lit rfl rfl rfl ?_); first | apply g_partM rfl rfl rfl | apply g_partMB rfl rfl rfl | fail))
        | refine gS ?_ | exact s_m | intro _)
      rename_i q6 c6
      rw [pr_snoc, pr_len ps ⟨kEvents, .iface 60 (.slice q1 es.length c1)⟩]
      exact gM ⟨ps ++ [⟨kEvents, .iface 60 (.slice q1 es.length c1)⟩], q6, c6, H2⟩ (hF.app (by rw [show oE es = _ from if_pos (by omega)]; exact .one (by decide) tE))
    · repeat (first
        | (refine g_ops ?_; first | refine sO ?_ | refine s_n (fun _ => ?_) | refine s_app (fun _ _ => ?_) | refine s_b0 (fun _ => ?_) | ((fail_if_success refine g_lit rfl rfl rfl ?_); first | apply g_partM rfl rfl rfl | apply g_partMB rfl rfl rfl | fail))
        | refine gS ?_ | exact s_m | intro _)
      exact gM ⟨ps, q, c, H2⟩ (by rw [show oE es = [] from if_neg (by omega), List.append_nil]; exact hF)
  clear hF hpl
  obtain ⟨ps, q, c, _⟩ := y
  have hF := hy
  dsimp only at hF ⊢
  repeat (first
    | (refine g_ops ?_; first | refine s_qa ?_ | refine sO ?_ | refine s_n (fun _ => ?_) | refine s_app (fun _ _ => ?_) | refine s_b0 (fun _ => ?_) | ((fail_if_success refine g_lit rfl rfl rfl ?_); first | apply g_partM rfl rfl rfl | apply g_partMB rfl rfl rfl | fail))
    | refine gS ?_ | exact s_m | intro _)
  have hpl := hF.1
  rw [show (([(kCode, intV code)] ++ OC) ++ oE es).length = _ from rfl] at hpl
  simp only [List.length_append, List.length_singleton] at hpl
  refine g_cutX (X := FoX) (fun y => [(1, ptr rb), (2, .nilIface), (3, .slice y.q y.ps.length y.c), (4, .slice q1 es.length c1), (5, .slice q2 fs.length c2), (6, .slice q3 rs.length c3)]) (fun y => [.own y.q y.ps.length y.c 2 (y.ps.flatMap Pr.cells) 58, .row rb [int code, int w, int l, int n, .slice fp fs.length fc, .slice ep es.length ec, int cw, int cl, int cn, int ci, .string cs, .slice rp rs.length rc, int node] 50, Pile H2]) (fun y => FoAt H2 ((([(kCode, intV code)] ++ OC) ++ oE es) ++ oF fs) y.ps) ?_ (fun y hy => ?_)
  · refine g_cond_dec rfl (fun g => ?_) (fun g => ?_)
    · repeat (first
        | (refine g_ops ?_; first | refine sO ?_ | refine s_n (fun _ => ?_) | refine s_app (fun _ _ => ?_) | refine s_b0 (fun _ => ?_) | ((fail_if_success refine g_lit rfl rfl rfl ?_); first | apply g_partM rfl rfl rfl | apply g_partMB rfl rfl rfl | fail))
        | refine gS ?_ | exact s_m | intro _)
      rename_i q6 c6
      rw [pr_snoc, pr_len ps ⟨kFirsts, .iface 60 (.slice q2 fs.length c2)⟩]
      exact gM ⟨ps ++ [⟨kFirsts, .iface 60 (.slice q2 fs.length c2)⟩], q6, c6, H2⟩ (hF.app (by rw [show oF fs = _ from if_pos (by omega)]; exact .one (by decide) tF))
    · repeat (first
        | (refine g_ops ?_; first | refine sO ?_ | refine s_n (fun _ => ?_) | refine s_app (fun _ _ => ?_) | refine s_b0 (fun _ => ?_) | ((fail_if_success refine g_lit rfl rfl rfl ?_); first | apply g_partM rfl rfl rfl | apply g_partMB rfl rfl rfl | fail))
        | refine gS ?_ | exact s_m | intro _)
      exact gM ⟨ps, q, c, H2⟩ (by rw [show oF fs = [] from if_neg (by omega), List.append_nil]; exact hF)
  clear hF hpl
  obtain ⟨ps, q, c, _⟩ := y
  have hF := hy
  dsimp only at hF ⊢
  repeat (first
    | (refine g_ops ?_; first | refine s_qa ?_ | refine sO ?_ | refine s_n (fun _ => ?_) | refine s_app (fun _ _ => ?_) | refine s_b0 (fun _ => ?_) | ((fail_if_success refine g_lit rfl rfl rfl ?_); first | apply g_partM rfl rfl rfl | apply g_partMB rfl rfl rfl | fail))
    | refine gS ?_ | exact s_m | intro _)
  have hpl := hF.1
  rw [show ((([(kCode, intV code)] ++ OC) ++ oE es) ++ oF fs).length = _ from rfl] at hpl
  simp only [List.length_append, List.length_singleton] at hpl
  refine g_cutX (X := FoX) (fun y => [(1, ptr rb), (2, .nilIface), (3, .slice y.q y.ps.length y.c), (4, .slice q1 es.length c1), (5, .slice q2 fs.length c2), (6, .slice q3 rs.length c3)]) (fun y => [.own y.q y.ps.length y.c 2 (y.ps.flatMap Pr.cells) 58, .row rb [int code, int w, int l, int n, .slice fp fs.length fc, .slice ep es.length ec, int cw, int cl, int cn, int ci, .string cs, .slice rp rs.length rc, int node] 50, Pile H2]) (fun y => FoAt H2 (((([(kCode, intV code)] ++ OC) ++ oE es) ++ oF fs) ++ oR rs) y.ps) ?_ (fun y hy => ?_)
  · refine g_cond_dec rfl (fun g => ?_) (fun g => ?_)
    · repeat (first
        | (refine g_ops ?_; first | refine sO ?_ | refine s_n (fun _ => ?_) | refine s_app (fun _ _ => ?_) | refine s_b0 (fun _ => ?_) | ((fail_if_success refine g_lit rfl rfl rfl ?_); first | apply g_partM rfl rfl rfl | apply g_partMB rfl rfl rfl | fail))
        | refine gS ?_ | exact s_m | intro _)
      rename_i q6 c6
      rw [pr_snoc, pr_len ps ⟨kRanges, .iface 60 (.slice q3 rs.length c3)⟩]
      exact gM ⟨ps ++ [⟨kRanges, .iface 60 (.slice q3 rs.length c3)⟩], q6, c6, H2⟩ (hF.app (by rw [show oR rs = _ from if_pos (by omega)]; exact .one (by decide) tR))
    · repeat (first
        | (refine g_ops ?_; first | refine sO ?_ | refine s_n (fun _ => ?_) | refine s_app (fun _ _ => ?_) | refine s_b0 (fun _ => ?_) | ((fail_if_success refine g_lit rfl rfl rfl ?_); first | apply g_partM rfl rfl rfl | apply g_partMB rfl rfl rfl | fail))
        | refine gS ?_ | exact s_m | intro _)
      exact gM ⟨ps, q, c, H2⟩ (by rw [show oR rs = [] from if_neg (by omega), List.append_nil]; exact hF)
  clear hF hpl
  obtain ⟨ps, q, c, _⟩ := y
  have hF := hy
  dsimp only at hF ⊢
  repeat (first
    | (refine g_ops ?_; first | refine s_qa ?_ | refine sO ?_ | refine s_n (fun _ => ?_) | refine s_app (fun _ _ => ?_) | refine s_b0 (fun _ => ?_) | ((fail_if_success refine g_lit rfl rfl rfl ?_); first | apply g_partM rfl rfl rfl | apply g_partMB rfl rfl rfl | fail))
    | refine gS ?_ | exact s_m | intro _)
  have hpl := hF.1
  simp only [List.length_append, List.length_singleton] at hpl
  refine g_cutX (X := FoX) (fun y => [(1, ptr rb), (2, .nilIface), (3, .slice y.q y.ps.length y.c)]) (fun y => [.own y.q y.ps.length y.c 2 (y.ps.flatMap Pr.cells) 58, .row rb [int code, int w, int l, int n, .slice fp fs.length fc, .slice ep es.length ec, int cw, int cl, int cn, int ci, .string cs, .slice rp rs.length rc, int node] 50, Pile y.H]) (fun y => HP.sub H2 y.H ∧ FoAt y.H ((((([(kCode, intV code)] ++ OC) ++ oE es) ++ oF fs) ++ oR rs) ++ OS) y.ps) ?_ (fun y hy => ?_)
  · by_cases hc : w = 0 ∧ l = 0 ∧ n = 0
    · refine g_as 92 (v' := .bool false) rfl (congrArg Value.bool (by simp [hc])) ?_
      repeat (first
        | (refine g_ops ?_; first | refine sO ?_ | refine s_n (fun _ => ?_) | refine s_app (fun _ _ => ?_) | refine s_b0 (fun _ => ?_) | ((fail_if_success refine g_lit rfl rfl rfl ?_); first | apply g_partM rfl rfl rfl | apply g_partMB rfl rfl rfl | fail))
        | refine gS ?_ | exact s_m | intro _)
      exact gM ⟨ps, q, c, H2⟩ ⟨HP.sub.refl _, by rw [hS0 hc, List.append_nil]; exact hF⟩
    · refine g_as 92 (v' := .bool true) rfl (congrArg Value.bool (by simp; apply Classical.byContradiction; intro h; simp only [not_or, Decidable.not_not] at h; exact hc ⟨h.1, h.2.1, h.2.2⟩)) ?_
      have htx := hts H2 hs3
      repeat (first
        | (refine g_ops ?_; first | refine sO ?_ | refine s_n (fun _ => ?_) | refine s_app (fun _ _ => ?_) | refine s_b0 (fun _ => ?_) | ((fail_if_success refine g_lit rfl rfl rfl ?_); first | apply g_partM rfl rfl rfl | apply g_partMB rfl rfl rfl | fail) | refine s_k (htx) ?_)
        | refine gS ?_ | exact s_m | intro _)
      rename_i q6 c6
      rw [pr_snoc, pr_len ps ⟨kStamp, .iface 9 (.string (stext w l n))⟩]
      exact gM ⟨ps ++ [⟨kStamp, .iface 9 (.string (stext w l n))⟩], q6, c6, H2⟩ ⟨HP.sub.refl _, hF.app (by rw [hS1 hc]; exact .one (by decide) (.text (by omega)))⟩
  obtain ⟨ps, q, c, H3⟩ := y
  obtain ⟨hs4, hF⟩ := hy
  dsimp only at hs4 hF ⊢
  have hpl := hF.1
  have hpl2 := hpl
  simp only [List.length_append, List.length_singleton] at hpl2
  refine g_capO (by (repeat (first | exact Sel.here | apply Sel.there)); first | done | fail) (fun hcap => ?_)
  repeat (first
    | (refine g_ops ?_; first | refine sO ?_ | refine s_n (fun _ => ?_) | refine s_app (fun _ _ => ?_) | refine s_b0 (fun _ => ?_) | ((fail_if_success refine g_lit rfl rfl rfl ?_); first | apply g_partM rfl rfl rfl | apply g_partMB rfl rfl rfl | fail))
    | refine gS ?_ | exact s_m | intro _)
  refine g_pile (n := 2) (by (repeat (first | exact Sel.here | apply Sel.there)); first | done | fail) (by (repeat (first | exact Sel.here | apply Sel.there)); first | done | fail) (fun H4 hs5 hS2 => ?_)
  exact gR (H4, .iface 59 (.slice q ps.length c)) ⟨hs3.trans (hs4.trans hs5), hF.tat hs5 hS2 hcap (by rw [← hpl]; omega)⟩
end Go.Proofs.YtaahibcibgljbaaDoor
