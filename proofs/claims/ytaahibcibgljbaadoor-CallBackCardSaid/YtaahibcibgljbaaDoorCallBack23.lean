/- Contracts and laws that the proof stands on. -/
import Derived.Test.YtaahibcibgljbaaDoorCallBack22
set_option linter.unusedSimpArgs false
set_option linter.unusedVariables false
namespace Go.Proofs.YtaahibcibgljbaaDoor
open Go.Sl facts
attribute [local irreducible] Code.wp wpList Exit.then Exit.inBlock bodyPost Back MidQ G GP QStep VStep CStep SStep Does Post Reads
theorem d_get {ps qs : List Pt} (h : ps.map Pt.d = qs.map Pt.d) (hl : ps.length = qs.length) (i : Nat) (h1 : i < ps.length) (h2 : i < qs.length) : ps[i].d = qs[i].d := by
  have e1 : (ps.map Pt.d)[i]'(by simpa using h1) = ps[i].d := List.getElem_map ..
  have e2 : (qs.map Pt.d)[i]'(by simpa using h2) = qs[i].d := List.getElem_map ..
  rw [← e1, ← e2]
  exact List.getElem_of_eq h _
set_option maxHeartbeats 8000000 in
theorem sameBatch {H : HP} (key : ByteArray) (pp qp : Option Addr) (pc qc : Nat) (ps qs : List Pt) (a1 : SlAt (Pile H) 3 pp ps.length (ps.flatMap Pt.cells)) (a2 : ∀ x ∈ ps, PtAt (Pile H) x) (a3 : ps.length ≤ 1000000000) (c1 : SlAt (Pile H) 3 qp qs.length (qs.flatMap Pt.cells)) (c2 : ∀ x ∈ qs, PtAt (Pile H) x) (hd0 : ps.map Pt.d = qs.map Pt.d) : Does1 Tryd.prog 30 [.agg #[.string key, .slice pp ps.length pc], .agg #[.string key, .slice qp qs.length qc]] [Pile H] (.bool true) := by
  have hpq : ps.length = qs.length := by rw [← List.length_map (f := Pt.d), hd0, List.length_map]
  refine fn_intro Tryd.func30 rfl Tryd.ntmps30 rfl (by simp only [argFr, Nat.zero_add, Nat.reduceAdd]; rfl) (fun Γ => ?_)
  repeat (first
    | (refine g_ops ?_; first | refine sO ?_ | refine s_n (fun _ => ?_) | refine s_app (fun _ _ => ?_) | refine s_b0 (fun _ => ?_) | ((fail_if_success refine g_lit rfl rfl rfl ?_); first | apply g_partM rfl rfl rfl | apply g_partMB rfl rfl rfl | fail))
    | refine gS ?_ | exact s_m | intro _)
  rename_i b2 b3
  refine g_as 14 (v' := .bool false) rfl (congrArg Value.bool (by simp)) ?_
  repeat (first
    | (refine g_ops ?_; first | refine sO ?_ | refine s_n (fun _ => ?_) | refine s_app (fun _ _ => ?_) | refine s_b0 (fun _ => ?_) | ((fail_if_success refine g_lit rfl rfl rfl ?_); first | apply g_partM rfl rfl rfl | apply g_partMB rfl rfl rfl | fail))
    | refine gS ?_ | exact s_m | intro _)
  refine g_as 22 (v' := .bool false) rfl (congrArg Value.bool (by simp [hpq])) ?_
  repeat (first
    | (refine g_ops ?_; first | refine sO ?_ | refine s_n (fun _ => ?_) | refine s_app (fun _ _ => ?_) | refine s_b0 (fun _ => ?_) | ((fail_if_success refine g_lit rfl rfl rfl ?_); first | apply g_partM rfl rfl rfl | apply g_partMB rfl rfl rfl | fail))
    | refine gS ?_ | exact s_m | intro _)
  refine g_loop (X := Nat) (fun i => [(2, ptr b2), (3, ptr b3), (5, int i)]) (fun _ => [.row b2 [.string key, .slice pp ps.length pc] 32, .row b3 [.string key, .slice qp qs.length qc] 32, Pile H]) (fun i => i ≤ ps.length) (fun i => ps.length - i) 0 (Nat.zero_le _) (by (repeat (first | exact FrSub.nil | refine FrSub.cons rfl ?_)); first | done | fail) (by (repeat (first | exact Take.nil | apply Take.cons | exact Sel.here | apply Sel.there)); first | done | fail) (fun i hi => ?_)
  repeat (first
    | (refine g_ops ?_; first | refine sO ?_ | refine s_n (fun _ => ?_) | refine s_app (fun _ _ => ?_) | refine s_b0 (fun _ => ?_) | ((fail_if_success refine g_lit rfl rfl rfl ?_); first | apply g_partM rfl rfl rfl | apply g_partMB rfl rfl rfl | fail))
    | refine gS ?_ | exact s_m | intro _)
  refine g_cond_dec rfl (fun h => ?_) (fun h => ?_)
  · have hi' : i < ps.length := by omega
    have hi2 : i < qs.length := by omega
    obtain ⟨pb, po, rfl, hrow⟩ := slAt_elem a1 pt_len (by decide) (i := i) (a := ps[i]) (by simp [hi'])
    obtain ⟨qb, qo, rfl, hrow2⟩ := slAt_elem c1 pt_len (by decide) (i := i) (a := qs[i]) (by simp [hi2])
    have ha := a2 ps[i] (List.getElem_mem _)
    have hc := c2 qs[i] (List.getElem_mem _)
    have hde := d_get hd0 hpq i hi' hi2
    generalize ps[i] = x at hrow ha hde
    generalize qs[i] = y at hrow2 hc hde
    obtain ⟨st, ex, dp, dc, data⟩ := x
    obtain ⟨st2, ex2, ep, ec, data2⟩ := y
    simp only [Pt.d, PtD.mk.injEq] at hde
    obtain ⟨rfl, rfl, rfl⟩ := hde
    obtain ⟨ha1, ha2⟩ := ha
    obtain ⟨hc1, hc2⟩ := hc
    dsimp only at ha1 ha2 hc1 hc2 hrow hrow2
    repeat (first
      | (refine g_ops ?_; first | refine sO ?_ | refine s_n (fun _ => ?_) | refine s_app (fun _ _ => ?_) | refine s_b0 (fun _ => ?_) | ((fail_if_success refine g_lit rfl rfl rfl ?_); first | apply g_partM rfl rfl rfl | apply g_partMB rfl rfl rfl | fail))
      | refine gS ?_ | exact s_m | intro _)
    rename_i b6 b7
    clear hrow hrow2
    refine g_as 45 (v' := .bool false) rfl (congrArg Value.bool (by simp)) ?_
    repeat (first
      | (refine g_ops ?_; first | refine sO ?_ | refine s_n (fun _ => ?_) | refine s_app (fun _ _ => ?_) | refine s_b0 (fun _ => ?_) | ((fail_if_success refine g_lit rfl rfl rfl ?_); first | apply g_partM rfl rfl rfl | apply g_partMB rfl rfl rfl | fail))
      | refine gS ?_ | exact s_m | intro _)
    refine g_as 52 (v' := .bool false) rfl (congrArg Value.bool (by simp)) ?_
    repeat (first
      | (refine g_ops ?_; first | refine sO ?_ | refine s_n (fun _ => ?_) | refine s_app (fun _ _ => ?_) | refine s_b0 (fun _ => ?_) | ((fail_if_success refine g_lit rfl rfl rfl ?_); first | apply g_partM rfl rfl rfl | apply g_partMB rfl rfl rfl | fail))
      | refine gS ?_ | exact s_m | intro _)
    refine g_as 60 (v' := .bool false) rfl (congrArg Value.bool (by simp)) ?_
    repeat (first
      | (refine g_ops ?_; first | refine sO ?_ | refine s_n (fun _ => ?_) | refine s_app (fun _ _ => ?_) | refine s_b0 (fun _ => ?_) | ((fail_if_success refine g_lit rfl rfl rfl ?_); first | apply g_partM rfl rfl rfl | apply g_partMB rfl rfl rfl | fail))
      | refine gS ?_ | exact s_m | intro _)
    refine g_loop (X := Nat) (fun j => [(2, ptr b2), (3, ptr b3), (5, int i), (6, ptr b6), (7, ptr b7), (8, int j)]) (fun _ => [.row b6 [.string st, int ex, .slice dp data.length dc] 80, .row b7 [.string st, int ex, .slice ep data.length ec] 80, .row b2 [.string key, .slice (some ⟨pb, po, none⟩) ps.length pc] 32, .row b3 [.string key, .slice (some ⟨qb, qo, none⟩) qs.length qc] 32, Pile H]) (fun j => j ≤ data.length) (fun j => data.length - j) 0 (Nat.zero_le _) (by (repeat (first | exact FrSub.nil | refine FrSub.cons rfl ?_)); first | done | fail) (by (repeat (first | exact Take.nil | apply Take.cons | exact Sel.here | apply Sel.there)); first | done | fail) (fun j hj => ?_)
    repeat (first
      | (refine g_ops ?_; first | refine sO ?_ | refine s_n (fun _ => ?_) | refine s_app (fun _ _ => ?_) | refine s_b0 (fun _ => ?_) | ((fail_if_success refine g_lit rfl rfl rfl ?_); first | apply g_partM rfl rfl rfl | apply g_partMB rfl rfl rfl | fail))
      | refine gS ?_ | exact s_m | intro _)
    refine g_cond_dec rfl (fun h2 => ?_) (fun h2 => ?_)
    · have hj' : j < data.length := by omega
      obtain ⟨db, do_, rfl, hr0⟩ := slAt_cell ha1 (i := j) (v := .string data[j]) (by simp [hj'])
      obtain ⟨eb, eo, rfl, hs0⟩ := slAt_cell hc1 (i := j) (v := .string data[j]) (by simp [hj'])
      generalize data[j] = t at hr0 hs0
      have hr : ∀ k', k' = j → Reads (Pile H) ⟨db, do_ + k', none⟩ (.string t) := fun _ e => e ▸ hr0
      have hr2 : ∀ k', k' = j → Reads (Pile H) ⟨eb, eo + k', none⟩ (.string t) := fun _ e => e ▸ hs0
      repeat (first
        | (refine g_ops ?_; first | refine sO ?_ | refine s_n (fun _ => ?_) | refine s_app (fun _ _ => ?_) | refine s_b0 (fun _ => ?_) | ((fail_if_success refine g_lit rfl rfl rfl ?_); first | apply g_partM rfl rfl rfl | apply g_partMB rfl rfl rfl | fail))
        | apply g_regB (id := 1) 22 | apply g_regB (id := 8) 60 | refine g_draw (id := 13) (.take 0 (.see 1 [] (.take 2 (.take 3 (.see 4 [] (.take 5 (.see 6 [] (.take 7 (.take 8 (.see 9 [] (.take 10 .done))))))))))) (by kernel_rfl) (take_all _) (fun k hd hk => ?_)
        | refine gS ?_ | exact s_m | intro _ | (refine gp_take ?_; first | refine pT ?_ | ((fail_if_success refine gp_lit rfl rfl rfl rfl ?_); first | apply gp_guard_dec rfl rfl rfl rfl | apply gp_guard rfl rfl rfl rfl | fail))
        | (refine gp_see ?_; first | refine p_f ?_ | refine pS ?_ | ((fail_if_success refine gp_lit rfl rfl rfl rfl ?_); first | apply gp_guard_dec rfl rfl rfl rfl | apply gp_guard rfl rfl rfl rfl | fail))
        | (refine gp_one ?_; first | refine pO ?_ | refine p_n (fun _ => ?_) | refine p_app (fun _ _ => ?_) | refine p_b0 (fun _ => ?_) | ((fail_if_success refine gp_lit rfl rfl rfl rfl ?_); first | apply gp_guard_dec rfl rfl rfl rfl | apply gp_guard rfl rfl rfl rfl | fail))
        | refine gp_two ?_ ?_ | refine gp_done hd hk ?_ | intro _ | refine p_ta hd hk (fun _ _ _ hd hk => ?_) | refine p_ts hd hk (fun _ hd hk => ?_))
      dsimp only [List.cons_append, List.nil_append]
      refine g_as 78 (v' := .bool false) rfl (congrArg Value.bool (by simp)) ?_
      repeat (first
        | (refine g_ops ?_; first | refine sO ?_ | refine s_n (fun _ => ?_) | refine s_app (fun _ _ => ?_) | refine s_b0 (fun _ => ?_) | ((fail_if_success refine g_lit rfl rfl rfl ?_); first | apply g_partM rfl rfl rfl | apply g_partMB rfl rfl rfl | fail))
        | refine gS ?_ | exact s_m | intro _)
      refine g_as 8 (v' := int ((j + 1 : Nat) : Int)) rfl (congrArg (Value.int .i64) (by push_cast; rfl)) ?_
      exact gA (j + 1) (by omega) hj'
    · repeat (first
        | (refine g_ops ?_; first | refine sO ?_ | refine s_n (fun _ => ?_) | refine s_app (fun _ _ => ?_) | refine s_b0 (fun _ => ?_) | ((fail_if_success refine g_lit rfl rfl rfl ?_); first | apply g_partM rfl rfl rfl | apply g_partMB rfl rfl rfl | fail))
        | refine gS ?_ | exact s_m | intro _)
      refine g_as 5 (v' := int ((i + 1 : Nat) : Int)) rfl (congrArg (Value.int .i64) (by push_cast; rfl)) ?_
      exact gA (i + 1) (by omega) hi'
  · repeat (first
      | (refine g_ops ?_; first | refine sO ?_ | refine s_n (fun _ => ?_) | refine s_app (fun _ _ => ?_) | refine s_b0 (fun _ => ?_) | ((fail_if_success refine g_lit rfl rfl rfl ?_); first | apply g_partM rfl rfl rfl | apply g_partMB rfl rfl rfl | fail))
      | refine gS ?_ | exact s_m | intro _)
    exact gR () trivial
theorem PtsOf.same {H : HP} {l : List V} {ps qs : List Pt} (h1 : PtsOf H l ps) (h2 : PtsOf H l qs) (hall : ∀ y ∈ l, (putV y).isSome = true) : ps.map Pt.d = qs.map Pt.d := by
  apply List.ext_getElem
  · simp [h1.1, h2.1]
  · intro i g1 g2
    have g1 : i < ps.length := by simpa using g1
    have g2 : i < qs.length := by simpa using g2
    have hi : i < l.length := by rw [← h1.1]; exact g1
    obtain ⟨d, hd⟩ := Option.isSome_iff_exists.1 (hall l[i] (List.getElem_mem _))
    simp only [List.getElem_map]
    rw [h1.2.2 i _ _ d (List.getElem?_eq_getElem hi) (List.getElem?_eq_getElem g1) hd, h2.2.2 i _ _ d (List.getElem?_eq_getElem hi) (List.getElem?_eq_getElem g2) hd]
set_option maxHeartbeats 8000000 in
theorem same28 {H : HP} {x y : Cl} {d : ClV} (hx : ClAt H x d) (hy : ClAt H y d) (hall : ∀ z ∈ d.pv, (putV z).isSome = true) (hl : d.pv.length ≤ 1000000000) : Does1 Tryd.prog 12 [.agg x.cells.toArray, .agg y.cells.toArray] [Pile H] (.bool true) := by
  have hd := hx.pts.same hy.pts hall
  have hsb := sameBatch (H := H) d.key x.pp y.pp x.pc y.pc x.pts y.pts hx.sl hx.pts.2.1 (by rw [hx.pts.1]; exact hl) hy.sl hy.pts.2.1 hd
  obtain ⟨x1, x2, x3, x4, x5, x6, x7, x8, x9, x10, x11⟩ := x
  obtain ⟨y1, y2, y3, y4, y5, y6, y7, y8, y9, y10, y11⟩ := y
  obtain ⟨a1, a2, a3, a4, a5, a6, a7, a8, a9, a10⟩ := hx
  obtain ⟨b1, b2, b3, b4, b5, b6, b7, b8, b9, b10⟩ := hy
  obtain ⟨d1, d2, d3, d4, d5, d6, d7, d8, d9⟩ := d
  dsimp only at a1 a2 a5 a6 a7 a8 a9 a10 b1 b2 b5 b6 b7 b8 b9 b10 hsb
  subst a1 a2 a5 a6 a7 a8 a9 a10
  subst b1 b2 b5 b6 b7 b8 b9 b10
  dsimp only [Cl.cells]
  refine fn_intro Tryd.func12 rfl Tryd.ntmps12 rfl (by simp only [argFr, Nat.zero_add, Nat.reduceAdd]; rfl) (fun Γ => ?_)
  repeat (first
    | (refine g_ops ?_; first | refine sO ?_ | refine s_n (fun _ => ?_) | refine s_app (fun _ _ => ?_) | refine s_b0 (fun _ => ?_) | ((fail_if_success refine g_lit rfl rfl rfl ?_); first | apply g_partM rfl rfl rfl | apply g_partMB rfl rfl rfl | fail) | refine s_k (hsb) ?_)
    | refine gS ?_ | exact s_m | intro _)
  refine g_as 10 (v' := .bool true) rfl (congrArg Value.bool (by simp)) ?_
  repeat (first
    | (refine g_ops ?_; first | refine sO ?_ | refine s_n (fun _ => ?_) | refine s_app (fun _ _ => ?_) | refine s_b0 (fun _ => ?_) | ((fail_if_success refine g_lit rfl rfl rfl ?_); first | apply g_partM rfl rfl rfl | apply g_partMB rfl rfl rfl | fail) | refine s_k (hsb) ?_)
    | refine gS ?_ | exact s_m | intro _)
  refine g_as 17 (v' := .bool true) rfl (congrArg Value.bool (by simp)) ?_
  repeat (first
    | (refine g_ops ?_; first | refine sO ?_ | refine s_n (fun _ => ?_) | refine s_app (fun _ _ => ?_) | refine s_b0 (fun _ => ?_) | ((fail_if_success refine g_lit rfl rfl rfl ?_); first | apply g_partM rfl rfl rfl | apply g_partMB rfl rfl rfl | fail) | refine s_k (hsb) ?_)
    | refine gS ?_ | exact s_m | intro _)
  refine g_as 24 (v' := .bool true) rfl (congrArg Value.bool (by simp)) ?_
  repeat (first
    | (refine g_ops ?_; first | refine sO ?_ | refine s_n (fun _ => ?_) | refine s_app (fun _ _ => ?_) | refine s_b0 (fun _ => ?_) | ((fail_if_success refine g_lit rfl rfl rfl ?_); first | apply g_partM rfl rfl rfl | apply g_partMB rfl rfl rfl | fail) | refine s_k (hsb) ?_)
    | refine gS ?_ | exact s_m | intro _)
  refine g_as 31 (v' := .bool true) rfl (congrArg Value.bool (by simp)) ?_
  repeat (first
    | (refine g_ops ?_; first | refine sO ?_ | refine s_n (fun _ => ?_) | refine s_app (fun _ _ => ?_) | refine s_b0 (fun _ => ?_) | ((fail_if_success refine g_lit rfl rfl rfl ?_); first | apply g_partM rfl rfl rfl | apply g_partMB rfl rfl rfl | fail) | refine s_k (hsb) ?_)
    | refine gS ?_ | exact s_m | intro _)
  refine g_as 38 (v' := .bool true) rfl (congrArg Value.bool (by simp)) ?_
  repeat (first
    | (refine g_ops ?_; first | refine sO ?_ | refine s_n (fun _ => ?_) | refine s_app (fun _ _ => ?_) | refine s_b0 (fun _ => ?_) | ((fail_if_success refine g_lit rfl rfl rfl ?_); first | apply g_partM rfl rfl rfl | apply g_partMB rfl rfl rfl | fail) | refine s_k (hsb) ?_)
    | refine gS ?_ | exact s_m | intro _)
  refine g_as 45 (v' := .bool true) rfl (congrArg Value.bool (by simp)) ?_
  repeat (first
    | (refine g_ops ?_; first | refine sO ?_ | refine s_n (fun _ => ?_) | refine s_app (fun _ _ => ?_) | refine s_b0 (fun _ => ?_) | ((fail_if_success refine g_lit rfl rfl rfl ?_); first | apply g_partM rfl rfl rfl | apply g_partMB rfl rfl rfl | fail) | refine s_k (hsb) ?_)
    | refine gS ?_ | exact s_m | intro _)
  refine g_as 52 (v' := .bool true) rfl (congrArg Value.bool (by simp)) ?_
  repeat (first
    | (refine g_ops ?_; first | refine sO ?_ | refine s_n (fun _ => ?_) | refine s_app (fun _ _ => ?_) | refine s_b0 (fun _ => ?_) | ((fail_if_success refine g_lit rfl rfl rfl ?_); first | apply g_partM rfl rfl rfl | apply g_partMB rfl rfl rfl | fail) | refine s_k (hsb) ?_)
    | refine gS ?_ | exact s_m | intro _)
  refine g_as 59 (v' := .bool true) rfl (congrArg Value.bool (by simp)) ?_
  repeat (first
    | (refine g_ops ?_; first | refine sO ?_ | refine s_n (fun _ => ?_) | refine s_app (fun _ _ => ?_) | refine s_b0 (fun _ => ?_) | ((fail_if_success refine g_lit rfl rfl rfl ?_); first | apply g_partM rfl rfl rfl | apply g_partMB rfl rfl rfl | fail) | refine s_k (hsb) ?_)
    | refine gS ?_ | exact s_m | intro _)
  refine g_as 66 (v' := .bool true) rfl (congrArg Value.bool (by simp)) ?_
  repeat (first
    | (refine g_ops ?_; first | refine sO ?_ | refine s_n (fun _ => ?_) | refine s_app (fun _ _ => ?_) | refine s_b0 (fun _ => ?_) | ((fail_if_success refine g_lit rfl rfl rfl ?_); first | apply g_partM rfl rfl rfl | apply g_partMB rfl rfl rfl | fail) | refine s_k (hsb) ?_)
    | refine gS ?_ | exact s_m | intro _)
  refine g_as 4 (v' := .bool true) rfl (congrArg Value.bool (by simp)) ?_
  exact gR () trivial
theorem ClAt.grow {H H' : HP} {x : Cl} {d : ClV} (h : ClAt H x d) (s : HP.sub H H') : ClAt H' x d := ⟨h.kind, h.key, h.sl.grow s, h.pts.grow s, h.stream, h.frm, h.pattern, h.max, h.first, h.tt⟩
attribute [local irreducible] weigh weighL callS ofOk ofC docOf
end Go.Proofs.YtaahibcibgljbaaDoor

namespace Go.Proofs.YtaahibcibgljbaaDoor
open Go.Sl facts
structure PtIn (C : Chunk) (x : Pt) : Prop where
  at_ : SlAt C 1 x.dp x.data.length (x.data.map Value.string)
  len : x.data.length ≤ 9223372036854775807
  nl : x.st.size ≤ 9223372036854775807
  tl : ∀ t ∈ x.data, t.size ≤ 9223372036854775807
  ex : inI x.exp
theorem PtIn.grow {H H' : HP} {x : Pt} (h : PtIn (Pile H) x) (s : HP.sub H H') : PtIn (Pile H') x := ⟨h.at_.grow s, h.len, h.nl, h.tl, h.ex⟩
def szP : List Pt → Nat
  | [] => 0
  | x :: l => x.st.size + x.data.length + szS x.data + szP l
theorem szP_cons (x : Pt) (l : List Pt) : szP (x :: l) = x.st.size + x.data.length + szS x.data + szP l := rfl
theorem szP_mem {x : Pt} : ∀ {l : List Pt}, x ∈ l → x.st.size + x.data.length + szS x.data ≤ szP l
  | [], h => by cases h
  | y :: l, h => by
    rw [szP_cons]
    rcases List.mem_cons.1 h with rfl | h
    · omega
    · have := szP_mem h; omega
attribute [local irreducible] Code.wp wpList Exit.then Exit.inBlock bodyPost Back MidQ G GP QStep VStep CStep SStep Does Post Reads
attribute [local irreducible] sumF
set_option maxHeartbeats 4000000 in
theorem batch28 {H : HP} (key : ByteArray) (pp : Option Addr) (pc : Nat) (l : List Pt) (hS : SlAt (Pile H) 3 pp l.length (l.flatMap Pt.cells)) (hA : ∀ x ∈ l, PtIn (Pile H) x) (hlen : l.length ≤ 9223372036854775807) (hkl : key.size ≤ 9223372036854775807) :
    Does Tryd.prog 19 [.agg #[.string key, .slice pp l.length pc], int 3000] [Pile H] (X := Int) int (fun _ => [Pile H]) (fun r => 0 ≤ r ∧ r ≤ most ∧ (r ≤ 3000 → (key.size : Int) + l.length + szP l ≤ r)) := by
  refine fn_intro Tryd.func19 rfl Tryd.ntmps19 rfl (by simp only [argFr, Nat.zero_add, Nat.reduceAdd]; rfl) (fun Γ => ?_)
  have hmost : most = 1099511627776 := rfl
  have h0 := sum_upS 0 [(key.size : Int), (l.length : Int)] (by simp) (by omega)
  simp only [List.sum_cons, List.sum_nil, Int.add_zero, Int.zero_add] at h0
  repeat (first
    | (refine g_ops ?_; first | refine s_q ?_ | refine s_v ?_ | refine s_s ?_ | refine s_n (fun _ => ?_) | refine s_x ?_ | refine s_y ?_ | refine s_mq ?_ | refine s_app (fun _ _ => ?_) | refine s_mv ?_ | refine s_ms ?_ | refine s_b0 (fun _ => ?_) | ((fail_if_success refine g_lit rfl rfl rfl ?_); first | apply g_partM rfl rfl rfl | apply g_partMB rfl rfl rfl | fail) | refine s_k (sum_row _ _ _ 0 [(key.size : Int), (l.length : Int)] ⟨by omega, by omega⟩ (by simp; omega) (by simp)) ?_)
    | apply g_regB (id := 3) 24 | refine g_seq ?_ | refine g_region ?_ | refine g_nil ?_ | refine g_then_normal ?_ | refine g_block ?_ | refine g_in_normal ?_
    | refine g_retc ?_ | refine g_then_ret ?_ | refine g_in_ret ?_ | refine g_exit ?_ | refine g_then_exit ?_ | refine g_in_exit ?_ | refine g_in_other rfl ?_
    | refine g_skip ?_ | refine g_label ?_ | refine g_cond_true rfl ?_ | refine g_cond_false rfl ?_ | exact s_m | intro _ | (refine gp_take ?_; first | refine p_q ?_ | refine p_x ?_ | refine p_mq ?_ | ((fail_if_success refine gp_lit rfl rfl rfl rfl ?_); first | apply gp_guard_dec rfl rfl rfl rfl | apply gp_guard rfl rfl rfl rfl | fail))
    | (refine gp_see ?_; first | refine p_f ?_ | refine p_sx ?_ | ((fail_if_success refine gp_lit rfl rfl rfl rfl ?_); first | apply gp_guard_dec rfl rfl rfl rfl | apply gp_guard rfl rfl rfl rfl | fail) | refine p_h (sum_row _ _ _ 0 [(key.size : Int), (l.length : Int)] ⟨by omega, by omega⟩ (by simp; omega) (by simp)) hd hk ?_ | refine p_sq ?_)
    | (refine gp_one ?_; first | refine p_v ?_ | refine p_s ?_ | refine p_n (fun _ => ?_) | refine p_y ?_ | refine p_app (fun _ _ => ?_) | refine p_mv ?_ | refine p_ms ?_ | refine p_b0 (fun _ => ?_) | ((fail_if_success refine gp_lit rfl rfl rfl rfl ?_); first | apply gp_guard_dec rfl rfl rfl rfl | apply gp_guard rfl rfl rfl rfl | fail) | refine p_k (sum_row _ _ _ 0 [(key.size : Int), (l.length : Int)] ⟨by omega, by omega⟩ (by simp; omega) (by simp)) ?_)
    | refine gp_two ?_ ?_ | refine gp_done hd hk ?_ | intro _ | refine p_ta hd hk (fun _ _ _ hd hk => ?_) | refine p_ts hd hk (fun _ hd hk => ?_))
  rename_i b2 b3
  refine g_loop (X := IM) (fun x => [(6, int x.i), (5, int x.m), (4, int 0), (2, ptr b2), (1, int 3000)]) (fun _ => [.row b2 [.string key, .slice pp l.length pc] 32, Pile H]) (fun x => x.i ≤ l.length ∧ 0 ≤ x.m ∧ x.m ≤ most ∧ (x.m ≤ 3000 → (key.size : Int) + l.length + szP l ≤ x.m + szP (l.drop x.i))) (fun x => l.length - x.i) ⟨0, sumF 0 [(key.size : Int), (l.length : Int)]⟩ ⟨Nat.zero_le _, by simp only; omega, h0.1, fun h => by have := h0.2.2 (by simp only at h; omega); simp only [List.drop_zero]; omega⟩ (by (repeat (first | exact FrSub.nil | refine FrSub.cons rfl ?_)); first | done | fail) (by (repeat (first | exact Take.nil | apply Take.cons | exact Sel.here | apply Sel.there)); first | done | fail) (fun x hx => ?_)
  obtain ⟨i, m⟩ := x
  obtain ⟨hi, hm0, hm1, hm2⟩ := hx
  dsimp only at hi hm0 hm1 hm2 ⊢
  repeat (first
    | (refine g_ops ?_; first | refine s_q ?_ | refine s_v ?_ | refine s_s ?_ | refine s_n (fun _ => ?_) | refine s_x ?_ | refine s_y ?_ | refine s_mq ?_ | refine s_app (fun _ _ => ?_) | refine s_mv ?_ | refine s_ms ?_ | refine s_b0 (fun _ => ?_) | ((fail_if_success refine g_lit rfl rfl rfl ?_); first | apply g_partM rfl rfl rfl | apply g_partMB rfl rfl rfl | fail))
    | apply g_regB (id := 3) 24 | refine g_seq ?_ | refine g_region ?_ | refine g_nil ?_ | refine g_then_normal ?_ | refine g_block ?_ | refine g_in_normal ?_
    | refine g_retc ?_ | refine g_then_ret ?_ | refine g_in_ret ?_ | refine g_exit ?_ | refine g_then_exit ?_ | refine g_in_exit ?_ | refine g_in_other rfl ?_
    | refine g_skip ?_ | refine g_label ?_ | refine g_cond_true rfl ?_ | refine g_cond_false rfl ?_ | exact s_m | intro _ | (refine gp_take ?_; first | refine p_q ?_ | refine p_x ?_ | refine p_mq ?_ | ((fail_if_success refine gp_lit rfl rfl rfl rfl ?_); first | apply gp_guard_dec rfl rfl rfl rfl | apply gp_guard rfl rfl rfl rfl | fail))
    | (refine gp_see ?_; first | refine p_f ?_ | refine p_sx ?_ | ((fail_if_success refine gp_lit rfl rfl rfl rfl ?_); first | apply gp_guard_dec rfl rfl rfl rfl | apply gp_guard rfl rfl rfl rfl | fail) | refine p_sq ?_)
    | (refine gp_one ?_; first | refine p_v ?_ | refine p_s ?_ | refine p_n (fun _ => ?_) | refine p_y ?_ | refine p_app (fun _ _ => ?_) | refine p_mv ?_ | refine p_ms ?_ | refine p_b0 (fun _ => ?_) | ((fail_if_success refine gp_lit rfl rfl rfl rfl ?_); first | apply gp_guard_dec rfl rfl rfl rfl | apply gp_guard rfl rfl rfl rfl | fail))
    | refine gp_two ?_ ?_ | refine gp_done hd hk ?_ | intro _ | refine p_ta hd hk (fun _ _ _ hd hk => ?_) | refine p_ts hd hk (fun _ hd hk => ?_))
  refine g_cond rfl (fun h2 => ?_) (fun h2 => ?_)
  · have hi' : i < l.length := by simp at h2; omega
    obtain ⟨b, o, rfl, hcell⟩ := slAt_elem hS pt_len (by decide) (i := i) (a := l[i]) (by simp [hi'])
    have hAi := hA l[i] (List.getElem_mem _)
    rw [List.drop_eq_getElem_cons hi', szP_cons] at hm2
    generalize hx : l[i] = x at hcell hAi hm2
    have hto := total x.dp x.dc 3000 x.data hAi.at_ (by decide) hAi.len hAi.tl
    have hnl := hAi.nl
    repeat (first
      | (refine g_ops ?_; first | refine s_q ?_ | refine s_v ?_ | refine s_s ?_ | refine s_n (fun _ => ?_) | refine s_x ?_ | refine s_y ?_ | refine s_mq ?_ | refine s_app (fun _ _ => ?_) | refine s_mv ?_ | refine s_ms ?_ | refine s_b0 (fun _ => ?_) | ((fail_if_success refine g_lit rfl rfl rfl ?_); first | apply g_partM rfl rfl rfl | apply g_partMB rfl rfl rfl | fail))
      | apply g_regB (id := 3) 24 | refine g_seq ?_ | refine g_region ?_ | refine g_nil ?_ | refine g_then_normal ?_ | refine g_block ?_ | refine g_in_normal ?_
      | refine g_retc ?_ | refine g_then_ret ?_ | refine g_in_ret ?_ | refine g_exit ?_ | refine g_then_exit ?_ | refine g_in_exit ?_ | refine g_in_other rfl ?_
      | refine g_skip ?_ | refine g_label ?_ | refine g_cond_true rfl ?_ | refine g_cond_false rfl ?_ | exact s_m | intro _ | (refine gp_take ?_; first | refine p_q ?_ | refine p_x ?_ | refine p_mq ?_ | ((fail_if_success refine gp_lit rfl rfl rfl rfl ?_); first | apply gp_guard_dec rfl rfl rfl rfl | apply gp_guard rfl rfl rfl rfl | fail))
      | (refine gp_see ?_; first | refine p_f ?_ | refine p_sx ?_ | ((fail_if_success refine gp_lit rfl rfl rfl rfl ?_); first | apply gp_guard_dec rfl rfl rfl rfl | apply gp_guard rfl rfl rfl rfl | fail) | refine p_sq ?_)
      | (refine gp_one ?_; first | refine p_v ?_ | refine p_s ?_ | refine p_n (fun _ => ?_) | refine p_y ?_ | refine p_app (fun _ _ => ?_) | refine p_mv ?_ | refine p_ms ?_ | refine p_b0 (fun _ => ?_) | ((fail_if_success refine gp_lit rfl rfl rfl rfl ?_); first | apply gp_guard_dec rfl rfl rfl rfl | apply gp_guard rfl rfl rfl rfl | fail))
      | refine gp_two ?_ ?_ | refine gp_done hd hk ?_ | intro _ | refine p_ta hd hk (fun _ _ _ hd hk => ?_) | refine p_ts hd hk (fun _ hd hk => ?_))
    refine g_draw (.take 0 (.take 1 (.see 2 [] (.take 3 (.take 4 (.take 5 (.see 6 [] (.take 7 (.take 8 (.see 9 [] (.take 10 (.take 11 (.take 12 (.see 13 [] (.take 14 (.one 15 (.one 16 (.one 17 (.take 18 .done))))))))))))))))))) (by kernel_rfl) (take_all _) (fun k hd hk => ?_)
    repeat (first
      | (refine gp_take ?_; first | refine p_q ?_ | refine p_x ?_ | refine p_mq ?_ | ((fail_if_success refine gp_lit rfl rfl rfl rfl ?_); first | apply gp_guard_dec rfl rfl rfl rfl | apply gp_guard rfl rfl rfl rfl | fail))
      | (refine gp_see ?_; first | refine p_f ?_ | refine p_sx ?_ | ((fail_if_success refine gp_lit rfl rfl rfl rfl ?_); first | apply gp_guard_dec rfl rfl rfl rfl | apply gp_guard rfl rfl rfl rfl | fail) | refine p_sq ?_)
      | (refine gp_one ?_; first | refine p_v ?_ | refine p_s ?_ | refine p_n (fun _ => ?_) | refine p_y ?_ | refine p_app (fun _ _ => ?_) | refine p_mv ?_ | refine p_ms ?_ | refine p_b0 (fun _ => ?_) | ((fail_if_success refine gp_lit rfl rfl rfl rfl ?_); first | apply gp_guard_dec rfl rfl rfl rfl | apply gp_guard rfl rfl rfl rfl | fail) | refine p_cP (hto) hd hk (fun _ _ => ?_))
      | refine gp_two ?_ ?_ | refine gp_done hd hk ?_ | intro _ | refine p_ta hd hk (fun _ _ _ hd hk => ?_) | refine p_ts hd hk (fun _ hd hk => ?_))
    rename_i r hr' _
    obtain ⟨hr0, hr1, hr2⟩ := hr'
    have h3 := sum_upS m [(x.st.size : Int), r] (by simp; omega) hm1
    simp only [List.sum_cons, List.sum_nil, Int.add_zero] at h3
    repeat (first
      | (refine gp_take ?_; first | refine p_q ?_ | refine p_x ?_ | refine p_mq ?_ | ((fail_if_success refine gp_lit rfl rfl rfl rfl ?_); first | apply gp_guard_dec rfl rfl rfl rfl | apply gp_guard rfl rfl rfl rfl | fail))
      | (refine gp_see ?_; first | refine p_f ?_ | refine p_sx ?_ | ((fail_if_success refine gp_lit rfl rfl rfl rfl ?_); first | apply gp_guard_dec rfl rfl rfl rfl | apply gp_guard rfl rfl rfl rfl | fail) | refine p_h (sum_row _ _ _ m [(x.st.size : Int), r] ⟨hm0, hm1⟩ (by simp; omega) (by simp)) hd hk ?_ | refine p_sq ?_)
      | (refine gp_one ?_; first | refine p_v ?_ | refine p_s ?_ | refine p_n (fun _ => ?_) | refine p_y ?_ | refine p_app (fun _ _ => ?_) | refine p_mv ?_ | refine p_ms ?_ | refine p_b0 (fun _ => ?_) | ((fail_if_success refine gp_lit rfl rfl rfl rfl ?_); first | apply gp_guard_dec rfl rfl rfl rfl | apply gp_guard rfl rfl rfl rfl | fail) | refine p_k (sum_row _ _ _ m [(x.st.size : Int), r] ⟨hm0, hm1⟩ (by simp; omega) (by simp)) ?_)
      | refine gp_two ?_ ?_ | refine gp_done hd hk ?_ | intro _ | refine p_ta hd hk (fun _ _ _ hd hk => ?_) | refine p_ts hd hk (fun _ hd hk => ?_))
    repeat (first
      | (refine g_ops ?_; first | refine s_q ?_ | refine s_v ?_ | refine s_s ?_ | refine s_n (fun _ => ?_) | refine s_x ?_ | refine s_y ?_ | refine s_mq ?_ | refine s_app (fun _ _ => ?_) | refine s_mv ?_ | refine s_ms ?_ | refine s_b0 (fun _ => ?_) | ((fail_if_success refine g_lit rfl rfl rfl ?_); first | apply g_partM rfl rfl rfl | apply g_partMB rfl rfl rfl | fail))
      | apply g_regB (id := 3) 24 | refine g_seq ?_ | refine g_region ?_ | refine g_nil ?_ | refine g_then_normal ?_ | refine g_block ?_ | refine g_in_normal ?_
      | refine g_retc ?_ | refine g_then_ret ?_ | refine g_in_ret ?_ | refine g_exit ?_ | refine g_then_exit ?_ | refine g_in_exit ?_ | refine g_in_other rfl ?_
      | refine g_skip ?_ | refine g_label ?_ | refine g_cond_true rfl ?_ | refine g_cond_false rfl ?_ | exact s_m | intro _ | (refine gp_take ?_; first | refine p_q ?_ | refine p_x ?_ | refine p_mq ?_ | ((fail_if_success refine gp_lit rfl rfl rfl rfl ?_); first | apply gp_guard_dec rfl rfl rfl rfl | apply gp_guard rfl rfl rfl rfl | fail))
      | (refine gp_see ?_; first | refine p_f ?_ | refine p_sx ?_ | ((fail_if_success refine gp_lit rfl rfl rfl rfl ?_); first | apply gp_guard_dec rfl rfl rfl rfl | apply gp_guard rfl rfl rfl rfl | fail) | refine p_sq ?_)
      | (refine gp_one ?_; first | refine p_v ?_ | refine p_s ?_ | refine p_n (fun _ => ?_) | refine p_y ?_ | refine p_app (fun _ _ => ?_) | refine p_mv ?_ | refine p_ms ?_ | refine p_b0 (fun _ => ?_) | ((fail_if_success refine gp_lit rfl rfl rfl rfl ?_); first | apply gp_guard_dec rfl rfl rfl rfl | apply gp_guard rfl rfl rfl rfl | fail))
      | refine gp_two ?_ ?_ | refine gp_done hd hk ?_ | intro _ | refine p_ta hd hk (fun _ _ _ hd hk => ?_) | refine p_ts hd hk (fun _ hd hk => ?_))
    refine g_as 6 (v' := int ((i + 1 : Nat) : Int)) rfl (congrArg (Value.int .i64) (by push_cast; rfl)) ?_
    exact g_again ⟨i + 1, sumF m [(x.st.size : Int), r]⟩ (by simp only []; omega) ⟨hi', by simp only []; omega, h3.1, fun h => by
      simp only at h ⊢
      have h5 := h3.2.2 (by omega)
      have h6 := hr2 (by omega)
      have h7 := hm2 (by omega)
      push_cast at h7
      omega⟩ (by (repeat (first | exact FrSub.nil | refine FrSub.cons rfl ?_)); first | done | fail) (by (repeat (first | exact Take.nil | apply Take.cons | exact Sel.here | apply Sel.there)); first | done | fail)
  · repeat (first
      | (refine g_ops ?_; first | refine s_q ?_ | refine s_v ?_ | refine s_s ?_ | refine s_n (fun _ => ?_) | refine s_x ?_ | refine s_y ?_ | refine s_mq ?_ | refine s_app (fun _ _ => ?_) | refine s_mv ?_ | refine s_ms ?_ | refine s_b0 (fun _ => ?_) | ((fail_if_success refine g_lit rfl rfl rfl ?_); first | apply g_partM rfl rfl rfl | apply g_partMB rfl rfl rfl | fail))
      | apply g_regB (id := 3) 24 | refine g_seq ?_ | refine g_region ?_ | refine g_nil ?_ | refine g_then_normal ?_ | refine g_block ?_ | refine g_in_normal ?_
      | refine g_retc ?_ | refine g_then_ret ?_ | refine g_in_ret ?_ | refine g_exit ?_ | refine g_then_exit ?_ | refine g_in_exit ?_ | refine g_in_other rfl ?_
      | refine g_skip ?_ | refine g_label ?_ | refine g_cond_true rfl ?_ | refine g_cond_false rfl ?_ | exact s_m | intro _ | (refine gp_take ?_; first | refine p_q ?_ | refine p_x ?_ | refine p_mq ?_ | ((fail_if_success refine gp_lit rfl rfl rfl rfl ?_); first | apply gp_guard_dec rfl rfl rfl rfl | apply gp_guard rfl rfl rfl rfl | fail))
      | (refine gp_see ?_; first | refine p_f ?_ | refine p_sx ?_ | ((fail_if_success refine gp_lit rfl rfl rfl rfl ?_); first | apply gp_guard_dec rfl rfl rfl rfl | apply gp_guard rfl rfl rfl rfl | fail) | refine p_sq ?_)
      | (refine gp_one ?_; first | refine p_v ?_ | refine p_s ?_ | refine p_n (fun _ => ?_) | refine p_y ?_ | refine p_app (fun _ _ => ?_) | refine p_mv ?_ | refine p_ms ?_ | refine p_b0 (fun _ => ?_) | ((fail_if_success refine gp_lit rfl rfl rfl rfl ?_); first | apply gp_guard_dec rfl rfl rfl rfl | apply gp_guard rfl rfl rfl rfl | fail))
      | refine gp_two ?_ ?_ | refine gp_done hd hk ?_ | intro _ | refine p_ta hd hk (fun _ _ _ hd hk => ?_) | refine p_ts hd hk (fun _ hd hk => ?_))
    exact s_r m (hx := ⟨hm0, hm1, fun h => by
      have : i = l.length := by simp at h2; omega
      subst this
      have := hm2 h
      rw [List.drop_length] at this
      simpa [szP] using this⟩)
theorem tat1 {H : HP} {b : Nat} {k1 : ByteArray} {w1 : Value} {x1 : V} (hS : SlAt (Pile H) 2 (some ⟨b, 0, none⟩) 1 [.string k1, w1]) (h1 : TAt H x1 w1) (z1 : k1.size ≤ 9223372036854775807) : TAt H (pairsV [k1] [x1]) (.iface 59 (.slice (some ⟨b, 0, none⟩) 1 1)) := by
  refine .pairs [⟨k1, w1⟩] rfl (by simp) rfl (fun q hq => ?_) hS fun i a q e1 e2 => ?_
  · simp only [List.mem_cons, List.not_mem_nil, or_false] at hq
    subst hq; exact z1
  · match i with
    | 0 => cases e1; cases e2; exact h1
    | i + 1 => simp at e1
theorem tat2 {H : HP} {b : Nat} {k1 k2 : ByteArray} {w1 w2 : Value} {x1 x2 : V} (hS : SlAt (Pile H) 2 (some ⟨b, 0, none⟩) 2 [.string k1, w1, .string k2, w2]) (h1 : TAt H x1 w1) (h2 : TAt H x2 w2) (z1 : k1.size ≤ 9223372036854775807) (z2 : k2.size ≤ 9223372036854775807) : TAt H (pairsV [k1, k2] [x1, x2]) (.iface 59 (.slice (some ⟨b, 0, none⟩) 2 2)) := by
  refine .pairs [⟨k1, w1⟩, ⟨k2, w2⟩] rfl (by simp) rfl (fun q hq => ?_) hS fun i a q e1 e2 => ?_
  · simp only [List.mem_cons, List.not_mem_nil, or_false] at hq
    rcases hq with rfl | rfl
    · exact z1
    · exact z2
  · match i with
    | 0 => cases e1; cases e2; exact h1
    | 1 => cases e1; cases e2; exact h2
    | i + 2 => simp at e1
theorem tat3 {H : HP} {b : Nat} {k1 k2 k3 : ByteArray} {w1 w2 w3 : Value} {x1 x2 x3 : V} (hS : SlAt (Pile H) 2 (some ⟨b, 0, none⟩) 3 [.string k1, w1, .string k2, w2, .string k3, w3]) (h1 : TAt H x1 w1) (h2 : TAt H x2 w2) (h3 : TAt H x3 w3) (z1 : k1.size ≤ 9223372036854775807) (z2 : k2.size ≤ 9223372036854775807) (z3 : k3.size ≤ 9223372036854775807) : TAt H (pairsV [k1, k2, k3] [x1, x2, x3]) (.iface 59 (.slice (some ⟨b, 0, none⟩) 3 3)) := by
  refine .pairs [⟨k1, w1⟩, ⟨k2, w2⟩, ⟨k3, w3⟩] rfl (by simp) rfl (fun q hq => ?_) hS fun i a q e1 e2 => ?_
  · simp only [List.mem_cons, List.not_mem_nil, or_false] at hq
    rcases hq with rfl | rfl | rfl
    · exact z1
    · exact z2
    · exact z3
  · match i with
    | 0 => cases e1; cases e2; exact h1
    | 1 => cases e1; cases e2; exact h2
    | 2 => cases e1; cases e2; exact h3
    | i + 3 => simp at e1
def putL (x : Pt) : V := listV (textV x.st :: intV x.exp :: x.data.map textV)
def valC' (x : Cl) : V :=
  if x.kind = 1 then pairsV [kAppend, kKey] [listV (x.pts.map putL), textV x.key]
  else if x.kind = 2 then pairsV [kFrom, kMax, kRead] [intV x.frm, intV x.max, textV x.stream]
  else if x.kind = 3 then pairsV [kMax, kPoll] [intV x.max, textV x.pattern]
  else if x.kind = 4 then pairsV [kSplit] [intV x.frm]
  else if x.kind = 5 then pairsV [kMove, kTo] [intV x.first, intV x.tt]
  else if x.kind = 6 then pairsV [kMap] [nilV]
  else nilV
structure ClIn (H : HP) (x : Cl) : Prop where
  sl : SlAt (Pile H) 3 x.pp x.pts.length (x.pts.flatMap Pt.cells)
  pts : ∀ y ∈ x.pts, PtIn (Pile H) y
  n : x.pts.length ≤ 100000
  m : ∀ y ∈ x.pts, y.data.length ≤ 100000
  k : x.key.size ≤ 9223372036854775807
  s : x.stream.size ≤ 9223372036854775807
  p : x.pattern.size ≤ 9223372036854775807
  i1 : inI x.frm
  i2 : inI x.max
  i3 : inI x.first
  i4 : inI x.tt
theorem put_tat {H : HP} {st : ByteArray} {ex : Int} {dp : Option Addr} {dc : Nat} {data : List ByteArray} {q : Option Addr} {c : Nat} (hS : SlAt (Pile H) 1 q (2 + data.length) (.iface 9 (.string st) :: .iface 3 (int ex) :: data.map fun t => .iface 9 (.string t))) (hc : 2 + data.length ≤ c) (hd : data.length ≤ 9223372036854775807) (hst : st.size ≤ 9223372036854775807) (hda : ∀ t ∈ data, t.size ≤ 9223372036854775807) (hex : inI ex) (hd2 : data.length ≤ 100000) : TAt H (putL ⟨st, ex, dp, dc, data⟩) (.iface 60 (.slice q (2 + data.length) c)) := by
  have hl : (textV st :: intV ex :: data.map textV).length = 2 + data.length := by simp; omega
  unfold putL
  dsimp only
  rw [← hl] at hS hc ⊢
  refine .list (.iface 9 (.string st) :: .iface 3 (int ex) :: data.map fun t => .iface 9 (.string t)) (by simp) ⟨by omega, hc⟩ hS fun i a w h1 h2 => ?_
  match i with
  | 0 => cases h1; cases h2; exact .text hst
  | 1 => cases h1; cases h2; exact .int hex
  | i + 2 =>
    simp only [List.getElem?_cons_succ, List.getElem?_map, Option.map_eq_some_iff] at h1 h2
    obtain ⟨t, ht, rfl⟩ := h1
    obtain ⟨t', ht', rfl⟩ := h2
    rw [ht] at ht'
    cases ht'
    exact .text (hda t (List.mem_of_getElem? ht))
structure VoX where
  k : Nat
  q : Option Addr
  c : Nat
  vs : List Value
  H : HP
structure ViX where
  k : Nat
  q : Option Addr
  c : Nat
set_option maxHeartbeats 32000000 in
theorem value28 {H : HP} (x : Cl) (hx : ClIn H x) : Does Tryd.prog 20 [.agg x.cells.toArray] [Pile H] (X := HP × Value) (fun y => y.2) (fun y => [Pile y.1]) (fun y => HP.sub H y.1 ∧ TAt y.1 (valC' x) y.2) := by
  obtain ⟨kind, key, pp, pc, pts, stream, frm, pattern, max, first, tt⟩ := x
  obtain ⟨hsl, hpts, hn, hm, hk, hs, hp, h1, h2, h3, h4⟩ := hx
  dsimp only at hsl hpts hn hm hk hs hp h1 h2 h3 h4
  dsimp only [Cl.cells]
  generalize hV : valC' ⟨kind, key, pp, pc, pts, stream, frm, pattern, max, first, tt⟩ = V0
  unfold valC' at hV
  dsimp only at hV
  refine fn_intro Tryd.func20 rfl Tryd.ntmps20 rfl (by simp only [argFr, Nat.zero_add, Nat.reduceAdd]; rfl) (fun Γ => ?_)
  repeat (first
    | (refine g_ops ?_; first | refine sO ?_ | refine s_n (fun _ => ?_) | refine s_app (fun _ _ => ?_) | refine s_b0 (fun _ => ?_) | ((fail_if_success refine g_lit rfl rfl rfl ?_); first | apply g_partM rfl rfl rfl | apply g_partMB rfl rfl rfl | fail))
    | refine gS ?_ | exact s_m | intro _)
  refine g_cond_dec rfl (fun k1 => ?_) (fun k1 => ?_)
  · rw [if_pos k1] at hV
    subst hV
    repeat (first
      | (refine g_ops ?_; first | refine sO ?_ | refine s_n (fun _ => ?_) | refine s_app (fun _ _ => ?_) | refine s_b0 (fun _ => ?_) | ((fail_if_success refine g_lit rfl rfl rfl ?_); first | apply g_partM rfl rfl rfl | apply g_partMB rfl rfl rfl | fail))
      | refine gS ?_ | exact s_m | intro _)
    rename_i rb b0
    refine g_loop (X := VoX) (fun x => [(1, ptr rb), (3, .slice x.q x.k x.c), (16, .slice pp pts.length pc), (17, int pts.length), (18, int x.k)]) (fun x => [.own x.q x.k x.c 1 x.vs 20, .row rb [int kind, int 0, int 0, int 0, .string key, .slice pp pts.length pc, .string stream, int frm, int 0, int 0, int 0, int 0, .string ByteArray.empty, .string pattern, int max, int first, int 0, int 0, int 0, int tt] 38, Pile x.H])
      (fun x => x.k ≤ pts.length ∧ x.vs.length = x.k ∧ HP.sub H x.H ∧ ∀ (j : Nat) a w, ((pts.take x.k).map putL)[j]? = some a → x.vs[j]? = some w → TAt x.H a w) (fun x => pts.length - x.k) ⟨0, some ⟨b0, 0, none⟩, 0, [], H⟩ ⟨Nat.zero_le _, rfl, HP.sub.refl _, fun j a w _ hw => (nil_get hw).elim⟩ (by (repeat (first | exact FrSub.nil | refine FrSub.cons rfl ?_)); first | done | fail) (by (repeat (first | exact Take.nil | apply Take.cons | exact Sel.here | apply Sel.there)); first | done | fail) (fun x hx => ?_)
    obtain ⟨k, q, c4, vs, H1⟩ := x
    obtain ⟨hk', hvl, hs1, hts⟩ := hx
    dsimp only at hk' hvl hs1 hts ⊢
    repeat (first
      | (refine g_ops ?_; first | refine sO ?_ | refine s_n (fun _ => ?_) | refine s_app (fun _ _ => ?_) | refine s_b0 (fun _ => ?_) | ((fail_if_success refine g_lit rfl rfl rfl ?_); first | apply g_partM rfl rfl rfl | apply g_partMB rfl rfl rfl | fail))
      | refine gS ?_ | exact s_m | intro _)
    refine g_cond_dec rfl (fun g1 => ?_) (fun g1 => ?_)
    · have hlt : k < pts.length := by omega
      have hgl : pts[k]? = some pts[k] := List.getElem?_eq_getElem hlt
      have hpt := (hpts _ (List.getElem_mem hlt)).grow hs1
      have hpm := hm _ (List.getElem_mem hlt)
      obtain ⟨b3, o3, rfl, hrow⟩ := slAt_elem (hsl.grow hs1) pt_len (by decide) hgl
      have htk : pts.take (k + 1) = pts.take k ++ [pts[k]] := by rw [List.take_add_one, hgl]; rfl
      generalize pts[k] = y at hpt hpm hrow htk
      obtain ⟨st, ex, dp, dc, data⟩ := y
      obtain ⟨g2, g3, g4, g5, g6⟩ := hpt
      dsimp only at g2 g3 g4 g5 g6 hpm hrow
      repeat (first
        | (refine g_ops ?_; first | refine sO ?_ | refine s_n (fun _ => ?_) | refine s_app (fun _ _ => ?_) | refine s_b0 (fun _ => ?_) | ((fail_if_success refine g_lit rfl rfl rfl ?_); first | apply g_partM rfl rfl rfl | apply g_partMB rfl rfl rfl | fail))
        | refine gS ?_ | exact s_m | intro _)
      rename_i b5 lb
      refine g_toOwn (b := lb) (len := 2) (n := 1) (by (repeat (first | exact Sel.here | apply Sel.there)); first | done | fail) rfl rfl ?_
      refine g_loop (X := ViX) (fun z => [(1, ptr rb), (3, .slice q k c4), (16, .slice (some ⟨b3, o3, none⟩) pts.length pc), (17, int pts.length), (18, int k), (6, .slice z.q (2 + z.k) z.c), (30, .slice dp data.length dc), (31, int data.length), (32, int z.k)]) (fun z => [.own z.q (2 + z.k) z.c 1 (.iface 9 (.string st) :: .iface 3 (int ex) :: (data.take z.k).map fun t => .iface 9 (.string t)) 20, .own q k c4 1 vs 20, .row rb [int kind, int 0, int 0, int 0, .string key, .slice (some ⟨b3, o3, none⟩) pts.length pc, .string stream, int frm, int 0, int 0, int 0, int 0, .string ByteArray.empty, .string pattern, int max, int first, int 0, int 0, int 0, int tt] 38, Pile H1])
        (fun z => z.k ≤ data.length) (fun z => data.length - z.k) ⟨0, some ⟨lb, 0, none⟩, 2⟩ (Nat.zero_le _) (by (repeat (first | exact FrSub.nil | refine FrSub.cons rfl ?_)); first | done | fail) (by (repeat (first | exact Take.nil | apply Take.cons | exact Sel.here | apply Sel.there)); first | done | fail) (fun z hz => ?_)
      obtain ⟨j, q2, c5⟩ := z
      dsimp only at hz ⊢
      repeat (first
        | (refine g_ops ?_; first | refine sO ?_ | refine s_n (fun _ => ?_) | refine s_app (fun _ _ => ?_) | refine s_b0 (fun _ => ?_) | ((fail_if_success refine g_lit rfl rfl rfl ?_); first | apply g_partM rfl rfl rfl | apply g_partMB rfl rfl rfl | fail))
        | refine gS ?_ | exact s_m | intro _)
      refine g_cond_dec rfl (fun g7 => ?_) (fun g7 => ?_)
      · have hj : j < data.length := by omega
        have hgd : (data.map Value.string)[j]? = some (.string data[j]) := by simp [hj]
        obtain ⟨b6, o6, rfl, hr0⟩ := slAt_cell g2 hgd
        have hdk : data.take (j + 1) = data.take j ++ [data[j]] := by rw [List.take_add_one, List.getElem?_eq_getElem hj]; rfl
        generalize data[j] = t at hr0 hdk
        have hr : ∀ a, a = j → Reads (Pile H1) ⟨b6, o6 + a, none⟩ (.string t) := fun _ e => e ▸ hr0
        repeat (first
          | (refine g_ops ?_; first | refine sO ?_ | refine s_n (fun _ => ?_) | refine s_app (fun _ _ => ?_) | refine s_b0 (fun _ => ?_) | ((fail_if_success refine g_lit rfl rfl rfl ?_); first | apply g_partM rfl rfl rfl | apply g_partMB rfl rfl rfl | fail))
          | refine gS ?_ | exact s_m | intro _)
        rename_i q6 c6
        refine g_as 32 (v' := int ((j + 1 : Nat) : Int)) rfl (congrArg (Value.int .i64) (by push_cast; rfl)) ?_
        rw [show 2 + j + 1 = 2 + (j + 1) by omega, show (Value.iface 9 (.string st) :: Value.iface 3 (int ex) :: (data.take j).map fun t => Value.iface 9 (.string t)) ++ [Value.iface 9 (.string t)] = Value.iface 9 (.string st) :: Value.iface 3 (int ex) :: (data.take (j + 1)).map fun t => Value.iface 9 (.string t) by rw [hdk]; simp]
        exact gA ⟨j + 1, q6, c6⟩ (by simp only; omega) hj
      · obtain rfl : j = data.length := by omega
        rw [List.take_length]
        refine g_capO (by (repeat (first | exact Sel.here | apply Sel.there)); first | done | fail) (fun hcap2 => ?_)
        repeat (first
          | (refine g_ops ?_; first | refine sO ?_ | refine s_n (fun _ => ?_) | refine s_app (fun _ _ => ?_) | refine s_b0 (fun _ => ?_) | ((fail_if_success refine g_lit rfl rfl rfl ?_); first | apply g_partM rfl rfl rfl | apply g_partMB rfl rfl rfl | fail))
          | refine gS ?_ | exact s_m | intro _)
        rename_i q6 c6
        refine g_pile (p := q2) (n := 1) (by (repeat (first | exact Sel.here | apply Sel.there)); first | done | fail) (by (repeat (first | exact Sel.here | apply Sel.there)); first | done | fail) (fun H2 hs2 hS2 => ?_)
        have hpt := put_tat (dp := dp) (dc := dc) hS2 hcap2 g3 g4 g5 g6 hpm
        refine g_as 18 (v' := int ((k + 1 : Nat) : Int)) rfl (congrArg (Value.int .i64) (by push_cast; rfl)) ?_
        refine gA ⟨k + 1, q6, c6, vs ++ [.iface 60 (.slice q2 (2 + data.length) c5)], H2⟩ (by simp only; omega) ⟨hlt, by simp [hvl], hs1.trans hs2, fun j a w ha hw => ?_⟩
        dsimp only at ha hw ⊢
        rw [htk, List.map_append] at ha
        have hl0 : ((pts.take k).map putL).length = k := by rw [List.length_map, List.length_take]; omega
        rcases Nat.lt_or_ge j k with hj | hj
        · rw [List.getElem?_append_left (by omega)] at ha hw
          exact (hts j a w ha hw).grow hs2
        · rw [List.getElem?_append_right (by omega)] at ha hw
          have hj0 : j - vs.length = 0 := by
            have := (List.getElem?_eq_some_iff.1 hw).1
            simp only [List.length_singleton] at this
            omega
          rw [hl0, show j - k = 0 by omega] at ha
          rw [hj0] at hw
          cases ha; cases hw
          exact hpt
    · obtain rfl : k = pts.length := by omega
      refine g_capO (by (repeat (first | exact Sel.here | apply Sel.there)); first | done | fail) (fun hcap => ?_)
      rw [List.take_length] at hts
      repeat (first
        | (refine g_ops ?_; first | refine sO ?_ | refine s_n (fun _ => ?_) | refine s_app (fun _ _ => ?_) | refine s_b0 (fun _ => ?_) | ((fail_if_success refine g_lit rfl rfl rfl ?_); first | apply g_partM rfl rfl rfl | apply g_partMB rfl rfl rfl | fail))
        | refine gS ?_ | exact s_m | intro _)
      rename_i lb
      refine g_pile (p := q) (n := 1) (by (repeat (first | exact Sel.here | apply Sel.there)); first | done | fail) (by (repeat (first | exact Sel.here | apply Sel.there)); first | done | fail) (fun H2 hs2 hS2 => ?_)
      have hlw : TAt H2 (listV (pts.map putL)) (.iface 60 (.slice q pts.length c4)) := by
        have hl0 : (pts.map putL).length = pts.length := List.length_map ..
        rw [← hl0] at hS2 hcap ⊢
        exact .list vs (by rw [hl0, hvl]) (by omega) hS2 fun j a w ha hw => (hts j a w ha hw).grow hs2
      refine g_toOwn (b := lb) (len := 2) (n := 2) (by (repeat (first | exact Sel.here | apply Sel.there)); first | done | fail) rfl rfl ?_
      refine g_pile (n := 2) (by (repeat (first | exact Sel.here | apply Sel.there)); first | done | fail) (by (repeat (first | exact Sel.here | apply Sel.there)); first | done | fail) (fun H3 hs3 hS3 => ?_)
      exact gR (H3, .iface 59 (.slice (some ⟨lb, 0, none⟩) 2 2)) ⟨hs1.trans (hs2.trans hs3), tat2 hS3 (hlw.grow hs3) (.text hk) (by decide) (by decide)⟩
  rw [if_neg k1] at hV
  repeat (first
    | (refine g_ops ?_; first | refine sO ?_ | refine s_n (fun _ => ?_) | refine s_app (fun _ _ => ?_) | refine s_b0 (fun _ => ?_) | ((fail_if_success refine g_lit rfl rfl rfl ?_); first | apply g_partM rfl rfl rfl | apply g_partMB rfl rfl rfl | fail))
    | refine gS ?_ | exact s_m | intro _)
  refine g_cond_dec rfl (fun k2 => ?_) (fun k2 => ?_)
  · rw [if_pos k2] at hV
    subst hV
    repeat (first
      | (refine g_ops ?_; first | refine sO ?_ | refine s_n (fun _ => ?_) | refine s_app (fun _ _ => ?_) | refine s_b0 (fun _ => ?_) | ((fail_if_success refine g_lit rfl rfl rfl ?_); first | apply g_partM rfl rfl rfl | apply g_partMB rfl rfl rfl | fail))
      | refine gS ?_ | exact s_m | intro _)
    rename_i rb lb
    refine g_toOwn (b := lb) (len := 3) (n := 2) (by (repeat (first | exact Sel.here | apply Sel.there)); first | done | fail) rfl rfl ?_
    refine g_pile (n := 2) (by (repeat (first | exact Sel.here | apply Sel.there)); first | done | fail) (by (repeat (first | exact Sel.here | apply Sel.there)); first | done | fail) (fun H1 hs1 hS => ?_)
    exact gR (H1, .iface 59 (.slice (some ⟨lb, 0, none⟩) 3 3)) ⟨hs1, tat3 hS (.int h1) (.int h2) (.text hs) (by decide) (by decide) (by decide)⟩
  rw [if_neg k2] at hV
  repeat (first
    | (refine g_ops ?_; first | refine sO ?_ | refine s_n (fun _ => ?_) | refine s_app (fun _ _ => ?_) | refine s_b0 (fun _ => ?_) | ((fail_if_success refine g_lit rfl rfl rfl ?_); first | apply g_partM rfl rfl rfl | apply g_partMB rfl rfl rfl | fail))
    | refine gS ?_ | exact s_m | intro _)
  refine g_cond_dec rfl (fun k3 => ?_) (fun k3 => ?_)
  · rw [if_pos k3] at hV
    subst hV
    repeat (first
      | (refine g_ops ?_; first | refine sO ?_ | refine s_n (fun _ => ?_) | refine s_app (fun _ _ => ?_) | refine s_b0 (fun _ => ?_) | ((fail_if_success refine g_lit rfl rfl rfl ?_); first | apply g_partM rfl rfl rfl | apply g_partMB rfl rfl rfl | fail))
      | refine gS ?_ | exact s_m | intro _)
    rename_i rb lb
    refine g_toOwn (b := lb) (len := 2) (n := 2) (by (repeat (first | exact Sel.here | apply Sel.there)); first | done | fail) rfl rfl ?_
    refine g_pile (n := 2) (by (repeat (first | exact Sel.here | apply Sel.there)); first | done | fail) (by (repeat (first | exact Sel.here | apply Sel.there)); first | done | fail) (fun H1 hs1 hS => ?_)
    exact gR (H1, .iface 59 (.slice (some ⟨lb, 0, none⟩) 2 2)) ⟨hs1, tat2 hS (.int h2) (.text hp) (by decide) (by decide)⟩
  rw [if_neg k3] at hV
  repeat (first
    | (refine g_ops ?_; first | refine sO ?_ | refine s_n (fun _ => ?_) | refine s_app (fun _ _ => ?_) | refine s_b0 (fun _ => ?_) | ((fail_if_success refine g_lit rfl rfl rfl ?_); first | apply g_partM rfl rfl rfl | apply g_partMB rfl rfl rfl | fail))
    | refine gS ?_ | exact s_m | intro _)
  refine g_cond_dec rfl (fun k4 => ?_) (fun k4 => ?_)
  · rw [if_pos k4] at hV
    subst hV
    repeat (first
      | (refine g_ops ?_; first | refine sO ?_ | refine s_n (fun _ => ?_) | refine s_app (fun _ _ => ?_) | refine s_b0 (fun _ => ?_) | ((fail_if_success refine g_lit rfl rfl rfl ?_); first | apply g_partM rfl rfl rfl | apply g_partMB rfl rfl rfl | fail))
      | refine gS ?_ | exact s_m | intro _)
    rename_i rb lb
    refine g_toOwn (b := lb) (len := 1) (n := 2) (by (repeat (first | exact Sel.here | apply Sel.there)); first | done | fail) rfl rfl ?_
    refine g_pile (n := 2) (by (repeat (first | exact Sel.here | apply Sel.there)); first | done | fail) (by (repeat (first | exact Sel.here | apply Sel.there)); first | done | fail) (fun H1 hs1 hS => ?_)
    exact gR (H1, .iface 59 (.slice (some ⟨lb, 0, none⟩) 1 1)) ⟨hs1, tat1 hS (.int h1) (by decide)⟩
  rw [if_neg k4] at hV
  repeat (first
    | (refine g_ops ?_; first | refine sO ?_ | refine s_n (fun _ => ?_) | refine s_app (fun _ _ => ?_) | refine s_b0 (fun _ => ?_) | ((fail_if_success refine g_lit rfl rfl rfl ?_); first | apply g_partM rfl rfl rfl | apply g_partMB rfl rfl rfl | fail))
    | refine gS ?_ | exact s_m | intro _)
  refine g_cond_dec rfl (fun k5 => ?_) (fun k5 => ?_)
  · rw [if_pos k5] at hV
    subst hV
    repeat (first
      | (refine g_ops ?_; first | refine sO ?_ | refine s_n (fun _ => ?_) | refine s_app (fun _ _ => ?_) | refine s_b0 (fun _ => ?_) | ((fail_if_success refine g_lit rfl rfl rfl ?_); first | apply g_partM rfl rfl rfl | apply g_partMB rfl rfl rfl | fail))
      | refine gS ?_ | exact s_m | intro _)
    rename_i rb lb
    refine g_toOwn (b := lb) (len := 2) (n := 2) (by (repeat (first | exact Sel.here | apply Sel.there)); first | done | fail) rfl rfl ?_
    refine g_pile (n := 2) (by (repeat (first | exact Sel.here | apply Sel.there)); first | done | fail) (by (repeat (first | exact Sel.here | apply Sel.there)); first | done | fail) (fun H1 hs1 hS => ?_)
    exact gR (H1, .iface 59 (.slice (some ⟨lb, 0, none⟩) 2 2)) ⟨hs1, tat2 hS (.int h3) (.int h4) (by decide) (by decide)⟩
  rw [if_neg k5] at hV
  repeat (first
    | (refine g_ops ?_; first | refine sO ?_ | refine s_n (fun _ => ?_) | refine s_app (fun _ _ => ?_) | refine s_b0 (fun _ => ?_) | ((fail_if_success refine g_lit rfl rfl rfl ?_); first | apply g_partM rfl rfl rfl | apply g_partMB rfl rfl rfl | fail))
    | refine gS ?_ | exact s_m | intro _)
  refine g_cond_dec rfl (fun k6 => ?_) (fun k6 => ?_)
  · rw [if_pos k6] at hV
    subst hV
    repeat (first
      | (refine g_ops ?_; first | refine sO ?_ | refine s_n (fun _ => ?_) | refine s_app (fun _ _ => ?_) | refine s_b0 (fun _ => ?_) | ((fail_if_success refine g_lit rfl rfl rfl ?_); first | apply g_partM rfl rfl rfl | apply g_partMB rfl rfl rfl | fail))
      | refine gS ?_ | exact s_m | intro _)
    rename_i rb lb
    refine g_toOwn (b := lb) (len := 1) (n := 2) (by (repeat (first | exact Sel.here | apply Sel.there)); first | done | fail) rfl rfl ?_
    refine g_pile (n := 2) (by (repeat (first | exact Sel.here | apply Sel.there)); first | done | fail) (by (repeat (first | exact Sel.here | apply Sel.there)); first | done | fail) (fun H1 hs1 hS => ?_)
    exact gR (H1, .iface 59 (.slice (some ⟨lb, 0, none⟩) 1 1)) ⟨hs1, tat1 hS .nil (by decide)⟩
  rw [if_neg k6] at hV
  subst hV
  repeat (first
    | (refine g_ops ?_; first | refine sO ?_ | refine s_n (fun _ => ?_) | refine s_app (fun _ _ => ?_) | refine s_b0 (fun _ => ?_) | ((fail_if_success refine g_lit rfl rfl rfl ?_); first | apply g_partM rfl rfl rfl | apply g_partMB rfl rfl rfl | fail))
    | refine gS ?_ | exact s_m | intro _)
  exact gR (H, .nilIface) ⟨HP.sub.refl _, .nil⟩
end Go.Proofs.YtaahibcibgljbaaDoor
