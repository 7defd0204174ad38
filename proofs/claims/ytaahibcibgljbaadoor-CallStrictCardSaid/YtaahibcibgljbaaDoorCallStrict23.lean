/- Contracts and laws that the proof stands on. -/
import Derived.Test.YtaahibcibgljbaaDoorCallStrict22
import Derived.Test.YtaahibcibgljbaaDoorCallStrict21
set_option linter.unusedSimpArgs false
set_option linter.unusedVariables false
namespace Go.Proofs.YtaahibcibgljbaaDoor
open Go.Sl facts
attribute [local irreducible] Code.wp wpList Exit.then Exit.inBlock bodyPost Back MidQ G GP QStep VStep CStep SStep Does Post Reads
theorem d_get {ps qs : List Pt} (h : ps.map Pt.d = qs.map Pt.d) (hl : ps.length = qs.length) (i : Nat) (h1 : i < ps.length) (h2 : i < qs.length) : ps[i].d = qs[i].d := by
  have e1 : (ps.map Pt.d)[i]'(by simpa using h1) = ps[i].d := List.getElem_map ..
  have e2 : (qs.map Pt.d)[i]'(by simpa using h2) = qs[i].d := List.getElem_map ..
  rw [← e1, ← e2]
  exact List.getElem_of_eq h _
set_option maxHeartbeats 8000000 in
theorem sameBatch {H : HP} (key : ByteArray) (pp qp : Option Addr) (pc qc : Nat) (ps qs : List Pt) (a1 : SlAt (Pile H) 3 pp ps.length (ps.flatMap Pt.cells)) (a2 : ∀ x ∈ ps, PtAt (Pile H) x) (a3 : ps.length ≤ 1000000000) (c1 : SlAt (Pile H) 3 qp qs.length (qs.flatMap Pt.cells)) (c2 : ∀ x ∈ qs, PtAt (Pile H) x) (hd0 : ps.map Pt.d = qs.map Pt.d) : Does1 Tryd.prog 30 [.agg #[.string key, .slice pp ps.length pc], .agg #[.string key, .slice qp qs.length qc]] [Pile H] (.bool true) := by
  have hpq : ps.length = qs.length := by rw [← List.length_map (f := Pt.d), hd0, List.length_map]
  refine fn_intro Tryd.func30 rfl Tryd.ntmps30 rfl (by simp only [argFr, Nat.zero_add, Nat.reduceAdd]; rfl) (fun Γ => ?_)
  repeat (first
    | (refine g_ops ?_; first | refine sO ?_ | refine s_n (fun _ => ?_) | refine s_app (fun _ _ => ?_) | refine s_b0 (fun _ => ?_) | ((fail_if_success refine g_lit rfl rfl rfl ?_); first | apply g_partM rfl rfl rfl | apply g_partMB rfl rfl rfl | fail))
    | refine gS ?_ | exact s_m | intro _)
  rename_i b2 b3
  refine g_as 14 (v' := .bool false) rfl (congrArg Value.bool (by simp)) ?_
  repeat (first
    | (refine g_ops ?_; first | refine sO ?_ | refine s_n (fun _ => ?_) | refine s_app (fun _ _ => ?_) | refine s_b0 (fun _ => ?_) | ((fail_if_success refine g_lit rfl rfl rfl ?_); first | apply g_partM rfl rfl rfl | apply g_partMB rfl rfl rfl | fail))
    | refine gS ?_ | exact s_m | intro _)
  refine g_as 22 (v' := .bool false) rfl (congrArg Value.bool (by simp [hpq])) ?_
  repeat (first
    | (refine g_ops ?_; first | refine sO ?_ | refine s_n (fun _ => ?_) | refine s_app (fun _ _ => ?_) | refine s_b0 (fun _ => ?_) | ((fail_if_success refine g_lit rfl rfl rfl ?_); first | apply g_partM rfl rfl rfl | apply g_partMB rfl rfl rfl | fail))
    | refine gS ?_ | exact s_m | intro _)
  refine g_loop (X := Nat) (fun i => [(2, ptr b2), (3, ptr b3), (5, int i)]) (fun _ => [.row b2 [.string key, .slice pp ps.length pc] 32, .row b3 [.string key, .slice qp qs.length qc] 32, Pile H]) (fun i => i ≤ ps.length) (fun i => ps.length - i) 0 (Nat.zero_le _) (by (repeat (first | exact FrSub.nil | refine FrSub.cons rfl ?_)); first | done | fail) (by (repeat (first | exact Take.nil | apply Take.cons | exact Sel.here | apply Sel.there)); first | done | fail) (fun i hi => ?_)
  repeat (first
    | (refine g_ops ?_; first | refine sO ?_ | refine s_n (fun _ => ?_) | refine s_app (fun _ _ => ?_) | refine s_b0 (fun _ => ?_) | ((fail_if_success refine g_lit rfl rfl rfl ?_); first | apply g_partM rfl rfl rfl | apply g_partMB rfl rfl rfl | fail))
    | refine gS ?_ | exact s_m | intro _)
  refine g_cond_dec rfl (fun h => ?_) (fun h => ?_)
  · have hi' : i < ps.length := by omega
    have hi2 : i < qs.length := by omega
    obtain ⟨pb, po, rfl, hrow⟩ := slAt_elem a1 pt_len (by decide) (i := i) (a := ps[i]) (by simp [hi'])
    obtain ⟨qb, qo, rfl, hrow2⟩ := slAt_elem c1 pt_len (by decide) (i := i) (a := qs[i]) (by simp [hi2])
    have ha := a2 ps[i] (List.getElem_mem _)
    have hc := c2 qs[i] (List.getElem_mem _)
    have hde := d_get hd0 hpq i hi' hi2
    generalize ps[i] = x at hrow ha hde
    generalize qs[i] = y at hrow2 hc hde
    obtain ⟨st, ex, dp, dc, data⟩ := x
    obtain ⟨st2, ex2, ep, ec, data2⟩ := y
    simp only [Pt.d, PtD.mk.injEq] at hde
    obtain ⟨rfl, rfl, rfl⟩ := hde
    obtain ⟨ha1, ha2⟩ := ha
    obtain ⟨hc1, hc2⟩ := hc
    dsimp only at ha1 ha2 hc1 hc2 hrow hrow2
    repeat (first
      | (refine g_ops ?_; first | refine sO ?_ | refine s_n (fun _ => ?_) | refine s_app (fun _ _ => ?_) | refine s_b0 (fun _ => ?_) | ((fail_if_success refine g_lit rfl rfl rfl ?_); first | apply g_partM rfl rfl rfl | apply g_partMB rfl rfl rfl | fail))
      | refine gS ?_ | exact s_m | intro _)
    rename_i b6 b7
    clear hrow hrow2
    refine g_as 45 (v' := .bool false) rfl (congrArg Value.bool (by simp)) ?_
    repeat (first
      | (refine g_ops ?_; first | refine sO ?_ | refine s_n (fun _ => ?_) | refine s_app (fun _ _ => ?_) | refine s_b0 (fun _ => ?_) | ((fail_if_success refine g_lit rfl rfl rfl ?_); first | apply g_partM rfl rfl rfl | apply g_partMB rfl rfl rfl | fail))
      | refine gS ?_ | exact s_m | intro _)
    refine g_as 52 (v' := .bool false) rfl (congrArg Value.bool (by simp)) ?_
    repeat (first
      | (refine g_ops ?_; first | refine sO ?_ | refine s_n (fun _ => ?_) | refine s_app (fun _ _ => ?_) | refine s_b0 (fun _ => ?_) | ((fail_if_success refine g_lit rfl rfl rfl ?_); first | apply g_partM rfl rfl rfl | apply g_partMB rfl rfl rfl | fail))
      | refine gS ?_ | exact s_m | intro _)
    refine g_as 60 (v' := .bool false) rfl (congrArg Value.bool (by simp)) ?_
    repeat (first
      | (refine g_ops ?_; first | refine sO ?_ | refine s_n (fun _ => ?_) | refine s_app (fun _ _ => ?_) | refine s_b0 (fun _ => ?_) | ((fail_if_success refine g_lit rfl rfl rfl ?_); first | apply g_partM rfl rfl rfl | apply g_partMB rfl rfl rfl | fail))
      | refine gS ?_ | exact s_m | intro _)
    refine g_loop (X := Nat) (fun j => [(2, ptr b2), (3, ptr b3), (5, int i), (6, ptr b6), (7, ptr b7), (8, int j)]) (fun _ => [.row b6 [.string st, int ex, .slice dp data.length dc] 80, .row b7 [.string st, int ex, .slice ep data.length ec] 80, .row b2 [.string key, .slice (some ⟨pb, po, none⟩) ps.length pc] 32, .row b3 [.string key, .slice (some ⟨qb, qo, none⟩) qs.length qc] 32, Pile H]) (fun j => j ≤ data.length) (fun j => data.length - j) 0 (Nat.zero_le _) (by (repeat (first | exact FrSub.nil | refine FrSub.cons rfl ?_)); first | done | fail) (by (repeat (first | exact Take.nil | apply Take.cons | exact Sel.here | apply Sel.there)); first | done | fail) (fun j hj => ?_)
    repeat (first
      | (refine g_ops ?_; first | refine sO ?_ | refine s_n (fun _ => ?_) | refine s_app (fun _ _ => ?_) | refine s_b0 (fun _ => ?_) | ((fail_if_success refine g_lit rfl rfl rfl ?_); first | apply g_partM rfl rfl rfl | apply g_partMB rfl rfl rfl | fail))
      | refine gS ?_ | exact s_m | intro _)
    refine g_cond_dec rfl (fun h2 => ?_) (fun h2 => ?_)
    · have hj' : j < data.length := by omega
      obtain ⟨db, do_, rfl, hr0⟩ := slAt_cell ha1 (i := j) (v := .string data[j]) (by simp [hj'])
      obtain ⟨eb, eo, rfl, hs0⟩ := slAt_cell hc1 (i := j) (v := .string data[j]) (by simp [hj'])
      generalize data[j] = t at hr0 hs0
      have hr : ∀ k', k' = j → Reads (Pile H) ⟨db, do_ + k', none⟩ (.string t) := fun _ e => e ▸ hr0
      have hr2 : ∀ k', k' = j → Reads (Pile H) ⟨eb, eo + k', none⟩ (.string t) := fun _ e => e ▸ hs0
      repeat (first
        | (refine g_ops ?_; first | refine sO ?_ | refine s_n (fun _ => ?_) | refine s_app (fun _ _ => ?_) | refine s_b0 (fun _ => ?_) | ((fail_if_success refine g_lit rfl rfl rfl ?_); first | apply g_partM rfl rfl rfl | apply g_partMB rfl rfl rfl | fail))
        | apply g_regB (id := 1) 22 | apply g_regB (id := 8) 60 | refine g_draw (id := 13) (.take 0 (.see 1 [] (.take 2 (.take 3 (.see 4 [] (.take 5 (.see 6 [] (.take 7 (.take 8 (.see 9 [] (.take 10 .done))))))))))) (by kernel_rfl) (take_all _) (fun k hd hk => ?_)
        | refine gS ?_ | exact s_m | intro _ | (refine gp_take ?_; first | refine pT ?_ | ((fail_if_success refine gp_lit rfl rfl rfl rfl ?_); first | apply gp_guard_dec rfl rfl rfl rfl | apply gp_guard rfl rfl rfl rfl | fail))
        | (refine gp_see ?_; first | refine p_f ?_ | refine pS ?_ | ((fail_if_success refine gp_lit rfl rfl rfl rfl ?_); first | apply gp_guard_dec rfl rfl rfl rfl | apply gp_guard rfl rfl rfl rfl | fail))
        | (refine gp_one ?_; first | refine pO ?_ | refine p_n (fun _ => ?_) | refine p_app (fun _ _ => ?_) | refine p_b0 (fun _ => ?_) | ((fail_if_success refine gp_lit rfl rfl rfl rfl ?_); first | apply gp_guard_dec rfl rfl rfl rfl | apply gp_guard rfl rfl rfl rfl | fail))
        | refine gp_two ?_ ?_ | refine gp_done hd hk ?_ | intro _ | refine p_ta hd hk (fun _ _ _ hd hk => ?_) | refine p_ts hd hk (fun _ hd hk => ?_))
      dsimp only [List.cons_append, List.nil_append]
      refine g_as 78 (v' := .bool false) rfl (congrArg Value.bool (by simp)) ?_
      repeat (first
        | (refine g_ops ?_; first | refine sO ?_ | refine s_n (fun _ => ?_) | refine s_app (fun _ _ => ?_) | refine s_b0 (fun _ => ?_) | ((fail_if_success refine g_lit rfl rfl rfl ?_); first | apply g_partM rfl rfl rfl | apply g_partMB rfl rfl rfl | fail))
        | refine gS ?_ | exact s_m | intro _)
      refine g_as 8 (v' := int ((j + 1 : Nat) : Int)) rfl (congrArg (Value.int .i64) (by push_cast; rfl)) ?_
      exact gA (j + 1) (by omega) hj'
    · repeat (first
        | (refine g_ops ?_; first | refine sO ?_ | refine s_n (fun _ => ?_) | refine s_app (fun _ _ => ?_) | refine s_b0 (fun _ => ?_) | ((fail_if_success refine g_lit rfl rfl rfl ?_); first | apply g_partM rfl rfl rfl | apply g_partMB rfl rfl rfl | fail))
        | refine gS ?_ | exact s_m | intro _)
      refine g_as 5 (v' := int ((i + 1 : Nat) : Int)) rfl (congrArg (Value.int .i64) (by push_cast; rfl)) ?_
      exact gA (i + 1) (by omega) hi'
  · repeat (first
      | (refine g_ops ?_; first | refine sO ?_ | refine s_n (fun _ => ?_) | refine s_app (fun _ _ => ?_) | refine s_b0 (fun _ => ?_) | ((fail_if_success refine g_lit rfl rfl rfl ?_); first | apply g_partM rfl rfl rfl | apply g_partMB rfl rfl rfl | fail))
      | refine gS ?_ | exact s_m | intro _)
    exact gR () trivial
theorem PtsOf.same {H : HP} {l : List V} {ps qs : List Pt} (h1 : PtsOf H l ps) (h2 : PtsOf H l qs) (hall : ∀ y ∈ l, (putV y).isSome = true) : ps.map Pt.d = qs.map Pt.d := by
  apply List.ext_getElem
  · simp [h1.1, h2.1]
  · intro i g1 g2
    have g1 : i < ps.length := by simpa using g1
    have g2 : i < qs.length := by simpa using g2
    have hi : i < l.length := by rw [← h1.1]; exact g1
    obtain ⟨d, hd⟩ := Option.isSome_iff_exists.1 (hall l[i] (List.getElem_mem _))
    simp only [List.getElem_map]
    rw [h1.2.2 i _ _ d (List.getElem?_eq_getElem hi) (List.getElem?_eq_getElem g1) hd, h2.2.2 i _ _ d (List.getElem?_eq_getElem hi) (List.getElem?_eq_getElem g2) hd]
set_option maxHeartbeats 8000000 in
theorem same28 {H : HP} {x y : Cl} {d : ClV} (hx : ClAt H x d) (hy : ClAt H y d) (hall : ∀ z ∈ d.pv, (putV z).isSome = true) (hl : d.pv.length ≤ 1000000000) : Does1 Tryd.prog 12 [.agg x.cells.toArray, .agg y.cells.toArray] [Pile H] (.bool true) := by
  have hd := hx.pts.same hy.pts hall
  have hsb := sameBatch (H := H) d.key x.pp y.pp x.pc y.pc x.pts y.pts hx.sl hx.pts.2.1 (by rw [hx.pts.1]; exact hl) hy.sl hy.pts.2.1 hd
  obtain ⟨x1, x2, x3, x4, x5, x6, x7, x8, x9, x10, x11⟩ := x
  obtain ⟨y1, y2, y3, y4, y5, y6, y7, y8, y9, y10, y11⟩ := y
  obtain ⟨a1, a2, a3, a4, a5, a6, a7, a8, a9, a10⟩ := hx
  obtain ⟨b1, b2, b3, b4, b5, b6, b7, b8, b9, b10⟩ := hy
  obtain ⟨d1, d2, d3, d4, d5, d6, d7, d8, d9⟩ := d
  dsimp only at a1 a2 a5 a6 a7 a8 a9 a10 b1 b2 b5 b6 b7 b8 b9 b10 hsb
  subst a1 a2 a5 a6 a7 a8 a9 a10
  subst b1 b2 b5 b6 b7 b8 b9 b10
  dsimp only [Cl.cells]
  refine fn_intro Tryd.func12 rfl Tryd.ntmps12 rfl (by simp only [argFr, Nat.zero_add, Nat.reduceAdd]; rfl) (fun Γ => ?_)
  repeat (first
    | (refine g_ops ?_; first | refine sO ?_ | refine s_n (fun _ => ?_) | refine s_app (fun _ _ => ?_) | refine s_b0 (fun _ => ?_) | ((fail_if_success refine g_lit rfl rfl rfl ?_); first | apply g_partM rfl rfl rfl | apply g_partMB rfl rfl rfl | fail) | refine s_k (hsb) ?_)
    | refine gS ?_ | exact s_m | intro _)
  refine g_as 10 (v' := .bool true) rfl (congrArg Value.bool (by simp)) ?_
  repeat (first
    | (refine g_ops ?_; first | refine sO ?_ | refine s_n (fun _ => ?_) | refine s_app (fun _ _ => ?_) | refine s_b0 (fun _ => ?_) | ((fail_if_success refine g_lit rfl rfl rfl ?_); first | apply g_partM rfl rfl rfl | apply g_partMB rfl rfl rfl | fail) | refine s_k (hsb) ?_)
    | refine gS ?_ | exact s_m | intro _)
  refine g_as 17 (v' := .bool true) rfl (congrArg Value.bool (by simp)) ?_
  repeat (first
    | (refine g_ops ?_; first | refine sO ?_ | refine s_n (fun _ => ?_) | refine s_app (fun _ _ => ?_) | refine s_b0 (fun _ => ?_) | ((fail_if_success refine g_lit rfl rfl rfl ?_); first | apply g_partM rfl rfl rfl | apply g_partMB rfl rfl rfl | fail) | refine s_k (hsb) ?_)
    | refine gS ?_ | exact s_m | intro _)
  refine g_as 24 (v' := .bool true) rfl (congrArg Value.bool (by simp)) ?_
  repeat (first
    | (refine g_ops ?_; first | refine sO ?_ | refine s_n (fun _ => ?_) | refine s_app (fun _ _ => ?_) | refine s_b0 (fun _ => ?_) | ((fail_if_success refine g_lit rfl rfl rfl ?_); first | apply g_partM rfl rfl rfl | apply g_partMB rfl rfl rfl | fail) | refine s_k (hsb) ?_)
    | refine gS ?_ | exact s_m | intro _)
  refine g_as 31 (v' := .bool true) rfl (congrArg Value.bool (by simp)) ?_
  repeat (first
    | (refine g_ops ?_; first | refine sO ?_ | refine s_n (fun _ => ?_) | refine s_app (fun _ _ => ?_) | refine s_b0 (fun _ => ?_) | ((fail_if_success refine g_lit rfl rfl rfl ?_); first | apply g_partM rfl rfl rfl | apply g_partMB rfl rfl rfl | fail) | refine s_k (hsb) ?_)
    | refine gS ?_ | exact s_m | intro _)
  refine g_as 38 (v' := .bool true) rfl (congrArg Value.bool (by simp)) ?_
  repeat (first
    | (refine g_ops ?_; first | refine sO ?_ | refine s_n (fun _ => ?_) | refine s_app (fun _ _ => ?_) | refine s_b0 (fun _ => ?_) | ((fail_if_success refine g_lit rfl rfl rfl ?_); first | apply g_partM rfl rfl rfl | apply g_partMB rfl rfl rfl | fail) | refine s_k (hsb) ?_)
    | refine gS ?_ | exact s_m | intro _)
  refine g_as 45 (v' := .bool true) rfl (congrArg Value.bool (by simp)) ?_
  repeat (first
    | (refine g_ops ?_; first | refine sO ?_ | refine s_n (fun _ => ?_) | refine s_app (fun _ _ => ?_) | refine s_b0 (fun _ => ?_) | ((fail_if_success refine g_lit rfl rfl rfl ?_); first | apply g_partM rfl rfl rfl | apply g_partMB rfl rfl rfl | fail) | refine s_k (hsb) ?_)
    | refine gS ?_ | exact s_m | intro _)
  refine g_as 52 (v' := .bool true) rfl (congrArg Value.bool (by simp)) ?_
  repeat (first
    | (refine g_ops ?_; first | refine sO ?_ | refine s_n (fun _ => ?_) | refine s_app (fun _ _ => ?_) | refine s_b0 (fun _ => ?_) | ((fail_if_success refine g_lit rfl rfl rfl ?_); first | apply g_partM rfl rfl rfl | apply g_partMB rfl rfl rfl | fail) | refine s_k (hsb) ?_)
    | refine gS ?_ | exact s_m | intro _)
  refine g_as 59 (v' := .bool true) rfl (congrArg Value.bool (by simp)) ?_
  repeat (first
    | (refine g_ops ?_; first | refine sO ?_ | refine s_n (fun _ => ?_) | refine s_app (fun _ _ => ?_) | refine s_b0 (fun _ => ?_) | ((fail_if_success refine g_lit rfl rfl rfl ?_); first | apply g_partM rfl rfl rfl | apply g_partMB rfl rfl rfl | fail) | refine s_k (hsb) ?_)
    | refine gS ?_ | exact s_m | intro _)
  refine g_as 66 (v' := .bool true) rfl (congrArg Value.bool (by simp)) ?_
  repeat (first
    | (refine g_ops ?_; first | refine sO ?_ | refine s_n (fun _ => ?_) | refine s_app (fun _ _ => ?_) | refine s_b0 (fun _ => ?_) | ((fail_if_success refine g_lit rfl rfl rfl ?_); first | apply g_partM rfl rfl rfl | apply g_partMB rfl rfl rfl | fail) | refine s_k (hsb) ?_)
    | refine gS ?_ | exact s_m | intro _)
  refine g_as 4 (v' := .bool true) rfl (congrArg Value.bool (by simp)) ?_
  exact gR () trivial
theorem ClAt.grow {H H' : HP} {x : Cl} {d : ClV} (h : ClAt H x d) (s : HP.sub H H') : ClAt H' x d := ⟨h.kind, h.key, h.sl.grow s, h.pts.grow s, h.stream, h.frm, h.pattern, h.max, h.first, h.tt⟩
attribute [local irreducible] weigh weighL callS ofOk ofC docOf
end Go.Proofs.YtaahibcibgljbaaDoor

namespace Go.Proofs.YtaahibcibgljbaaDoor
open Go.Sl facts
abbrev kMore : ByteArray := ⟨#[109, 111, 114, 101]⟩
abbrev tStar : ByteArray := ⟨#[42]⟩
abbrev tFive : ByteArray := ⟨#[53]⟩
abbrev tA : ByteArray := ⟨#[97]⟩
abbrev tX : ByteArray := ⟨#[120]⟩
abbrev tNone : ByteArray := ⟨#[]⟩
def stV (n : Int) : Nat → V
  | 0 => pairsV [kMap] [nilV]
  | 1 => pairsV [kMap] [intV n]
  | 2 => pairsV [kMap, kMore] [nilV, intV n]
  | 3 => pairsV [kMax, kPoll] [intV 5, textV tStar]
  | 4 => pairsV [kMax, kPoll] [textV tFive, textV tStar]
  | 5 => pairsV [kPoll] [textV tStar]
  | 6 => pairsV [kSplit] [intV n]
  | 7 => pairsV [kSplit] [nilV]
  | 8 => pairsV [] []
  | 9 => listV []
  | 10 => textV kMap
  | 11 => nilV
  | 12 => pairsV [kAppend, kKey] [listV [listV [textV tA, intV (-1), textV tX]], textV tNone]
  | 13 => pairsV [kAppend, kKey] [listV [listV [textV tA, textV tX]], textV tNone]
  | _ => pairsV [kAppend, kKey] [listV [textV tA], textV tNone]
def stOk (k : Nat) : Bool := k == 0 || k == 3 || k == 6 || k == 12
theorem doc_no {v : V} {ks : List ByteArray} (hk : v.keys = ks) (h1 : ks ≠ [kAppend, kKey]) (h2 : ks ≠ [kFrom, kMax, kRead]) (h3 : ks ≠ [kMax, kPoll]) (h4 : ks ≠ [kSplit]) (h5 : ks ≠ [kMove, kTo]) (h6 : ks ≠ [kMap]) : docOf v = none := by
  unfold docOf
  rw [if_neg (not_isF hk h1), if_neg (not_isF hk h2), if_neg (not_isF hk h3), if_neg (not_isF hk h4), if_neg (not_isF hk h5), if_neg (not_isF hk h6)]
  split <;> rfl
theorem doc_not6 {v : V} (hk : v.kind ≠ 6) : docOf v = none := by
  unfold docOf isF
  simp [hk]
theorem st_w3 (n : Int) : (weigh (stV n 3) 0 0).1 = 0 := by
  unfold stV pairsV intV textV
  simp only [weigh_mk, weighL_cons, weighL_nil, List.headD_cons, List.tail_cons, List.head?_cons, show keyB kMax = true by decide +kernel, show keyB kPoll = true by decide +kernel, show validB tStar = true by decide +kernel]
  decide +kernel
theorem st_w6 (n : Int) : (weigh (stV n 6) 0 0).1 = 0 := by
  unfold stV pairsV intV
  simp only [weigh_mk, weighL_cons, weighL_nil, List.headD_cons, show keyB kSplit = true by decide +kernel]
  decide +kernel
theorem st_w12 (n : Int) : (weigh (stV n 12) 0 0).1 = 0 := by
  unfold stV pairsV intV textV listV
  simp only [weigh_mk, weighL_cons, weighL_nil, List.headD_cons, List.tail_cons, List.head?_cons, show keyB kAppend = true by decide +kernel, show keyB kKey = true by decide +kernel, show validB tA = true by decide +kernel, show validB tX = true by decide +kernel, show validB tNone = true by decide +kernel]
  decide +kernel
theorem st_doc (n : Int) (k : Nat) (hk : k < 15) : (docOf (stV n k)).isSome = stOk k := by
  match k, hk with
  | 0, _ =>
    unfold docOf
    rw [if_neg (fun h => h map_w), if_neg (not_isF (ks' := [kMap]) rfl (by decide)), if_neg (not_isF (ks' := [kMap]) rfl (by decide)), if_neg (not_isF (ks' := [kMap]) rfl (by decide)), if_neg (not_isF (ks' := [kMap]) rfl (by decide)), if_neg (not_isF (ks' := [kMap]) rfl (by decide)), if_pos ⟨rfl, rfl, rfl⟩]
    rfl
  | 1, _ =>
    unfold docOf
    rw [if_neg (not_isF (ks' := [kMap]) rfl (by decide)), if_neg (not_isF (ks' := [kMap]) rfl (by decide)), if_neg (not_isF (ks' := [kMap]) rfl (by decide)), if_neg (not_isF (ks' := [kMap]) rfl (by decide)), if_neg (not_isF (ks' := [kMap]) rfl (by decide)), if_neg (fun h : isF (stV n 1) [kMap] [1] => by have h2 : [(3 : Int)] = [1] := h.2.2; simp at h2)]
    split <;> rfl
  | 2, _ => rw [doc_no (ks := [kMap, kMore]) rfl (by decide) (by decide) (by decide) (by decide) (by decide) (by decide)]; rfl
  | 3, _ =>
    unfold docOf
    rw [if_neg (fun h => h (st_w3 n)), if_neg (not_isF (ks' := [kMax, kPoll]) rfl (by decide)), if_neg (not_isF (ks' := [kMax, kPoll]) rfl (by decide)), if_pos ⟨rfl, rfl, rfl⟩]
    rfl
  | 4, _ =>
    unfold docOf
    rw [if_neg (not_isF (ks' := [kMax, kPoll]) rfl (by decide)), if_neg (not_isF (ks' := [kMax, kPoll]) rfl (by decide)), if_neg (fun h : isF (stV n 4) [kMax, kPoll] [3, 4] => by have h2 : [(4 : Int), 4] = [3, 4] := h.2.2; simp at h2), if_neg (not_isF (ks' := [kMax, kPoll]) rfl (by decide)), if_neg (not_isF (ks' := [kMax, kPoll]) rfl (by decide)), if_neg (not_isF (ks' := [kMax, kPoll]) rfl (by decide))]
    split <;> rfl
  | 5, _ => rw [doc_no (ks := [kPoll]) rfl (by decide) (by decide) (by decide) (by decide) (by decide) (by decide)]; rfl
  | 6, _ =>
    unfold docOf
    rw [if_neg (fun h => h (st_w6 n)), if_neg (not_isF (ks' := [kSplit]) rfl (by decide)), if_neg (not_isF (ks' := [kSplit]) rfl (by decide)), if_neg (not_isF (ks' := [kSplit]) rfl (by decide)), if_pos ⟨rfl, rfl, rfl⟩]
    rfl
  | 7, _ =>
    unfold docOf
    rw [if_neg (not_isF (ks' := [kSplit]) rfl (by decide)), if_neg (not_isF (ks' := [kSplit]) rfl (by decide)), if_neg (not_isF (ks' := [kSplit]) rfl (by decide)), if_neg (fun h : isF (stV n 7) [kSplit] [3] => by have h2 : [(1 : Int)] = [3] := h.2.2; simp at h2), if_neg (not_isF (ks' := [kSplit]) rfl (by decide)), if_neg (not_isF (ks' := [kSplit]) rfl (by decide))]
    split <;> rfl
  | 8, _ => rw [doc_no (ks := []) rfl (by decide) (by decide) (by decide) (by decide) (by decide) (by decide)]; rfl
  | 9, _ => rw [doc_not6 (v := stV n 9) (show (5 : Int) ≠ 6 by decide)]; rfl
  | 10, _ => rw [doc_not6 (v := stV n 10) (show (4 : Int) ≠ 6 by decide)]; rfl
  | 11, _ => rw [doc_not6 (v := stV n 11) (show (1 : Int) ≠ 6 by decide)]; rfl
  | 12, _ =>
    unfold docOf
    rw [if_neg (fun h => h (st_w12 n)), if_pos ⟨rfl, rfl, rfl⟩, if_pos (show ((kid (stV n 12) 0).kids.all fun x => (putV x).isSome) = true from rfl)]
    rfl
  | 13, _ =>
    have h : isF (stV n 13) [kAppend, kKey] [5, 4] := ⟨rfl, rfl, rfl⟩
    have h2 : ¬ ((kid (stV n 13) 0).kids.all fun x => (putV x).isSome) = true := show ¬ (false = true) by decide
    unfold docOf
    rw [if_pos h, if_neg h2]
    split <;> rfl
  | 14, _ =>
    have h : isF (stV n 14) [kAppend, kKey] [5, 4] := ⟨rfl, rfl, rfl⟩
    have h2 : ¬ ((kid (stV n 14) 0).kids.all fun x => (putV x).isSome) = true := show ¬ (false = true) by decide
    unfold docOf
    rw [if_pos h, if_neg h2]
    split <;> rfl
end Go.Proofs.YtaahibcibgljbaaDoor

namespace Go.Proofs.YtaahibcibgljbaaDoor
open Go.Sl facts
def lf (p n : Int) : Int := if p.tmod n < 0 then p.tmod n + n else p.tmod n
theorem lf_in (p n : Int) (h : 0 < n) : 0 ≤ lf p n ∧ lf p n < n := by
  unfold lf
  have h1 := Int.tmod_lt_of_pos p h
  have h2 : -n < p.tmod n := by
    have := Int.tmod_lt_of_pos (-p) h
    rw [Int.neg_tmod] at this
    omega
  split <;> omega
attribute [local irreducible] Code.wp wpList Exit.then Exit.inBlock bodyPost Back MidQ G GP QStep VStep CStep SStep Does Post Reads
theorem round (p n : Int) (h : 0 < n) (hn : n ≤ 1000000000) : Does1 Tryd.prog 18 [int p, int n] [] (int (lf p n)) := by
  have hb := lf_in p n h
  refine fn_intro Tryd.func18 rfl Tryd.ntmps18 rfl (by simp only [argFr, Nat.zero_add, Nat.reduceAdd]; rfl) (fun Γ => ?_)
  repeat (first
    | (refine g_ops ?_; first | refine sO ?_ | refine s_n (fun _ => ?_) | refine s_app (fun _ _ => ?_) | refine s_b0 (fun _ => ?_) | ((fail_if_success refine g_lit rfl rfl rfl ?_); first | apply g_partM rfl rfl rfl | apply g_partMB rfl rfl rfl | fail))
    | refine gS ?_ | exact s_m | intro _)
  refine s_q (q := by exact qs_rem rfl rfl (by omega)) ?_
  repeat (first
    | (refine g_ops ?_; first | refine sO ?_ | refine s_n (fun _ => ?_) | refine s_app (fun _ _ => ?_) | refine s_b0 (fun _ => ?_) | ((fail_if_success refine g_lit rfl rfl rfl ?_); first | apply g_partM rfl rfl rfl | apply g_partMB rfl rfl rfl | fail))
    | refine gS ?_ | exact s_m | intro _)
  refine g_cond_dec rfl (fun h2 => ?_) (fun h2 => ?_)
  · have e : lf p n = p.tmod n + n := if_pos h2
    rw [e] at hb
    repeat (first
      | (refine g_ops ?_; first | refine sO ?_ | refine s_n (fun _ => ?_) | refine s_app (fun _ _ => ?_) | refine s_b0 (fun _ => ?_) | ((fail_if_success refine g_lit rfl rfl rfl ?_); first | apply g_partM rfl rfl rfl | apply g_partMB rfl rfl rfl | fail))
      | refine gS ?_ | exact s_m | intro _)
    exact g_ret () rfl (by (repeat (first | exact RVs.nil | apply RVs.tmp rfl | apply RVs.cellA rfl (by (repeat (first | exact Sel.here | apply Sel.there)); first | done | fail) (by (repeat (first | exact Cut.zero | apply Cut.take | apply Cut.skip)); first | done | fail) | apply RVs.cell1 rfl (by (repeat (first | exact Sel.here | apply Sel.there)); first | done | fail) rfl)); first | done | fail) (by (repeat (first | exact Take.nil | apply Take.cons | exact Sel.here | apply Sel.there)); first | done | fail) (by simp [pack, e]) trivial
  · have e : lf p n = p.tmod n := if_neg h2
    repeat (first
      | (refine g_ops ?_; first | refine sO ?_ | refine s_n (fun _ => ?_) | refine s_app (fun _ _ => ?_) | refine s_b0 (fun _ => ?_) | ((fail_if_success refine g_lit rfl rfl rfl ?_); first | apply g_partM rfl rfl rfl | apply g_partMB rfl rfl rfl | fail))
      | refine gS ?_ | exact s_m | intro _)
    exact g_ret () rfl (by (repeat (first | exact RVs.nil | apply RVs.tmp rfl | apply RVs.cellA rfl (by (repeat (first | exact Sel.here | apply Sel.there)); first | done | fail) (by (repeat (first | exact Cut.zero | apply Cut.take | apply Cut.skip)); first | done | fail) | apply RVs.cell1 rfl (by (repeat (first | exact Sel.here | apply Sel.there)); first | done | fail) rfl)); first | done | fail) (by (repeat (first | exact Take.nil | apply Take.cons | exact Sel.here | apply Sel.there)); first | done | fail) (by simp [pack, e]) trivial
attribute [local irreducible] decI textB
end Go.Proofs.YtaahibcibgljbaaDoor
