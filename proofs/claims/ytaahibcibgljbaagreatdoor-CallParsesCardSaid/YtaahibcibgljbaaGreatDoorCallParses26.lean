/- Contracts and laws that the proof stands on. -/
import Derived.Test.YtaahibcibgljbaaGreatDoorCallParses25
set_option linter.unusedSimpArgs false
set_option linter.unusedVariables false
namespace Go.Proofs.YtaahibcibgljbaaGreatDoor
open Go.Sl facts
theorem weighL_cnt : ∀ (l : List V) (p : Bool) (pr : Option ByteArray) (ks : List ByteArray) (lv n : Int), 0 ≤ n → (weighL p pr ks l lv n).1 = 0 → n + l.length ≤ (weighL p pr ks l lv n).2
  | [], p, pr, ks, lv, n, _, _ => by rw [weighL_nil]; simp
  | x :: l, p, pr, ks, lv, n, hn, h => by
    rw [weighL_cons] at h ⊢
    split
    · rename_i hc; rw [if_pos hc] at h; cases h
    · rename_i hc
      rw [if_neg hc] at h
      split
      · rename_i h0
        rw [if_pos h0] at h
        have hm := weigh_most x lv n hn h0
        have := weighL_cnt l p _ _ _ _ (by omega) h
        simp only [List.length_cons]
        push_cast
        omega
      · rename_i h0; rw [if_neg h0] at h; exact absurd h h0
theorem weighL_all0 {p : Bool} : ∀ (l : List V) (pr : Option ByteArray) (ks : List ByteArray) (lv n : Int), 0 ≤ n → (weighL p pr ks l lv n).1 = 0 → ∀ x ∈ l, ∃ lv n, 0 ≤ n ∧ (weigh x lv n).1 = 0
  | [], _, _, _, _, _, _, x, hx => by cases hx
  | y :: l, pr, ks, lv, n, hn, h, x, hx => by
    rw [weighL_cons] at h
    split at h
    · cases h
    · split at h
      · rename_i h0
        rcases List.mem_cons.1 hx with rfl | hx
        · exact ⟨lv, n, hn, h0⟩
        · have hm := weigh_most y lv n hn h0
          exact weighL_all0 l _ _ _ _ (by omega) h x hx
      · rename_i h0; exact absurd h h0
theorem nrmL_each : ∀ {l : List V}, nrmL l = l → ∀ x ∈ l, nrm x = x
  | [], _, x, hx => by cases hx
  | y :: l, h, x, hx => by
    rw [nrmL_cons] at h
    injection h with h1 h2
    rcases List.mem_cons.1 hx with rfl | hx
    · exact h1
    · exact nrmL_each h2 x hx
theorem kids_cnt {v : V} {lv n : Int} (h0 : 0 ≤ n) (h : (weigh v lv n).1 = 0) (hn : nrm v = v) : v.kids.length ≤ 1000 ∧ ∀ x ∈ v.kids, nrm x = x ∧ ∃ lv n, 0 ≤ n ∧ (weigh x lv n).1 = 0 := by
  obtain ⟨k, y, m, s, ks, l⟩ := v
  have hm := weigh_most _ lv n h0 h
  rw [nrm_mk] at hn
  simp only [V.kids]
  by_cases h5 : k < 5
  · have hl : l = [] := by
      split at hn
      · unfold nilV at hn; injection hn with _ _ _ _ _ e; exact e.symm
      split at hn
      · unfold boolV at hn; injection hn with _ _ _ _ _ e; exact e.symm
      split at hn
      · unfold intV at hn; injection hn with _ _ _ _ _ e; exact e.symm
      split at hn
      · unfold textV at hn; injection hn with _ _ _ _ _ e; exact e.symm
      split at hn
      · omega
      · unfold pairsV at hn; injection hn with e; omega
    subst hl
    exact ⟨by simp, fun x hx => by cases hx⟩
  · rw [weigh_mk] at h hm
    have hk : ¬ (k < 1 ∨ 6 < k) := fun hc => by rw [if_pos hc] at h; cases h
    rw [if_neg hk, if_neg (fun hc => by omega)] at h hm
    have h1 : ¬ 1000 < n + 1 := fun hc => by rw [if_pos hc] at h; cases h
    rw [if_neg h1, if_neg h5] at h hm
    have h2 : ¬ 20 ≤ lv := fun hc => by rw [if_pos hc] at h; cases h
    rw [if_neg h2] at h hm
    have hc := weighL_cnt l _ _ _ _ _ (by omega) h
    have hl : nrmL l = l := by
      split at hn
      · unfold nilV at hn; injection hn with e; omega
      split at hn
      · unfold boolV at hn; injection hn with e; omega
      split at hn
      · unfold intV at hn; injection hn with e; omega
      split at hn
      · unfold textV at hn; injection hn with e; omega
      split at hn
      · unfold listV at hn; injection hn
      · unfold pairsV at hn; injection hn
    refine ⟨by omega, fun x hx => ?_⟩
    exact ⟨nrmL_each hl x hx, weighL_all0 l _ _ _ _ (by omega) h x hx⟩
theorem Bnd2.read {v : V} (h : (weigh v 0 0).1 = 0) (hn : nrm v = v) : Bnd2 v := by
  have h0 := kids_cnt (by decide) h hn
  refine ⟨by omega, fun x hx => ?_⟩
  obtain ⟨hx1, lv, n, hx2, hx3⟩ := h0.2 x hx
  have h1 := kids_cnt hx2 hx3 hx1
  refine ⟨by omega, fun y hy => ?_⟩
  obtain ⟨hy1, lv', n', hy2, hy3⟩ := h1.2 y hy
  have := (kids_cnt hy2 hy3 hy1).1
  omega
def cpE (L : List UInt8) : Int := match parsP L with
  | none => 10
  | some v => if ofOk v = true then 0 else 1
def cpC (L : List UInt8) : ClV := match parsP L with
  | none => {}
  | some v => ofC v
attribute [local irreducible] Code.wp wpList Exit.then Exit.inBlock bodyPost Back MidQ G GP QStep VStep CStep SStep Does Post Reads
attribute [local irreducible] weigh weighL callS parsP
set_option maxHeartbeats 4000000 in
theorem cparse1 {H : HP} (hT : Tb H) (hE : ErrH H) (L : List UInt8) (hL : L.length ≤ 400000) : Does Tryz.prog 6 [.string (txt L)] [Pile H] (X := HP × Cl) (fun y => .tuple #[.agg y.2.cells.toArray, int (cpE L)]) (fun y => [Pile y.1]) (fun y => HP.sub H y.1 ∧ ClAt y.1 y.2 (cpC L)) := by
  have hp := parse1 hT hE L hL
  have hps := @parsP_some L
  unfold cpE cpC
  cases hq : parsP L with
  | none =>
    rw [hq] at hp
    simp only [Option.isSome_none, Bool.false_eq_true, if_false] at hp
    refine fn_intro Tryz.func6 rfl Tryz.ntmps6 rfl (by simp only [argFr, Nat.zero_add, Nat.reduceAdd]; rfl) (fun Γ => ?_)
    repeat (first
      | (refine g_ops ?_; first | refine sO ?_ | refine s_n (fun _ => ?_) | refine s_app (fun _ _ => ?_) | refine s_b0 (fun _ => ?_) | ((fail_if_success refine g_lit rfl rfl rfl ?_); first | apply g_partM rfl rfl rfl | apply g_partMB rfl rfl rfl | fail) | refine s_c (hp) (fun _ _ => ?_))
      | refine gS ?_ | exact s_m | intro _)
    rename_i y hy
    obtain ⟨H1, w⟩ := y
    obtain ⟨hs1, _, hw⟩ := hy
    have hw := hw trivial
    dsimp only at hs1 hw ⊢
    try dsimp only [List.cons_append, List.nil_append, List.append_eq]
    exact gR (H1, {}) ⟨hs1, ClAt.zero⟩
  | some v =>
    obtain ⟨h1, _, _, h4⟩ := hps hq
    have hb := Bnd2.read h1 h4
    rw [hq] at hp
    simp only [Option.isSome_some, if_true] at hp
    dsimp only
    refine fn_intro Tryz.func6 rfl Tryz.ntmps6 rfl (by simp only [argFr, Nat.zero_add, Nat.reduceAdd]; rfl) (fun Γ => ?_)
    repeat (first
      | (refine g_ops ?_; first | refine sO ?_ | refine s_n (fun _ => ?_) | refine s_app (fun _ _ => ?_) | refine s_b0 (fun _ => ?_) | ((fail_if_success refine g_lit rfl rfl rfl ?_); first | apply g_partM rfl rfl rfl | apply g_partMB rfl rfl rfl | fail) | refine s_c (hp) (fun _ _ => ?_))
      | refine gS ?_ | exact s_m | intro _)
    rename_i y hy
    obtain ⟨H1, w⟩ := y
    obtain ⟨hs1, hw, _⟩ := hy
    have hw := hw v rfl
    dsimp only at hs1 hw ⊢
    try dsimp only [List.cons_append, List.nil_append, List.append_eq]
    have hof := of1 (hT.grow hs1).vs hw hb
    repeat (first
      | (refine g_ops ?_; first | refine sO ?_ | refine s_n (fun _ => ?_) | refine s_app (fun _ _ => ?_) | refine s_b0 (fun _ => ?_) | ((fail_if_success refine g_lit rfl rfl rfl ?_); first | apply g_partM rfl rfl rfl | apply g_partMB rfl rfl rfl | fail) | refine s_c (hof) (fun _ _ => ?_))
      | refine gS ?_ | exact s_m | intro _)
    rename_i y2 hy2
    obtain ⟨H2, cl⟩ := y2
    obtain ⟨hs2, hcl⟩ := hy2
    exact gR (H2, cl) ⟨hs1.trans hs2, hcl⟩
abbrev kCode : ByteArray := ⟨#[99, 111, 100, 101]⟩
structure Rp where
  code : Int := 0
  w : Int := 0
  l : Int := 0
  n : Int := 0
  fp : Option Addr := none
  fn : Nat := 0
  fc : Nat := 0
  ep : Option Addr := none
  en : Nat := 0
  ec : Nat := 0
  cw : Int := 0
  cl : Int := 0
  cn : Int := 0
  ci : Int := 0
  cs : ByteArray := ByteArray.empty
  rp : Option Addr := none
  rn : Nat := 0
  rc : Nat := 0
  node : Int := 0
abbrev Rp.cells (x : Rp) : List Value := [int x.code, int x.w, int x.l, int x.n, .slice x.fp x.fn x.fc, .slice x.ep x.en x.ec, int x.cw, int x.cl, int x.cn, int x.ci, .string x.cs, .slice x.rp x.rn x.rc, int x.node]
set_option maxHeartbeats 4000000 in
theorem reply_err {H : HP} (x : Rp) (hc : x.code = 11) : Does Tryz.prog 26 [.agg x.cells.toArray] [Pile H] (X := HP × Value) (fun y => y.2) (fun y => [Pile y.1]) (fun y => HP.sub H y.1 ∧ TAt y.1 (pairsV [kCode] [intV 11]) y.2) := by
  obtain ⟨code, w, l, n, fp, fn, fc, ep, en, ec, cw, cl, cn, ci, cs, rp, rn, rc, node⟩ := x
  dsimp only at hc
  subst hc
  dsimp only [Rp.cells]
  refine fn_intro Tryz.func26 rfl Tryz.ntmps26 rfl (by simp only [argFr, Nat.zero_add, Nat.reduceAdd]; rfl) (fun Γ => ?_)
  repeat (first
    | (refine g_ops ?_; first | refine sO ?_ | refine s_n (fun _ => ?_) | refine s_app (fun _ _ => ?_) | refine s_b0 (fun _ => ?_) | ((fail_if_success refine g_lit rfl rfl rfl ?_); first | apply g_partM rfl rfl rfl | apply g_partMB rfl rfl rfl | fail))
    | refine gS ?_ | exact s_m | intro _)
  rename_i rb lb
  refine g_toOwn (b := lb) (len := 1) (n := 2) (by (repeat (first | exact Sel.here | apply Sel.there)); first | done | fail) rfl rfl ?_
  refine g_pile (n := 2) (by (repeat (first | exact Sel.here | apply Sel.there)); first | done | fail) (by (repeat (first | exact Sel.here | apply Sel.there)); first | done | fail) (fun H2 hs2 hS2 => ?_)
  exact gR (H2, .iface 89 (.slice (some ⟨lb, 0, none⟩) 1 1)) ⟨hs2, .pairs [⟨kCode, .iface 3 (int 11)⟩] rfl (by simp) rfl (fun q hq => by rw [List.mem_singleton] at hq; rw [hq]; show kCode.size ≤ _; decide) hS2 fun i a q h1 h2 => by
    match i with
    | 0 => cases h1; cases h2; exact .int ⟨by decide, by decide⟩
    | i + 1 => simp at h1⟩
theorem busy_w : (weigh (pairsV [kCode] [intV 11]) 0 0).1 = 0 := by
  unfold pairsV intV
  simp only [weigh_mk, weighL_cons, weighL_nil, List.headD_cons, show keyB kCode = true by decide +kernel]
  decide
theorem busy_t : textL (pairsV [kCode] [intV 11]) = [123, 34, 99, 111, 100, 101, 34, 58, 49, 49, 125] := by
  unfold pairsV intV
  simp only [textL_mk, textK_cons, textK_nil, List.headD_cons, show quoteL kCode = [34, 99, 111, 100, 101, 34] by decide +kernel, show decI 11 = [49, 49] by decide +kernel]
  decide
theorem map_w : (weigh (pairsV [kMap] [nilV]) 0 0).1 = 0 := by
  unfold pairsV nilV
  simp only [weigh_mk, weighL_cons, weighL_nil, List.headD_cons, show keyB kMap = true by decide +kernel]
  decide
theorem map_t : textL (pairsV [kMap] [nilV]) = [123, 34, 109, 97, 112, 34, 58, 110, 105, 108, 125] := by
  unfold pairsV nilV
  simp only [textL_mk, textK_cons, textK_nil, List.headD_cons, show quoteL kMap = [34, 109, 97, 112, 34] by decide +kernel]
  decide
theorem goodP {ks : List ByteArray} {l : List V} (hl : ks.length = l.length) (h : ∀ x ∈ l, GoodT x) : GoodT (pairsV ks l) := by
  unfold pairsV
  exact ⟨.mk (fun _ => hl) (fun h => absurd rfl h) (fun h => by omega) (fun x hx => (h x hx).1), ⟨⟨by decide, by decide⟩, fun x hx => (h x hx).2⟩⟩
theorem goodI {n : Int} (h : inI n) : GoodT (intV n) := flatG (by decide) h
theorem goodN : GoodT nilV := flatG (by decide) ⟨by decide, by decide⟩
theorem cpMap : cpE [123, 34, 109, 97, 112, 34, 58, 110, 105, 108, 125] = 0 ∧ (cpC [123, 34, 109, 97, 112, 34, 58, 110, 105, 108, 125]).kind = 6 := by
  have h := parsP_of map_w (goodP rfl fun x hx => by rw [List.mem_singleton] at hx; rw [hx]; exact goodN)
  rw [map_t, show nrm (pairsV [kMap] [nilV]) = pairsV [kMap] [nilV] by unfold pairsV nilV; rw [nrm_mk]; simp [nrmL_cons, nrmL_nil, nrm_mk, pairsV, nilV]] at h
  have ho : ofOk (pairsV [kMap] [nilV]) = true := by
    refine of_doc' (fun _ => rfl) ?_
    unfold docOf
    rw [if_neg (fun h => h map_w), if_neg (not_isF (ks' := [kMap]) rfl (by decide)), if_neg (not_isF (ks' := [kMap]) rfl (by decide)), if_neg (not_isF (ks' := [kMap]) rfl (by decide)), if_neg (not_isF (ks' := [kMap]) rfl (by decide)), if_neg (not_isF (ks' := [kMap]) rfl (by decide)), if_pos ⟨rfl, rfl, rfl⟩]
    rfl
  have hc := doc_of (v := pairsV [kMap] [nilV]) (fun _ => rfl) ho
  unfold cpE cpC
  rw [h]
  dsimp only
  rw [if_pos ho]
  refine ⟨rfl, ?_⟩
  rw [(of_same (v := pairsV [kMap] [nilV]) (fun _ => rfl)).2]
  unfold docOf
  rw [if_neg (fun h => h map_w), if_neg (not_isF (ks' := [kMap]) rfl (by decide)), if_neg (not_isF (ks' := [kMap]) rfl (by decide)), if_neg (not_isF (ks' := [kMap]) rfl (by decide)), if_neg (not_isF (ks' := [kMap]) rfl (by decide)), if_neg (not_isF (ks' := [kMap]) rfl (by decide)), if_pos ⟨rfl, rfl, rfl⟩]
  rfl
attribute [local irreducible] cpE cpC textB
theorem ctext {H : HP} (hT : Tb H) (x : Rp) {v : V} (hv : Does Tryz.prog 26 [.agg x.cells.toArray] [Pile H] (X := HP × Value) (fun y => y.2) (fun y => [Pile y.1]) (fun y => HP.sub H y.1 ∧ TAt y.1 v y.2)) (hok : VOk v) (hsz : szV v ≤ 1000000000) : Does Tryz.prog 12 [.agg x.cells.toArray] [Pile H] (X := HP) (fun _ => .string (textB v)) (fun y => [Pile y]) (fun y => HP.sub H y) := by
  obtain ⟨code, w, l, n, fp, fn, fc, ep, en, ec, cw, cl, cn, ci, cs, rp, rn, rc, node⟩ := x
  dsimp only [Rp.cells] at hv ⊢
  refine fn_intro Tryz.func12 rfl Tryz.ntmps12 rfl (by simp only [argFr, Nat.zero_add, Nat.reduceAdd]; rfl) (fun Γ => ?_)
  repeat (first
    | (refine g_ops ?_; first | refine sO ?_ | refine s_n (fun _ => ?_) | refine s_app (fun _ _ => ?_) | refine s_b0 (fun _ => ?_) | ((fail_if_success refine g_lit rfl rfl rfl ?_); first | apply g_partM rfl rfl rfl | apply g_partMB rfl rfl rfl | fail) | refine s_c (hv) (fun _ _ => ?_))
    | refine gS ?_ | exact s_m | intro _)
  rename_i y hy
  obtain ⟨H1, w1⟩ := y
  obtain ⟨hs1, hw⟩ := hy
  dsimp only at hs1 hw ⊢
  try dsimp only [List.cons_append, List.nil_append, List.append_eq]
  have ht := text1 (hT.grow hs1) hw hok hsz
  repeat (first
    | (refine g_ops ?_; first | refine sO ?_ | refine s_n (fun _ => ?_) | refine s_app (fun _ _ => ?_) | refine s_b0 (fun _ => ?_) | ((fail_if_success refine g_lit rfl rfl rfl ?_); first | apply g_partM rfl rfl rfl | apply g_partMB rfl rfl rfl | fail) | refine s_k (ht) ?_)
    | refine gS ?_ | exact s_m | intro _)
  exact gR H1 hs1
set_option maxHeartbeats 4000000 in
theorem awake28 {H : HP} (hT : Tb H) (hE : ErrH H) : Does1 Tryz.prog 5 [] [Pile H] (.bool true) := by
  have hcp := cparse1 hT hE [123, 34, 109, 97, 112, 34, 58, 110, 105, 108, 125] (by decide)
  rw [cpMap.1] at hcp
  have hk6 := cpMap.2
  have hb : textB (pairsV [kCode] [intV 11]) = ⟨#[123, 34, 99, 111, 100, 101, 34, 58, 49, 49, 125]⟩ := by unfold textB; rw [if_pos busy_w, busy_t]
  have hg : GoodT (pairsV [kCode] [intV 11]) := goodP rfl fun x hx => by rw [List.mem_singleton] at hx; rw [hx]; exact goodI ⟨by decide, by decide⟩
  have hct := fun (H' : HP) (hs : HP.sub H H') => ctext (hT.grow hs) { code := 11 } (reply_err { code := 11 } rfl) hg.2 (by unfold pairsV intV; simp only [szV_mk, szK_cons, szK_nil, szS_cons, szS_nil]; decide)
  rw [hb] at hct
  dsimp only [Rp.cells] at hct
  refine fn_intro Tryz.func5 rfl Tryz.ntmps5 rfl (by simp only [argFr, Nat.zero_add, Nat.reduceAdd]; rfl) (fun Γ => ?_)
  repeat (first
    | (refine g_ops ?_; first | refine sO ?_ | refine s_n (fun _ => ?_) | refine s_app (fun _ _ => ?_) | refine s_b0 (fun _ => ?_) | ((fail_if_success refine g_lit rfl rfl rfl ?_); first | apply g_partM rfl rfl rfl | apply g_partMB rfl rfl rfl | fail) | refine s_c (hcp) (fun _ _ => ?_))
    | refine gS ?_ | exact s_m | intro _)
  rename_i y hy b1
  obtain ⟨H1, cl⟩ := y
  obtain ⟨hs1, hcl⟩ := hy
  have hk := hcl.kind
  rw [hk6] at hk
  have hct1 := hct H1 hs1
  dsimp only at hs1 hct1 ⊢
  try dsimp only [List.cons_append, List.nil_append, List.append_eq]
  refine g_as 14 (v' := .bool true) rfl (congrArg Value.bool (decide_eq_true hk)) ?_
  repeat (first
    | (refine g_ops ?_; first | refine sO ?_ | refine s_n (fun _ => ?_) | refine s_app (fun _ _ => ?_) | refine s_b0 (fun _ => ?_) | ((fail_if_success refine g_lit rfl rfl rfl ?_); first | apply g_partM rfl rfl rfl | apply g_partMB rfl rfl rfl | fail) | refine s_c (hct1) (fun _ _ => ?_))
    | refine gS ?_ | exact s_m | intro _)
  rename_i H2 hs2
  try dsimp only [List.cons_append, List.nil_append, List.append_eq] at hs2 ⊢
  refine g_unpile (hs1.trans hs2) (by (repeat (first | exact Sel.here | apply Sel.there)); first | done | fail) ?_
  exact s_r ()
end Go.Proofs.YtaahibcibgljbaaGreatDoor


namespace Go.Proofs.YtaahibcibgljbaaGreatDoor
open Go.Sl facts
attribute [local irreducible] Code.wp wpList Exit.then Exit.inBlock bodyPost Back MidQ G GP QStep VStep CStep SStep Does Post Reads
theorem d_get {ps qs : List Pt} (h : ps.map Pt.d = qs.map Pt.d) (hl : ps.length = qs.length) (i : Nat) (h1 : i < ps.length) (h2 : i < qs.length) : ps[i].d = qs[i].d := by
  have e1 : (ps.map Pt.d)[i]'(by simpa using h1) = ps[i].d := List.getElem_map ..
  have e2 : (qs.map Pt.d)[i]'(by simpa using h2) = qs[i].d := List.getElem_map ..
  rw [← e1, ← e2]
  exact List.getElem_of_eq h _
set_option maxHeartbeats 8000000 in
theorem sameBatch {H : HP} (key : ByteArray) (pp qp : Option Addr) (pc qc : Nat) (ps qs : List Pt) (a1 : SlAt (Pile H) 3 pp ps.length (ps.flatMap Pt.cells)) (a2 : ∀ x ∈ ps, PtAt (Pile H) x) (a3 : ps.length ≤ 1000000000) (c1 : SlAt (Pile H) 3 qp qs.length (qs.flatMap Pt.cells)) (c2 : ∀ x ∈ qs, PtAt (Pile H) x) (hd0 : ps.map Pt.d = qs.map Pt.d) : Does1 Tryz.prog 20 [.agg #[.string key, .slice pp ps.length pc], .agg #[.string key, .slice qp qs.length qc]] [Pile H] (.bool true) := by
  have hpq : ps.length = qs.length := by rw [← List.length_map (f := Pt.d), hd0, List.length_map]
  refine fn_intro Tryz.func20 rfl Tryz.ntmps20 rfl (by simp only [argFr, Nat.zero_add, Nat.reduceAdd]; rfl) (fun Γ => ?_)
  repeat (first
    | (refine g_ops ?_; first | refine sO ?_ | refine s_n (fun _ => ?_) | refine s_app (fun _ _ => ?_) | refine s_b0 (fun _ => ?_) | ((fail_if_success refine g_lit rfl rfl rfl ?_); first | apply g_partM rfl rfl rfl | apply g_partMB rfl rfl rfl | fail))
    | refine gS ?_ | exact s_m | intro _)
  rename_i b2 b3
  refine g_as 14 (v' := .bool false) rfl (congrArg Value.bool (by simp)) ?_
  repeat (first
    | (refine g_ops ?_; first | refine sO ?_ | refine s_n (fun _ => ?_) | refine s_app (fun _ _ => ?_) | refine s_b0 (fun _ => ?_) | ((fail_if_success refine g_lit rfl rfl rfl ?_); first | apply g_partM rfl rfl rfl | apply g_partMB rfl rfl rfl | fail))
    | refine gS ?_ | exact s_m | intro _)
  refine g_as 22 (v' := .bool false) rfl (congrArg Value.bool (by simp [hpq])) ?_
  repeat (first
    | (refine g_ops ?_; first | refine sO ?_ | refine s_n (fun _ => ?_) | refine s_app (fun _ _ => ?_) | refine s_b0 (fun _ => ?_) | ((fail_if_success refine g_lit rfl rfl rfl ?_); first | apply g_partM rfl rfl rfl | apply g_partMB rfl rfl rfl | fail))
    | refine gS ?_ | exact s_m | intro _)
  refine g_loop (X := Nat) (fun i => [(2, ptr b2), (3, ptr b3), (5, int i)]) (fun _ => [.row b2 [.string key, .slice pp ps.length pc] 27, .row b3 [.string key, .slice qp qs.length qc] 27, Pile H]) (fun i => i ≤ ps.length) (fun i => ps.length - i) 0 (Nat.zero_le _) (by (repeat (first | exact FrSub.nil | refine FrSub.cons rfl ?_)); first | done | fail) (by (repeat (first | exact Take.nil | apply Take.cons | exact Sel.here | apply Sel.there)); first | done | fail) (fun i hi => ?_)
  repeat (first
    | (refine g_ops ?_; first | refine sO ?_ | refine s_n (fun _ => ?_) | refine s_app (fun _ _ => ?_) | refine s_b0 (fun _ => ?_) | ((fail_if_success refine g_lit rfl rfl rfl ?_); first | apply g_partM rfl rfl rfl | apply g_partMB rfl rfl rfl | fail))
    | refine gS ?_ | exact s_m | intro _)
  refine g_cond_dec rfl (fun h => ?_) (fun h => ?_)
  · have hi' : i < ps.length := by omega
    have hi2 : i < qs.length := by omega
    obtain ⟨pb, po, rfl, hrow⟩ := slAt_elem a1 pt_len (by decide) (i := i) (a := ps[i]) (by simp [hi'])
    obtain ⟨qb, qo, rfl, hrow2⟩ := slAt_elem c1 pt_len (by decide) (i := i) (a := qs[i]) (by simp [hi2])
    have ha := a2 ps[i] (List.getElem_mem _)
    have hc := c2 qs[i] (List.getElem_mem _)
    have hde := d_get hd0 hpq i hi' hi2
    generalize ps[i] = x at hrow ha hde
    generalize qs[i] = y at hrow2 hc hde
    obtain ⟨st, ex, dp, dc, data⟩ := x
    obtain ⟨st2, ex2, ep, ec, data2⟩ := y
    simp only [Pt.d, PtD.mk.injEq] at hde
    obtain ⟨rfl, rfl, rfl⟩ := hde
    obtain ⟨ha1, ha2⟩ := ha
    obtain ⟨hc1, hc2⟩ := hc
    dsimp only at ha1 ha2 hc1 hc2 hrow hrow2
    repeat (first
      | (refine g_ops ?_; first | refine sO ?_ | refine s_n (fun _ => ?_) | refine s_app (fun _ _ => ?_) | refine s_b0 (fun _ => ?_) | ((fail_if_success refine g_lit rfl rfl rfl ?_); first | apply g_partM rfl rfl rfl | apply g_partMB rfl rfl rfl | fail))
      | refine gS ?_ | exact s_m | intro _)
    rename_i b6 b7
    clear hrow hrow2
    refine g_as 45 (v' := .bool false) rfl (congrArg Value.bool (by simp)) ?_
    repeat (first
      | (refine g_ops ?_; first | refine sO ?_ | refine s_n (fun _ => ?_) | refine s_app (fun _ _ => ?_) | refine s_b0 (fun _ => ?_) | ((fail_if_success refine g_lit rfl rfl rfl ?_); first | apply g_partM rfl rfl rfl | apply g_partMB rfl rfl rfl | fail))
      | refine gS ?_ | exact s_m | intro _)
    refine g_as 52 (v' := .bool false) rfl (congrArg Value.bool (by simp)) ?_
    repeat (first
      | (refine g_ops ?_; first | refine sO ?_ | refine s_n (fun _ => ?_) | refine s_app (fun _ _ => ?_) | refine s_b0 (fun _ => ?_) | ((fail_if_success refine g_lit rfl rfl rfl ?_); first | apply g_partM rfl rfl rfl | apply g_partMB rfl rfl rfl | fail))
      | refine gS ?_ | exact s_m | intro _)
    refine g_as 60 (v' := .bool false) rfl (congrArg Value.bool (by simp)) ?_
    repeat (first
      | (refine g_ops ?_; first | refine sO ?_ | refine s_n (fun _ => ?_) | refine s_app (fun _ _ => ?_) | refine s_b0 (fun _ => ?_) | ((fail_if_success refine g_lit rfl rfl rfl ?_); first | apply g_partM rfl rfl rfl | apply g_partMB rfl rfl rfl | fail))
      | refine gS ?_ | exact s_m | intro _)
    refine g_loop (X := Nat) (fun j => [(2, ptr b2), (3, ptr b3), (5, int i), (6, ptr b6), (7, ptr b7), (8, int j)]) (fun _ => [.row b6 [.string st, int ex, .slice dp data.length dc] 73, .row b7 [.string st, int ex, .slice ep data.length ec] 73, .row b2 [.string key, .slice (some ⟨pb, po, none⟩) ps.length pc] 27, .row b3 [.string key, .slice (some ⟨qb, qo, none⟩) qs.length qc] 27, Pile H]) (fun j => j ≤ data.length) (fun j => data.length - j) 0 (Nat.zero_le _) (by (repeat (first | exact FrSub.nil | refine FrSub.cons rfl ?_)); first | done | fail) (by (repeat (first | exact Take.nil | apply Take.cons | exact Sel.here | apply Sel.there)); first | done | fail) (fun j hj => ?_)
    repeat (first
      | (refine g_ops ?_; first | refine sO ?_ | refine s_n (fun _ => ?_) | refine s_app (fun _ _ => ?_) | refine s_b0 (fun _ => ?_) | ((fail_if_success refine g_lit rfl rfl rfl ?_); first | apply g_partM rfl rfl rfl | apply g_partMB rfl rfl rfl | fail))
      | refine gS ?_ | exact s_m | intro _)
    refine g_cond_dec rfl (fun h2 => ?_) (fun h2 => ?_)
    · have hj' : j < data.length := by omega
      obtain ⟨db, do_, rfl, hr0⟩ := slAt_cell ha1 (i := j) (v := .string data[j]) (by simp [hj'])
      obtain ⟨eb, eo, rfl, hs0⟩ := slAt_cell hc1 (i := j) (v := .string data[j]) (by simp [hj'])
      generalize data[j] = t at hr0 hs0
      have hr : ∀ k', k' = j → Reads (Pile H) ⟨db, do_ + k', none⟩ (.string t) := fun _ e => e ▸ hr0
      have hr2 : ∀ k', k' = j → Reads (Pile H) ⟨eb, eo + k', none⟩ (.string t) := fun _ e => e ▸ hs0
      repeat (first
        | (refine g_ops ?_; first | refine sO ?_ | refine s_n (fun _ => ?_) | refine s_app (fun _ _ => ?_) | refine s_b0 (fun _ => ?_) | ((fail_if_success refine g_lit rfl rfl rfl ?_); first | apply g_partM rfl rfl rfl | apply g_partMB rfl rfl rfl | fail))
        | apply g_regB (id := 1) 22 | apply g_regB (id := 8) 60 | refine g_draw (id := 13) (.take 0 (.see 1 [] (.take 2 (.take 3 (.see 4 [] (.take 5 (.see 6 [] (.take 7 (.take 8 (.see 9 [] (.take 10 .done))))))))))) (by kernel_rfl) (take_all _) (fun k hd hk => ?_)
        | refine gS ?_ | exact s_m | intro _ | (refine gp_take ?_; first | refine pT ?_ | ((fail_if_success refine gp_lit rfl rfl rfl rfl ?_); first | apply gp_guard_dec rfl rfl rfl rfl | apply gp_guard rfl rfl rfl rfl | fail))
        | (refine gp_see ?_; first | refine p_f ?_ | refine pS ?_ | ((fail_if_success refine gp_lit rfl rfl rfl rfl ?_); first | apply gp_guard_dec rfl rfl rfl rfl | apply gp_guard rfl rfl rfl rfl | fail))
        | (refine gp_one ?_; first | refine pO ?_ | refine p_n (fun _ => ?_) | refine p_app (fun _ _ => ?_) | refine p_b0 (fun _ => ?_) | ((fail_if_success refine gp_lit rfl rfl rfl rfl ?_); first | apply gp_guard_dec rfl rfl rfl rfl | apply gp_guard rfl rfl rfl rfl | fail))
        | refine gp_two ?_ ?_ | refine gp_done hd hk ?_ | intro _ | refine p_ta hd hk (fun _ _ _ hd hk => ?_) | refine p_ts hd hk (fun _ hd hk => ?_))
      dsimp only [List.cons_append, List.nil_append]
      refine g_as 78 (v' := .bool false) rfl (congrArg Value.bool (by simp)) ?_
      repeat (first
        | (refine g_ops ?_; first | refine sO ?_ | refine s_n (fun _ => ?_) | refine s_app (fun _ _ => ?_) | refine s_b0 (fun _ => ?_) | ((fail_if_success refine g_lit rfl rfl rfl ?_); first | apply g_partM rfl rfl rfl | apply g_partMB rfl rfl rfl | fail))
        | refine gS ?_ | exact s_m | intro _)
      refine g_as 8 (v' := int ((j + 1 : Nat) : Int)) rfl (congrArg (Value.int .i64) (by push_cast; rfl)) ?_
      exact gA (j + 1) (by omega) hj'
    · repeat (first
        | (refine g_ops ?_; first | refine sO ?_ | refine s_n (fun _ => ?_) | refine s_app (fun _ _ => ?_) | refine s_b0 (fun _ => ?_) | ((fail_if_success refine g_lit rfl rfl rfl ?_); first | apply g_partM rfl rfl rfl | apply g_partMB rfl rfl rfl | fail))
        | refine gS ?_ | exact s_m | intro _)
      refine g_as 5 (v' := int ((i + 1 : Nat) : Int)) rfl (congrArg (Value.int .i64) (by push_cast; rfl)) ?_
      exact gA (i + 1) (by omega) hi'
  · repeat (first
      | (refine g_ops ?_; first | refine sO ?_ | refine s_n (fun _ => ?_) | refine s_app (fun _ _ => ?_) | refine s_b0 (fun _ => ?_) | ((fail_if_success refine g_lit rfl rfl rfl ?_); first | apply g_partM rfl rfl rfl | apply g_partMB rfl rfl rfl | fail))
      | refine gS ?_ | exact s_m | intro _)
    exact gR () trivial
theorem PtsOf.same {H : HP} {l : List V} {ps qs : List Pt} (h1 : PtsOf H l ps) (h2 : PtsOf H l qs) (hall : ∀ y ∈ l, (putV y).isSome = true) : ps.map Pt.d = qs.map Pt.d := by
  apply List.ext_getElem
  · simp [h1.1, h2.1]
  · intro i g1 g2
    have g1 : i < ps.length := by simpa using g1
    have g2 : i < qs.length := by simpa using g2
    have hi : i < l.length := by rw [← h1.1]; exact g1
    obtain ⟨d, hd⟩ := Option.isSome_iff_exists.1 (hall l[i] (List.getElem_mem _))
    simp only [List.getElem_map]
    rw [h1.2.2 i _ _ d (List.getElem?_eq_getElem hi) (List.getElem?_eq_getElem g1) hd, h2.2.2 i _ _ d (List.getElem?_eq_getElem hi) (List.getElem?_eq_getElem g2) hd]
set_option maxHeartbeats 8000000 in
theorem same28 {H : HP} {x y : Cl} {d : ClV} (hx : ClAt H x d) (hy : ClAt H y d) (hall : ∀ z ∈ d.pv, (putV z).isSome = true) (hl : d.pv.length ≤ 1000000000) : Does1 Tryz.prog 8 [.agg x.cells.toArray, .agg y.cells.toArray] [Pile H] (.bool true) := by
  have hd := hx.pts.same hy.pts hall
  have hsb := sameBatch (H := H) d.key x.pp y.pp x.pc y.pc x.pts y.pts hx.sl hx.pts.2.1 (by rw [hx.pts.1]; exact hl) hy.sl hy.pts.2.1 hd
  obtain ⟨x1, x2, x3, x4, x5, x6, x7, x8, x9, x10, x11⟩ := x
  obtain ⟨y1, y2, y3, y4, y5, y6, y7, y8, y9, y10, y11⟩ := y
  obtain ⟨a1, a2, a3, a4, a5, a6, a7, a8, a9, a10⟩ := hx
  obtain ⟨b1, b2, b3, b4, b5, b6, b7, b8, b9, b10⟩ := hy
  obtain ⟨d1, d2, d3, d4, d5, d6, d7, d8, d9⟩ := d
  dsimp only at a1 a2 a5 a6 a7 a8 a9 a10 b1 b2 b5 b6 b7 b8 b9 b10 hsb
  subst a1 a2 a5 a6 a7 a8 a9 a10
  subst b1 b2 b5 b6 b7 b8 b9 b10
  dsimp only [Cl.cells]
  refine fn_intro Tryz.func8 rfl Tryz.ntmps8 rfl (by simp only [argFr, Nat.zero_add, Nat.reduceAdd]; rfl) (fun Γ => ?_)
  repeat (first
    | (refine g_ops ?_; first | refine sO ?_ | refine s_n (fun _ => ?_) | refine s_app (fun _ _ => ?_) | refine s_b0 (fun _ => ?_) | ((fail_if_success refine g_lit rfl rfl rfl ?_); first | apply g_partM rfl rfl rfl | apply g_partMB rfl rfl rfl | fail) | refine s_k (hsb) ?_)
    | refine gS ?_ | exact s_m | intro _)
  refine g_as 10 (v' := .bool true) rfl (congrArg Value.bool (by simp)) ?_
  repeat (first
    | (refine g_ops ?_; first | refine sO ?_ | refine s_n (fun _ => ?_) | refine s_app (fun _ _ => ?_) | refine s_b0 (fun _ => ?_) | ((fail_if_success refine g_lit rfl rfl rfl ?_); first | apply g_partM rfl rfl rfl | apply g_partMB rfl rfl rfl | fail) | refine s_k (hsb) ?_)
    | refine gS ?_ | exact s_m | intro _)
  refine g_as 17 (v' := .bool true) rfl (congrArg Value.bool (by simp)) ?_
  repeat (first
    | (refine g_ops ?_; first | refine sO ?_ | refine s_n (fun _ => ?_) | refine s_app (fun _ _ => ?_) | refine s_b0 (fun _ => ?_) | ((fail_if_success refine g_lit rfl rfl rfl ?_); first | apply g_partM rfl rfl rfl | apply g_partMB rfl rfl rfl | fail) | refine s_k (hsb) ?_)
    | refine gS ?_ | exact s_m | intro _)
  refine g_as 24 (v' := .bool true) rfl (congrArg Value.bool (by simp)) ?_
  repeat (first
    | (refine g_ops ?_; first | refine sO ?_ | refine s_n (fun _ => ?_) | refine s_app (fun _ _ => ?_) | refine s_b0 (fun _ => ?_) | ((fail_if_success refine g_lit rfl rfl rfl ?_); first | apply g_partM rfl rfl rfl | apply g_partMB rfl rfl rfl | fail) | refine s_k (hsb) ?_)
    | refine gS ?_ | exact s_m | intro _)
  refine g_as 31 (v' := .bool true) rfl (congrArg Value.bool (by simp)) ?_
  repeat (first
    | (refine g_ops ?_; first | refine sO ?_ | refine s_n (fun _ => ?_) | refine s_app (fun _ _ => ?_) | refine s_b0 (fun _ => ?_) | ((fail_if_success refine g_lit rfl rfl rfl ?_); first | apply g_partM rfl rfl rfl | apply g_partMB rfl rfl rfl | fail) | refine s_k (hsb) ?_)
    | refine gS ?_ | exact s_m | intro _)
  refine g_as 38 (v' := .bool true) rfl (congrArg Value.bool (by simp)) ?_
  repeat (first
    | (refine g_ops ?_; first | refine sO ?_ | refine s_n (fun _ => ?_) | refine s_app (fun _ _ => ?_) | refine s_b0 (fun _ => ?_) | ((fail_if_success refine g_lit rfl rfl rfl ?_); first | apply g_partM rfl rfl rfl | apply g_partMB rfl rfl rfl | fail) | refine s_k (hsb) ?_)
    | refine gS ?_ | exact s_m | intro _)
  refine g_as 45 (v' := .bool true) rfl (congrArg Value.bool (by simp)) ?_
  repeat (first
    | (refine g_ops ?_; first | refine sO ?_ | refine s_n (fun _ => ?_) | refine s_app (fun _ _ => ?_) | refine s_b0 (fun _ => ?_) | ((fail_if_success refine g_lit rfl rfl rfl ?_); first | apply g_partM rfl rfl rfl | apply g_partMB rfl rfl rfl | fail) | refine s_k (hsb) ?_)
    | refine gS ?_ | exact s_m | intro _)
  refine g_as 52 (v' := .bool true) rfl (congrArg Value.bool (by simp)) ?_
  repeat (first
    | (refine g_ops ?_; first | refine sO ?_ | refine s_n (fun _ => ?_) | refine s_app (fun _ _ => ?_) | refine s_b0 (fun _ => ?_) | ((fail_if_success refine g_lit rfl rfl rfl ?_); first | apply g_partM rfl rfl rfl | apply g_partMB rfl rfl rfl | fail) | refine s_k (hsb) ?_)
    | refine gS ?_ | exact s_m | intro _)
  refine g_as 59 (v' := .bool true) rfl (congrArg Value.bool (by simp)) ?_
  repeat (first
    | (refine g_ops ?_; first | refine sO ?_ | refine s_n (fun _ => ?_) | refine s_app (fun _ _ => ?_) | refine s_b0 (fun _ => ?_) | ((fail_if_success refine g_lit rfl rfl rfl ?_); first | apply g_partM rfl rfl rfl | apply g_partMB rfl rfl rfl | fail) | refine s_k (hsb) ?_)
    | refine gS ?_ | exact s_m | intro _)
  refine g_as 66 (v' := .bool true) rfl (congrArg Value.bool (by simp)) ?_
  repeat (first
    | (refine g_ops ?_; first | refine sO ?_ | refine s_n (fun _ => ?_) | refine s_app (fun _ _ => ?_) | refine s_b0 (fun _ => ?_) | ((fail_if_success refine g_lit rfl rfl rfl ?_); first | apply g_partM rfl rfl rfl | apply g_partMB rfl rfl rfl | fail) | refine s_k (hsb) ?_)
    | refine gS ?_ | exact s_m | intro _)
  refine g_as 4 (v' := .bool true) rfl (congrArg Value.bool (by simp)) ?_
  exact gR () trivial
theorem ClAt.grow {H H' : HP} {x : Cl} {d : ClV} (h : ClAt H x d) (s : HP.sub H H') : ClAt H' x d := ⟨h.kind, h.key, h.sl.grow s, h.pts.grow s, h.stream, h.frm, h.pattern, h.max, h.first, h.tt⟩
theorem doc_pv {v : V} (hb : Bnd2 v) : (∀ z ∈ ((docOf v).getD {}).pv, (putV z).isSome = true) ∧ ((docOf v).getD {}).pv.length ≤ 1000000000 := by
  have h0 : (∀ z ∈ (({} : ClV)).pv, (putV z).isSome = true) ∧ (({} : ClV)).pv.length ≤ 1000000000 := ⟨(fun _ h => by cases h), Nat.zero_le _⟩
  unfold docOf
  split
  · exact h0
  split
  · rename_i hF
    split
    · rename_i hp
      refine ⟨List.all_eq_true.1 hp, ?_⟩
      simp only [Option.getD_some]
      unfold kid
      cases hg : v.kids with
      | nil => simp [nilV, V.kids]
      | cons x l =>
        have := (hb.2 x (by rw [hg]; simp)).1
        simp only [List.getD_cons_zero]
        omega
    · exact h0
  split
  · exact h0
  split
  · exact h0
  split
  · exact h0
  split
  · exact h0
  split
  · exact h0
  · exact h0
attribute [local irreducible] weigh weighL callS ofOk ofC docOf
end Go.Proofs.YtaahibcibgljbaaGreatDoor
