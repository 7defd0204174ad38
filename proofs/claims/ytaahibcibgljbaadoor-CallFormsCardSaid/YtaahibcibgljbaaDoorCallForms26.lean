/- Contracts and laws that the proof stands on. -/
import Derived.Test.YtaahibcibgljbaaDoorCallForms25
set_option linter.unusedSimpArgs false
set_option linter.unusedVariables false
namespace Go.Proofs.YtaahibcibgljbaaDoor
open Go.Sl facts
theorem weighL_cnt : ∀ (l : List V) (p : Bool) (pr : Option ByteArray) (ks : List ByteArray) (lv n : Int), 0 ≤ n → (weighL p pr ks l lv n).1 = 0 → n + l.length ≤ (weighL p pr ks l lv n).2
  | [], p, pr, ks, lv, n, _, _ => by rw [weighL_nil]; simp
  | x :: l, p, pr, ks, lv, n, hn, h => by
    rw [weighL_cons] at h ⊢
    split
    · rename_i hc; rw [if_pos hc] at h; cases h
    · rename_i hc
      rw [if_neg hc] at h
      split
      · rename_i h0
        rw [if_pos h0] at h
        have hm := weigh_most x lv n hn h0
        have := weighL_cnt l p _ _ _ _ (by omega) h
        simp only [List.length_cons]
        push_cast
        omega
      · rename_i h0; rw [if_neg h0] at h; exact absurd h h0
theorem weighL_all0 {p : Bool} : ∀ (l : List V) (pr : Option ByteArray) (ks : List ByteArray) (lv n : Int), 0 ≤ n → (weighL p pr ks l lv n).1 = 0 → ∀ x ∈ l, ∃ lv n, 0 ≤ n ∧ (weigh x lv n).1 = 0
  | [], _, _, _, _, _, _, x, hx => by cases hx
  | y :: l, pr, ks, lv, n, hn, h, x, hx => by
    rw [weighL_cons] at h
    split at h
    · cases h
    · split at h
      · rename_i h0
        rcases List.mem_cons.1 hx with rfl | hx
        · exact ⟨lv, n, hn, h0⟩
        · have hm := weigh_most y lv n hn h0
          exact weighL_all0 l _ _ _ _ (by omega) h x hx
      · rename_i h0; exact absurd h h0
theorem nrmL_each : ∀ {l : List V}, nrmL l = l → ∀ x ∈ l, nrm x = x
  | [], _, x, hx => by cases hx
  | y :: l, h, x, hx => by
    rw [nrmL_cons] at h
    injection h with h1 h2
    rcases List.mem_cons.1 hx with rfl | hx
    · exact h1
    · exact nrmL_each h2 x hx
theorem kids_cnt {v : V} {lv n : Int} (h0 : 0 ≤ n) (h : (weigh v lv n).1 = 0) (hn : nrm v = v) : v.kids.length ≤ 1000 ∧ ∀ x ∈ v.kids, nrm x = x ∧ ∃ lv n, 0 ≤ n ∧ (weigh x lv n).1 = 0 := by
  obtain ⟨k, y, m, s, ks, l⟩ := v
  have hm := weigh_most _ lv n h0 h
  rw [nrm_mk] at hn
  simp only [V.kids]
  by_cases h5 : k < 5
  · have hl : l = [] := by
      split at hn
      · unfold nilV at hn; injection hn with _ _ _ _ _ e; exact e.symm
      split at hn
      · unfold boolV at hn; injection hn with _ _ _ _ _ e; exact e.symm
      split at hn
      · unfold intV at hn; injection hn with _ _ _ _ _ e; exact e.symm
      split at hn
      · unfold textV at hn; injection hn with _ _ _ _ _ e; exact e.symm
      split at hn
      · omega
      · unfold pairsV at hn; injection hn with e; omega
    subst hl
    exact ⟨by simp, fun x hx => by cases hx⟩
  · rw [weigh_mk] at h hm
    have hk : ¬ (k < 1 ∨ 6 < k) := fun hc => by rw [if_pos hc] at h; cases h
    rw [if_neg hk, if_neg (fun hc => by omega)] at h hm
    have h1 : ¬ 1000 < n + 1 := fun hc => by rw [if_pos hc] at h; cases h
    rw [if_neg h1, if_neg h5] at h hm
    have h2 : ¬ 20 ≤ lv := fun hc => by rw [if_pos hc] at h; cases h
    rw [if_neg h2] at h hm
    have hc := weighL_cnt l _ _ _ _ _ (by omega) h
    have hl : nrmL l = l := by
      split at hn
      · unfold nilV at hn; injection hn with e; omega
      split at hn
      · unfold boolV at hn; injection hn with e; omega
      split at hn
      · unfold intV at hn; injection hn with e; omega
      split at hn
      · unfold textV at hn; injection hn with e; omega
      split at hn
      · unfold listV at hn; injection hn
      · unfold pairsV at hn; injection hn
    refine ⟨by omega, fun x hx => ?_⟩
    exact ⟨nrmL_each hl x hx, weighL_all0 l _ _ _ _ (by omega) h x hx⟩
theorem Bnd2.read {v : V} (h : (weigh v 0 0).1 = 0) (hn : nrm v = v) : Bnd2 v := by
  have h0 := kids_cnt (by decide) h hn
  refine ⟨by omega, fun x hx => ?_⟩
  obtain ⟨hx1, lv, n, hx2, hx3⟩ := h0.2 x hx
  have h1 := kids_cnt hx2 hx3 hx1
  refine ⟨by omega, fun y hy => ?_⟩
  obtain ⟨hy1, lv', n', hy2, hy3⟩ := h1.2 y hy
  have := (kids_cnt hy2 hy3 hy1).1
  omega
def cpE (L : List UInt8) : Int := match parsP L with
  | none => 10
  | some v => if ofOk v = true then 0 else 1
def cpC (L : List UInt8) : ClV := match parsP L with
  | none => {}
  | some v => ofC v
attribute [local irreducible] Code.wp wpList Exit.then Exit.inBlock bodyPost Back MidQ G GP QStep VStep CStep SStep Does Post Reads
attribute [local irreducible] weigh weighL callS parsP
set_option maxHeartbeats 4000000 in
theorem cparse1 {H : HP} (hT : Tb H) (hE : ErrH H) (L : List UInt8) (hL : L.length ≤ 400000) : Does Tryd.prog 22 [.string (txt L)] [Pile H] (X := HP × Cl) (fun y => .tuple #[.agg y.2.cells.toArray, int (cpE L)]) (fun y => [Pile y.1]) (fun y => HP.sub H y.1 ∧ ClAt y.1 y.2 (cpC L)) := by
  have hp := parse1 hT hE L hL
  have hps := @parsP_some L
  unfold cpE cpC
  cases hq : parsP L with
  | none =>
    rw [hq] at hp
    simp only [Option.isSome_none, Bool.false_eq_true, if_false] at hp
    refine fn_intro Tryd.func22 rfl Tryd.ntmps22 rfl (by simp only [argFr, Nat.zero_add, Nat.reduceAdd]; rfl) (fun Γ => ?_)
    repeat (first
      | (refine g_ops ?_; first | refine sO ?_ | refine s_n (fun _ => ?_) | refine s_app (fun _ _ => ?_) | refine s_b0 (fun _ => ?_) | ((fail_if_success refine g_lit rfl rfl rfl ?_); first | apply g_partM rfl rfl rfl | apply g_partMB rfl rfl rfl | fail) | refine s_c (hp) (fun _ _ => ?_))
      | refine gS ?_ | exact s_m | intro _)
    rename_i y hy
    obtain ⟨H1, w⟩ := y
    obtain ⟨hs1, _, hw⟩ := hy
    have hw := hw trivial
    dsimp only at hs1 hw ⊢
    try dsimp only [List.cons_append, List.nil_append, List.append_eq]
    exact gR (H1, {}) ⟨hs1, ClAt.zero⟩
  | some v =>
    obtain ⟨h1, _, _, h4⟩ := hps hq
    have hb := Bnd2.read h1 h4
    rw [hq] at hp
    simp only [Option.isSome_some, if_true] at hp
    dsimp only
    refine fn_intro Tryd.func22 rfl Tryd.ntmps22 rfl (by simp only [argFr, Nat.zero_add, Nat.reduceAdd]; rfl) (fun Γ => ?_)
    repeat (first
      | (refine g_ops ?_; first | refine sO ?_ | refine s_n (fun _ => ?_) | refine s_app (fun _ _ => ?_) | refine s_b0 (fun _ => ?_) | ((fail_if_success refine g_lit rfl rfl rfl ?_); first | apply g_partM rfl rfl rfl | apply g_partMB rfl rfl rfl | fail) | refine s_c (hp) (fun _ _ => ?_))
      | refine gS ?_ | exact s_m | intro _)
    rename_i y hy
    obtain ⟨H1, w⟩ := y
    obtain ⟨hs1, hw, _⟩ := hy
    have hw := hw v rfl
    dsimp only at hs1 hw ⊢
    try dsimp only [List.cons_append, List.nil_append, List.append_eq]
    have hof := of1 (hT.grow hs1).vs hw hb
    repeat (first
      | (refine g_ops ?_; first | refine sO ?_ | refine s_n (fun _ => ?_) | refine s_app (fun _ _ => ?_) | refine s_b0 (fun _ => ?_) | ((fail_if_success refine g_lit rfl rfl rfl ?_); first | apply g_partM rfl rfl rfl | apply g_partMB rfl rfl rfl | fail) | refine s_c (hof) (fun _ _ => ?_))
      | refine gS ?_ | exact s_m | intro _)
    rename_i y2 hy2
    obtain ⟨H2, cl⟩ := y2
    obtain ⟨hs2, hcl⟩ := hy2
    exact gR (H2, cl) ⟨hs1.trans hs2, hcl⟩
abbrev kCode : ByteArray := ⟨#[99, 111, 100, 101]⟩
structure Rp where
  code : Int := 0
  w : Int := 0
  l : Int := 0
  n : Int := 0
  fp : Option Addr := none
  fn : Nat := 0
  fc : Nat := 0
  ep : Option Addr := none
  en : Nat := 0
  ec : Nat := 0
  cw : Int := 0
  cl : Int := 0
  cn : Int := 0
  ci : Int := 0
  cs : ByteArray := ByteArray.empty
  rp : Option Addr := none
  rn : Nat := 0
  rc : Nat := 0
  node : Int := 0
abbrev Rp.cells (x : Rp) : List Value := [int x.code, int x.w, int x.l, int x.n, .slice x.fp x.fn x.fc, .slice x.ep x.en x.ec, int x.cw, int x.cl, int x.cn, int x.ci, .string x.cs, .slice x.rp x.rn x.rc, int x.node]
set_option maxHeartbeats 4000000 in
theorem reply_err {H : HP} (x : Rp) (hc : x.code = 11) : Does Tryd.prog 31 [.agg x.cells.toArray] [Pile H] (X := HP × Value) (fun y => y.2) (fun y => [Pile y.1]) (fun y => HP.sub H y.1 ∧ TAt y.1 (pairsV [kCode] [intV 11]) y.2) := by
  obtain ⟨code, w, l, n, fp, fn, fc, ep, en, ec, cw, cl, cn, ci, cs, rp, rn, rc, node⟩ := x
  dsimp only at hc
  subst hc
  dsimp only [Rp.cells]
  refine fn_intro Tryd.func31 rfl Tryd.ntmps31 rfl (by simp only [argFr, Nat.zero_add, Nat.reduceAdd]; rfl) (fun Γ => ?_)
  repeat (first
    | (refine g_ops ?_; first | refine sO ?_ | refine s_n (fun _ => ?_) | refine s_app (fun _ _ => ?_) | refine s_b0 (fun _ => ?_) | ((fail_if_success refine g_lit rfl rfl rfl ?_); first | apply g_partM rfl rfl rfl | apply g_partMB rfl rfl rfl | fail))
    | refine gS ?_ | exact s_m | intro _)
  rename_i rb lb
  refine g_toOwn (b := lb) (len := 1) (n := 2) (by (repeat (first | exact Sel.here | apply Sel.there)); first | done | fail) rfl rfl ?_
  refine g_pile (n := 2) (by (repeat (first | exact Sel.here | apply Sel.there)); first | done | fail) (by (repeat (first | exact Sel.here | apply Sel.there)); first | done | fail) (fun H2 hs2 hS2 => ?_)
  exact gR (H2, .iface 59 (.slice (some ⟨lb, 0, none⟩) 1 1)) ⟨hs2, .pairs [⟨kCode, .iface 3 (int 11)⟩] rfl (by simp) rfl (fun q hq => by rw [List.mem_singleton] at hq; rw [hq]; show kCode.size ≤ _; decide) hS2 fun i a q h1 h2 => by
    match i with
    | 0 => cases h1; cases h2; exact .int ⟨by decide, by decide⟩
    | i + 1 => simp at h1⟩
theorem busy_w : (weigh (pairsV [kCode] [intV 11]) 0 0).1 = 0 := by
  unfold pairsV intV
  simp only [weigh_mk, weighL_cons, weighL_nil, List.headD_cons, show keyB kCode = true by decide +kernel]
  decide
theorem busy_t : textL (pairsV [kCode] [intV 11]) = [123, 34, 99, 111, 100, 101, 34, 58, 49, 49, 125] := by
  unfold pairsV intV
  simp only [textL_mk, textK_cons, textK_nil, List.headD_cons, show quoteL kCode = [34, 99, 111, 100, 101, 34] by decide +kernel, show decI 11 = [49, 49] by decide +kernel]
  decide
theorem map_w : (weigh (pairsV [kMap] [nilV]) 0 0).1 = 0 := by
  unfold pairsV nilV
  simp only [weigh_mk, weighL_cons, weighL_nil, List.headD_cons, show keyB kMap = true by decide +kernel]
  decide
theorem map_t : textL (pairsV [kMap] [nilV]) = [123, 34, 109, 97, 112, 34, 58, 110, 105, 108, 125] := by
  unfold pairsV nilV
  simp only [textL_mk, textK_cons, textK_nil, List.headD_cons, show quoteL kMap = [34, 109, 97, 112, 34] by decide +kernel]
  decide
theorem goodP {ks : List ByteArray} {l : List V} (hl : ks.length = l.length) (h : ∀ x ∈ l, GoodT x) : GoodT (pairsV ks l) := by
  unfold pairsV
  exact ⟨.mk (fun _ => hl) (fun h => absurd rfl h) (fun h => by omega) (fun x hx => (h x hx).1), ⟨⟨by decide, by decide⟩, fun x hx => (h x hx).2⟩⟩
theorem goodI {n : Int} (h : inI n) : GoodT (intV n) := flatG (by decide) h
theorem goodN : GoodT nilV := flatG (by decide) ⟨by decide, by decide⟩
theorem cpMap : cpE [123, 34, 109, 97, 112, 34, 58, 110, 105, 108, 125] = 0 ∧ (cpC [123, 34, 109, 97, 112, 34, 58, 110, 105, 108, 125]).kind = 6 := by
  have h := parsP_of map_w (goodP rfl fun x hx => by rw [List.mem_singleton] at hx; rw [hx]; exact goodN)
  rw [map_t, show nrm (pairsV [kMap] [nilV]) = pairsV [kMap] [nilV] by unfold pairsV nilV; rw [nrm_mk]; simp [nrmL_cons, nrmL_nil, nrm_mk, pairsV, nilV]] at h
  have ho : ofOk (pairsV [kMap] [nilV]) = true := by
    refine of_doc' (fun _ => rfl) ?_
    unfold docOf
    rw [if_neg (fun h => h map_w), if_neg (not_isF (ks' := [kMap]) rfl (by decide)), if_neg (not_isF (ks' := [kMap]) rfl (by decide)), if_neg (not_isF (ks' := [kMap]) rfl (by decide)), if_neg (not_isF (ks' := [kMap]) rfl (by decide)), if_neg (not_isF (ks' := [kMap]) rfl (by decide)), if_pos ⟨rfl, rfl, rfl⟩]
    rfl
  have hc := doc_of (v := pairsV [kMap] [nilV]) (fun _ => rfl) ho
  unfold cpE cpC
  rw [h]
  dsimp only
  rw [if_pos ho]
  refine ⟨rfl, ?_⟩
  rw [(of_same (v := pairsV [kMap] [nilV]) (fun _ => rfl)).2]
  unfold docOf
  rw [if_neg (fun h => h map_w), if_neg (not_isF (ks' := [kMap]) rfl (by decide)), if_neg (not_isF (ks' := [kMap]) rfl (by decide)), if_neg (not_isF (ks' := [kMap]) rfl (by decide)), if_neg (not_isF (ks' := [kMap]) rfl (by decide)), if_neg (not_isF (ks' := [kMap]) rfl (by decide)), if_pos ⟨rfl, rfl, rfl⟩]
  rfl
attribute [local irreducible] cpE cpC textB
theorem ctext {H : HP} (hT : Tb H) (x : Rp) {v : V} (hv : Does Tryd.prog 31 [.agg x.cells.toArray] [Pile H] (X := HP × Value) (fun y => y.2) (fun y => [Pile y.1]) (fun y => HP.sub H y.1 ∧ TAt y.1 v y.2)) (hok : VOk v) (hsz : szV v ≤ 1000000000) : Does Tryd.prog 15 [.agg x.cells.toArray] [Pile H] (X := HP) (fun _ => .string (textB v)) (fun y => [Pile y]) (fun y => HP.sub H y) := by
  obtain ⟨code, w, l, n, fp, fn, fc, ep, en, ec, cw, cl, cn, ci, cs, rp, rn, rc, node⟩ := x
  dsimp only [Rp.cells] at hv ⊢
  refine fn_intro Tryd.func15 rfl Tryd.ntmps15 rfl (by simp only [argFr, Nat.zero_add, Nat.reduceAdd]; rfl) (fun Γ => ?_)
  repeat (first
    | (refine g_ops ?_; first | refine sO ?_ | refine s_n (fun _ => ?_) | refine s_app (fun _ _ => ?_) | refine s_b0 (fun _ => ?_) | ((fail_if_success refine g_lit rfl rfl rfl ?_); first | apply g_partM rfl rfl rfl | apply g_partMB rfl rfl rfl | fail) | refine s_c (hv) (fun _ _ => ?_))
    | refine gS ?_ | exact s_m | intro _)
  rename_i y hy
  obtain ⟨H1, w1⟩ := y
  obtain ⟨hs1, hw⟩ := hy
  dsimp only at hs1 hw ⊢
  try dsimp only [List.cons_append, List.nil_append, List.append_eq]
  have ht := text1 (hT.grow hs1) hw hok hsz
  repeat (first
    | (refine g_ops ?_; first | refine sO ?_ | refine s_n (fun _ => ?_) | refine s_app (fun _ _ => ?_) | refine s_b0 (fun _ => ?_) | ((fail_if_success refine g_lit rfl rfl rfl ?_); first | apply g_partM rfl rfl rfl | apply g_partMB rfl rfl rfl | fail) | refine s_k (ht) ?_)
    | refine gS ?_ | exact s_m | intro _)
  exact gR H1 hs1
set_option maxHeartbeats 4000000 in
theorem awake28 {H : HP} (hT : Tb H) (hE : ErrH H) : Does1 Tryd.prog 8 [] [Pile H] (.bool true) := by
  have hcp := cparse1 hT hE [123, 34, 109, 97, 112, 34, 58, 110, 105, 108, 125] (by decide)
  rw [cpMap.1] at hcp
  have hk6 := cpMap.2
  have hb : textB (pairsV [kCode] [intV 11]) = ⟨#[123, 34, 99, 111, 100, 101, 34, 58, 49, 49, 125]⟩ := by unfold textB; rw [if_pos busy_w, busy_t]
  have hg : GoodT (pairsV [kCode] [intV 11]) := goodP rfl fun x hx => by rw [List.mem_singleton] at hx; rw [hx]; exact goodI ⟨by decide, by decide⟩
  have hct := fun (H' : HP) (hs : HP.sub H H') => ctext (hT.grow hs) { code := 11 } (reply_err { code := 11 } rfl) hg.2 (by unfold pairsV intV; simp only [szV_mk, szK_cons, szK_nil, szS_cons, szS_nil]; decide)
  rw [hb] at hct
  dsimp only [Rp.cells] at hct
  refine fn_intro Tryd.func8 rfl Tryd.ntmps8 rfl (by simp only [argFr, Nat.zero_add, Nat.reduceAdd]; rfl) (fun Γ => ?_)
  repeat (first
    | (refine g_ops ?_; first | refine sO ?_ | refine s_n (fun _ => ?_) | refine s_app (fun _ _ => ?_) | refine s_b0 (fun _ => ?_) | ((fail_if_success refine g_lit rfl rfl rfl ?_); first | apply g_partM rfl rfl rfl | apply g_partMB rfl rfl rfl | fail) | refine s_c (hcp) (fun _ _ => ?_))
    | refine gS ?_ | exact s_m | intro _)
  rename_i y hy b1
  obtain ⟨H1, cl⟩ := y
  obtain ⟨hs1, hcl⟩ := hy
  have hk := hcl.kind
  rw [hk6] at hk
  have hct1 := hct H1 hs1
  dsimp only at hs1 hct1 ⊢
  try dsimp only [List.cons_append, List.nil_append, List.append_eq]
  refine g_as 14 (v' := .bool true) rfl (congrArg Value.bool (decide_eq_true hk)) ?_
  repeat (first
    | (refine g_ops ?_; first | refine sO ?_ | refine s_n (fun _ => ?_) | refine s_app (fun _ _ => ?_) | refine s_b0 (fun _ => ?_) | ((fail_if_success refine g_lit rfl rfl rfl ?_); first | apply g_partM rfl rfl rfl | apply g_partMB rfl rfl rfl | fail) | refine s_c (hct1) (fun _ _ => ?_))
    | refine gS ?_ | exact s_m | intro _)
  rename_i H2 hs2
  try dsimp only [List.cons_append, List.nil_append, List.append_eq] at hs2 ⊢
  refine g_unpile (hs1.trans hs2) (by (repeat (first | exact Sel.here | apply Sel.there)); first | done | fail) ?_
  exact s_r ()
end Go.Proofs.YtaahibcibgljbaaDoor
