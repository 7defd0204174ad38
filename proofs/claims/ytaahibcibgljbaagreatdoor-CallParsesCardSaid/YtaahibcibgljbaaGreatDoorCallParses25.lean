/- Contracts and laws that the proof stands on. -/
import Derived.Test.YtaahibcibgljbaaGreatDoorCallParses24
set_option linter.unusedSimpArgs false
set_option linter.unusedVariables false
namespace Go.Proofs.YtaahibcibgljbaaGreatDoor
open Go.Sl facts
def isF (v : V) (ks : List ByteArray) (kd : List Int) : Prop := v.kind = 6 ∧ v.keys = ks ∧ (v.kids.take kd.length).map V.kind = kd
instance (v : V) (ks : List ByteArray) (kd : List Int) : Decidable (isF v ks kd) := by unfold isF; infer_instance
def kid (v : V) (i : Nat) : V := v.kids.getD i nilV
def docOf (v : V) : Option ClV :=
  if (weigh v 0 0).1 ≠ 0 then none
  else if isF v [kAppend, kKey] [5, 4] then (if ((kid v 0).kids.all fun x => (putV x).isSome) = true then some { kind := 1, key := (kid v 1).s, pv := (kid v 0).kids } else none)
  else if isF v [kFrom, kMax, kRead] [3, 3, 4] then some { kind := 2, frm := (kid v 0).n, max := (kid v 1).n, stream := (kid v 2).s }
  else if isF v [kMax, kPoll] [3, 4] then some { kind := 3, max := (kid v 0).n, pattern := (kid v 1).s }
  else if isF v [kSplit] [3] then some { kind := 4, frm := (kid v 0).n }
  else if isF v [kMove, kTo] [3, 3] then some { kind := 5, first := (kid v 0).n, tt := (kid v 1).n }
  else if isF v [kMap] [1] then some { kind := 6 }
  else none
attribute [local irreducible] Code.wp wpList Exit.then Exit.inBlock bodyPost Back MidQ G GP QStep VStep CStep SStep Does Post Reads
attribute [local irreducible] weigh weighL
structure PoX where
  k : Nat
  q : Option Addr
  c : Nat
  pts : List Pt
  H : HP
set_option maxHeartbeats 32000000 in
theorem ofD {H : HP} (v : V) (u : Vc) (hu : VAt (Pile H) v u) (hsm : SmV v) (hz : szV v ≤ 100000000) (hbd : Bnd2 v) : Does Tryz.prog 9 [.agg u.cells.toArray] [Pile H] (X := HP × Cl) (fun y => .tuple #[.agg y.2.cells.toArray, int (if (docOf v).isSome = true then 0 else 1)]) (fun y => [Pile y.1]) (fun y => HP.sub H y.1 ∧ ClAt y.1 y.2 ((docOf v).getD {})) := by
  have hck := check1d H v u hu hsm (by omega)
  have hlk : v.kind = 6 → v.keys.length = v.kids.length := by
    cases hsm with
    | mk h6 _ _ _ => exact h6
  have hkey := fun (b : Nat) (ks : List ByteArray) (h : ks.length ≤ 100) (B : Bool) (hB : B = true ↔ v.kind = 6 ∧ v.keys = ks) => keyed_ v u hu b ks h B hB
  have hkin := fun (b : Nat) (ks : List Int) (h : ks.length ≤ v.kids.length) (B : Bool) (hB : B = true ↔ (v.kids.take ks.length).map V.kind = ks) => kinds_ v u hu b ks h B hB
  have hkz := hbd
  have hkk : ∀ i, i < v.kids.length → ∃ ui, ∃ b o, u.p = some ⟨b, o, none⟩ ∧ VAt (Pile H) (kid v i) ui ∧ ((kid v i).kids.length ≤ 100000 ∧ ∀ y ∈ (kid v i).kids, y.kids.length ≤ 100000) ∧ ∀ (j : Nat) x, ui.cells[j]? = some x → Reads (Pile H) ⟨b, o + i * 6 + j, none⟩ x := fun i hi => by
    cases hu with
    | @mk k y n s ks' l kp kc p c us hki hn hs hkl hks hkS hl hul hS h =>
      simp only [V.kids] at hi
      have hgu : us[i]? = some (us[i]'(by omega)) := List.getElem?_eq_getElem _
      have hgl : l[i]? = some l[i] := List.getElem?_eq_getElem hi
      obtain ⟨b, o, e, hr⟩ := slAt_elem hS Vc.len (by decide) hgu
      have ek : kid (.mk k y n s ks' l) i = l[i] := by simp [kid, V.kids, hi]
      rw [ek]
      exact ⟨_, b, o, e, h i _ _ hgl hgu, hkz.2 l[i] (List.getElem_mem _), hr⟩
  have hum := VAt.kS hu
  obtain ⟨uk, uy, un, us, kp, kn, kc, p, m, c⟩ := u
  obtain ⟨_, _, _, _, _, hm, _⟩ := hum
  dsimp only [Vc.cells] at hm hkk hkey hkin hck ⊢
  subst hm
  generalize hD : docOf v = D
  unfold docOf at hD
  by_cases hw0 : (weigh v 0 0).1 = 0
  case neg =>
    rw [if_pos hw0] at hD
    subst hD
    refine fn_intro Tryz.func9 rfl Tryz.ntmps9 rfl (by simp only [argFr, Nat.zero_add, Nat.reduceAdd]; rfl) (fun Γ => ?_)
    repeat (first
      | (refine g_ops ?_; first | refine sO ?_ | refine s_n (fun _ => ?_) | refine s_app (fun _ _ => ?_) | refine s_b0 (fun _ => ?_) | ((fail_if_success refine g_lit rfl rfl rfl ?_); first | apply g_partM rfl rfl rfl | apply g_partMB rfl rfl rfl | fail) | refine s_k (hck) ?_)
      | refine gS ?_ | exact s_m | intro _)
    refine g_as 10 (v' := .bool true) rfl (congrArg Value.bool (decide_eq_true hw0)) ?_
    repeat (first
      | (refine g_ops ?_; first | refine sO ?_ | refine s_n (fun _ => ?_) | refine s_app (fun _ _ => ?_) | refine s_b0 (fun _ => ?_) | ((fail_if_success refine g_lit rfl rfl rfl ?_); first | apply g_partM rfl rfl rfl | apply g_partMB rfl rfl rfl | fail))
      | refine gS ?_ | exact s_m | intro _)
    exact gR (H, {}) ⟨HP.sub.refl _, ClAt.zero⟩
  rw [if_neg (fun h => h hw0)] at hD
  refine fn_intro Tryz.func9 rfl Tryz.ntmps9 rfl (by simp only [argFr, Nat.zero_add, Nat.reduceAdd]; rfl) (fun Γ => ?_)
  repeat (first
    | (refine g_ops ?_; first | refine sO ?_ | refine s_n (fun _ => ?_) | refine s_app (fun _ _ => ?_) | refine s_b0 (fun _ => ?_) | ((fail_if_success refine g_lit rfl rfl rfl ?_); first | apply g_partM rfl rfl rfl | apply g_partMB rfl rfl rfl | fail) | refine s_k (hck) ?_)
    | refine gS ?_ | exact s_m | intro _)
  rename_i ub cb
  refine g_as 10 (v' := .bool false) rfl (congrArg Value.bool (decide_eq_false (fun h => h hw0))) ?_
  repeat (first | refine g_cond_false rfl ?_ | refine g_skip ?_ | refine g_then_normal ?_ | refine g_in_normal ?_ | refine g_block ?_ | refine g_seq ?_)
  obtain ⟨BA, hBA⟩ : ∃ B : Bool, B = true ↔ isF v [kAppend, kKey] [5, 4] := ⟨decide (isF v [kAppend, kKey] [5, 4]), decide_eq_true_iff⟩
  refine g_cutX (X := Unit) (fun _ => [(1, ptr ub), (2, ptr cb), (3, int 0), (12, .bool BA)]) (fun _ => [.row ub [.int .i64 uk, .bool uy, .int .i64 un, .string us, .slice kp kn kc, .slice p v.kids.length c] 40, .row cb [int 0, int 0, int 0, int 0, .string ByteArray.empty, .slice none 0 0, .string ByteArray.empty, int 0, int 0, int 0, int 0, int 0, .string ByteArray.empty, .string ByteArray.empty, int 0, int 0, int 0, int 0, int 0, int 0] 33, Pile H]) (fun _ => True) ?_ (fun _ _ => ?_)
  · by_cases hk : v.kind = 6 ∧ v.keys = [kAppend, kKey]
    · have hl : 2 ≤ v.kids.length := by rw [← hlk hk.1, hk.2]; decide
      repeat (first
        | (refine g_ops ?_; first | refine sO ?_ | refine s_n (fun _ => ?_) | refine s_app (fun _ _ => ?_) | refine s_b0 (fun _ => ?_) | ((fail_if_success refine g_lit rfl rfl rfl ?_); first | apply g_partM rfl rfl rfl | apply g_partMB rfl rfl rfl | fail))
        | refine gS ?_ | exact s_m | intro _)
      rename_i kb
      have h1 := hkey kb [kAppend, kKey] (by decide) true (by simp [hk])
      repeat (first
        | (refine g_ops ?_; first | refine sO ?_ | refine s_n (fun _ => ?_) | refine s_app (fun _ _ => ?_) | refine s_b0 (fun _ => ?_) | ((fail_if_success refine g_lit rfl rfl rfl ?_); first | apply g_partM rfl rfl rfl | apply g_partMB rfl rfl rfl | fail) | refine s_k (h1) ?_)
        | refine gS ?_ | exact s_m | intro _)
      rename_i nb
      have h2 := hkin nb [5, 4] hl BA (by rw [hBA]; exact ⟨fun h => h.2.2, fun h => ⟨hk.1, hk.2, h⟩⟩)
      try dsimp only [List.cons_append, List.nil_append]
      repeat (first
        | (refine g_ops ?_; first | refine sO ?_ | refine s_n (fun _ => ?_) | refine s_app (fun _ _ => ?_) | refine s_b0 (fun _ => ?_) | ((fail_if_success refine g_lit rfl rfl rfl ?_); first | apply g_partM rfl rfl rfl | apply g_partMB rfl rfl rfl | fail) | refine s_k (h2) ?_)
        | refine gS ?_ | exact s_m | intro _)
      exact gM () trivial
    · have hBf : BA = false := by
        cases hb : BA
        · rfl
        · exact absurd ⟨(hBA.1 hb).1, (hBA.1 hb).2.1⟩ hk
      rw [hBf]
      repeat (first
        | (refine g_ops ?_; first | refine sO ?_ | refine s_n (fun _ => ?_) | refine s_app (fun _ _ => ?_) | refine s_b0 (fun _ => ?_) | ((fail_if_success refine g_lit rfl rfl rfl ?_); first | apply g_partM rfl rfl rfl | apply g_partMB rfl rfl rfl | fail))
        | refine gS ?_ | exact s_m | intro _)
      rename_i kb
      have h1 := hkey kb [kAppend, kKey] (by decide) false (by simp [hk])
      repeat (first
        | (refine g_ops ?_; first | refine sO ?_ | refine s_n (fun _ => ?_) | refine s_app (fun _ _ => ?_) | refine s_b0 (fun _ => ?_) | ((fail_if_success refine g_lit rfl rfl rfl ?_); first | apply g_partM rfl rfl rfl | apply g_partMB rfl rfl rfl | fail) | refine s_k (h1) ?_)
        | refine gS ?_ | exact s_m | intro _)
      exact gM () trivial
  cases hbA : BA
  case true =>
    have hF := hBA.1 hbA
    rw [if_pos hF] at hD
    have hl : 2 ≤ v.kids.length := by rw [← hlk hF.1, hF.2.1]; decide
    obtain ⟨u0, b0, o0, ep0, hv0, hz0, hq0⟩ := hkk 0 (by omega)
    have hs0 := VAt.kS hv0
    obtain ⟨u1, b1, o1, ep1, hv1, hz1, hq1⟩ := hkk 1 (by omega)
    have hs1 := VAt.kS hv1
    obtain ⟨eb1, eo1⟩ : b1 = b0 ∧ o1 = o0 := by have := ep0.symm.trans ep1; simp only [Option.some.injEq, Addr.mk.injEq, and_true] at this; exact ⟨this.1.symm, this.2.symm⟩
    rw [eb1, eo1] at hq1
    subst ep0
    have hr : ∀ k, k = o0 + 1 * 6 + 3 → Reads (Pile H) ⟨b0, k, none⟩ (.string (kid v 1).s) := fun k e => by rw [e]; have := hq1 3 _ rfl; rw [hs1.2.2.2.1] at this; exact this
    have hr2 : ∀ k, k = o0 + 0 * 6 + 5 → Reads (Pile H) ⟨b0, k, none⟩ (.slice u0.p (kid v 0).kids.length u0.c) := fun k e => by rw [e]; have := hq0 5 _ rfl; rw [hs0.2.2.2.2.2.1] at this; exact this
    have hkids : ∃ us0 : List Vc, us0.length = (kid v 0).kids.length ∧ SlAt (Pile H) 6 u0.p (kid v 0).kids.length (us0.flatMap Vc.cells) ∧ ∀ (i : Nat) x w, (kid v 0).kids[i]? = some x → us0[i]? = some w → VAt (Pile H) x w := by
      generalize kid v 0 = x0 at hv0
      cases hv0 with
      | mk us0 _ _ _ _ _ _ _ hul0 hS0 hA0 => exact ⟨us0, hul0, hS0, hA0⟩
    obtain ⟨us0, hul0, hS0, hA0⟩ := hkids
    have hsz0 := hz0
    generalize hu0p : u0.p = p0 at hr2 hS0
    generalize u0.c = c0 at hr2
    repeat (first | refine g_then_normal ?_ | refine g_seq ?_)
    refine g_cond_true rfl ?_
    repeat (first
      | (refine g_ops ?_; first | refine sO ?_ | refine s_n (fun _ => ?_) | refine s_app (fun _ _ => ?_) | refine s_b0 (fun _ => ?_) | ((fail_if_success refine g_lit rfl rfl rfl ?_); first | apply g_partM rfl rfl rfl | apply g_partMB rfl rfl rfl | fail))
      | refine gS ?_ | exact s_m | intro _)
    rename_i db
    refine g_own_nil none 3 73 ?_
    refine g_loop (X := PoX) (fun x => [(1, ptr ub), (2, ptr cb), (4, ptr db), (5, int x.k)]) (fun x => [.own x.q x.pts.length x.c 3 (x.pts.flatMap Pt.cells) 73, .row db [int 1, int 0, int 0, int 0, .string (kid v 1).s, .slice x.q x.pts.length x.c, .string ByteArray.empty, int 0, int 0, int 0, int 0, int 0, .string ByteArray.empty, .string ByteArray.empty, int 0, int 0, int 0, int 0, int 0, int 0] 33, .row ub [.int .i64 uk, .bool uy, .int .i64 un, .string us, .slice kp kn kc, .slice (some ⟨b0, o0, none⟩) v.kids.length c] 40, .row cb [int 0, int 0, int 0, int 0, .string ByteArray.empty, .slice none 0 0, .string ByteArray.empty, int 0, int 0, int 0, int 0, int 0, .string ByteArray.empty, .string ByteArray.empty, int 0, int 0, int 0, int 0, int 0, int 0] 33, Pile x.H])
      (fun x => x.k ≤ (kid v 0).kids.length ∧ HP.sub H x.H ∧ PtsOf x.H ((kid v 0).kids.take x.k) x.pts ∧ ∀ y ∈ (kid v 0).kids.take x.k, (putV y).isSome = true) (fun x => (kid v 0).kids.length - x.k) ⟨0, none, 0, [], H⟩ ⟨Nat.zero_le _, HP.sub.refl _, PtsOf.nil, fun _ h => by simp at h⟩ (by (repeat (first | exact FrSub.nil | refine FrSub.cons rfl ?_)); first | done | fail) (by (repeat (first | exact Take.nil | apply Take.cons | exact Sel.here | apply Sel.there)); first | done | fail) (fun x hx => ?_)
    obtain ⟨k, q, c4, pts, H1⟩ := x
    obtain ⟨hk1, hs1', hpts, hall⟩ := hx
    dsimp only at hk1 hs1' hpts hall ⊢
    have hr : ∀ k, k = o0 + 0 * 6 + 5 → Reads (Pile H1) ⟨b0, k, none⟩ (.slice p0 (kid v 0).kids.length c0) := fun k e => reads_grow hs1' (hr2 k e)
    clear hr2
    repeat (first
      | (refine g_ops ?_; first | refine sO ?_ | refine s_n (fun _ => ?_) | refine s_app (fun _ _ => ?_) | refine s_b0 (fun _ => ?_) | ((fail_if_success refine g_lit rfl rfl rfl ?_); first | apply g_partM rfl rfl rfl | apply g_partMB rfl rfl rfl | fail))
      | refine gS ?_ | exact s_m | intro _)
    refine g_cond_dec rfl (fun h2 => ?_) (fun h2 => ?_)
    · have hk' : k < (kid v 0).kids.length := by omega
      have hgl : (kid v 0).kids[k]? = some (kid v 0).kids[k] := List.getElem?_eq_getElem hk'
      have hgu : us0[k]? = some (us0[k]'(by omega)) := List.getElem?_eq_getElem _
      have hat := (hA0 k _ _ hgl hgu).grow hs1'
      have hmem : (kid v 0).kids[k] ∈ (kid v 0).kids := List.getElem_mem _
      have hzy := hsz0.2 _ hmem
      obtain ⟨b3, o3, rfl, hrow⟩ := slAt_elem (hS0.grow hs1') Vc.len (by decide) hgu
      have htk : (kid v 0).kids.take (k + 1) = (kid v 0).kids.take k ++ [(kid v 0).kids[k]] := by rw [List.take_add_one, hgl]; rfl
      generalize (kid v 0).kids[k] = y at hat htk hmem hzy
      generalize us0[k]'_ = uy0 at hat hrow
      have hkzy := hzy
      have hput := putD y uy0 hat (by omega)
      have hpl : pts.length ≤ 100000 := by rw [hpts.1, List.length_take]; omega
      obtain ⟨e1, e2, e3, e4, e5, e6, e7, e8, e9, e10⟩ := uy0
      dsimp only [Vc.cells] at hput hrow
      repeat (first
        | (refine g_ops ?_; first | refine sO ?_ | refine s_n (fun _ => ?_) | refine s_app (fun _ _ => ?_) | refine s_b0 (fun _ => ?_) | ((fail_if_success refine g_lit rfl rfl rfl ?_); first | apply g_partM rfl rfl rfl | apply g_partMB rfl rfl rfl | fail) | refine s_c (hput) (fun _ _ => ?_))
        | refine gS ?_ | exact s_m | intro _)
      rename_i z hz2 sb
      obtain ⟨H2, px⟩ := z
      obtain ⟨hs2, hpx, hpd⟩ := hz2
      dsimp only [List.cons_append, List.nil_append, List.append_eq] at hs2 hpx hpd ⊢
      cases hsome : (putV y).isSome with
      | false =>
        rw [if_neg (fun h => by have := List.all_eq_true.1 h y hmem; rw [hsome] at this; cases this)] at hD
        subst hD
        refine g_as 51 (v' := .bool true) rfl (congrArg Value.bool rfl) ?_
        repeat (first
          | (refine g_ops ?_; first | refine sO ?_ | refine s_n (fun _ => ?_) | refine s_app (fun _ _ => ?_) | refine s_b0 (fun _ => ?_) | ((fail_if_success refine g_lit rfl rfl rfl ?_); first | apply g_partM rfl rfl rfl | apply g_partMB rfl rfl rfl | fail))
          | refine gS ?_ | exact s_m | intro _)
        exact gR (H2, {}) ⟨hs1'.trans hs2, ClAt.zero⟩
      | true =>
        refine g_as 51 (v' := .bool false) rfl (congrArg Value.bool rfl) ?_
        repeat (first
          | (refine g_ops ?_; first | refine sO ?_ | refine s_n (fun _ => ?_) | refine s_app (fun _ _ => ?_) | refine s_b0 (fun _ => ?_) | ((fail_if_success refine g_lit rfl rfl rfl ?_); first | apply g_partM rfl rfl rfl | apply g_partMB rfl rfl rfl | fail))
          | refine gS ?_ | exact s_m | intro _)
        rename_i q5 c5
        refine g_as 5 (v' := int ((k + 1 : Nat) : Int)) rfl (congrArg (Value.int .i64) (by push_cast; rfl)) ?_
        rw [show pts.flatMap Pt.cells ++ [.string px.st, .int .i64 px.exp, .slice px.dp px.data.length px.dc] = (pts ++ [px]).flatMap Pt.cells by simp, show pts.length + 1 = (pts ++ [px]).length by simp]
        exact g_again ⟨k + 1, q5, c5, pts ++ [px], H2⟩ (by simp only; omega) ⟨hk', hs1'.trans hs2, by rw [htk]; exact (hpts.grow hs2).snoc hpx hpd, fun y' hy' => by
          rw [htk] at hy'
          rcases List.mem_append.1 hy' with hy' | hy'
          · exact hall y' hy'
          · rw [List.mem_singleton] at hy'; rw [hy']; exact hsome⟩ (by (repeat (first | exact FrSub.nil | refine FrSub.cons rfl ?_)); first | done | fail) (by (repeat (first | exact Take.nil | apply Take.cons | exact Sel.here | apply Sel.there)); first | done | fail)
    · obtain rfl : k = (kid v 0).kids.length := by omega
      rw [List.take_length] at hpts hall
      rw [if_pos (List.all_eq_true.2 hall)] at hD
      subst hD
      repeat (first
        | (refine g_ops ?_; first | refine sO ?_ | refine s_n (fun _ => ?_) | refine s_app (fun _ _ => ?_) | refine s_b0 (fun _ => ?_) | ((fail_if_success refine g_lit rfl rfl rfl ?_); first | apply g_partM rfl rfl rfl | apply g_partMB rfl rfl rfl | fail))
        | refine gS ?_ | exact s_m | intro _)
      refine g_pile (n := 3) (by (repeat (first | exact Sel.here | apply Sel.there)); first | done | fail) (by (repeat (first | exact Sel.here | apply Sel.there)); first | done | fail) (fun H2 hs2 hS2 => ?_)
      exact gR (H2, { kind := 1, key := _, pp := q, pc := c4, pts := pts }) ⟨hs1'.trans hs2, ⟨rfl, rfl, hS2, hpts.grow hs2, rfl, rfl, rfl, rfl, rfl, rfl⟩⟩
  have hF : ¬ isF v [kAppend, kKey] [5, 4] := fun h => by rw [hBA.2 h] at hbA; cases hbA
  rw [if_neg hF] at hD
  clear hBA hbA hF
  repeat (first | refine g_cond_false rfl ?_ | refine g_skip ?_ | refine g_then_normal ?_ | refine g_in_normal ?_ | refine g_block ?_ | refine g_seq ?_)
  obtain ⟨BR, hBR⟩ : ∃ B : Bool, B = true ↔ isF v [kFrom, kMax, kRead] [3, 3, 4] := ⟨decide (isF v [kFrom, kMax, kRead] [3, 3, 4]), decide_eq_true_iff⟩
  refine g_cutX (X := Unit) (fun _ => [(1, ptr ub), (2, ptr cb), (3, int 0), (62, .bool BR)]) (fun _ => [.row ub [.int .i64 uk, .bool uy, .int .i64 un, .string us, .slice kp kn kc, .slice p v.kids.length c] 40, .row cb [int 0, int 0, int 0, int 0, .string ByteArray.empty, .slice none 0 0, .string ByteArray.empty, int 0, int 0, int 0, int 0, int 0, .string ByteArray.empty, .string ByteArray.empty, int 0, int 0, int 0, int 0, int 0, int 0] 33, Pile H]) (fun _ => True) ?_ (fun _ _ => ?_)
  · by_cases hk : v.kind = 6 ∧ v.keys = [kFrom, kMax, kRead]
    · have hl : 3 ≤ v.kids.length := by rw [← hlk hk.1, hk.2]; decide
      repeat (first
        | (refine g_ops ?_; first | refine sO ?_ | refine s_n (fun _ => ?_) | refine s_app (fun _ _ => ?_) | refine s_b0 (fun _ => ?_) | ((fail_if_success refine g_lit rfl rfl rfl ?_); first | apply g_partM rfl rfl rfl | apply g_partMB rfl rfl rfl | fail))
        | refine gS ?_ | exact s_m | intro _)
      rename_i kb
      have h1 := hkey kb [kFrom, kMax, kRead] (by decide) true (by simp [hk])
      repeat (first
        | (refine g_ops ?_; first | refine sO ?_ | refine s_n (fun _ => ?_) | refine s_app (fun _ _ => ?_) | refine s_b0 (fun _ => ?_) | ((fail_if_success refine g_lit rfl rfl rfl ?_); first | apply g_partM rfl rfl rfl | apply g_partMB rfl rfl rfl | fail) | refine s_k (h1) ?_)
        | refine gS ?_ | exact s_m | intro _)
      rename_i nb
      have h2 := hkin nb [3, 3, 4] hl BR (by rw [hBR]; exact ⟨fun h => h.2.2, fun h => ⟨hk.1, hk.2, h⟩⟩)
      try dsimp only [List.cons_append, List.nil_append]
      repeat (first
        | (refine g_ops ?_; first | refine sO ?_ | refine s_n (fun _ => ?_) | refine s_app (fun _ _ => ?_) | refine s_b0 (fun _ => ?_) | ((fail_if_success refine g_lit rfl rfl rfl ?_); first | apply g_partM rfl rfl rfl | apply g_partMB rfl rfl rfl | fail) | refine s_k (h2) ?_)
        | refine gS ?_ | exact s_m | intro _)
      exact gM () trivial
    · have hBf : BR = false := by
        cases hb : BR
        · rfl
        · exact absurd ⟨(hBR.1 hb).1, (hBR.1 hb).2.1⟩ hk
      rw [hBf]
      repeat (first
        | (refine g_ops ?_; first | refine sO ?_ | refine s_n (fun _ => ?_) | refine s_app (fun _ _ => ?_) | refine s_b0 (fun _ => ?_) | ((fail_if_success refine g_lit rfl rfl rfl ?_); first | apply g_partM rfl rfl rfl | apply g_partMB rfl rfl rfl | fail))
        | refine gS ?_ | exact s_m | intro _)
      rename_i kb
      have h1 := hkey kb [kFrom, kMax, kRead] (by decide) false (by simp [hk])
      repeat (first
        | (refine g_ops ?_; first | refine sO ?_ | refine s_n (fun _ => ?_) | refine s_app (fun _ _ => ?_) | refine s_b0 (fun _ => ?_) | ((fail_if_success refine g_lit rfl rfl rfl ?_); first | apply g_partM rfl rfl rfl | apply g_partMB rfl rfl rfl | fail) | refine s_k (h1) ?_)
        | refine gS ?_ | exact s_m | intro _)
      exact gM () trivial
  cases hbR : BR
  case true =>
    have hF := hBR.1 hbR
    rw [if_pos hF] at hD
    have hl : 3 ≤ v.kids.length := by rw [← hlk hF.1, hF.2.1]; decide
    obtain ⟨u0, b0, o0, ep0, hv0, hz0, hq0⟩ := hkk 0 (by omega)
    have hs0 := VAt.kS hv0
    obtain ⟨u1, b1, o1, ep1, hv1, hz1, hq1⟩ := hkk 1 (by omega)
    have hs1 := VAt.kS hv1
    obtain ⟨eb1, eo1⟩ : b1 = b0 ∧ o1 = o0 := by have := ep0.symm.trans ep1; simp only [Option.some.injEq, Addr.mk.injEq, and_true] at this; exact ⟨this.1.symm, this.2.symm⟩
    rw [eb1, eo1] at hq1
    obtain ⟨u2, b2, o2, ep2, hv2, hz2, hq2⟩ := hkk 2 (by omega)
    have hs2 := VAt.kS hv2
    obtain ⟨eb2, eo2⟩ : b2 = b0 ∧ o2 = o0 := by have := ep0.symm.trans ep2; simp only [Option.some.injEq, Addr.mk.injEq, and_true] at this; exact ⟨this.1.symm, this.2.symm⟩
    rw [eb2, eo2] at hq2
    subst ep0
    subst hD
    have hr : ∀ k, k = o0 + 0 * 6 + 2 → Reads (Pile H) ⟨b0, k, none⟩ (int (kid v 0).n) := fun k e => by rw [e]; have := hq0 2 _ rfl; rw [hs0.2.2.1] at this; exact this
    have hr2 : ∀ k, k = o0 + 1 * 6 + 2 → Reads (Pile H) ⟨b0, k, none⟩ (int (kid v 1).n) := fun k e => by rw [e]; have := hq1 2 _ rfl; rw [hs1.2.2.1] at this; exact this
    have hcell : ∀ k, k = o0 + 2 * 6 + 3 → Reads (Pile H) ⟨b0, k, none⟩ (.string (kid v 2).s) := fun k e => by rw [e]; have := hq2 3 _ rfl; rw [hs2.2.2.2.1] at this; exact this
    repeat (first | refine g_then_normal ?_ | refine g_seq ?_)
    refine g_cond_true rfl ?_
    repeat (first | refine gS ?_)
    refine g_draw (.take 0 (.see 1 [] (.take 2 (.take 3 (.see 4 [] (.take 5 (.see 6 [] (.take 7 (.take 8 (.see 9 [] (.take 10 (.see 11 [] (.take 12 (.take 13 (.see 14 [] (.take 15 (.one 16 (.take 17 .done)))))))))))))))))) (by kernel_rfl) (C := [.row ub [.int .i64 uk, .bool uy, .int .i64 un, .string us, .slice kp kn kc, .slice (some ⟨b0, o0, none⟩) v.kids.length c] 40, Pile H]) (by (repeat (first | exact Take.nil | apply Take.cons | exact Sel.here | apply Sel.there)); first | done | fail) (fun m hd hk => ?_)
    repeat (first
      | (refine gp_take ?_; first | refine pT ?_ | ((fail_if_success refine gp_lit rfl rfl rfl rfl ?_); first | apply gp_guard_dec rfl rfl rfl rfl | apply gp_guard rfl rfl rfl rfl | fail))
      | (refine gp_see ?_; first | refine p_f ?_ | refine pS ?_ | ((fail_if_success refine gp_lit rfl rfl rfl rfl ?_); first | apply gp_guard_dec rfl rfl rfl rfl | apply gp_guard rfl rfl rfl rfl | fail))
      | (refine gp_one ?_; first | refine pO ?_ | refine p_n (fun _ => ?_) | refine p_app (fun _ _ => ?_) | refine p_b0 (fun _ => ?_) | ((fail_if_success refine gp_lit rfl rfl rfl rfl ?_); first | apply gp_guard_dec rfl rfl rfl rfl | apply gp_guard rfl rfl rfl rfl | fail))
      | refine gp_two ?_ ?_ | refine gp_done hd hk ?_ | intro _ | refine p_ta hd hk (fun _ _ _ hd hk => ?_) | refine p_ts hd hk (fun _ hd hk => ?_))
    try dsimp only [List.cons_append, List.nil_append]
    repeat (first
      | (refine g_ops ?_; first | refine sO ?_ | refine s_n (fun _ => ?_) | refine s_app (fun _ _ => ?_) | refine s_b0 (fun _ => ?_) | ((fail_if_success refine g_lit rfl rfl rfl ?_); first | apply g_partM rfl rfl rfl | apply g_partMB rfl rfl rfl | fail))
      | refine gS ?_ | exact s_m | intro _)
    exact gR (H, { kind := 2, frm := _, max := _, stream := _ }) ⟨HP.sub.refl _, ⟨rfl, rfl, SlAt.none, PtsOf.nil, rfl, rfl, rfl, rfl, rfl, rfl⟩⟩
  have hF : ¬ isF v [kFrom, kMax, kRead] [3, 3, 4] := fun h => by rw [hBR.2 h] at hbR; cases hbR
  rw [if_neg hF] at hD
  clear hBR hbR hF
  repeat (first | refine g_cond_false rfl ?_ | refine g_skip ?_ | refine g_then_normal ?_ | refine g_in_normal ?_ | refine g_block ?_ | refine g_seq ?_)
  obtain ⟨BP, hBP⟩ : ∃ B : Bool, B = true ↔ isF v [kMax, kPoll] [3, 4] := ⟨decide (isF v [kMax, kPoll] [3, 4]), decide_eq_true_iff⟩
  refine g_cutX (X := Unit) (fun _ => [(1, ptr ub), (2, ptr cb), (3, int 0), (87, .bool BP)]) (fun _ => [.row ub [.int .i64 uk, .bool uy, .int .i64 un, .string us, .slice kp kn kc, .slice p v.kids.length c] 40, .row cb [int 0, int 0, int 0, int 0, .string ByteArray.empty, .slice none 0 0, .string ByteArray.empty, int 0, int 0, int 0, int 0, int 0, .string ByteArray.empty, .string ByteArray.empty, int 0, int 0, int 0, int 0, int 0, int 0] 33, Pile H]) (fun _ => True) ?_ (fun _ _ => ?_)
  · by_cases hk : v.kind = 6 ∧ v.keys = [kMax, kPoll]
    · have hl : 2 ≤ v.kids.length := by rw [← hlk hk.1, hk.2]; decide
      repeat (first
        | (refine g_ops ?_; first | refine sO ?_ | refine s_n (fun _ => ?_) | refine s_app (fun _ _ => ?_) | refine s_b0 (fun _ => ?_) | ((fail_if_success refine g_lit rfl rfl rfl ?_); first | apply g_partM rfl rfl rfl | apply g_partMB rfl rfl rfl | fail))
        | refine gS ?_ | exact s_m | intro _)
      rename_i kb
      have h1 := hkey kb [kMax, kPoll] (by decide) true (by simp [hk])
      repeat (first
        | (refine g_ops ?_; first | refine sO ?_ | refine s_n (fun _ => ?_) | refine s_app (fun _ _ => ?_) | refine s_b0 (fun _ => ?_) | ((fail_if_success refine g_lit rfl rfl rfl ?_); first | apply g_partM rfl rfl rfl | apply g_partMB rfl rfl rfl | fail) | refine s_k (h1) ?_)
        | refine gS ?_ | exact s_m | intro _)
      rename_i nb
      have h2 := hkin nb [3, 4] hl BP (by rw [hBP]; exact ⟨fun h => h.2.2, fun h => ⟨hk.1, hk.2, h⟩⟩)
      try dsimp only [List.cons_append, List.nil_append]
      repeat (first
        | (refine g_ops ?_; first | refine sO ?_ | refine s_n (fun _ => ?_) | refine s_app (fun _ _ => ?_) | refine s_b0 (fun _ => ?_) | ((fail_if_success refine g_lit rfl rfl rfl ?_); first | apply g_partM rfl rfl rfl | apply g_partMB rfl rfl rfl | fail) | refine s_k (h2) ?_)
        | refine gS ?_ | exact s_m | intro _)
      exact gM () trivial
    · have hBf : BP = false := by
        cases hb : BP
        · rfl
        · exact absurd ⟨(hBP.1 hb).1, (hBP.1 hb).2.1⟩ hk
      rw [hBf]
      repeat (first
        | (refine g_ops ?_; first | refine sO ?_ | refine s_n (fun _ => ?_) | refine s_app (fun _ _ => ?_) | refine s_b0 (fun _ => ?_) | ((fail_if_success refine g_lit rfl rfl rfl ?_); first | apply g_partM rfl rfl rfl | apply g_partMB rfl rfl rfl | fail))
        | refine gS ?_ | exact s_m | intro _)
      rename_i kb
      have h1 := hkey kb [kMax, kPoll] (by decide) false (by simp [hk])
      repeat (first
        | (refine g_ops ?_; first | refine sO ?_ | refine s_n (fun _ => ?_) | refine s_app (fun _ _ => ?_) | refine s_b0 (fun _ => ?_) | ((fail_if_success refine g_lit rfl rfl rfl ?_); first | apply g_partM rfl rfl rfl | apply g_partMB rfl rfl rfl | fail) | refine s_k (h1) ?_)
        | refine gS ?_ | exact s_m | intro _)
      exact gM () trivial
  cases hbP : BP
  case true =>
    have hF := hBP.1 hbP
    rw [if_pos hF] at hD
    have hl : 2 ≤ v.kids.length := by rw [← hlk hF.1, hF.2.1]; decide
    obtain ⟨u0, b0, o0, ep0, hv0, hz0, hq0⟩ := hkk 0 (by omega)
    have hs0 := VAt.kS hv0
    obtain ⟨u1, b1, o1, ep1, hv1, hz1, hq1⟩ := hkk 1 (by omega)
    have hs1 := VAt.kS hv1
    obtain ⟨eb1, eo1⟩ : b1 = b0 ∧ o1 = o0 := by have := ep0.symm.trans ep1; simp only [Option.some.injEq, Addr.mk.injEq, and_true] at this; exact ⟨this.1.symm, this.2.symm⟩
    rw [eb1, eo1] at hq1
    subst ep0
    subst hD
    have hr : ∀ k, k = o0 + 0 * 6 + 2 → Reads (Pile H) ⟨b0, k, none⟩ (int (kid v 0).n) := fun k e => by rw [e]; have := hq0 2 _ rfl; rw [hs0.2.2.1] at this; exact this
    have hr2 : ∀ k, k = o0 + 1 * 6 + 3 → Reads (Pile H) ⟨b0, k, none⟩ (.string (kid v 1).s) := fun k e => by rw [e]; have := hq1 3 _ rfl; rw [hs1.2.2.2.1] at this; exact this
    repeat (first | refine g_then_normal ?_ | refine g_seq ?_)
    refine g_cond_true rfl ?_
    repeat (first | refine gS ?_)
    refine g_draw (.take 0 (.see 1 [] (.take 2 (.take 3 (.see 4 [] (.take 5 (.see 6 [] (.take 7 (.take 8 (.see 9 [] (.take 10 (.one 11 (.take 12 .done))))))))))))) (by kernel_rfl) (C := [.row ub [.int .i64 uk, .bool uy, .int .i64 un, .string us, .slice kp kn kc, .slice (some ⟨b0, o0, none⟩) v.kids.length c] 40, Pile H]) (by (repeat (first | exact Take.nil | apply Take.cons | exact Sel.here | apply Sel.there)); first | done | fail) (fun m hd hk => ?_)
    repeat (first
      | (refine gp_take ?_; first | refine pT ?_ | ((fail_if_success refine gp_lit rfl rfl rfl rfl ?_); first | apply gp_guard_dec rfl rfl rfl rfl | apply gp_guard rfl rfl rfl rfl | fail))
      | (refine gp_see ?_; first | refine p_f ?_ | refine pS ?_ | ((fail_if_success refine gp_lit rfl rfl rfl rfl ?_); first | apply gp_guard_dec rfl rfl rfl rfl | apply gp_guard rfl rfl rfl rfl | fail))
      | (refine gp_one ?_; first | refine pO ?_ | refine p_n (fun _ => ?_) | refine p_app (fun _ _ => ?_) | refine p_b0 (fun _ => ?_) | ((fail_if_success refine gp_lit rfl rfl rfl rfl ?_); first | apply gp_guard_dec rfl rfl rfl rfl | apply gp_guard rfl rfl rfl rfl | fail))
      | refine gp_two ?_ ?_ | refine gp_done hd hk ?_ | intro _ | refine p_ta hd hk (fun _ _ _ hd hk => ?_) | refine p_ts hd hk (fun _ hd hk => ?_))
    try dsimp only [List.cons_append, List.nil_append]
    repeat (first
      | (refine g_ops ?_; first | refine sO ?_ | refine s_n (fun _ => ?_) | refine s_app (fun _ _ => ?_) | refine s_b0 (fun _ => ?_) | ((fail_if_success refine g_lit rfl rfl rfl ?_); first | apply g_partM rfl rfl rfl | apply g_partMB rfl rfl rfl | fail))
      | refine gS ?_ | exact s_m | intro _)
    exact gR (H, { kind := 3, max := _, pattern := _ }) ⟨HP.sub.refl _, ⟨rfl, rfl, SlAt.none, PtsOf.nil, rfl, rfl, rfl, rfl, rfl, rfl⟩⟩
  have hF : ¬ isF v [kMax, kPoll] [3, 4] := fun h => by rw [hBP.2 h] at hbP; cases hbP
  rw [if_neg hF] at hD
  clear hBP hbP hF
  repeat (first | refine g_cond_false rfl ?_ | refine g_skip ?_ | refine g_then_normal ?_ | refine g_in_normal ?_ | refine g_block ?_ | refine g_seq ?_)
  obtain ⟨BS, hBS⟩ : ∃ B : Bool, B = true ↔ isF v [kSplit] [3] := ⟨decide (isF v [kSplit] [3]), decide_eq_true_iff⟩
  refine g_cutX (X := Unit) (fun _ => [(1, ptr ub), (2, ptr cb), (3, int 0), (107, .bool BS)]) (fun _ => [.row ub [.int .i64 uk, .bool uy, .int .i64 un, .string us, .slice kp kn kc, .slice p v.kids.length c] 40, .row cb [int 0, int 0, int 0, int 0, .string ByteArray.empty, .slice none 0 0, .string ByteArray.empty, int 0, int 0, int 0, int 0, int 0, .string ByteArray.empty, .string ByteArray.empty, int 0, int 0, int 0, int 0, int 0, int 0] 33, Pile H]) (fun _ => True) ?_ (fun _ _ => ?_)
  · by_cases hk : v.kind = 6 ∧ v.keys = [kSplit]
    · have hl : 1 ≤ v.kids.length := by rw [← hlk hk.1, hk.2]; decide
      repeat (first
        | (refine g_ops ?_; first | refine sO ?_ | refine s_n (fun _ => ?_) | refine s_app (fun _ _ => ?_) | refine s_b0 (fun _ => ?_) | ((fail_if_success refine g_lit rfl rfl rfl ?_); first | apply g_partM rfl rfl rfl | apply g_partMB rfl rfl rfl | fail))
        | refine gS ?_ | exact s_m | intro _)
      rename_i kb
      have h1 := hkey kb [kSplit] (by decide) true (by simp [hk])
      repeat (first
        | (refine g_ops ?_; first | refine sO ?_ | refine s_n (fun _ => ?_) | refine s_app (fun _ _ => ?_) | refine s_b0 (fun _ => ?_) | ((fail_if_success refine g_lit rfl rfl rfl ?_); first | apply g_partM rfl rfl rfl | apply g_partMB rfl rfl rfl | fail) | refine s_k (h1) ?_)
        | refine gS ?_ | exact s_m | intro _)
      rename_i nb
      have h2 := hkin nb [3] hl BS (by rw [hBS]; exact ⟨fun h => h.2.2, fun h => ⟨hk.1, hk.2, h⟩⟩)
      try dsimp only [List.cons_append, List.nil_append]
      repeat (first
        | (refine g_ops ?_; first | refine sO ?_ | refine s_n (fun _ => ?_) | refine s_app (fun _ _ => ?_) | refine s_b0 (fun _ => ?_) | ((fail_if_success refine g_lit rfl rfl rfl ?_); first | apply g_partM rfl rfl rfl | apply g_partMB rfl rfl rfl | fail) | refine s_k (h2) ?_)
        | refine gS ?_ | exact s_m | intro _)
      exact gM () trivial
    · have hBf : BS = false := by
        cases hb : BS
        · rfl
        · exact absurd ⟨(hBS.1 hb).1, (hBS.1 hb).2.1⟩ hk
      rw [hBf]
      repeat (first
        | (refine g_ops ?_; first | refine sO ?_ | refine s_n (fun _ => ?_) | refine s_app (fun _ _ => ?_) | refine s_b0 (fun _ => ?_) | ((fail_if_success refine g_lit rfl rfl rfl ?_); first | apply g_partM rfl rfl rfl | apply g_partMB rfl rfl rfl | fail))
        | refine gS ?_ | exact s_m | intro _)
      rename_i kb
      have h1 := hkey kb [kSplit] (by decide) false (by simp [hk])
      repeat (first
        | (refine g_ops ?_; first | refine sO ?_ | refine s_n (fun _ => ?_) | refine s_app (fun _ _ => ?_) | refine s_b0 (fun _ => ?_) | ((fail_if_success refine g_lit rfl rfl rfl ?_); first | apply g_partM rfl rfl rfl | apply g_partMB rfl rfl rfl | fail) | refine s_k (h1) ?_)
        | refine gS ?_ | exact s_m | intro _)
      exact gM () trivial
  cases hbS : BS
  case true =>
    have hF := hBS.1 hbS
    rw [if_pos hF] at hD
    have hl : 1 ≤ v.kids.length := by rw [← hlk hF.1, hF.2.1]; decide
    obtain ⟨u0, b0, o0, ep0, hv0, hz0, hq0⟩ := hkk 0 (by omega)
    have hs0 := VAt.kS hv0
    subst ep0
    subst hD
    have hr : ∀ k, k = o0 + 0 * 6 + 2 → Reads (Pile H) ⟨b0, k, none⟩ (int (kid v 0).n) := fun k e => by rw [e]; have := hq0 2 _ rfl; rw [hs0.2.2.1] at this; exact this
    repeat (first | refine g_then_normal ?_ | refine g_seq ?_)
    refine g_cond_true rfl ?_
    repeat (first
      | (refine g_ops ?_; first | refine sO ?_ | refine s_n (fun _ => ?_) | refine s_app (fun _ _ => ?_) | refine s_b0 (fun _ => ?_) | ((fail_if_success refine g_lit rfl rfl rfl ?_); first | apply g_partM rfl rfl rfl | apply g_partMB rfl rfl rfl | fail))
      | refine gS ?_ | exact s_m | intro _)
    exact gR (H, { kind := 4, frm := _ }) ⟨HP.sub.refl _, ⟨rfl, rfl, SlAt.none, PtsOf.nil, rfl, rfl, rfl, rfl, rfl, rfl⟩⟩
  have hF : ¬ isF v [kSplit] [3] := fun h => by rw [hBS.2 h] at hbS; cases hbS
  rw [if_neg hF] at hD
  clear hBS hbS hF
  repeat (first | refine g_cond_false rfl ?_ | refine g_skip ?_ | refine g_then_normal ?_ | refine g_in_normal ?_ | refine g_block ?_ | refine g_seq ?_)
  obtain ⟨BM, hBM⟩ : ∃ B : Bool, B = true ↔ isF v [kMove, kTo] [3, 3] := ⟨decide (isF v [kMove, kTo] [3, 3]), decide_eq_true_iff⟩
  refine g_cutX (X := Unit) (fun _ => [(1, ptr ub), (2, ptr cb), (3, int 0), (122, .bool BM)]) (fun _ => [.row ub [.int .i64 uk, .bool uy, .int .i64 un, .string us, .slice kp kn kc, .slice p v.kids.length c] 40, .row cb [int 0, int 0, int 0, int 0, .string ByteArray.empty, .slice none 0 0, .string ByteArray.empty, int 0, int 0, int 0, int 0, int 0, .string ByteArray.empty, .string ByteArray.empty, int 0, int 0, int 0, int 0, int 0, int 0] 33, Pile H]) (fun _ => True) ?_ (fun _ _ => ?_)
  · by_cases hk : v.kind = 6 ∧ v.keys = [kMove, kTo]
    · have hl : 2 ≤ v.kids.length := by rw [← hlk hk.1, hk.2]; decide
      repeat (first
        | (refine g_ops ?_; first | refine sO ?_ | refine s_n (fun _ => ?_) | refine s_app (fun _ _ => ?_) | refine s_b0 (fun _ => ?_) | ((fail_if_success refine g_lit rfl rfl rfl ?_); first | apply g_partM rfl rfl rfl | apply g_partMB rfl rfl rfl | fail))
        | refine gS ?_ | exact s_m | intro _)
      rename_i kb
      have h1 := hkey kb [kMove, kTo] (by decide) true (by simp [hk])
      repeat (first
        | (refine g_ops ?_; first | refine sO ?_ | refine s_n (fun _ => ?_) | refine s_app (fun _ _ => ?_) | refine s_b0 (fun _ => ?_) | ((fail_if_success refine g_lit rfl rfl rfl ?_); first | apply g_partM rfl rfl rfl | apply g_partMB rfl rfl rfl | fail) | refine s_k (h1) ?_)
        | refine gS ?_ | exact s_m | intro _)
      rename_i nb
      have h2 := hkin nb [3, 3] hl BM (by rw [hBM]; exact ⟨fun h => h.2.2, fun h => ⟨hk.1, hk.2, h⟩⟩)
      try dsimp only [List.cons_append, List.nil_append]
      repeat (first
        | (refine g_ops ?_; first | refine sO ?_ | refine s_n (fun _ => ?_) | refine s_app (fun _ _ => ?_) | refine s_b0 (fun _ => ?_) | ((fail_if_success refine g_lit rfl rfl rfl ?_); first | apply g_partM rfl rfl rfl | apply g_partMB rfl rfl rfl | fail) | refine s_k (h2) ?_)
        | refine gS ?_ | exact s_m | intro _)
      exact gM () trivial
    · have hBf : BM = false := by
        cases hb : BM
        · rfl
        · exact absurd ⟨(hBM.1 hb).1, (hBM.1 hb).2.1⟩ hk
      rw [hBf]
      repeat (first
        | (refine g_ops ?_; first | refine sO ?_ | refine s_n (fun _ => ?_) | refine s_app (fun _ _ => ?_) | refine s_b0 (fun _ => ?_) | ((fail_if_success refine g_lit rfl rfl rfl ?_); first | apply g_partM rfl rfl rfl | apply g_partMB rfl rfl rfl | fail))
        | refine gS ?_ | exact s_m | intro _)
      rename_i kb
      have h1 := hkey kb [kMove, kTo] (by decide) false (by simp [hk])
      repeat (first
        | (refine g_ops ?_; first | refine sO ?_ | refine s_n (fun _ => ?_) | refine s_app (fun _ _ => ?_) | refine s_b0 (fun _ => ?_) | ((fail_if_success refine g_lit rfl rfl rfl ?_); first | apply g_partM rfl rfl rfl | apply g_partMB rfl rfl rfl | fail) | refine s_k (h1) ?_)
        | refine gS ?_ | exact s_m | intro _)
      exact gM () trivial
  cases hbM : BM
  case true =>
    have hF := hBM.1 hbM
    rw [if_pos hF] at hD
    have hl : 2 ≤ v.kids.length := by rw [← hlk hF.1, hF.2.1]; decide
    obtain ⟨u0, b0, o0, ep0, hv0, hz0, hq0⟩ := hkk 0 (by omega)
    have hs0 := VAt.kS hv0
    obtain ⟨u1, b1, o1, ep1, hv1, hz1, hq1⟩ := hkk 1 (by omega)
    have hs1 := VAt.kS hv1
    obtain ⟨eb1, eo1⟩ : b1 = b0 ∧ o1 = o0 := by have := ep0.symm.trans ep1; simp only [Option.some.injEq, Addr.mk.injEq, and_true] at this; exact ⟨this.1.symm, this.2.symm⟩
    rw [eb1, eo1] at hq1
    subst ep0
    subst hD
    have hr : ∀ k, k = o0 + 0 * 6 + 2 → Reads (Pile H) ⟨b0, k, none⟩ (int (kid v 0).n) := fun k e => by rw [e]; have := hq0 2 _ rfl; rw [hs0.2.2.1] at this; exact this
    have hr2 : ∀ k, k = o0 + 1 * 6 + 2 → Reads (Pile H) ⟨b0, k, none⟩ (int (kid v 1).n) := fun k e => by rw [e]; have := hq1 2 _ rfl; rw [hs1.2.2.1] at this; exact this
    repeat (first | refine g_then_normal ?_ | refine g_seq ?_)
    refine g_cond_true rfl ?_
    repeat (first | refine gS ?_)
    refine g_draw (.take 0 (.see 1 [] (.take 2 (.take 3 (.see 4 [] (.take 5 (.take 6 (.see 7 [] (.take 8 (.take 9 (.see 10 [] (.take 11 (.one 12 (.take 13 .done)))))))))))))) (by kernel_rfl) (C := [.row ub [.int .i64 uk, .bool uy, .int .i64 un, .string us, .slice kp kn kc, .slice (some ⟨b0, o0, none⟩) v.kids.length c] 40, Pile H]) (by (repeat (first | exact Take.nil | apply Take.cons | exact Sel.here | apply Sel.there)); first | done | fail) (fun m hd hk => ?_)
    repeat (first
      | (refine gp_take ?_; first | refine pT ?_ | ((fail_if_success refine gp_lit rfl rfl rfl rfl ?_); first | apply gp_guard_dec rfl rfl rfl rfl | apply gp_guard rfl rfl rfl rfl | fail))
      | (refine gp_see ?_; first | refine p_f ?_ | refine pS ?_ | ((fail_if_success refine gp_lit rfl rfl rfl rfl ?_); first | apply gp_guard_dec rfl rfl rfl rfl | apply gp_guard rfl rfl rfl rfl | fail))
      | (refine gp_one ?_; first | refine pO ?_ | refine p_n (fun _ => ?_) | refine p_app (fun _ _ => ?_) | refine p_b0 (fun _ => ?_) | ((fail_if_success refine gp_lit rfl rfl rfl rfl ?_); first | apply gp_guard_dec rfl rfl rfl rfl | apply gp_guard rfl rfl rfl rfl | fail))
      | refine gp_two ?_ ?_ | refine gp_done hd hk ?_ | intro _ | refine p_ta hd hk (fun _ _ _ hd hk => ?_) | refine p_ts hd hk (fun _ hd hk => ?_))
    try dsimp only [List.cons_append, List.nil_append]
    repeat (first
      | (refine g_ops ?_; first | refine sO ?_ | refine s_n (fun _ => ?_) | refine s_app (fun _ _ => ?_) | refine s_b0 (fun _ => ?_) | ((fail_if_success refine g_lit rfl rfl rfl ?_); first | apply g_partM rfl rfl rfl | apply g_partMB rfl rfl rfl | fail))
      | refine gS ?_ | exact s_m | intro _)
    exact gR (H, { kind := 5, first := _, tt := _ }) ⟨HP.sub.refl _, ⟨rfl, rfl, SlAt.none, PtsOf.nil, rfl, rfl, rfl, rfl, rfl, rfl⟩⟩
  have hF : ¬ isF v [kMove, kTo] [3, 3] := fun h => by rw [hBM.2 h] at hbM; cases hbM
  rw [if_neg hF] at hD
  clear hBM hbM hF
  repeat (first | refine g_cond_false rfl ?_ | refine g_skip ?_ | refine g_then_normal ?_ | refine g_in_normal ?_ | refine g_block ?_ | refine g_seq ?_)
  obtain ⟨BZ, hBZ⟩ : ∃ B : Bool, B = true ↔ isF v [kMap] [1] := ⟨decide (isF v [kMap] [1]), decide_eq_true_iff⟩
  refine g_cutX (X := Unit) (fun _ => [(1, ptr ub), (2, ptr cb), (3, int 0), (143, .bool BZ)]) (fun _ => [.row ub [.int .i64 uk, .bool uy, .int .i64 un, .string us, .slice kp kn kc, .slice p v.kids.length c] 40, .row cb [int 0, int 0, int 0, int 0, .string ByteArray.empty, .slice none 0 0, .string ByteArray.empty, int 0, int 0, int 0, int 0, int 0, .string ByteArray.empty, .string ByteArray.empty, int 0, int 0, int 0, int 0, int 0, int 0] 33, Pile H]) (fun _ => True) ?_ (fun _ _ => ?_)
  · by_cases hk : v.kind = 6 ∧ v.keys = [kMap]
    · have hl : 1 ≤ v.kids.length := by rw [← hlk hk.1, hk.2]; decide
      repeat (first
        | (refine g_ops ?_; first | refine sO ?_ | refine s_n (fun _ => ?_) | refine s_app (fun _ _ => ?_) | refine s_b0 (fun _ => ?_) | ((fail_if_success refine g_lit rfl rfl rfl ?_); first | apply g_partM rfl rfl rfl | apply g_partMB rfl rfl rfl | fail))
        | refine gS ?_ | exact s_m | intro _)
      rename_i kb
      have h1 := hkey kb [kMap] (by decide) true (by simp [hk])
      repeat (first
        | (refine g_ops ?_; first | refine sO ?_ | refine s_n (fun _ => ?_) | refine s_app (fun _ _ => ?_) | refine s_b0 (fun _ => ?_) | ((fail_if_success refine g_lit rfl rfl rfl ?_); first | apply g_partM rfl rfl rfl | apply g_partMB rfl rfl rfl | fail) | refine s_k (h1) ?_)
        | refine gS ?_ | exact s_m | intro _)
      rename_i nb
      have h2 := hkin nb [1] hl BZ (by rw [hBZ]; exact ⟨fun h => h.2.2, fun h => ⟨hk.1, hk.2, h⟩⟩)
      try dsimp only [List.cons_append, List.nil_append]
      repeat (first
        | (refine g_ops ?_; first | refine sO ?_ | refine s_n (fun _ => ?_) | refine s_app (fun _ _ => ?_) | refine s_b0 (fun _ => ?_) | ((fail_if_success refine g_lit rfl rfl rfl ?_); first | apply g_partM rfl rfl rfl | apply g_partMB rfl rfl rfl | fail) | refine s_k (h2) ?_)
        | refine gS ?_ | exact s_m | intro _)
      exact gM () trivial
    · have hBf : BZ = false := by
        cases hb : BZ
        · rfl
        · exact absurd ⟨(hBZ.1 hb).1, (hBZ.1 hb).2.1⟩ hk
      rw [hBf]
      repeat (first
        | (refine g_ops ?_; first | refine sO ?_ | refine s_n (fun _ => ?_) | refine s_app (fun _ _ => ?_) | refine s_b0 (fun _ => ?_) | ((fail_if_success refine g_lit rfl rfl rfl ?_); first | apply g_partM rfl rfl rfl | apply g_partMB rfl rfl rfl | fail))
        | refine gS ?_ | exact s_m | intro _)
      rename_i kb
      have h1 := hkey kb [kMap] (by decide) false (by simp [hk])
      repeat (first
        | (refine g_ops ?_; first | refine sO ?_ | refine s_n (fun _ => ?_) | refine s_app (fun _ _ => ?_) | refine s_b0 (fun _ => ?_) | ((fail_if_success refine g_lit rfl rfl rfl ?_); first | apply g_partM rfl rfl rfl | apply g_partMB rfl rfl rfl | fail) | refine s_k (h1) ?_)
        | refine gS ?_ | exact s_m | intro _)
      exact gM () trivial
  cases hbZ : BZ
  case true =>
    have hF := hBZ.1 hbZ
    rw [if_pos hF] at hD
    have hl : 1 ≤ v.kids.length := by rw [← hlk hF.1, hF.2.1]; decide
    obtain ⟨u0, b0, o0, ep0, hv0, hz0, hq0⟩ := hkk 0 (by omega)
    have hs0 := VAt.kS hv0
    subst ep0
    subst hD
    repeat (first | refine g_then_normal ?_ | refine g_seq ?_)
    refine g_cond_true rfl ?_
    repeat (first
      | (refine g_ops ?_; first | refine sO ?_ | refine s_n (fun _ => ?_) | refine s_app (fun _ _ => ?_) | refine s_b0 (fun _ => ?_) | ((fail_if_success refine g_lit rfl rfl rfl ?_); first | apply g_partM rfl rfl rfl | apply g_partMB rfl rfl rfl | fail))
      | refine gS ?_ | exact s_m | intro _)
    exact gR (H, { kind := 6 }) ⟨HP.sub.refl _, ⟨rfl, rfl, SlAt.none, PtsOf.nil, rfl, rfl, rfl, rfl, rfl, rfl⟩⟩
  have hF : ¬ isF v [kMap] [1] := fun h => by rw [hBZ.2 h] at hbZ; cases hbZ
  rw [if_neg hF] at hD
  clear hBZ hbZ hF
  repeat (first | refine g_cond_false rfl ?_ | refine g_skip ?_ | refine g_then_normal ?_ | refine g_in_normal ?_ | refine g_block ?_ | refine g_seq ?_)
  subst hD
  repeat (first
    | (refine g_ops ?_; first | refine sO ?_ | refine s_n (fun _ => ?_) | refine s_app (fun _ _ => ?_) | refine s_b0 (fun _ => ?_) | ((fail_if_success refine g_lit rfl rfl rfl ?_); first | apply g_partM rfl rfl rfl | apply g_partMB rfl rfl rfl | fail))
    | refine gS ?_ | exact s_m | intro _)
  exact gR (H, {}) ⟨HP.sub.refl _, ClAt.zero⟩
end Go.Proofs.YtaahibcibgljbaaGreatDoor

namespace Go.Proofs.YtaahibcibgljbaaGreatDoor
open Go.Sl facts
attribute [local irreducible] weigh weighL
theorem app_first {l : List (ByteArray × V)} {k : ByteArray} {x : V} : nextS (false, (k, x) :: l) k = (x, (false, l)) := by simp [nextS]
theorem next_bad (l : List (ByteArray × V)) (key : ByteArray) : (nextS (true, l) key).2.1 = true := by
  cases l with
  | nil => rfl
  | cons a l => simp [nextS]
theorem int_bad (l : List (ByteArray × V)) (key : ByteArray) : (intS (true, l) key).2.1 = true := by unfold intS; dsimp only; rw [next_bad]; rfl
theorem text_bad (l : List (ByteArray × V)) (key : ByteArray) : (textS (true, l) key).2.1 = true := by unfold textS; dsimp only; rw [next_bad]; rfl
theorem int_ok {s : FS} {key : ByteArray} (h : (intS s key).2.1 = false) : ∃ x r, s = (false, (key, x) :: r) ∧ x.kind = 3 ∧ intS s key = (x.n, (false, r)) := by
  obtain ⟨b, l⟩ := s
  cases b with
  | true => rw [int_bad] at h; cases h
  | false =>
    cases l with
    | nil => simp [intS, nextS] at h
    | cons a l =>
      obtain ⟨k, x⟩ := a
      by_cases hk : k = key
      · subst hk
        unfold intS at h ⊢
        rw [app_first] at h ⊢
        simp only [Bool.false_or, Bool.not_eq_false', decide_eq_true_eq] at h
        exact ⟨x, l, rfl, h, by simp [h, numV]⟩
      · simp [intS, nextS, hk] at h
theorem text_ok {s : FS} {key : ByteArray} (h : (textS s key).2.1 = false) : ∃ x r, s = (false, (key, x) :: r) ∧ x.kind = 4 ∧ textS s key = (x.s, (false, r)) := by
  obtain ⟨b, l⟩ := s
  cases b with
  | true => rw [text_bad] at h; cases h
  | false =>
    cases l with
    | nil => simp [textS, nextS] at h
    | cons a l =>
      obtain ⟨k, x⟩ := a
      by_cases hk : k = key
      · subst hk
        unfold textS at h ⊢
        rw [app_first] at h ⊢
        simp only [Bool.false_or, Bool.not_eq_false', decide_eq_true_eq] at h
        exact ⟨x, l, rfl, h, by simp [h, strV]⟩
      · simp [textS, nextS, hk] at h
theorem puts_ok {s : FS} {key : ByteArray} (h : (putsS s key).2.1 = false) : ∃ x r, s = (false, (key, x) :: r) ∧ x.kind = 5 ∧ (x.kids.all fun y => (putV y).isSome) = true ∧ putsS s key = (x.kids, (false, r)) := by
  obtain ⟨b, l⟩ := s
  cases b with
  | true =>
    unfold putsS at h; dsimp only at h; rw [next_bad] at h; cases h
  | false =>
    cases l with
    | nil => simp [putsS, nextS, nilV, V.kind] at h
    | cons a l =>
      obtain ⟨k, x⟩ := a
      by_cases hk : k = key
      · subst hk
        unfold putsS at h ⊢
        rw [app_first] at h ⊢
        simp only [Bool.false_or, Bool.not_eq_false', Bool.and_eq_true, decide_eq_true_eq] at h
        exact ⟨x, l, rfl, h.1, h.2, by simp [h.1, h.2]⟩
      · simp [putsS, nextS, hk] at h
theorem map_ok {s : FS} {key : ByteArray} (h : ((nextS s key).2.1 || !decide ((nextS s key).1.kind = 1)) = false) : ∃ x r, s = (false, (key, x) :: r) ∧ x.kind = 1 ∧ nextS s key = (x, (false, r)) := by
  obtain ⟨b, l⟩ := s
  cases b with
  | true => rw [next_bad] at h; cases h
  | false =>
    cases l with
    | nil => simp [nextS] at h
    | cons a l =>
      obtain ⟨k, x⟩ := a
      by_cases hk : k = key
      · subst hk
        rw [app_first] at h ⊢
        simp only [Bool.false_or, Bool.not_eq_false', decide_eq_true_eq] at h
        exact ⟨x, l, rfl, h, rfl⟩
      · simp [nextS, hk] at h
theorem not_isF {v : V} {ks ks' : List ByteArray} {kd : List Int} (h : v.keys = ks') (hne : ks' ≠ ks) : ¬ isF v ks kd := fun hf => hne (h.symm.trans hf.2.1)
theorem unzip_ {ks : List ByteArray} {l : List V} (hl : ks.length = l.length) {z : List (ByteArray × V)} (h : ks.zip l = z) : ks = z.map Prod.fst ∧ l = z.map Prod.snd := by
  subst h
  exact ⟨(List.map_fst_zip (by omega)).symm, (List.map_snd_zip (by omega)).symm⟩
set_option maxHeartbeats 4000000 in
theorem doc_of {v : V} (hl : v.kind = 6 → v.keys.length = v.kids.length) (h : ofOk v = true) : docOf v = some (callS (false, v.keys.zip v.kids)).1 := by
  unfold ofOk at h
  obtain ⟨hk, hw, hb, he⟩ := of_decide_eq_true h
  have hl := hl hk
  have hz := unzip_ hl rfl
  generalize v.keys.zip v.kids = z at hb he hz ⊢
  obtain ⟨hz1, hz2⟩ := hz
  unfold docOf
  rw [if_neg (fun h => h hw)]
  cases z with
  | nil => simp [callS] at hb
  | cons q z =>
    obtain ⟨k, x⟩ := q
    unfold callS at hb he ⊢
    dsimp only at hb he ⊢
    by_cases h1 : k = kAppend
    · rw [if_pos h1] at hb he ⊢
      obtain ⟨b, r2, e1, hb4, e2⟩ := text_ok hb
      obtain ⟨a, r1, e3, ha5, hap, e4⟩ := puts_ok (by rw [e1])
      rw [e4] at e1 e2 he ⊢
      simp only [Prod.mk.injEq, true_and] at e1
      simp only [e2] at he ⊢
      subst he
      simp only [Prod.mk.injEq, List.cons.injEq, true_and] at e3
      obtain ⟨⟨rfl, rfl⟩, rfl⟩ := e3
      subst e1
      simp only [List.map_cons, List.map_nil] at hz1 hz2
      rw [if_pos ⟨hk, hz1, by rw [hz2]; simp [ha5, hb4]⟩]
      simp only [kid, hz2, List.getD_cons_zero, List.getD_cons_succ]
      rw [if_pos hap]
    rw [if_neg h1] at hb he ⊢
    by_cases h2 : k = kFrom
    · rw [if_pos h2] at hb he ⊢
      obtain ⟨c, r3, e1, hc4, e2⟩ := text_ok hb
      obtain ⟨b, r2, e3, hb3, e4⟩ := int_ok (by rw [e1])
      obtain ⟨a, r1, e5, ha3, e6⟩ := int_ok (by rw [e3])
      rw [e6] at e1 e2 e3 e4 he ⊢
      simp only [Prod.mk.injEq, true_and] at e3
      rw [e4] at e1 e2 he ⊢
      simp only [Prod.mk.injEq, true_and] at e1
      simp only [e2] at he ⊢
      subst he
      simp only [Prod.mk.injEq, List.cons.injEq, true_and] at e5
      obtain ⟨⟨rfl, rfl⟩, rfl⟩ := e5
      subst e3
      subst e1
      simp only [List.map_cons, List.map_nil] at hz1 hz2
      rw [if_neg (not_isF hz1 (by decide)), if_pos ⟨hk, hz1, by rw [hz2]; simp [ha3, hb3, hc4]⟩]
      simp only [kid, hz2, List.getD_cons_zero, List.getD_cons_succ]
    rw [if_neg h2] at hb he ⊢
    by_cases h3 : k = kMax
    · rw [if_pos h3] at hb he ⊢
      obtain ⟨b, r2, e1, hb4, e2⟩ := text_ok hb
      obtain ⟨a, r1, e3, ha3, e4⟩ := int_ok (by rw [e1])
      rw [e4] at e1 e2 he ⊢
      simp only [Prod.mk.injEq, true_and] at e1
      simp only [e2] at he ⊢
      subst he
      simp only [Prod.mk.injEq, List.cons.injEq, true_and] at e3
      obtain ⟨⟨rfl, rfl⟩, rfl⟩ := e3
      subst e1
      simp only [List.map_cons, List.map_nil] at hz1 hz2
      rw [if_neg (not_isF hz1 (by decide)), if_neg (not_isF hz1 (by decide)), if_pos ⟨hk, hz1, by rw [hz2]; simp [ha3, hb4]⟩]
      simp only [kid, hz2, List.getD_cons_zero, List.getD_cons_succ]
    rw [if_neg h3] at hb he ⊢
    by_cases h4 : k = kSplit
    · rw [if_pos h4] at hb he ⊢
      obtain ⟨a, r1, e3, ha3, e4⟩ := int_ok hb
      rw [e4] at he ⊢
      dsimp only at he
      subst he
      simp only [Prod.mk.injEq, List.cons.injEq, true_and] at e3
      obtain ⟨⟨rfl, rfl⟩, rfl⟩ := e3
      simp only [List.map_cons, List.map_nil] at hz1 hz2
      rw [if_neg (not_isF hz1 (by decide)), if_neg (not_isF hz1 (by decide)), if_neg (not_isF hz1 (by decide)), if_pos ⟨hk, hz1, by rw [hz2]; simp [ha3]⟩]
      simp only [kid, hz2, List.getD_cons_zero]
    rw [if_neg h4] at hb he ⊢
    by_cases h5 : k = kMove
    · rw [if_pos h5] at hb he ⊢
      obtain ⟨b, r2, e1, hb3, e2⟩ := int_ok hb
      obtain ⟨a, r1, e3, ha3, e4⟩ := int_ok (by rw [e1])
      rw [e4] at e1 e2 he ⊢
      simp only [Prod.mk.injEq, true_and] at e1
      simp only [e2] at he ⊢
      subst he
      simp only [Prod.mk.injEq, List.cons.injEq, true_and] at e3
      obtain ⟨⟨rfl, rfl⟩, rfl⟩ := e3
      subst e1
      simp only [List.map_cons, List.map_nil] at hz1 hz2
      rw [if_neg (not_isF hz1 (by decide)), if_neg (not_isF hz1 (by decide)), if_neg (not_isF hz1 (by decide)), if_neg (not_isF hz1 (by decide)), if_pos ⟨hk, hz1, by rw [hz2]; simp [ha3, hb3]⟩]
      simp only [kid, hz2, List.getD_cons_zero, List.getD_cons_succ]
    rw [if_neg h5] at hb he ⊢
    by_cases h6 : k = kMap
    · rw [if_pos h6] at hb he ⊢
      dsimp only at hb he
      obtain ⟨a, r1, e3, ha1, e4⟩ := map_ok hb
      rw [e4] at he
      dsimp only at he
      subst he
      simp only [Prod.mk.injEq, List.cons.injEq, true_and] at e3
      obtain ⟨⟨rfl, rfl⟩, rfl⟩ := e3
      simp only [List.map_cons, List.map_nil] at hz1 hz2
      rw [if_neg (not_isF hz1 (by decide)), if_neg (not_isF hz1 (by decide)), if_neg (not_isF hz1 (by decide)), if_neg (not_isF hz1 (by decide)), if_neg (not_isF hz1 (by decide)), if_pos ⟨hk, hz1, by rw [hz2]; simp [ha1]⟩]
    rw [if_neg h6] at hb
    cases hb
theorem two_of {l : List V} (h : l.length = 2) : ∃ a b, l = [a, b] := by
  match l, h with
  | [a, b], _ => exact ⟨a, b, rfl⟩
theorem one_of' {l : List V} (h : l.length = 1) : ∃ a, l = [a] := by
  match l, h with
  | [a], _ => exact ⟨a, rfl⟩
theorem three_of {l : List V} (h : l.length = 3) : ∃ a b c, l = [a, b, c] := by
  match l, h with
  | [a, b, c], _ => exact ⟨a, b, c, rfl⟩
theorem nextS_hit (k : ByteArray) (x : V) (l : List (ByteArray × V)) : nextS (false, (k, x) :: l) k = (x, (false, l)) := app_first
theorem int_hit {k : ByteArray} {x : V} {l : List (ByteArray × V)} (h : x.kind = 3) : intS (false, (k, x) :: l) k = (x.n, (false, l)) := by unfold intS; rw [nextS_hit]; simp [h, numV]
theorem text_hit {k : ByteArray} {x : V} {l : List (ByteArray × V)} (h : x.kind = 4) : textS (false, (k, x) :: l) k = (x.s, (false, l)) := by unfold textS; rw [nextS_hit]; simp [h, strV]
theorem puts_hit {k : ByteArray} {x : V} {l : List (ByteArray × V)} (h : x.kind = 5) (hp : (x.kids.all fun y => (putV y).isSome) = true) : putsS (false, (k, x) :: l) k = (x.kids, (false, l)) := by unfold putsS; rw [nextS_hit]; simp [h, hp]
set_option maxHeartbeats 4000000 in
theorem of_doc' {v : V} (hl : v.kind = 6 → v.keys.length = v.kids.length) (h : (docOf v).isSome = true) : ofOk v = true := by
  unfold docOf at h
  split at h
  · cases h
  rename_i hw
  have hw : (weigh v 0 0).1 = 0 := Classical.not_not.1 hw
  unfold ofOk
  split at h
  · rename_i hF
    obtain ⟨hk, hks, hkd⟩ := hF
    obtain ⟨a, b, e⟩ := two_of (l := v.kids) (by rw [← hl hk, hks]; rfl)
    simp only [e, List.length_cons, List.length_nil, List.take_succ_cons, List.take_zero, List.map_cons, List.map_nil, List.cons.injEq, and_true] at hkd
    simp only [kid, e, List.getD_cons_zero] at h
    split at h
    · rename_i hp
      rw [hks, e]
      simp only [List.zip_cons_cons, List.zip_nil_left, callS, if_true]
      rw [puts_hit hkd.1 hp, text_hit hkd.2]
      simp [hk, hw]
    · cases h
  split at h
  · rename_i hF
    obtain ⟨hk, hks, hkd⟩ := hF
    obtain ⟨a, b, c, e⟩ := three_of (l := v.kids) (by rw [← hl hk, hks]; rfl)
    simp only [e, List.length_cons, List.length_nil, List.take_succ_cons, List.take_zero, List.map_cons, List.map_nil, List.cons.injEq, and_true] at hkd
    rw [hks, e]
    simp only [List.zip_cons_cons, List.zip_nil_left, callS]
    rw [if_neg (by decide), if_pos trivial, int_hit hkd.1, int_hit hkd.2.1, text_hit hkd.2.2]
    simp [hk, hw]
  split at h
  · rename_i hF
    obtain ⟨hk, hks, hkd⟩ := hF
    obtain ⟨a, b, e⟩ := two_of (l := v.kids) (by rw [← hl hk, hks]; rfl)
    simp only [e, List.length_cons, List.length_nil, List.take_succ_cons, List.take_zero, List.map_cons, List.map_nil, List.cons.injEq, and_true] at hkd
    rw [hks, e]
    simp only [List.zip_cons_cons, List.zip_nil_left, callS]
    rw [if_neg (by decide), if_neg (by decide), if_pos trivial, int_hit hkd.1, text_hit hkd.2]
    simp [hk, hw]
  split at h
  · rename_i hF
    obtain ⟨hk, hks, hkd⟩ := hF
    obtain ⟨a, e⟩ := one_of' (l := v.kids) (by rw [← hl hk, hks]; rfl)
    simp only [e, List.length_cons, List.length_nil, List.take_succ_cons, List.take_zero, List.map_cons, List.map_nil, List.cons.injEq, and_true] at hkd
    rw [hks, e]
    simp only [List.zip_cons_cons, List.zip_nil_left, callS]
    rw [if_neg (by decide), if_neg (by decide), if_neg (by decide), if_pos trivial, int_hit hkd]
    simp [hk, hw]
  split at h
  · rename_i hF
    obtain ⟨hk, hks, hkd⟩ := hF
    obtain ⟨a, b, e⟩ := two_of (l := v.kids) (by rw [← hl hk, hks]; rfl)
    simp only [e, List.length_cons, List.length_nil, List.take_succ_cons, List.take_zero, List.map_cons, List.map_nil, List.cons.injEq, and_true] at hkd
    rw [hks, e]
    simp only [List.zip_cons_cons, List.zip_nil_left, callS]
    rw [if_neg (by decide), if_neg (by decide), if_neg (by decide), if_neg (by decide), if_pos trivial, int_hit hkd.1, int_hit hkd.2]
    simp [hk, hw]
  split at h
  · rename_i hF
    obtain ⟨hk, hks, hkd⟩ := hF
    obtain ⟨a, e⟩ := one_of' (l := v.kids) (by rw [← hl hk, hks]; rfl)
    simp only [e, List.length_cons, List.length_nil, List.take_succ_cons, List.take_zero, List.map_cons, List.map_nil, List.cons.injEq, and_true] at hkd
    rw [hks, e]
    simp only [List.zip_cons_cons, List.zip_nil_left, callS]
    rw [if_neg (by decide), if_neg (by decide), if_neg (by decide), if_neg (by decide), if_neg (by decide), if_pos trivial]
    simp [hk, hw, hkd, nextS_hit]
  · cases h
theorem of_same {v : V} (hl : v.kind = 6 → v.keys.length = v.kids.length) : ofOk v = (docOf v).isSome ∧ ofC v = (docOf v).getD {} := by
  cases h : ofOk v with
  | true =>
    have := doc_of hl h
    unfold ofC
    rw [h, this]
    exact ⟨rfl, rfl⟩
  | false =>
    have hn : docOf v = none := by
      cases hd : docOf v with
      | none => rfl
      | some d =>
        have := of_doc' hl (by rw [hd]; rfl)
        rw [h] at this; cases this
    unfold ofC
    rw [h, hn]
    exact ⟨rfl, rfl⟩
end Go.Proofs.YtaahibcibgljbaaGreatDoor
