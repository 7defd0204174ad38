/- Contracts and laws that the proof stands on. -/
import Derived.Test.YtcgmliaahdpmcaaGreatDoorTablePlays22
set_option linter.unusedSimpArgs false
set_option linter.unusedVariables false
namespace Go.Proofs.YtcgmliaahdpmcaaGreatDoor
open Go.Sl facts
abbrev mrow (m : Nat) (q : Option Addr) (n c : Nat) : Chunk := .row m [.slice q n c] 31
structure MAt (C : Chunk) (q : Option Addr) (ds : List StrV) : Prop where
  sl : SlAt C 3 q ds.length (ds.flatMap StrV.cells)
  at_ : ∀ y ∈ ds, StrAt C y
theorem MAt.grow {H H' : HP} {q : Option Addr} {ds : List StrV} (h : MAt (Pile H) q ds) (s : HP.sub H H') : MAt (Pile H') q ds := ⟨h.sl.grow s, fun y hy => (h.at_ y hy).grow s⟩
attribute [local irreducible] Code.wp wpList Exit.then Exit.inBlock bodyPost Back MidQ G GP QStep VStep CStep SStep Does Post Reads
section
variable {H : HP} (m : Nat) (q : Option Addr) (c : Nat) (ds : List StrV) (hM : MAt (Pile H) q ds) (hl : ds.length ≤ 1000000000)
include hM hl
theorem mfind (nm : ByteArray) : Does1 Tryz.prog 33 [ptr m, .string nm] [mrow m q ds.length c, Pile H] (int (atD (fi ds nm))) := by
  refine fn_intro Tryz.func33 rfl Tryz.ntmps33 rfl (by simp only [argFr, Nat.zero_add, Nat.reduceAdd]; rfl) (fun Γ => ?_)
  repeat (first
    | (refine g_ops ?_; first | refine sO ?_ | refine s_n (fun _ => ?_) | refine s_app (fun _ _ => ?_) | refine s_b0 (fun _ => ?_) | ((fail_if_success refine g_lit rfl rfl rfl ?_); first | apply g_partM rfl rfl rfl | apply g_partMB rfl rfl rfl | fail))
    | refine gS ?_ | exact s_m | intro _)
  refine g_loop (X := Nat) (fun i => [(0, ptr m), (1, .string nm), (5, int i)]) (fun _ => [mrow m q ds.length c, Pile H]) (fun i => i ≤ ds.length ∧ ∀ (j : Nat) (hj : j < ds.length), j < i → ds[j].nm ≠ nm) (fun i => ds.length - i) 0 ⟨Nat.zero_le _, fun j _ h => by omega⟩ (by (repeat (first | exact FrSub.nil | refine FrSub.cons rfl ?_)); first | done | fail) (by (repeat (first | exact Take.nil | apply Take.cons | exact Sel.here | apply Sel.there)); first | done | fail) (fun i hi => ?_)
  obtain ⟨hi, hne⟩ := hi
  repeat (first
    | (refine g_ops ?_; first | refine sO ?_ | refine s_n (fun _ => ?_) | refine s_app (fun _ _ => ?_) | refine s_b0 (fun _ => ?_) | ((fail_if_success refine g_lit rfl rfl rfl ?_); first | apply g_partM rfl rfl rfl | apply g_partMB rfl rfl rfl | fail))
    | refine gS ?_ | exact s_m | intro _)
  refine g_cond_dec rfl (fun h => ?_) (fun h => ?_)
  · have hi' : i < ds.length := by omega
    obtain ⟨b, o, rfl, hcell⟩ := slAt_elem hM.sl str_len (by decide) (i := i) (a := ds[i]) (by simp [hi'])
    generalize hx : ds[i] = x at hcell
    repeat (first
      | (refine g_ops ?_; first | refine sO ?_ | refine s_n (fun _ => ?_) | refine s_app (fun _ _ => ?_) | refine s_b0 (fun _ => ?_) | ((fail_if_success refine g_lit rfl rfl rfl ?_); first | apply g_partM rfl rfl rfl | apply g_partMB rfl rfl rfl | fail))
      | refine gS ?_ | exact s_m | intro _)
    refine g_cond_dec rfl (fun h2 => ?_) (fun h2 => ?_)
    · have e : fi ds nm = some i := fi_of hi' (by rw [hx]; exact h2) hne
      repeat (first
        | (refine g_ops ?_; first | refine sO ?_ | refine s_n (fun _ => ?_) | refine s_app (fun _ _ => ?_) | refine s_b0 (fun _ => ?_) | ((fail_if_success refine g_lit rfl rfl rfl ?_); first | apply g_partM rfl rfl rfl | apply g_partMB rfl rfl rfl | fail))
        | refine gS ?_ | exact s_m | intro _)
      exact g_ret () rfl (by (repeat (first | exact RVs.nil | apply RVs.tmp rfl | apply RVs.cellA rfl (by (repeat (first | exact Sel.here | apply Sel.there)); first | done | fail) (by (repeat (first | exact Cut.zero | apply Cut.take | apply Cut.skip)); first | done | fail) | apply RVs.cell1 rfl (by (repeat (first | exact Sel.here | apply Sel.there)); first | done | fail) rfl)); first | done | fail) (by (repeat (first | exact Take.nil | apply Take.cons | exact Sel.here | apply Sel.there)); first | done | fail) (by simp [pack, e, atD]) trivial
    · repeat (first
        | (refine g_ops ?_; first | refine sO ?_ | refine s_n (fun _ => ?_) | refine s_app (fun _ _ => ?_) | refine s_b0 (fun _ => ?_) | ((fail_if_success refine g_lit rfl rfl rfl ?_); first | apply g_partM rfl rfl rfl | apply g_partMB rfl rfl rfl | fail))
        | refine gS ?_ | exact s_m | intro _)
      refine g_as 5 (v' := int ((i + 1 : Nat) : Int)) rfl (congrArg (Value.int .i64) (by push_cast; rfl)) ?_
      refine gA (i + 1) (by omega) ⟨hi', fun j hj hji => ?_⟩
      by_cases e : j = i
      · subst e; rw [hx]; exact h2
      · exact hne j hj (by omega)
  · have e : fi ds nm = none := fi_no fun j hj => hne j hj (by omega)
    repeat (first
      | (refine g_ops ?_; first | refine sO ?_ | refine s_n (fun _ => ?_) | refine s_app (fun _ _ => ?_) | refine s_b0 (fun _ => ?_) | ((fail_if_success refine g_lit rfl rfl rfl ?_); first | apply g_partM rfl rfl rfl | apply g_partMB rfl rfl rfl | fail))
      | refine gS ?_ | exact s_m | intro _)
    exact g_ret () rfl (by (repeat (first | exact RVs.nil | apply RVs.tmp rfl | apply RVs.cellA rfl (by (repeat (first | exact Sel.here | apply Sel.there)); first | done | fail) (by (repeat (first | exact Cut.zero | apply Cut.take | apply Cut.skip)); first | done | fail) | apply RVs.cell1 rfl (by (repeat (first | exact Sel.here | apply Sel.there)); first | done | fail) rfl)); first | done | fail) (by (repeat (first | exact Take.nil | apply Take.cons | exact Sel.here | apply Sel.there)); first | done | fail) (by simp [pack, e, atD]) trivial
theorem mver (nm : ByteArray) : Does1 Tryz.prog 25 [ptr m, .string nm] [mrow m q ds.length c, Pile H] (int (dEvs ds nm).length) := by
  have hf := mfind m q c ds hM hl nm
  refine fn_intro Tryz.func25 rfl Tryz.ntmps25 rfl (by simp only [argFr, Nat.zero_add, Nat.reduceAdd]; rfl) (fun Γ => ?_)
  cases hk : fi ds nm with
  | none =>
    rw [hk] at hf
    have e : dEvs ds nm = [] := by simp [dEvs, dOf_none hk]
    rw [e]
    repeat (first
      | (refine g_ops ?_; first | refine sO ?_ | refine s_n (fun _ => ?_) | refine s_app (fun _ _ => ?_) | refine s_b0 (fun _ => ?_) | ((fail_if_success refine g_lit rfl rfl rfl ?_); first | apply g_partM rfl rfl rfl | apply g_partMB rfl rfl rfl | fail) | refine s_k (hf) ?_)
      | refine gS ?_ | exact s_m | intro _)
    refine g_as 10 (v' := .bool true) rfl rfl ?_
    repeat (first
      | (refine g_ops ?_; first | refine sO ?_ | refine s_n (fun _ => ?_) | refine s_app (fun _ _ => ?_) | refine s_b0 (fun _ => ?_) | ((fail_if_success refine g_lit rfl rfl rfl ?_); first | apply g_partM rfl rfl rfl | apply g_partMB rfl rfl rfl | fail))
      | refine gS ?_ | exact s_m | intro _)
    exact gR () trivial
  | some k =>
    rw [hk] at hf
    obtain ⟨hk', e1, e2⟩ := dOf_some hk
    have e : dEvs ds nm = ds[k].evs := by simp [dEvs, e1]
    rw [e]
    obtain ⟨b, o, rfl, hcell⟩ := slAt_elem hM.sl str_len (by decide) (i := k) (a := ds[k]) (by simp [hk'])
    generalize ds[k] = x at hcell
    repeat (first
      | (refine g_ops ?_; first | refine sO ?_ | refine s_n (fun _ => ?_) | refine s_app (fun _ _ => ?_) | refine s_b0 (fun _ => ?_) | ((fail_if_success refine g_lit rfl rfl rfl ?_); first | apply g_partM rfl rfl rfl | apply g_partMB rfl rfl rfl | fail) | refine s_k (hf) ?_)
      | refine gS ?_ | exact s_m | intro _)
    refine g_as 10 (v' := .bool false) rfl (congrArg Value.bool (decide_eq_false (by simp only [atD]; omega))) ?_
    refine g_as 5 (v' := int (k : Int)) rfl rfl ?_
    repeat (first
      | (refine g_ops ?_; first | refine sO ?_ | refine s_n (fun _ => ?_) | refine s_app (fun _ _ => ?_) | refine s_b0 (fun _ => ?_) | ((fail_if_success refine g_lit rfl rfl rfl ?_); first | apply g_partM rfl rfl rfl | apply g_partMB rfl rfl rfl | fail))
      | refine gS ?_ | exact s_m | intro _)
    exact gR () trivial
structure RdX where
  n : Nat
  q : Option Addr
  c : Nat
omit hM hl in
theorem mread_no (nm : ByteArray) (frm mx : Int) (h : frm < 1) : Does1 Tryz.prog 19 [ptr m, .string nm, int frm, int mx] [mrow m q ds.length c, Pile H] (.tuple #[.slice none 0 0, int 1]) := by
  refine fn_intro Tryz.func19 rfl Tryz.ntmps19 rfl (by simp only [argFr, Nat.zero_add, Nat.reduceAdd]; rfl) (fun Γ => ?_)
  repeat (first
    | (refine g_ops ?_; first | refine sO ?_ | refine s_n (fun _ => ?_) | refine s_app (fun _ _ => ?_) | refine s_b0 (fun _ => ?_) | ((fail_if_success refine g_lit rfl rfl rfl ?_); first | apply g_partM rfl rfl rfl | apply g_partMB rfl rfl rfl | fail))
    | refine gS ?_ | exact s_m | intro _)
  refine g_as 14 (v' := .bool true) rfl (congrArg Value.bool (decide_eq_true h)) ?_
  repeat (first
    | (refine g_ops ?_; first | refine sO ?_ | refine s_n (fun _ => ?_) | refine s_app (fun _ _ => ?_) | refine s_b0 (fun _ => ?_) | ((fail_if_success refine g_lit rfl rfl rfl ?_); first | apply g_partM rfl rfl rfl | apply g_partMB rfl rfl rfl | fail))
    | refine gS ?_ | exact s_m | intro _)
  exact gR () trivial
set_option maxHeartbeats 1000000 in
theorem mread (nm : ByteArray) (frm mx : Int) (h : 1 ≤ frm) (hb : frm ≤ 9223372036854775807) (hev : (dEvs ds nm).length ≤ 1000000000) : Does Tryz.prog 19 [ptr m, .string nm, int frm, int mx] [mrow m q ds.length c, Pile H] (X := OA) (fun x => .tuple #[.slice x.1 (readL (dEvs ds nm) frm mx).length x.2, int 0])
    (fun x => [.own x.1 (readL (dEvs ds nm) frm mx).length x.2 7 ((readL (dEvs ds nm) frm mx).flatMap Ev.cells) 68, mrow m q ds.length c, Pile H]) (fun _ => True) := by
  have hf := mfind m q c ds hM hl nm
  refine fn_intro Tryz.func19 rfl Tryz.ntmps19 rfl (by simp only [argFr, Nat.zero_add, Nat.reduceAdd]; rfl) (fun Γ => ?_)
  cases hk : fi ds nm with
  | none =>
    rw [hk] at hf
    have e : dEvs ds nm = [] := by simp [dEvs, dOf_none hk]
    have e2 : readL (dEvs ds nm) frm mx = [] := by rw [e]; unfold readL; split <;> simp
    rw [e2]
    repeat (first
      | (refine g_ops ?_; first | refine sO ?_ | refine s_n (fun _ => ?_) | refine s_app (fun _ _ => ?_) | refine s_b0 (fun _ => ?_) | ((fail_if_success refine g_lit rfl rfl rfl ?_); first | apply g_partM rfl rfl rfl | apply g_partMB rfl rfl rfl | fail))
      | refine gS ?_ | exact s_m | intro _)
    refine g_as 14 (v' := .bool false) rfl (congrArg Value.bool (decide_eq_false (by omega))) ?_
    repeat (first
      | (refine g_ops ?_; first | refine sO ?_ | refine s_n (fun _ => ?_) | refine s_app (fun _ _ => ?_) | refine s_b0 (fun _ => ?_) | ((fail_if_success refine g_lit rfl rfl rfl ?_); first | apply g_partM rfl rfl rfl | apply g_partMB rfl rfl rfl | fail) | refine s_k (hf) ?_)
      | refine gS ?_ | exact s_m | intro _)
    refine g_loop (X := Unit) (fun _ => [(10, int (-1)), (11, .slice none 0 0)]) (fun _ => [mrow m q ds.length c, Pile H]) (fun _ => True) (fun _ => 0) () trivial (by (repeat (first | exact FrSub.nil | refine FrSub.cons rfl ?_)); first | done | fail) (by (repeat (first | exact Take.nil | apply Take.cons | exact Sel.here | apply Sel.there)); first | done | fail) (fun _ _ => ?_)
    repeat ((fail_if_success refine s_at 21 ?_); first
      | (refine g_ops ?_; first | refine sO ?_ | refine s_n (fun _ => ?_) | refine s_app (fun _ _ => ?_) | refine s_b0 (fun _ => ?_) | ((fail_if_success refine g_lit rfl rfl rfl ?_); first | apply g_partM rfl rfl rfl | apply g_partMB rfl rfl rfl | fail))
      | refine gS ?_ | exact s_m | intro _)
    first
      | (refine g_ops ?_; first | refine sO ?_ | refine s_n (fun _ => ?_) | refine s_app (fun _ _ => ?_) | refine s_b0 (fun _ => ?_) | ((fail_if_success refine g_lit rfl rfl rfl ?_); first | apply g_partM rfl rfl rfl | apply g_partMB rfl rfl rfl | fail))
      | refine gS ?_ | exact s_m | intro _
    refine g_as 21 (v' := .bool false) rfl rfl ?_
    repeat (first
      | (refine g_ops ?_; first | refine sO ?_ | refine s_n (fun _ => ?_) | refine s_app (fun _ _ => ?_) | refine s_b0 (fun _ => ?_) | ((fail_if_success refine g_lit rfl rfl rfl ?_); first | apply g_partM rfl rfl rfl | apply g_partMB rfl rfl rfl | fail))
      | refine gS ?_ | exact s_m | intro _)
    refine g_own_nil none 7 68 ?_
    exact gR ((none, 0) : OA) trivial
  | some k =>
    rw [hk] at hf
    obtain ⟨hk', e1, e2⟩ := dOf_some hk
    have e : dEvs ds nm = ds[k].evs := by simp [dEvs, e1]
    rw [e] at hev ⊢
    obtain ⟨b, o, rfl, hcell⟩ := slAt_elem hM.sl str_len (by decide) (i := k) (a := ds[k]) (by simp [hk'])
    have hx := hM.at_ ds[k] (List.getElem_mem _)
    generalize ds[k] = x at hcell hev hx
    obtain ⟨xnm, xep, xec, evs, xkp, xkc, xks⟩ := x
    have hxe := hx.e
    have hbig := hx.el
    dsimp only [StrV.cells] at hxe hbig hev hcell ⊢
    obtain ⟨f, rfl⟩ : ∃ f : Nat, frm = f + 1 := ⟨(frm - 1).toNat, by omega⟩
    repeat (first
      | (refine g_ops ?_; first | refine sO ?_ | refine s_n (fun _ => ?_) | refine s_app (fun _ _ => ?_) | refine s_b0 (fun _ => ?_) | ((fail_if_success refine g_lit rfl rfl rfl ?_); first | apply g_partM rfl rfl rfl | apply g_partMB rfl rfl rfl | fail))
      | refine gS ?_ | exact s_m | intro _)
    refine g_as 14 (v' := .bool false) rfl (congrArg Value.bool (decide_eq_false (by omega))) ?_
    repeat (first
      | (refine g_ops ?_; first | refine sO ?_ | refine s_n (fun _ => ?_) | refine s_app (fun _ _ => ?_) | refine s_b0 (fun _ => ?_) | ((fail_if_success refine g_lit rfl rfl rfl ?_); first | apply g_partM rfl rfl rfl | apply g_partMB rfl rfl rfl | fail) | refine s_k (hf) ?_)
      | refine gS ?_ | exact s_m | intro _)
    refine g_as 10 (v' := int (k : Int)) rfl rfl ?_
    refine g_as 12 (v' := int ((f + 0 : Nat) : Int)) rfl (congrArg (Value.int .i64) (by push_cast; omega)) ?_
    refine g_own_nil none 7 68 ?_
    refine g_loop (X := RdX) (fun y => [(0, ptr m), (3, int mx), (10, int (k : Int)), (11, .slice y.q ((evs.drop f).take y.n).length y.c), (12, int ((f + y.n : Nat) : Int))])
      (fun y => [.own y.q ((evs.drop f).take y.n).length y.c 7 (((evs.drop f).take y.n).flatMap Ev.cells) 68, mrow m (some ⟨b, o, none⟩) ds.length c, Pile H]) (fun y => (y.n = 0 ∨ f + y.n ≤ evs.length ∧ (y.n : Int) ≤ mx)) (fun y => evs.length - (f + y.n)) ⟨0, none, 0⟩ (.inl rfl) (by (repeat (first | exact FrSub.nil | refine FrSub.cons rfl ?_)); first | done | fail) (by simp only [List.take_zero, List.length_nil, List.flatMap_nil]; exact (by (repeat (first | exact Take.nil | apply Take.cons | exact Sel.here | apply Sel.there)); first | done | fail)) (fun y hy => ?_)
    obtain ⟨n, q2, c2⟩ := y
    dsimp only at hy ⊢
    have hnl : ((evs.drop f).take n).length = min n (evs.length - f) := by simp
    repeat (first
      | (refine g_ops ?_; first | refine sO ?_ | refine s_n (fun _ => ?_) | refine s_app (fun _ _ => ?_) | refine s_b0 (fun _ => ?_) | ((fail_if_success refine g_lit rfl rfl rfl ?_); first | apply g_partM rfl rfl rfl | apply g_partMB rfl rfl rfl | fail))
      | apply g_regB (id := 6) 40 | refine gS ?_ | exact s_m | intro _ | (refine gp_take ?_; first | refine pT ?_ | ((fail_if_success refine gp_lit rfl rfl rfl rfl ?_); first | apply gp_guard_dec rfl rfl rfl rfl | apply gp_guard rfl rfl rfl rfl | fail))
      | (refine gp_see ?_; first | refine p_f ?_ | refine pS ?_ | ((fail_if_success refine gp_lit rfl rfl rfl rfl ?_); first | apply gp_guard_dec rfl rfl rfl rfl | apply gp_guard rfl rfl rfl rfl | fail))
      | (refine gp_one ?_; first | refine pO ?_ | refine p_n (fun _ => ?_) | refine p_app (fun _ _ => ?_) | refine p_b0 (fun _ => ?_) | ((fail_if_success refine gp_lit rfl rfl rfl rfl ?_); first | apply gp_guard_dec rfl rfl rfl rfl | apply gp_guard rfl rfl rfl rfl | fail))
      | refine gp_two ?_ ?_ | refine gp_done hd hk ?_ | intro _ | refine p_ta hd hk (fun _ _ _ hd hk => ?_) | refine p_ts hd hk (fun _ hd hk => ?_))
    by_cases hgo : f + n < evs.length ∧ (n : Int) < mx
    · have hn1 : ((evs.drop f).take n).length = n := by rw [hnl]; omega
      have htk : (evs.drop f).take (n + 1) = (evs.drop f).take n ++ [evs[f + n]'hgo.1] := by
        rw [List.take_succ_eq_append_getElem (by rw [List.length_drop]; omega), List.getElem_drop]
      refine g_as 40 (v' := .bool true) rfl (congrArg Value.bool (by rw [hn1, decide_eq_true (by omega : ((f + n : Nat) : Int) < (evs.length : Int)), decide_eq_true hgo.2]; rfl)) ?_
      obtain ⟨b2, o2, rfl, hrow⟩ := slAt_elem hxe ev_len (by decide) (i := f + n) (a := evs[f + n]'hgo.1) (by simp [hgo.1])
      generalize evs[f + n]'hgo.1 = e1 at hrow htk
      repeat (first
        | (refine g_ops ?_; first | refine sO ?_ | refine s_n (fun _ => ?_) | refine s_app (fun _ _ => ?_) | refine s_b0 (fun _ => ?_) | ((fail_if_success refine g_lit rfl rfl rfl ?_); first | apply g_partM rfl rfl rfl | apply g_partMB rfl rfl rfl | fail))
        | refine gS ?_ | exact s_m | intro _)
      rename_i q' c'
      rw [show ((evs.drop f).take n).flatMap Ev.cells ++ e1.cells = ((evs.drop f).take (n + 1)).flatMap Ev.cells by rw [htk]; simp, show ((evs.drop f).take n).length + 1 = ((evs.drop f).take (n + 1)).length by rw [htk]; simp]
      refine g_as 12 (v' := int ((f + (n + 1) : Nat) : Int)) rfl (congrArg (Value.int .i64) (by push_cast; omega)) ?_
      exact gA ⟨n + 1, q', c'⟩ (by simp only; omega) (.inr ⟨by simp only; omega, by simp only; push_cast; omega⟩)
    · have hn0 : ((evs.drop f).take n).length = n ∨ evs.length ≤ f := by rw [hnl]; omega
      refine g_as 40 (v' := .bool false) rfl (congrArg Value.bool (by
        by_cases h1 : f + n < evs.length
        · have hn1 : ((evs.drop f).take n).length = n := by rw [hnl]; omega
          rw [hn1, decide_eq_true (by omega : ((f + n : Nat) : Int) < (evs.length : Int)), decide_eq_false (by omega : ¬ (n : Int) < mx)]; rfl
        · rw [decide_eq_false (by omega : ¬ ((f + n : Nat) : Int) < (evs.length : Int))]; rfl)) ?_
      have hfin : readL evs ((f : Int) + 1) mx = (evs.drop f).take n := by
        unfold readL
        rw [show ((f : Int) + 1 - 1).toNat = f by omega]
        rcases hy with rfl | ⟨h1, h2⟩
        · split
          · simp
          · omega
        · by_cases h0 : n = 0
          · subst h0
            split
            · simp
            · omega
          · rw [if_neg (by omega)]
            by_cases h3 : (n : Int) = mx
            · rw [show mx.toNat = n by omega]
            · rw [List.take_of_length_le (by rw [List.length_drop]; omega), List.take_of_length_le (by rw [List.length_drop]; omega)]
      rw [hfin]
      repeat (first
        | (refine g_ops ?_; first | refine sO ?_ | refine s_n (fun _ => ?_) | refine s_app (fun _ _ => ?_) | refine s_b0 (fun _ => ?_) | ((fail_if_success refine g_lit rfl rfl rfl ?_); first | apply g_partM rfl rfl rfl | apply g_partMB rfl rfl rfl | fail))
        | refine gS ?_ | exact s_m | intro _)
      exact gR ((q2, c2) : OA) trivial
set_option maxHeartbeats 1000000 in
theorem mknown (nm key : ByteArray) : Does1 Tryz.prog 21 [ptr m, .string nm, .string key] [mrow m q ds.length c, Pile H] (.tuple [((fkn (dKs ds nm) key).getD Kn.zero).v, .bool (fkn (dKs ds nm) key).isSome].toArray) := by
  have hf := mfind m q c ds hM hl nm
  refine fn_intro Tryz.func21 rfl Tryz.ntmps21 rfl (by simp only [argFr, Nat.zero_add, Nat.reduceAdd]; rfl) (fun Γ => ?_)
  cases hk : fi ds nm with
  | none =>
    rw [hk] at hf
    have e : dKs ds nm = [] := by simp [dKs, dOf_none hk]
    rw [e]
    repeat (first
      | (refine g_ops ?_; first | refine sO ?_ | refine s_n (fun _ => ?_) | refine s_app (fun _ _ => ?_) | refine s_b0 (fun _ => ?_) | ((fail_if_success refine g_lit rfl rfl rfl ?_); first | apply g_partM rfl rfl rfl | apply g_partMB rfl rfl rfl | fail) | refine s_k (hf) ?_)
      | refine gS ?_ | exact s_m | intro _)
    refine g_as 14 (v' := .bool true) rfl rfl ?_
    repeat (first
      | (refine g_ops ?_; first | refine sO ?_ | refine s_n (fun _ => ?_) | refine s_app (fun _ _ => ?_) | refine s_b0 (fun _ => ?_) | ((fail_if_success refine g_lit rfl rfl rfl ?_); first | apply g_partM rfl rfl rfl | apply g_partMB rfl rfl rfl | fail))
      | refine gS ?_ | exact s_m | intro _)
    exact gR () trivial
  | some k =>
    rw [hk] at hf
    obtain ⟨hk', e1, e2⟩ := dOf_some hk
    have e : dKs ds nm = ds[k].ks := by simp [dKs, e1]
    rw [e]
    obtain ⟨b, o, rfl, hcell⟩ := slAt_elem hM.sl str_len (by decide) (i := k) (a := ds[k]) (by simp [hk'])
    have hx := hM.at_ ds[k] (List.getElem_mem _)
    generalize ds[k] = x at hcell hx
    obtain ⟨xnm, xep, xec, evs, xkp, xkc, ks⟩ := x
    have hxk := hx.k
    have hbig := hx.kl
    dsimp only [StrV.cells] at hxk hbig hcell ⊢
    repeat (first
      | (refine g_ops ?_; first | refine sO ?_ | refine s_n (fun _ => ?_) | refine s_app (fun _ _ => ?_) | refine s_b0 (fun _ => ?_) | ((fail_if_success refine g_lit rfl rfl rfl ?_); first | apply g_partM rfl rfl rfl | apply g_partMB rfl rfl rfl | fail) | refine s_k (hf) ?_)
      | refine gS ?_ | exact s_m | intro _)
    refine g_as 14 (v' := .bool false) rfl (congrArg Value.bool (decide_eq_false (by simp only [atD]; omega))) ?_
    refine g_as 8 (v' := int (k : Int)) rfl rfl ?_
    repeat (first
      | (refine g_ops ?_; first | refine sO ?_ | refine s_n (fun _ => ?_) | refine s_app (fun _ _ => ?_) | refine s_b0 (fun _ => ?_) | ((fail_if_success refine g_lit rfl rfl rfl ?_); first | apply g_partM rfl rfl rfl | apply g_partMB rfl rfl rfl | fail))
      | refine gS ?_ | exact s_m | intro _)
    rename_i b6
    dsimp only [List.cons_append, List.nil_append]
    refine g_loop (X := Nat) (fun i => [(0, ptr m), (2, .string key), (6, ptr b6), (8, int (k : Int)), (9, int i)]) (fun _ => [mrow m (some ⟨b, o, none⟩) ds.length c, .row b6 Kn.zero.cells 53, Pile H]) (fun i => i ≤ ks.length ∧ ∀ (j : Nat) (hj : j < ks.length), j < i → ks[j].key ≠ key) (fun i => ks.length - i) 0 ⟨Nat.zero_le _, fun j _ h => by omega⟩ (by (repeat (first | exact FrSub.nil | refine FrSub.cons rfl ?_)); first | done | fail) (by (repeat (first | exact Take.nil | apply Take.cons | exact Sel.here | apply Sel.there)); first | done | fail) (fun i hi => ?_)
    obtain ⟨hi, hne⟩ := hi
    repeat (first
      | (refine g_ops ?_; first | refine sO ?_ | refine s_n (fun _ => ?_) | refine s_app (fun _ _ => ?_) | refine s_b0 (fun _ => ?_) | ((fail_if_success refine g_lit rfl rfl rfl ?_); first | apply g_partM rfl rfl rfl | apply g_partMB rfl rfl rfl | fail))
      | refine gS ?_ | exact s_m | intro _)
    refine g_cond_dec rfl (fun h => ?_) (fun h => ?_)
    · have hi' : i < ks.length := by omega
      obtain ⟨b2, o2, rfl, hrow0⟩ := slAt_elem hxk kn_len (by decide) (i := i) (a := ks[i]) (by simp [hi'])
      have hfk := fkn_of (key := key) hi'
      generalize hxx : ks[i] = y at hrow0 hfk
      have hr : ∀ k', k' = o2 + i * 5 → Reads (Pile H) ⟨b2, k', none⟩ (.string y.key) := fun _ e => e ▸ hrow0 0 _ rfl
      repeat (first
        | (refine g_ops ?_; first | refine sO ?_ | refine s_n (fun _ => ?_) | refine s_app (fun _ _ => ?_) | refine s_b0 (fun _ => ?_) | ((fail_if_success refine g_lit rfl rfl rfl ?_); first | apply g_partM rfl rfl rfl | apply g_partMB rfl rfl rfl | fail))
        | refine gS ?_ | exact s_m | intro _)
      refine g_cond_dec rfl (fun h2 => ?_) (fun h2 => ?_)
      · rw [hfk h2 hne]
        have hrow := hrow0
        repeat (first
          | (refine g_ops ?_; first | refine sO ?_ | refine s_n (fun _ => ?_) | refine s_app (fun _ _ => ?_) | refine s_b0 (fun _ => ?_) | ((fail_if_success refine g_lit rfl rfl rfl ?_); first | apply g_partM rfl rfl rfl | apply g_partMB rfl rfl rfl | fail))
          | refine gS ?_ | exact s_m | intro _)
        exact gR () trivial
      · repeat (first
          | (refine g_ops ?_; first | refine sO ?_ | refine s_n (fun _ => ?_) | refine s_app (fun _ _ => ?_) | refine s_b0 (fun _ => ?_) | ((fail_if_success refine g_lit rfl rfl rfl ?_); first | apply g_partM rfl rfl rfl | apply g_partMB rfl rfl rfl | fail))
          | refine gS ?_ | exact s_m | intro _)
        refine g_as 9 (v' := int ((i + 1 : Nat) : Int)) rfl (congrArg (Value.int .i64) (by push_cast; rfl)) ?_
        refine gA (i + 1) (by omega) ⟨hi', fun j hj hji => ?_⟩
        by_cases e : j = i
        · subst e; rw [hxx]; exact h2
        · exact hne j hj (by omega)
    · rw [fkn_no fun j hj => hne j hj (by omega)]
      repeat (first
        | (refine g_ops ?_; first | refine sO ?_ | refine s_n (fun _ => ?_) | refine s_app (fun _ _ => ?_) | refine s_b0 (fun _ => ?_) | ((fail_if_success refine g_lit rfl rfl rfl ?_); first | apply g_partM rfl rfl rfl | apply g_partMB rfl rfl rfl | fail))
        | refine gS ?_ | exact s_m | intro _)
      exact gR () trivial
end
end Go.Proofs.YtcgmliaahdpmcaaGreatDoor

namespace Go.Proofs.YtcgmliaahdpmcaaGreatDoor
open Go.Sl facts
attribute [local irreducible] Code.wp wpList Exit.then Exit.inBlock bodyPost Back MidQ G GP QStep VStep CStep SStep Does Post Reads
structure MtX where
  q : Option Addr
  c : Nat
  H : HP
theorem minside (r : Rg) (s : ByteArray) (hs : s.size ≤ 9223372036854775807) : Does1 Tryz.prog 39 [.string s, r.v] [] (.bool (r.has s)) := by
  refine fn_intro Tryz.func39 rfl Tryz.ntmps39 rfl (by simp only [argFr, Nat.zero_add, Nat.reduceAdd]; rfl) (fun Γ => ?_)
  repeat (first
    | (refine g_ops ?_; first | refine sO ?_ | refine s_n (fun _ => ?_) | refine s_app (fun _ _ => ?_) | refine s_b0 (fun _ => ?_) | ((fail_if_success refine g_lit rfl rfl rfl ?_); first | apply g_partM rfl rfl rfl | apply g_partMB rfl rfl rfl | fail) | refine s_p (hashR s hs) ?_)
    | apply g_regB (id := 2) 4 | refine gS ?_ | exact s_m | intro _ | (refine gp_take ?_; first | refine pT ?_ | ((fail_if_success refine gp_lit rfl rfl rfl rfl ?_); first | apply gp_guard_dec rfl rfl rfl rfl | apply gp_guard rfl rfl rfl rfl | fail) | refine p_p (hashR s hs) ?_)
    | (refine gp_see ?_; first | refine p_f ?_ | refine pS ?_ | ((fail_if_success refine gp_lit rfl rfl rfl rfl ?_); first | apply gp_guard_dec rfl rfl rfl rfl | apply gp_guard rfl rfl rfl rfl | fail) | refine p_sp (hashR s hs) ?_)
    | (refine gp_one ?_; first | refine pO ?_ | refine p_n (fun _ => ?_) | refine p_app (fun _ _ => ?_) | refine p_b0 (fun _ => ?_) | ((fail_if_success refine gp_lit rfl rfl rfl rfl ?_); first | apply gp_guard_dec rfl rfl rfl rfl | apply gp_guard rfl rfl rfl rfl | fail))
    | refine gp_two ?_ ?_ | refine gp_done hd hk ?_ | intro _ | refine p_ta hd hk (fun _ _ _ hd hk => ?_) | refine p_ts hd hk (fun _ hd hk => ?_))
  exact g_ret () rfl (by (repeat (first | exact RVs.nil | apply RVs.tmp rfl | apply RVs.cellA rfl (by (repeat (first | exact Sel.here | apply Sel.there)); first | done | fail) (by (repeat (first | exact Cut.zero | apply Cut.take | apply Cut.skip)); first | done | fail) | apply RVs.cell1 rfl (by (repeat (first | exact Sel.here | apply Sel.there)); first | done | fail) rfl)); first | done | fail) (by (repeat (first | exact Take.nil | apply Take.cons | exact Sel.here | apply Sel.there)); first | done | fail) (by simp only [pack, Rg.has, Bool.cond_false_right]) trivial
section
variable {H : HP} (m : Nat) (q : Option Addr) (c : Nat) (ds : List StrV) (hM : MAt (Pile H) q ds) (hl : ds.length ≤ 100000000)
include hM hl
set_option maxHeartbeats 1000000 in
theorem mtake (r : Rg) : Does Tryz.prog 15 [ptr m, r.v] [mrow m q ds.length c, Pile H] (X := OA) (fun x => .slice x.1 (ds.filter fun y => r.has y.nm).length x.2)
    (fun x => [.own x.1 (ds.filter fun y => r.has y.nm).length x.2 3 ((ds.filter fun y => r.has y.nm).flatMap StrV.cells) 60, mrow m q ds.length c, Pile H]) (fun _ => True) := by
  refine fn_intro Tryz.func15 rfl Tryz.ntmps15 rfl (by simp only [argFr, Nat.zero_add, Nat.reduceAdd]; rfl) (fun Γ => ?_)
  repeat (first
    | (refine g_ops ?_; first | refine sO ?_ | refine s_n (fun _ => ?_) | refine s_app (fun _ _ => ?_) | refine s_b0 (fun _ => ?_) | ((fail_if_success refine g_lit rfl rfl rfl ?_); first | apply g_partM rfl rfl rfl | apply g_partMB rfl rfl rfl | fail))
    | refine gS ?_ | exact s_m | intro _)
  rename_i rb
  refine g_own_nil none 3 60 ?_
  refine g_loop (X := RdX) (fun y => [(0, ptr m), (3, ptr rb), (5, .slice y.q ((ds.take y.n).filter fun y => r.has y.nm).length y.c), (6, int y.n)])
    (fun y => [.own y.q ((ds.take y.n).filter fun y => r.has y.nm).length y.c 3 (((ds.take y.n).filter fun y => r.has y.nm).flatMap StrV.cells) 60, rrow rb r, mrow m q ds.length c, Pile H]) (fun y => y.n ≤ ds.length) (fun y => ds.length - y.n) ⟨0, none, 0⟩ (Nat.zero_le _) (by (repeat (first | exact FrSub.nil | refine FrSub.cons rfl ?_)); first | done | fail) (by (repeat (first | exact Take.nil | apply Take.cons | exact Sel.here | apply Sel.there)); first | done | fail) (fun y hy => ?_)
  obtain ⟨i, q2, c2⟩ := y
  dsimp only at hy ⊢
  have hfl : ((ds.take i).filter fun y => r.has y.nm).length ≤ i := Nat.le_trans (List.length_filter_le _ _) (by simp; omega)
  repeat (first
    | (refine g_ops ?_; first | refine sO ?_ | refine s_n (fun _ => ?_) | refine s_app (fun _ _ => ?_) | refine s_b0 (fun _ => ?_) | ((fail_if_success refine g_lit rfl rfl rfl ?_); first | apply g_partM rfl rfl rfl | apply g_partMB rfl rfl rfl | fail))
    | refine gS ?_ | exact s_m | intro _)
  refine g_cond_dec rfl (fun h => ?_) (fun h => ?_)
  · have hi' : i < ds.length := by omega
    have htk : (ds.take (i + 1)).filter (fun y => r.has y.nm) = (ds.take i).filter (fun y => r.has y.nm) ++ (if r.has ds[i].nm = true then [ds[i]] else []) := by
      rw [List.take_succ_eq_append_getElem hi', List.filter_append]; congr 1; simp only [List.filter_cons, List.filter_nil]
    obtain ⟨b, o, rfl, hcell0⟩ := slAt_elem hM.sl str_len (by decide) (i := i) (a := ds[i]) (by simp [hi'])
    have hnl := (hM.at_ ds[i] (List.getElem_mem _)).nl
    generalize ds[i] = x at hcell0 hnl htk
    have hcell := hcell0
    have hin := minside r x.nm hnl
    repeat (first
      | (refine g_ops ?_; first | refine sO ?_ | refine s_n (fun _ => ?_) | refine s_app (fun _ _ => ?_) | refine s_b0 (fun _ => ?_) | ((fail_if_success refine g_lit rfl rfl rfl ?_); first | apply g_partM rfl rfl rfl | apply g_partMB rfl rfl rfl | fail))
      | refine gS ?_ | exact s_m | intro _)
    cases hh : r.has x.nm with
    | false =>
      rw [hh] at hin htk
      rw [if_neg (by simp), List.append_nil] at htk
      refine g_draw (.take 0 (.take 1 (.take 2 (.see 3 [] (.take 4 (.take 5 (.take 6 (.see 7 [] (.see 8 [] (.one 9 .done)))))))))) (by kernel_rfl) (C := [rrow rb r, mrow m (some ⟨b, o, none⟩) ds.length c, Pile H]) (by (repeat (first | exact Take.nil | apply Take.cons | exact Sel.here | apply Sel.there)); first | done | fail) (fun k hd hk => ?_)
      repeat (first
        | (refine gp_take ?_; first | refine pT ?_ | ((fail_if_success refine gp_lit rfl rfl rfl rfl ?_); first | apply gp_guard_dec rfl rfl rfl rfl | apply gp_guard rfl rfl rfl rfl | fail))
        | (refine gp_see ?_; first | refine p_f ?_ | refine pS ?_ | ((fail_if_success refine gp_lit rfl rfl rfl rfl ?_); first | apply gp_guard_dec rfl rfl rfl rfl | apply gp_guard rfl rfl rfl rfl | fail) | refine p_h (hin) hd hk ?_)
        | (refine gp_one ?_; first | refine pO ?_ | refine p_n (fun _ => ?_) | refine p_app (fun _ _ => ?_) | refine p_b0 (fun _ => ?_) | ((fail_if_success refine gp_lit rfl rfl rfl rfl ?_); first | apply gp_guard_dec rfl rfl rfl rfl | apply gp_guard rfl rfl rfl rfl | fail) | refine p_k (hin) ?_)
        | refine gp_two ?_ ?_ | refine gp_done hd hk ?_ | intro _ | refine p_ta hd hk (fun _ _ _ hd hk => ?_) | refine p_ts hd hk (fun _ hd hk => ?_))
      repeat (first
        | (refine g_ops ?_; first | refine sO ?_ | refine s_n (fun _ => ?_) | refine s_app (fun _ _ => ?_) | refine s_b0 (fun _ => ?_) | ((fail_if_success refine g_lit rfl rfl rfl ?_); first | apply g_partM rfl rfl rfl | apply g_partMB rfl rfl rfl | fail))
        | refine gS ?_ | exact s_m | intro _)
      refine g_as 6 (v' := int ((i + 1 : Nat) : Int)) rfl (congrArg (Value.int .i64) (by push_cast; rfl)) ?_
      rw [← htk]
      exact gA ⟨i + 1, q2, c2⟩ (by simp only; omega) hi'
    | true =>
      rw [hh] at hin htk
      rw [if_pos rfl] at htk
      refine g_draw (.take 0 (.take 1 (.take 2 (.see 3 [] (.take 4 (.take 5 (.take 6 (.see 7 [] (.see 8 [] (.one 9 .done)))))))))) (by kernel_rfl) (C := [rrow rb r, mrow m (some ⟨b, o, none⟩) ds.length c, Pile H]) (by (repeat (first | exact Take.nil | apply Take.cons | exact Sel.here | apply Sel.there)); first | done | fail) (fun k hd hk => ?_)
      repeat (first
        | (refine gp_take ?_; first | refine pT ?_ | ((fail_if_success refine gp_lit rfl rfl rfl rfl ?_); first | apply gp_guard_dec rfl rfl rfl rfl | apply gp_guard rfl rfl rfl rfl | fail))
        | (refine gp_see ?_; first | refine p_f ?_ | refine pS ?_ | ((fail_if_success refine gp_lit rfl rfl rfl rfl ?_); first | apply gp_guard_dec rfl rfl rfl rfl | apply gp_guard rfl rfl rfl rfl | fail) | refine p_h (hin) hd hk ?_)
        | (refine gp_one ?_; first | refine pO ?_ | refine p_n (fun _ => ?_) | refine p_app (fun _ _ => ?_) | refine p_b0 (fun _ => ?_) | ((fail_if_success refine gp_lit rfl rfl rfl rfl ?_); first | apply gp_guard_dec rfl rfl rfl rfl | apply gp_guard rfl rfl rfl rfl | fail) | refine p_k (hin) ?_)
        | refine gp_two ?_ ?_ | refine gp_done hd hk ?_ | intro _ | refine p_ta hd hk (fun _ _ _ hd hk => ?_) | refine p_ts hd hk (fun _ hd hk => ?_))
      clear hcell
      have hrow := hcell0
      repeat (first
        | (refine g_ops ?_; first | refine sO ?_ | refine s_n (fun _ => ?_) | refine s_app (fun _ _ => ?_) | refine s_b0 (fun _ => ?_) | ((fail_if_success refine g_lit rfl rfl rfl ?_); first | apply g_partM rfl rfl rfl | apply g_partMB rfl rfl rfl | fail))
        | refine gS ?_ | exact s_m | intro _)
      rename_i q' c'
      rw [show ((ds.take i).filter fun y => r.has y.nm).flatMap StrV.cells ++ x.cells = ((ds.take (i + 1)).filter fun y => r.has y.nm).flatMap StrV.cells by rw [htk]; simp, show ((ds.take i).filter fun y => r.has y.nm).length + 1 = ((ds.take (i + 1)).filter fun y => r.has y.nm).length by rw [htk]; simp]
      refine g_as 6 (v' := int ((i + 1 : Nat) : Int)) rfl (congrArg (Value.int .i64) (by push_cast; rfl)) ?_
      exact gA ⟨i + 1, q', c'⟩ (by simp only; omega) hi'
  · obtain rfl : i = ds.length := by omega
    rw [List.take_length]
    repeat (first
      | (refine g_ops ?_; first | refine sO ?_ | refine s_n (fun _ => ?_) | refine s_app (fun _ _ => ?_) | refine s_b0 (fun _ => ?_) | ((fail_if_success refine g_lit rfl rfl rfl ?_); first | apply g_partM rfl rfl rfl | apply g_partMB rfl rfl rfl | fail))
      | refine gS ?_ | exact s_m | intro _)
    exact gR ((q2, c2) : OA) trivial
structure DrX where
  n : Nat
  k : Nat
  q : Option Addr
  c : Nat
set_option maxHeartbeats 1000000 in
theorem mdrop (r : Rg) : Does Tryz.prog 13 [ptr m, r.v] [mrow m q ds.length c, Pile H] (X := MtX) (fun _ => int (ds.filter fun y => r.has y.nm).length)
    (fun x => [mrow m x.q (ds.filter fun y => !r.has y.nm).length x.c, Pile x.H]) (fun x => HP.sub H x.H ∧ MAt (Pile x.H) x.q (ds.filter fun y => !r.has y.nm)) := by
  refine fn_intro Tryz.func13 rfl Tryz.ntmps13 rfl (by simp only [argFr, Nat.zero_add, Nat.reduceAdd]; rfl) (fun Γ => ?_)
  repeat (first
    | (refine g_ops ?_; first | refine sO ?_ | refine s_n (fun _ => ?_) | refine s_app (fun _ _ => ?_) | refine s_b0 (fun _ => ?_) | ((fail_if_success refine g_lit rfl rfl rfl ?_); first | apply g_partM rfl rfl rfl | apply g_partMB rfl rfl rfl | fail))
    | refine gS ?_ | exact s_m | intro _)
  rename_i rb
  refine g_own_nil none 3 60 ?_
  refine g_loop (X := DrX) (fun y => [(0, ptr m), (3, ptr rb), (5, .slice y.q ((ds.take y.n).filter fun y => !r.has y.nm).length y.c), (6, int y.k), (7, int y.n)])
    (fun y => [.own y.q ((ds.take y.n).filter fun y => !r.has y.nm).length y.c 3 (((ds.take y.n).filter fun y => !r.has y.nm).flatMap StrV.cells) 60, rrow rb r, mrow m q ds.length c, Pile H]) (fun y => y.n ≤ ds.length ∧ y.k = ((ds.take y.n).filter fun y => r.has y.nm).length) (fun y => ds.length - y.n) ⟨0, 0, none, 0⟩ ⟨Nat.zero_le _, rfl⟩ (by (repeat (first | exact FrSub.nil | refine FrSub.cons rfl ?_)); first | done | fail) (by (repeat (first | exact Take.nil | apply Take.cons | exact Sel.here | apply Sel.there)); first | done | fail) (fun y hy => ?_)
  obtain ⟨i, n, q2, c2⟩ := y
  obtain ⟨hy, hn⟩ := hy
  dsimp only at hy hn ⊢
  have hfl : ((ds.take i).filter fun y => !r.has y.nm).length ≤ i := Nat.le_trans (List.length_filter_le _ _) (by simp; omega)
  have hfn : ((ds.take i).filter fun y => r.has y.nm).length ≤ i := Nat.le_trans (List.length_filter_le _ _) (by simp; omega)
  repeat (first
    | (refine g_ops ?_; first | refine sO ?_ | refine s_n (fun _ => ?_) | refine s_app (fun _ _ => ?_) | refine s_b0 (fun _ => ?_) | ((fail_if_success refine g_lit rfl rfl rfl ?_); first | apply g_partM rfl rfl rfl | apply g_partMB rfl rfl rfl | fail))
    | refine gS ?_ | exact s_m | intro _)
  refine g_cond_dec rfl (fun h => ?_) (fun h => ?_)
  · have hi' : i < ds.length := by omega
    have htk : (ds.take (i + 1)).filter (fun y => !r.has y.nm) = (ds.take i).filter (fun y => !r.has y.nm) ++ (if (!r.has ds[i].nm) = true then [ds[i]] else []) := by
      rw [List.take_succ_eq_append_getElem hi', List.filter_append]; congr 1; simp only [List.filter_cons, List.filter_nil]
    have htn : ((ds.take (i + 1)).filter fun y => r.has y.nm).length = ((ds.take i).filter fun y => r.has y.nm).length + (if r.has ds[i].nm = true then 1 else 0) := by
      rw [List.take_succ_eq_append_getElem hi', List.filter_append, List.length_append]; congr 1; simp only [List.filter_cons, List.filter_nil]; split <;> rfl
    obtain ⟨b, o, rfl, hcell0⟩ := slAt_elem hM.sl str_len (by decide) (i := i) (a := ds[i]) (by simp [hi'])
    have hnl := (hM.at_ ds[i] (List.getElem_mem _)).nl
    generalize ds[i] = x at hcell0 hnl htk htn
    have hcell := hcell0
    have hin := minside r x.nm hnl
    repeat (first
      | (refine g_ops ?_; first | refine sO ?_ | refine s_n (fun _ => ?_) | refine s_app (fun _ _ => ?_) | refine s_b0 (fun _ => ?_) | ((fail_if_success refine g_lit rfl rfl rfl ?_); first | apply g_partM rfl rfl rfl | apply g_partMB rfl rfl rfl | fail))
      | refine gS ?_ | exact s_m | intro _)
    cases hh : r.has x.nm with
    | true =>
      rw [hh] at hin htk htn
      rw [if_neg (by simp), List.append_nil] at htk
      rw [if_pos rfl] at htn
      refine g_draw (.take 0 (.take 1 (.take 2 (.see 3 [] (.take 4 (.take 5 (.take 6 (.see 7 [] (.see 8 [] (.one 9 .done)))))))))) (by kernel_rfl) (C := [rrow rb r, mrow m (some ⟨b, o, none⟩) ds.length c, Pile H]) (by (repeat (first | exact Take.nil | apply Take.cons | exact Sel.here | apply Sel.there)); first | done | fail) (fun k hd hk => ?_)
      repeat (first
        | (refine gp_take ?_; first | refine pT ?_ | ((fail_if_success refine gp_lit rfl rfl rfl rfl ?_); first | apply gp_guard_dec rfl rfl rfl rfl | apply gp_guard rfl rfl rfl rfl | fail))
        | (refine gp_see ?_; first | refine p_f ?_ | refine pS ?_ | ((fail_if_success refine gp_lit rfl rfl rfl rfl ?_); first | apply gp_guard_dec rfl rfl rfl rfl | apply gp_guard rfl rfl rfl rfl | fail) | refine p_h (hin) hd hk ?_)
        | (refine gp_one ?_; first | refine pO ?_ | refine p_n (fun _ => ?_) | refine p_app (fun _ _ => ?_) | refine p_b0 (fun _ => ?_) | ((fail_if_success refine gp_lit rfl rfl rfl rfl ?_); first | apply gp_guard_dec rfl rfl rfl rfl | apply gp_guard rfl rfl rfl rfl | fail) | refine p_k (hin) ?_)
        | refine gp_two ?_ ?_ | refine gp_done hd hk ?_ | intro _ | refine p_ta hd hk (fun _ _ _ hd hk => ?_) | refine p_ts hd hk (fun _ hd hk => ?_))
      repeat (first
        | (refine g_ops ?_; first | refine sO ?_ | refine s_n (fun _ => ?_) | refine s_app (fun _ _ => ?_) | refine s_b0 (fun _ => ?_) | ((fail_if_success refine g_lit rfl rfl rfl ?_); first | apply g_partM rfl rfl rfl | apply g_partMB rfl rfl rfl | fail))
        | refine gS ?_ | exact s_m | intro _)
      refine g_as 7 (v' := int ((i + 1 : Nat) : Int)) rfl (congrArg (Value.int .i64) (by push_cast; rfl)) ?_
      refine g_as 6 (v' := int ((n + 1 : Nat) : Int)) rfl (congrArg (Value.int .i64) (by push_cast; rfl)) ?_
      rw [← htk]
      exact gA ⟨i + 1, n + 1, q2, c2⟩ (by simp only; omega) ⟨hi', by simp only; omega⟩
    | false =>
      rw [hh] at hin htk htn
      rw [if_pos (by rfl : (!false) = true)] at htk
      rw [if_neg (by simp)] at htn
      refine g_draw (.take 0 (.take 1 (.take 2 (.see 3 [] (.take 4 (.take 5 (.take 6 (.see 7 [] (.see 8 [] (.one 9 .done)))))))))) (by kernel_rfl) (C := [rrow rb r, mrow m (some ⟨b, o, none⟩) ds.length c, Pile H]) (by (repeat (first | exact Take.nil | apply Take.cons | exact Sel.here | apply Sel.there)); first | done | fail) (fun k hd hk => ?_)
      repeat (first
        | (refine gp_take ?_; first | refine pT ?_ | ((fail_if_success refine gp_lit rfl rfl rfl rfl ?_); first | apply gp_guard_dec rfl rfl rfl rfl | apply gp_guard rfl rfl rfl rfl | fail))
        | (refine gp_see ?_; first | refine p_f ?_ | refine pS ?_ | ((fail_if_success refine gp_lit rfl rfl rfl rfl ?_); first | apply gp_guard_dec rfl rfl rfl rfl | apply gp_guard rfl rfl rfl rfl | fail) | refine p_h (hin) hd hk ?_)
        | (refine gp_one ?_; first | refine pO ?_ | refine p_n (fun _ => ?_) | refine p_app (fun _ _ => ?_) | refine p_b0 (fun _ => ?_) | ((fail_if_success refine gp_lit rfl rfl rfl rfl ?_); first | apply gp_guard_dec rfl rfl rfl rfl | apply gp_guard rfl rfl rfl rfl | fail) | refine p_k (hin) ?_)
        | refine gp_two ?_ ?_ | refine gp_done hd hk ?_ | intro _ | refine p_ta hd hk (fun _ _ _ hd hk => ?_) | refine p_ts hd hk (fun _ hd hk => ?_))
      clear hcell
      have hrow := hcell0
      repeat (first
        | (refine g_ops ?_; first | refine sO ?_ | refine s_n (fun _ => ?_) | refine s_app (fun _ _ => ?_) | refine s_b0 (fun _ => ?_) | ((fail_if_success refine g_lit rfl rfl rfl ?_); first | apply g_partM rfl rfl rfl | apply g_partMB rfl rfl rfl | fail))
        | refine gS ?_ | exact s_m | intro _)
      rename_i q' c'
      rw [show ((ds.take i).filter fun y => !r.has y.nm).flatMap StrV.cells ++ x.cells = ((ds.take (i + 1)).filter fun y => !r.has y.nm).flatMap StrV.cells by rw [htk]; simp, show ((ds.take i).filter fun y => !r.has y.nm).length + 1 = ((ds.take (i + 1)).filter fun y => !r.has y.nm).length by rw [htk]; simp]
      refine g_as 7 (v' := int ((i + 1 : Nat) : Int)) rfl (congrArg (Value.int .i64) (by push_cast; rfl)) ?_
      exact gA ⟨i + 1, n, q', c'⟩ (by simp only; omega) ⟨hi', by simp only; omega⟩
  · obtain rfl : i = ds.length := by omega
    rw [List.take_length] at hn ⊢
    subst hn
    refine g_pile (p := q2) (m := (ds.filter fun y => !r.has y.nm).length) (c := c2) (n := 3) (xs := (ds.filter fun y => !r.has y.nm).flatMap StrV.cells) (e := 60) (by (repeat (first | exact Sel.here | apply Sel.there)); first | done | fail) (by (repeat (first | exact Sel.here | apply Sel.there)); first | done | fail) (fun H2 hs2 hA2 => ?_)
    repeat (first
      | (refine g_ops ?_; first | refine sO ?_ | refine s_n (fun _ => ?_) | refine s_app (fun _ _ => ?_) | refine s_b0 (fun _ => ?_) | ((fail_if_success refine g_lit rfl rfl rfl ?_); first | apply g_partM rfl rfl rfl | apply g_partMB rfl rfl rfl | fail))
      | refine gS ?_ | exact s_m | intro _)
    exact gR (⟨q2, c2, H2⟩ : MtX) ⟨hs2, hA2, fun y hy => (hM.at_ y (List.mem_filter.1 hy).1).grow hs2⟩
structure PuX where
  i : Nat
  d : Bool
  l : List StrV
  q : Option Addr
  c : Nat
set_option maxHeartbeats 2000000 in
theorem mput_ (s : StrV) (hs : StrAt (Pile H) s) : Does Tryz.prog 34 [ptr m, .agg s.cells.toArray] [mrow m q ds.length c, Pile H] (X := MtX) (fun _ => .tuple #[])
    (fun x => [mrow m x.q (putS false ds s).length x.c, Pile x.H]) (fun x => HP.sub H x.H ∧ MAt (Pile x.H) x.q (putS false ds s)) := by
  refine fn_intro Tryz.func34 rfl Tryz.ntmps34 rfl (by simp only [argFr, Nat.zero_add, Nat.reduceAdd]; rfl) (fun Γ => ?_)
  repeat (first
    | (refine g_ops ?_; first | refine sO ?_ | refine s_n (fun _ => ?_) | refine s_app (fun _ _ => ?_) | refine s_b0 (fun _ => ?_) | ((fail_if_success refine g_lit rfl rfl rfl ?_); first | apply g_partM rfl rfl rfl | apply g_partMB rfl rfl rfl | fail))
    | refine gS ?_ | exact s_m | intro _)
  rename_i sb
  refine g_own_nil none 3 60 ?_
  refine g_loop (X := PuX) (fun y => [(0, ptr m), (3, ptr sb), (4, .slice y.q y.l.length y.c), (5, .bool y.d), (6, int y.i)])
    (fun y => [.own y.q y.l.length y.c 3 (y.l.flatMap StrV.cells) 60, .row sb s.cells 60, mrow m q ds.length c, Pile H]) (fun y => y.i ≤ ds.length ∧ y.l.length ≤ 2 * y.i ∧ y.l ++ putS y.d (ds.drop y.i) s = putS false ds s) (fun y => ds.length - y.i) ⟨0, false, [], none, 0⟩ ⟨Nat.zero_le _, Nat.zero_le _, rfl⟩ (by (repeat (first | exact FrSub.nil | refine FrSub.cons rfl ?_)); first | done | fail) (by (repeat (first | exact Take.nil | apply Take.cons | exact Sel.here | apply Sel.there)); first | done | fail) (fun y hy => ?_)
  obtain ⟨i, d, l, q2, c2⟩ := y
  obtain ⟨hi, hll, he⟩ := hy
  dsimp only at hi hll he ⊢
  repeat (first
    | (refine g_ops ?_; first | refine sO ?_ | refine s_n (fun _ => ?_) | refine s_app (fun _ _ => ?_) | refine s_b0 (fun _ => ?_) | ((fail_if_success refine g_lit rfl rfl rfl ?_); first | apply g_partM rfl rfl rfl | apply g_partMB rfl rfl rfl | fail))
    | refine gS ?_ | exact s_m | intro _)
  refine g_cond_dec rfl (fun h => ?_) (fun h => ?_)
  · have hi' : i < ds.length := by omega
    rw [List.drop_eq_getElem_cons hi'] at he
    obtain ⟨b, o, rfl, hcell0⟩ := slAt_elem hM.sl str_len (by decide) (i := i) (a := ds[i]) (by simp [hi'])
    generalize ds[i] = x at hcell0 he
    simp only [putS] at he
    have hcell := hcell0
    repeat (first
      | (refine g_ops ?_; first | refine sO ?_ | refine s_n (fun _ => ?_) | refine s_app (fun _ _ => ?_) | refine s_b0 (fun _ => ?_) | ((fail_if_success refine g_lit rfl rfl rfl ?_); first | apply g_partM rfl rfl rfl | apply g_partMB rfl rfl rfl | fail))
      | refine gS ?_ | exact s_m | intro _)
    refine g_cutX (X := Unit) (fun _ => [(30, .bool (!d && leB s.nm x.nm)), (0, ptr m), (3, ptr sb), (4, .slice q2 l.length c2), (5, .bool d), (6, int i)])
      (fun _ => [.own q2 l.length c2 3 (l.flatMap StrV.cells) 60, .row sb s.cells 60, mrow m (some ⟨b, o, none⟩) ds.length c, Pile H]) (fun _ => True) ?_ (fun _ _ => ?_)
    · have hle : leB s.nm x.nm = !bltB x.nm s.nm := leB_eq s.nm x.nm
      cases d with
      | true =>
        refine g_draw (.take 0 (.take 1 (.take 2 (.take 3 (.see 4 [] (.take 5 (.take 6 (.take 7 (.see 8 [] (.take 9 (.take 10 (.take 11 (.see 12 [] (.take 13 (.take 14 .done))))))))))))))) (by kernel_rfl) (take_all _) (fun k hd hk => ?_)
        repeat (first
          | (refine gp_take ?_; first | refine pT ?_ | ((fail_if_success refine gp_lit rfl rfl rfl rfl ?_); first | apply gp_guard_dec rfl rfl rfl rfl | apply gp_guard rfl rfl rfl rfl | fail))
          | (refine gp_see ?_; first | refine p_f ?_ | refine pS ?_ | ((fail_if_success refine gp_lit rfl rfl rfl rfl ?_); first | apply gp_guard_dec rfl rfl rfl rfl | apply gp_guard rfl rfl rfl rfl | fail))
          | (refine gp_one ?_; first | refine pO ?_ | refine p_n (fun _ => ?_) | refine p_app (fun _ _ => ?_) | refine p_b0 (fun _ => ?_) | ((fail_if_success refine gp_lit rfl rfl rfl rfl ?_); first | apply gp_guard_dec rfl rfl rfl rfl | apply gp_guard rfl rfl rfl rfl | fail))
          | refine gp_two ?_ ?_ | refine gp_done hd hk ?_ | intro _ | refine p_ta hd hk (fun _ _ _ hd hk => ?_) | refine p_ts hd hk (fun _ hd hk => ?_))
        repeat (first
          | (refine g_ops ?_; first | refine sO ?_ | refine s_n (fun _ => ?_) | refine s_app (fun _ _ => ?_) | refine s_b0 (fun _ => ?_) | ((fail_if_success refine g_lit rfl rfl rfl ?_); first | apply g_partM rfl rfl rfl | apply g_partMB rfl rfl rfl | fail))
          | refine gS ?_ | exact s_m | intro _)
        exact gM () trivial
      | false =>
        refine g_draw (.take 0 (.take 1 (.take 2 (.take 3 (.see 4 [] (.take 5 (.take 6 (.take 7 (.see 8 [] (.take 9 (.take 10 (.take 11 (.see 12 [] (.take 13 (.take 14 .done))))))))))))))) (by kernel_rfl) (take_all _) (fun k hd hk => ?_)
        rw [hle]
        repeat (first
          | (refine gp_take ?_; first | refine pT ?_ | ((fail_if_success refine gp_lit rfl rfl rfl rfl ?_); first | apply gp_guard_dec rfl rfl rfl rfl | apply gp_guard rfl rfl rfl rfl | fail))
          | (refine gp_see ?_; first | refine p_f ?_ | refine pS ?_ | ((fail_if_success refine gp_lit rfl rfl rfl rfl ?_); first | apply gp_guard_dec rfl rfl rfl rfl | apply gp_guard rfl rfl rfl rfl | fail))
          | (refine gp_one ?_; first | refine pO ?_ | refine p_n (fun _ => ?_) | refine p_app (fun _ _ => ?_) | refine p_b0 (fun _ => ?_) | ((fail_if_success refine gp_lit rfl rfl rfl rfl ?_); first | apply gp_guard_dec rfl rfl rfl rfl | apply gp_guard rfl rfl rfl rfl | fail))
          | refine gp_two ?_ ?_ | refine gp_done hd hk ?_ | intro _ | refine p_ta hd hk (fun _ _ _ hd hk => ?_) | refine p_ts hd hk (fun _ hd hk => ?_))
        exact gM () trivial
    repeat (first | refine g_skip ?_ | refine g_then_normal ?_ | refine g_seq ?_ | refine g_nil ?_)
    refine g_cutX (X := PuX) (fun y => [(0, ptr m), (3, ptr sb), (4, .slice y.q y.l.length y.c), (5, .bool y.d), (6, int i)])
      (fun y => [.own y.q y.l.length y.c 3 (y.l.flatMap StrV.cells) 60, .row sb s.cells 60, mrow m (some ⟨b, o, none⟩) ds.length c, Pile H]) (fun y => y.l.length ≤ 2 * i + 1 ∧ y.l ++ ((if x.nm ≠ s.nm then [x] else []) ++ putS y.d (ds.drop (i + 1)) s) = putS false ds s) ?_ (fun y hy => ?_)
    · refine g_cond rfl (fun hc => ?_) (fun hc => ?_)
      · rw [hc, if_pos rfl] at he
        have hd : (d || leB s.nm x.nm) = true := by revert hc; cases d <;> cases leB s.nm x.nm <;> simp
        rw [hd] at he
        repeat (first
          | (refine g_ops ?_; first | refine sO ?_ | refine s_n (fun _ => ?_) | refine s_app (fun _ _ => ?_) | refine s_b0 (fun _ => ?_) | ((fail_if_success refine g_lit rfl rfl rfl ?_); first | apply g_partM rfl rfl rfl | apply g_partMB rfl rfl rfl | fail))
          | refine gS ?_ | exact s_m | intro _)
        rename_i q' c'
        rw [show l.flatMap StrV.cells ++ s.cells = (l ++ [s]).flatMap StrV.cells by simp, show l.length + 1 = (l ++ [s]).length by simp]
        exact gM (⟨i, true, l ++ [s], q', c'⟩ : PuX) ⟨by simp only [List.length_append, List.length_singleton]; omega, by simpa using he⟩
      · rw [hc, if_neg (by simp), List.nil_append] at he
        have hd : (d || leB s.nm x.nm) = d := by revert hc; cases d <;> cases leB s.nm x.nm <;> simp
        rw [hd] at he
        repeat (first
          | (refine g_ops ?_; first | refine sO ?_ | refine s_n (fun _ => ?_) | refine s_app (fun _ _ => ?_) | refine s_b0 (fun _ => ?_) | ((fail_if_success refine g_lit rfl rfl rfl ?_); first | apply g_partM rfl rfl rfl | apply g_partMB rfl rfl rfl | fail))
          | refine gS ?_ | exact s_m | intro _)
        exact gM (⟨i, d, l, q2, c2⟩ : PuX) ⟨by simp only; omega, he⟩
    · obtain ⟨_, d2, l2, q3, c3⟩ := y
      obtain ⟨hll2, he2⟩ := hy
      dsimp only at hll2 he2 ⊢
      repeat (first
        | (refine g_ops ?_; first | refine sO ?_ | refine s_n (fun _ => ?_) | refine s_app (fun _ _ => ?_) | refine s_b0 (fun _ => ?_) | ((fail_if_success refine g_lit rfl rfl rfl ?_); first | apply g_partM rfl rfl rfl | apply g_partMB rfl rfl rfl | fail))
        | refine gS ?_ | exact s_m | intro _)
      refine g_draw (.take 0 (.take 1 (.take 2 (.see 3 [] (.take 4 (.take 5 (.take 6 (.see 7 [] (.take 8 (.see 9 [] (.take 10 .done))))))))))) (by kernel_rfl) (C := [.row sb s.cells 60, mrow m (some ⟨b, o, none⟩) ds.length c, Pile H]) (by (repeat (first | exact Take.nil | apply Take.cons | exact Sel.here | apply Sel.there)); first | done | fail) (fun k hd hk => ?_)
      repeat (first
        | (refine gp_take ?_; first | refine pT ?_ | ((fail_if_success refine gp_lit rfl rfl rfl rfl ?_); first | apply gp_guard_dec rfl rfl rfl rfl | apply gp_guard rfl rfl rfl rfl | fail))
        | (refine gp_see ?_; first | refine p_f ?_ | refine pS ?_ | ((fail_if_success refine gp_lit rfl rfl rfl rfl ?_); first | apply gp_guard_dec rfl rfl rfl rfl | apply gp_guard rfl rfl rfl rfl | fail))
        | (refine gp_one ?_; first | refine pO ?_ | refine p_n (fun _ => ?_) | refine p_app (fun _ _ => ?_) | refine p_b0 (fun _ => ?_) | ((fail_if_success refine gp_lit rfl rfl rfl rfl ?_); first | apply gp_guard_dec rfl rfl rfl rfl | apply gp_guard rfl rfl rfl rfl | fail))
        | refine gp_two ?_ ?_ | refine gp_done hd hk ?_ | intro _ | refine p_ta hd hk (fun _ _ _ hd hk => ?_) | refine p_ts hd hk (fun _ hd hk => ?_))
      repeat (first
        | (refine g_ops ?_; first | refine sO ?_ | refine s_n (fun _ => ?_) | refine s_app (fun _ _ => ?_) | refine s_b0 (fun _ => ?_) | ((fail_if_success refine g_lit rfl rfl rfl ?_); first | apply g_partM rfl rfl rfl | apply g_partMB rfl rfl rfl | fail))
        | refine gS ?_ | exact s_m | intro _)
      refine g_cond_dec rfl (fun h2 => ?_) (fun h2 => ?_)
      · rw [if_pos h2] at he2
        clear hcell
        have hrow := hcell0
        repeat (first
          | (refine g_ops ?_; first | refine sO ?_ | refine s_n (fun _ => ?_) | refine s_app (fun _ _ => ?_) | refine s_b0 (fun _ => ?_) | ((fail_if_success refine g_lit rfl rfl rfl ?_); first | apply g_partM rfl rfl rfl | apply g_partMB rfl rfl rfl | fail))
          | refine gS ?_ | exact s_m | intro _)
        rename_i q' c'
        rw [show l2.flatMap StrV.cells ++ x.cells = (l2 ++ [x]).flatMap StrV.cells by simp, show l2.length + 1 = (l2 ++ [x]).length by simp]
        refine g_as 6 (v' := int ((i + 1 : Nat) : Int)) rfl (congrArg (Value.int .i64) (by push_cast; rfl)) ?_
        exact gA ⟨i + 1, d2, l2 ++ [x], q', c'⟩ (by simp only; omega) ⟨hi', by simp only [List.length_append, List.length_singleton]; omega, by simpa using he2⟩
      · rw [if_neg h2, List.nil_append] at he2
        repeat (first
          | (refine g_ops ?_; first | refine sO ?_ | refine s_n (fun _ => ?_) | refine s_app (fun _ _ => ?_) | refine s_b0 (fun _ => ?_) | ((fail_if_success refine g_lit rfl rfl rfl ?_); first | apply g_partM rfl rfl rfl | apply g_partMB rfl rfl rfl | fail))
          | refine gS ?_ | exact s_m | intro _)
        refine g_as 6 (v' := int ((i + 1 : Nat) : Int)) rfl (congrArg (Value.int .i64) (by push_cast; rfl)) ?_
        exact gA ⟨i + 1, d2, l2, q3, c3⟩ (by simp only; omega) ⟨hi', by simp only; omega, he2⟩
  · obtain rfl : i = ds.length := by omega
    rw [List.drop_length] at he
    have hmem : ∀ (l : List StrV), l = putS false ds s → ∀ y ∈ l, StrAt (Pile H) y := fun l e y hy => by
      rw [e] at hy
      rcases putS_mem _ _ _ _ hy with rfl | ⟨hy, _⟩
      · exact hs
      · exact hM.at_ y hy
    cases d with
    | true =>
      simp only [putS, if_true, List.append_nil] at he
      have hm := hmem l he
      subst he
      repeat (first
        | (refine g_ops ?_; first | refine sO ?_ | refine s_n (fun _ => ?_) | refine s_app (fun _ _ => ?_) | refine s_b0 (fun _ => ?_) | ((fail_if_success refine g_lit rfl rfl rfl ?_); first | apply g_partM rfl rfl rfl | apply g_partMB rfl rfl rfl | fail))
        | refine gS ?_ | exact s_m | intro _)
      refine g_pile (p := q2) (m := (putS false ds s).length) (c := c2) (n := 3) (xs := (putS false ds s).flatMap StrV.cells) (e := 60) (by (repeat (first | exact Sel.here | apply Sel.there)); first | done | fail) (by (repeat (first | exact Sel.here | apply Sel.there)); first | done | fail) (fun H2 hs2 hA2 => ?_)
      exact g_end (⟨q2, c2, H2⟩ : MtX) rfl (by (repeat (first | exact RVs.nil | apply RVs.tmp rfl | apply RVs.cellA rfl (by (repeat (first | exact Sel.here | apply Sel.there)); first | done | fail) (by (repeat (first | exact Cut.zero | apply Cut.take | apply Cut.skip)); first | done | fail) | apply RVs.cell1 rfl (by (repeat (first | exact Sel.here | apply Sel.there)); first | done | fail) rfl)); first | done | fail) (by (repeat (first | exact Take.nil | apply Take.cons | exact Sel.here | apply Sel.there)); first | done | fail) (by simp [pack]) ⟨hs2, hA2, fun y hy => (hm y hy).grow hs2⟩
    | false =>
      simp only [putS, Bool.false_eq_true, if_false] at he
      have hm := hmem _ he
      repeat (first
        | (refine g_ops ?_; first | refine sO ?_ | refine s_n (fun _ => ?_) | refine s_app (fun _ _ => ?_) | refine s_b0 (fun _ => ?_) | ((fail_if_success refine g_lit rfl rfl rfl ?_); first | apply g_partM rfl rfl rfl | apply g_partMB rfl rfl rfl | fail))
        | refine gS ?_ | exact s_m | intro _)
      rename_i q' c'
      rw [show l.flatMap StrV.cells ++ s.cells = (l ++ [s]).flatMap StrV.cells by simp, show l.length + 1 = (l ++ [s]).length by simp, he]
      rw [he] at hm
      refine g_pile (p := q') (m := (putS false ds s).length) (c := c') (n := 3) (xs := (putS false ds s).flatMap StrV.cells) (e := 60) (by (repeat (first | exact Sel.here | apply Sel.there)); first | done | fail) (by (repeat (first | exact Sel.here | apply Sel.there)); first | done | fail) (fun H2 hs2 hA2 => ?_)
      exact g_end (⟨q', c', H2⟩ : MtX) rfl (by (repeat (first | exact RVs.nil | apply RVs.tmp rfl | apply RVs.cellA rfl (by (repeat (first | exact Sel.here | apply Sel.there)); first | done | fail) (by (repeat (first | exact Cut.zero | apply Cut.take | apply Cut.skip)); first | done | fail) | apply RVs.cell1 rfl (by (repeat (first | exact Sel.here | apply Sel.there)); first | done | fail) rfl)); first | done | fail) (by (repeat (first | exact Take.nil | apply Take.cons | exact Sel.here | apply Sel.there)); first | done | fail) (by simp [pack]) ⟨hs2, hA2, fun y hy => (hm y hy).grow hs2⟩
end
end Go.Proofs.YtcgmliaahdpmcaaGreatDoor
