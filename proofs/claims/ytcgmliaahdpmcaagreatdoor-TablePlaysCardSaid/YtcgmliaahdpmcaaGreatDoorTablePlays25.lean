/- Contracts and laws that the proof stands on. -/
import Derived.Test.YtcgmliaahdpmcaaGreatDoorTablePlays24
set_option linter.unusedSimpArgs false
set_option linter.unusedVariables false
namespace Go.Proofs.YtcgmliaahdpmcaaGreatDoor
open Go.Sl facts
theorem insK_split : ∀ (K : List Kn) (k : Kn) (a : Nat), a ≤ K.length → (∀ (j : Nat) (hj : j < K.length), j < a → ltB k.key K[j].key = false) → (∀ (h : a < K.length), ltB k.key K[a].key = true) → insK K k = K.take a ++ k :: K.drop a
  | [], k, a, ha, _, _ => by
    obtain rfl : a = 0 := by simpa using ha
    rfl
  | x :: K, k, 0, _, _, h => by
    have := h (by simp)
    simp only [insK]
    rw [if_pos (show ltB k.key x.key = true from this)]
    rfl
  | x :: K, k, a + 1, ha, hn, h => by
    have h0 := hn 0 (by simp) (by omega)
    simp only [insK]
    rw [if_neg (by rw [show ltB k.key x.key = false from h0]; simp), insK_split K k a (by simpa using ha) (fun j hj hja => by have := hn (j + 1) (by simpa using hj) (by omega); simpa using this) (fun h' => by have := h (by simpa using h'); simpa using this)]
    rfl
theorem insK_at {K : List Kn} {k : Kn} {a : Nat} (hs : Asc (K.map Kn.key)) (ha : a ≤ K.length) (h1 : ∀ (j : Nat) (hj : j < K.length), a ≤ j → ltB k.key K[j].key = true) (h2 : ∀ (h : a - 1 < K.length), 0 < a → ltB k.key K[a - 1].key = false) : insK K k = K.take a ++ k :: K.drop a := by
  refine insK_split K k a ha (fun j hj hja => ?_) (fun h => h1 a h (Nat.le_refl _))
  have h3 := h2 (by omega) (by omega)
  by_cases e : j = a - 1
  · subst e; exact h3
  · have h4 : ltB K[j].key K[a - 1].key = true := by
      have := List.pairwise_iff_getElem.1 hs j (a - 1) (by simpa using hj) (by simp; omega) (by omega)
      simpa using this
    cases h5 : ltB k.key K[j].key with
    | false => rfl
    | true => rw [ltB_trans h5 h4] at h3; cases h3
def shf (K : List Kn) (j : Nat) (w : Kn) : List Kn := K.take j ++ w :: K.drop j
theorem shf_len {K : List Kn} {j : Nat} (w : Kn) (h : j ≤ K.length) : (shf K j w).length = K.length + 1 := by simp [shf]; omega
theorem shf_end (K : List Kn) (w : Kn) : shf K K.length w = K ++ [w] := by simp [shf]
theorem shf_prev {K : List Kn} {j : Nat} (w : Kn) (h : j < K.length) : (shf K (j + 1) w)[j]? = some K[j] := by
  unfold shf
  rw [List.getElem?_append_left (by simp; omega), List.getElem?_take]
  simp [h]
theorem shf_put {K : List Kn} {j : Nat} (w k : Kn) (h : j ≤ K.length) : (shf K j w).set j k = shf K j k := by
  unfold shf
  rw [List.set_append_right _ _ (by simp; omega)]
  congr 1
  have : j - (K.take j).length = 0 := by simp; omega
  rw [this]; rfl
theorem shf_step {K : List Kn} {j : Nat} (w : Kn) (h : j < K.length) : (shf K (j + 1) w).set (j + 1) K[j] = shf K j K[j] := by
  rw [shf_put w K[j] (by omega)]
  unfold shf
  rw [List.take_succ_eq_append_getElem h, List.drop_eq_getElem_cons h, List.append_assoc]
  rfl
theorem putS_len : ∀ (d : Bool) (ds : List StrV) (s : StrV), (putS d ds s).length ≤ ds.length + (if d = true then 0 else 1)
  | d, [], s => by simp only [putS]; split <;> simp
  | d, x :: l, s => by
    have ih := putS_len (d || leB s.nm x.nm) l s
    simp only [putS, List.length_append, List.length_cons]
    have h1 : (if x.nm ≠ s.nm then [x] else []).length ≤ 1 := by split <;> simp
    generalize (if x.nm ≠ s.nm then [x] else []) = g at h1 ⊢
    generalize leB s.nm x.nm = w at ih ⊢
    cases d <;> cases w <;> simp only [Bool.not_true, Bool.not_false, Bool.false_and, Bool.true_and, Bool.false_or, Bool.true_or, if_true, Bool.false_eq_true, if_false, List.length_nil, List.length_singleton] at ih ⊢ <;> omega
def dSort (x : StrV) : StrD := (x.nm, x.evs, sortK x.ks)
theorem whole_false_key {s : StrV} {i : Nat} (hi : i < s.ks.length) (h : keyAt s.evs s.ks[i] = false) : wholeB s = false := by
  rw [← Bool.not_eq_true, whole_iff]
  rintro ⟨_, _, _, _, _, _, h7⟩
  rw [h7 _ (List.getElem_mem hi)] at h; cases h
theorem whole_false_dup {s : StrV} {i j : Nat} (hi : i < s.ks.length) (hj : j < i) (h : (s.ks[j]'(by omega)).key = s.ks[i].key) : wholeB s = false := by
  rw [← Bool.not_eq_true, whole_iff]
  rintro ⟨_, _, _, _, _, h6, _⟩
  have := List.pairwise_iff_getElem.1 h6 j i (by simp; omega) (by simpa using hi) hj
  simp at this
  exact this h
attribute [local irreducible] Code.wp wpList Exit.then Exit.inBlock bodyPost Back MidQ G GP QStep VStep CStep SStep Does Post Reads
set_option maxHeartbeats 4000000 in
theorem msound {H : HP} (s : StrV) (hs : StrAt (Pile H) s) (hm : StrSm s) (hl : s.evs.length ≤ 40000) (hkl : s.ks.length ≤ 40000) : Does1 Tryz.prog 57 [.agg s.cells.toArray] [Pile H] (.bool (wholeB s)) := by
  have hes := rencodeStream s hs hm hl hkl
  have hwh := whole_iff s
  refine fn_intro Tryz.func57 rfl Tryz.ntmps57 rfl (by simp only [argFr, Nat.zero_add, Nat.reduceAdd]; rfl) (fun Γ => ?_)
  repeat ((fail_if_success refine s_at 11 ?_); first
    | (refine g_ops ?_; first | refine sO ?_ | refine s_n (fun _ => ?_) | refine s_app (fun _ _ => ?_) | refine s_b0 (fun _ => ?_) | ((fail_if_success refine g_lit rfl rfl rfl ?_); first | apply g_partM rfl rfl rfl | apply g_partMB rfl rfl rfl | fail) | refine s_c (hes) (fun _ _ => ?_))
    | refine gS ?_ | exact s_m | intro _)
  rename_i b1 y hy
  dsimp only [List.cons_append, List.nil_append]
  have hd : decide ((y.bs.length : Int) = 0) = !strOk s := by
    rw [Bool.eq_iff_iff, decide_eq_true_eq]
    constructor
    · intro h; have := hy.1 (by omega); simp [this]
    · intro h; have := hy.2 (by simpa using h); omega
  cases hso : strOk s with
  | false =>
    rw [hso] at hd
    have hf : wholeB s = false := by unfold wholeB; rw [hso]; rfl
    refine g_as 10 (v' := .bool true) rfl (congrArg Value.bool hd) ?_
    repeat (first
      | (refine g_ops ?_; first | refine sO ?_ | refine s_n (fun _ => ?_) | refine s_app (fun _ _ => ?_) | refine s_b0 (fun _ => ?_) | ((fail_if_success refine g_lit rfl rfl rfl ?_); first | apply g_partM rfl rfl rfl | apply g_partMB rfl rfl rfl | fail))
      | refine gS ?_ | exact s_m | intro _)
    exact g_ret () rfl (by (repeat (first | exact RVs.nil | apply RVs.tmp rfl | apply RVs.cellA rfl (by (repeat (first | exact Sel.here | apply Sel.there)); first | done | fail) (by (repeat (first | exact Cut.zero | apply Cut.take | apply Cut.skip)); first | done | fail) | apply RVs.cell1 rfl (by (repeat (first | exact Sel.here | apply Sel.there)); first | done | fail) rfl)); first | done | fail) (by (repeat (first | exact Take.nil | apply Take.cons | exact Sel.here | apply Sel.there)); first | done | fail) (by simp [pack, hf]) trivial
  | true =>
    rw [hso] at hd
    refine g_as 10 (v' := .bool false) rfl (congrArg Value.bool hd) ?_
    obtain ⟨nm, ep, ec, evs, kp, kc, ks⟩ := s
    have hxe := hs.e
    have hxk := hs.k
    have hko : ∀ k ∈ ks, k.ok = true := by
      unfold strOk at hso
      simp only [Bool.and_eq_true, List.all_eq_true] at hso
      exact hso.2.2
    dsimp only [StrV.cells] at hxe hxk hl hkl ⊢
    repeat (first
      | (refine g_ops ?_; first | refine sO ?_ | refine s_n (fun _ => ?_) | refine s_app (fun _ _ => ?_) | refine s_b0 (fun _ => ?_) | ((fail_if_success refine g_lit rfl rfl rfl ?_); first | apply g_partM rfl rfl rfl | apply g_partMB rfl rfl rfl | fail))
      | refine gS ?_ | exact s_m | intro _)
    refine g_cond_dec rfl (fun h => ?_) (fun h => ?_)
    · have hf : wholeB ⟨nm, ep, ec, evs, kp, kc, ks⟩ = false := by
        rw [← Bool.not_eq_true, whole_iff]
        rintro ⟨_, _, _, h4, _⟩
        exact h4 (List.eq_nil_of_length_eq_zero (show evs.length = 0 by have : (evs.length : Int) = 0 := h; omega))
      repeat (first
        | (refine g_ops ?_; first | refine sO ?_ | refine s_n (fun _ => ?_) | refine s_app (fun _ _ => ?_) | refine s_b0 (fun _ => ?_) | ((fail_if_success refine g_lit rfl rfl rfl ?_); first | apply g_partM rfl rfl rfl | apply g_partMB rfl rfl rfl | fail))
        | refine gS ?_ | exact s_m | intro _)
      exact g_ret () rfl (by (repeat (first | exact RVs.nil | apply RVs.tmp rfl | apply RVs.cellA rfl (by (repeat (first | exact Sel.here | apply Sel.there)); first | done | fail) (by (repeat (first | exact Cut.zero | apply Cut.take | apply Cut.skip)); first | done | fail) | apply RVs.cell1 rfl (by (repeat (first | exact Sel.here | apply Sel.there)); first | done | fail) rfl)); first | done | fail) (by (repeat (first | exact Take.nil | apply Take.cons | exact Sel.here | apply Sel.there)); first | done | fail) (by simp [pack, hf]) trivial
    · have hne : evs ≠ [] := fun e => h (by rw [e]; rfl)
      have hga := goes_all evs 0
      repeat (first
        | (refine g_ops ?_; first | refine sO ?_ | refine s_n (fun _ => ?_) | refine s_app (fun _ _ => ?_) | refine s_b0 (fun _ => ?_) | ((fail_if_success refine g_lit rfl rfl rfl ?_); first | apply g_partM rfl rfl rfl | apply g_partMB rfl rfl rfl | fail))
        | refine gS ?_ | exact s_m | intro _)
      refine g_loop (X := Nat) (fun i => [(1, ptr b1), (2, .bool false), (3, int i)]) (fun _ => [.row b1 [.string nm, .slice ep evs.length ec, .slice kp ks.length kc] 60, Pile H]) (fun i => i ≤ evs.length ∧ ∀ (j : Nat) (hj : j < evs.length), j < i → evs[j].ver = 0 + 1 + j) (fun i => evs.length - i) 0 ⟨Nat.zero_le _, fun j _ h => by omega⟩ (by (repeat (first | exact FrSub.nil | refine FrSub.cons rfl ?_)); first | done | fail) (by (repeat (first | exact Take.nil | apply Take.cons | exact Sel.here | apply Sel.there)); first | done | fail) (fun i hi => ?_)
      obtain ⟨hi, hall⟩ := hi
      repeat (first
        | (refine g_ops ?_; first | refine sO ?_ | refine s_n (fun _ => ?_) | refine s_app (fun _ _ => ?_) | refine s_b0 (fun _ => ?_) | ((fail_if_success refine g_lit rfl rfl rfl ?_); first | apply g_partM rfl rfl rfl | apply g_partMB rfl rfl rfl | fail))
        | refine gS ?_ | exact s_m | intro _)
      refine g_cond_dec rfl (fun h1 => ?_) (fun h1 => ?_)
      · have hi' : i < evs.length := by omega
        obtain ⟨b, o, rfl, hcell⟩ := slAt_elem hxe ev_len (by decide) (i := i) (a := evs[i]) (by simp [hi'])
        generalize hx : evs[i] = x at hcell
        repeat (first
          | (refine g_ops ?_; first | refine sO ?_ | refine s_n (fun _ => ?_) | refine s_app (fun _ _ => ?_) | refine s_b0 (fun _ => ?_) | ((fail_if_success refine g_lit rfl rfl rfl ?_); first | apply g_partM rfl rfl rfl | apply g_partMB rfl rfl rfl | fail))
          | refine gS ?_ | exact s_m | intro _)
        refine g_cond_dec rfl (fun h2 => ?_) (fun h2 => ?_)
        · have hf : wholeB ⟨nm, some ⟨b, o, none⟩, ec, evs, kp, kc, ks⟩ = false := by
            rw [← Bool.not_eq_true, whole_iff]
            rintro ⟨_, _, _, _, h5, _⟩
            have := hga.1 h5 i hi'
            rw [hx] at this
            exact absurd (by omega) h2
          repeat (first
            | (refine g_ops ?_; first | refine sO ?_ | refine s_n (fun _ => ?_) | refine s_app (fun _ _ => ?_) | refine s_b0 (fun _ => ?_) | ((fail_if_success refine g_lit rfl rfl rfl ?_); first | apply g_partM rfl rfl rfl | apply g_partMB rfl rfl rfl | fail))
            | refine gS ?_ | exact s_m | intro _)
          exact g_ret () rfl (by (repeat (first | exact RVs.nil | apply RVs.tmp rfl | apply RVs.cellA rfl (by (repeat (first | exact Sel.here | apply Sel.there)); first | done | fail) (by (repeat (first | exact Cut.zero | apply Cut.take | apply Cut.skip)); first | done | fail) | apply RVs.cell1 rfl (by (repeat (first | exact Sel.here | apply Sel.there)); first | done | fail) rfl)); first | done | fail) (by (repeat (first | exact Take.nil | apply Take.cons | exact Sel.here | apply Sel.there)); first | done | fail) (by simp [pack, hf]) trivial
        · have h3 : x.ver = 0 + 1 + i := by have := Classical.not_not.1 h2; omega
          repeat (first
            | (refine g_ops ?_; first | refine sO ?_ | refine s_n (fun _ => ?_) | refine s_app (fun _ _ => ?_) | refine s_b0 (fun _ => ?_) | ((fail_if_success refine g_lit rfl rfl rfl ?_); first | apply g_partM rfl rfl rfl | apply g_partMB rfl rfl rfl | fail))
            | refine gS ?_ | exact s_m | intro _)
          refine g_as 3 (v' := int ((i + 1 : Nat) : Int)) rfl (congrArg (Value.int .i64) (by push_cast; rfl)) ?_
          refine gA (i + 1) (by omega) ⟨hi', fun j hj hji => ?_⟩
          by_cases e : j = i
          · subst e; rw [hx]; exact h3
          · exact hall j hj (by omega)
      · have hgo : goesB evs 0 = true := hga.2 fun j hj => hall j hj (by omega)
        clear hall hga
        repeat (first
          | (refine g_ops ?_; first | refine sO ?_ | refine s_n (fun _ => ?_) | refine s_app (fun _ _ => ?_) | refine s_b0 (fun _ => ?_) | ((fail_if_success refine g_lit rfl rfl rfl ?_); first | apply g_partM rfl rfl rfl | apply g_partMB rfl rfl rfl | fail))
          | refine gS ?_ | exact s_m | intro _)
        refine g_loop (X := Nat) (fun i => [(1, ptr b1), (2, .bool false), (4, int i)]) (fun _ => [.row b1 [.string nm, .slice ep evs.length ec, .slice kp ks.length kc] 60, Pile H]) (fun i => i ≤ ks.length ∧ ((ks.take i).map Kn.key).Nodup ∧ ∀ k ∈ ks.take i, keyAt evs k = true) (fun i => ks.length - i) 0 ⟨Nat.zero_le _, .nil, by simp⟩ (by (repeat (first | exact FrSub.nil | refine FrSub.cons rfl ?_)); first | done | fail) (by (repeat (first | exact Take.nil | apply Take.cons | exact Sel.here | apply Sel.there)); first | done | fail) (fun i hi => ?_)
        obtain ⟨hi, hnd, hall⟩ := hi
        repeat (first
          | (refine g_ops ?_; first | refine sO ?_ | refine s_n (fun _ => ?_) | refine s_app (fun _ _ => ?_) | refine s_b0 (fun _ => ?_) | ((fail_if_success refine g_lit rfl rfl rfl ?_); first | apply g_partM rfl rfl rfl | apply g_partMB rfl rfl rfl | fail))
          | refine gS ?_ | exact s_m | intro _)
        refine g_cond_dec rfl (fun h1 => ?_) (fun h1 => ?_)
        · have hi' : i < ks.length := by omega
          obtain ⟨kb, ko, rfl, hrow⟩ := slAt_elem hxk kn_len (by decide) (i := i) (a := ks[i]) (by simp [hi'])
          have htk : ks.take (i + 1) = ks.take i ++ [ks[i]] := by rw [List.take_succ_eq_append_getElem hi']
          have hok := hko ks[i] (List.getElem_mem _)
          have hwk := whole_false_key (s := ⟨nm, ep, ec, evs, some ⟨kb, ko, none⟩, kc, ks⟩) hi'
          have hwd := fun j hj => whole_false_dup (s := ⟨nm, ep, ec, evs, some ⟨kb, ko, none⟩, kc, ks⟩) (j := j) hi' hj
          dsimp only at hwk hwd
          generalize hx : ks[i] = k at hrow htk hok hwk hwd
          have hf1 : 1 ≤ k.first := by
            simp only [Kn.ok, Bool.and_eq_true, decide_eq_true_eq] at hok
            exact hok.2.2.1.1
          repeat (first
            | (refine g_ops ?_; first | refine sO ?_ | refine s_n (fun _ => ?_) | refine s_app (fun _ _ => ?_) | refine s_b0 (fun _ => ?_) | ((fail_if_success refine g_lit rfl rfl rfl ?_); first | apply g_partM rfl rfl rfl | apply g_partMB rfl rfl rfl | fail))
            | refine gS ?_ | exact s_m | intro _)
          by_cases hgt : (evs.length : Int) < k.first
          · have hf := hwk (by simp [keyAt]; omega)
            refine g_draw (.take 0 (.see 1 [] (.take 2 (.see 3 [] (.take 4 (.take 5 (.take 6 (.take 7 (.see 8 [] (.take 9 (.see 10 [] (.take 11 (.take 12 (.take 13 (.see 14 [] (.take 15 (.see 16 [] (.take 17 (.take 18 .done))))))))))))))))))) (by kernel_rfl) (take_all _) (fun m hd hk => ?_)
            repeat (first
              | (refine gp_take ?_; first | refine pT ?_ | ((fail_if_success refine gp_lit rfl rfl rfl rfl ?_); first | apply gp_guard_dec rfl rfl rfl rfl | apply gp_guard rfl rfl rfl rfl | fail))
              | (refine gp_see ?_; first | refine p_f ?_ | refine pS ?_ | ((fail_if_success refine gp_lit rfl rfl rfl rfl ?_); first | apply gp_guard_dec rfl rfl rfl rfl | apply gp_guard rfl rfl rfl rfl | fail))
              | (refine gp_one ?_; first | refine pO ?_ | refine p_n (fun _ => ?_) | refine p_app (fun _ _ => ?_) | refine p_b0 (fun _ => ?_) | ((fail_if_success refine gp_lit rfl rfl rfl rfl ?_); first | apply gp_guard_dec rfl rfl rfl rfl | apply gp_guard rfl rfl rfl rfl | fail))
              | refine gp_two ?_ ?_ | refine gp_done hd hk ?_ | intro _ | refine p_ta hd hk (fun _ _ _ hd hk => ?_) | refine p_ts hd hk (fun _ hd hk => ?_))
            refine gp_as 51 (v' := .bool true) rfl (congrArg Value.bool (decide_eq_true hgt)) ?_
            repeat (first
              | (refine gp_take ?_; first | refine pT ?_ | ((fail_if_success refine gp_lit rfl rfl rfl rfl ?_); first | apply gp_guard_dec rfl rfl rfl rfl | apply gp_guard rfl rfl rfl rfl | fail))
              | (refine gp_see ?_; first | refine p_f ?_ | refine pS ?_ | ((fail_if_success refine gp_lit rfl rfl rfl rfl ?_); first | apply gp_guard_dec rfl rfl rfl rfl | apply gp_guard rfl rfl rfl rfl | fail))
              | (refine gp_one ?_; first | refine pO ?_ | refine p_n (fun _ => ?_) | refine p_app (fun _ _ => ?_) | refine p_b0 (fun _ => ?_) | ((fail_if_success refine gp_lit rfl rfl rfl rfl ?_); first | apply gp_guard_dec rfl rfl rfl rfl | apply gp_guard rfl rfl rfl rfl | fail))
              | refine gp_two ?_ ?_ | refine gp_done hd hk ?_ | intro _ | refine p_ta hd hk (fun _ _ _ hd hk => ?_) | refine p_ts hd hk (fun _ hd hk => ?_))
            repeat (first
              | (refine g_ops ?_; first | refine sO ?_ | refine s_n (fun _ => ?_) | refine s_app (fun _ _ => ?_) | refine s_b0 (fun _ => ?_) | ((fail_if_success refine g_lit rfl rfl rfl ?_); first | apply g_partM rfl rfl rfl | apply g_partMB rfl rfl rfl | fail))
              | refine gS ?_ | exact s_m | intro _)
            exact g_ret () rfl (by (repeat (first | exact RVs.nil | apply RVs.tmp rfl | apply RVs.cellA rfl (by (repeat (first | exact Sel.here | apply Sel.there)); first | done | fail) (by (repeat (first | exact Cut.zero | apply Cut.take | apply Cut.skip)); first | done | fail) | apply RVs.cell1 rfl (by (repeat (first | exact Sel.here | apply Sel.there)); first | done | fail) rfl)); first | done | fail) (by (repeat (first | exact Take.nil | apply Take.cons | exact Sel.here | apply Sel.there)); first | done | fail) (by simp [pack, hf]) trivial
          · have hlt : (k.first - 1).toNat < evs.length := by omega
            obtain ⟨eb, eo, rfl, hcell⟩ := slAt_elem hxe ev_len (by decide) (i := (k.first - 1).toNat) (a := evs[(k.first - 1).toNat]) (by simp [hlt])
            have hka : keyAt evs k = decide (evs[(k.first - 1).toNat].s.w = k.s.w ∧ evs[(k.first - 1).toNat].s.l = k.s.l ∧ evs[(k.first - 1).toNat].s.n = k.s.n) := by
              unfold keyAt stampAt
              rw [decide_eq_true (by omega), List.getElem?_eq_getElem hlt, Bool.true_and]
            generalize evs[(k.first - 1).toNat] = e at hcell hka
            refine g_draw (.take 0 (.see 1 [] (.take 2 (.see 3 [] (.take 4 (.take 5 (.take 6 (.take 7 (.see 8 [] (.take 9 (.see 10 [] (.take 11 (.take 12 (.take 13 (.see 14 [] (.take 15 (.see 16 [] (.take 17 (.take 18 .done))))))))))))))))))) (by kernel_rfl) (take_all _) (fun m hd hk => ?_)
            repeat (first
              | (refine gp_take ?_; first | refine pT ?_ | ((fail_if_success refine gp_lit rfl rfl rfl rfl ?_); first | apply gp_guard_dec rfl rfl rfl rfl | apply gp_guard rfl rfl rfl rfl | fail))
              | (refine gp_see ?_; first | refine p_f ?_ | refine pS ?_ | ((fail_if_success refine gp_lit rfl rfl rfl rfl ?_); first | apply gp_guard_dec rfl rfl rfl rfl | apply gp_guard rfl rfl rfl rfl | fail))
              | (refine gp_one ?_; first | refine pO ?_ | refine p_n (fun _ => ?_) | refine p_app (fun _ _ => ?_) | refine p_b0 (fun _ => ?_) | ((fail_if_success refine gp_lit rfl rfl rfl rfl ?_); first | apply gp_guard_dec rfl rfl rfl rfl | apply gp_guard rfl rfl rfl rfl | fail))
              | refine gp_two ?_ ?_ | refine gp_done hd hk ?_ | intro _ | refine p_ta hd hk (fun _ _ _ hd hk => ?_) | refine p_ts hd hk (fun _ hd hk => ?_))
            refine gp_as 51 (v' := .bool false) rfl (congrArg Value.bool (decide_eq_false hgt)) ?_
            repeat (first
              | (refine gp_take ?_; first | refine pT ?_ | ((fail_if_success refine gp_lit rfl rfl rfl rfl ?_); first | apply gp_guard_dec rfl rfl rfl rfl | apply gp_guard rfl rfl rfl rfl | fail))
              | (refine gp_see ?_; first | refine p_f ?_ | refine pS ?_ | ((fail_if_success refine gp_lit rfl rfl rfl rfl ?_); first | apply gp_guard_dec rfl rfl rfl rfl | apply gp_guard rfl rfl rfl rfl | fail))
              | (refine gp_one ?_; first | refine pO ?_ | refine p_n (fun _ => ?_) | refine p_app (fun _ _ => ?_) | refine p_b0 (fun _ => ?_) | ((fail_if_success refine gp_lit rfl rfl rfl rfl ?_); first | apply gp_guard_dec rfl rfl rfl rfl | apply gp_guard rfl rfl rfl rfl | fail))
              | refine gp_two ?_ ?_ | refine gp_done hd hk ?_ | intro _ | refine p_ta hd hk (fun _ _ _ hd hk => ?_) | refine p_ts hd hk (fun _ hd hk => ?_))
            refine g_as 63 (v' := .bool (!keyAt evs k)) rfl (congrArg Value.bool (by rw [hka, Bool.eq_iff_iff]; simp)) ?_
            rename_i b5
            cases hkk : keyAt evs k with
            | false =>
              have hf := hwk hkk
              refine g_as 63 (v' := .bool true) rfl rfl ?_
              repeat (first
                | (refine g_ops ?_; first | refine sO ?_ | refine s_n (fun _ => ?_) | refine s_app (fun _ _ => ?_) | refine s_b0 (fun _ => ?_) | ((fail_if_success refine g_lit rfl rfl rfl ?_); first | apply g_partM rfl rfl rfl | apply g_partMB rfl rfl rfl | fail))
                | refine gS ?_ | exact s_m | intro _)
              exact g_ret () rfl (by (repeat (first | exact RVs.nil | apply RVs.tmp rfl | apply RVs.cellA rfl (by (repeat (first | exact Sel.here | apply Sel.there)); first | done | fail) (by (repeat (first | exact Cut.zero | apply Cut.take | apply Cut.skip)); first | done | fail) | apply RVs.cell1 rfl (by (repeat (first | exact Sel.here | apply Sel.there)); first | done | fail) rfl)); first | done | fail) (by (repeat (first | exact Take.nil | apply Take.cons | exact Sel.here | apply Sel.there)); first | done | fail) (by simp [pack, hf]) trivial
            | true =>
              refine g_as 63 (v' := .bool false) rfl rfl ?_
              clear hcell
              repeat (first
                | (refine g_ops ?_; first | refine sO ?_ | refine s_n (fun _ => ?_) | refine s_app (fun _ _ => ?_) | refine s_b0 (fun _ => ?_) | ((fail_if_success refine g_lit rfl rfl rfl ?_); first | apply g_partM rfl rfl rfl | apply g_partMB rfl rfl rfl | fail))
                | refine gS ?_ | exact s_m | intro _)
              dsimp only [List.cons_append, List.nil_append]
              refine g_loop (X := Nat) (fun j => [(1, ptr b1), (2, .bool false), (4, int i), (5, ptr b5), (6, int j)]) (fun _ => [.row b5 k.cells 53, .row b1 [.string nm, .slice (some ⟨eb, eo, none⟩) evs.length ec, .slice (some ⟨kb, ko, none⟩) ks.length kc] 60, Pile H]) (fun j => j ≤ i ∧ ∀ (j' : Nat) (hj : j' < ks.length), j' < j → ks[j'].key ≠ k.key) (fun j => i - j) 0 ⟨Nat.zero_le _, fun j _ h => by omega⟩ (by (repeat (first | exact FrSub.nil | refine FrSub.cons rfl ?_)); first | done | fail) (by (repeat (first | exact Take.nil | apply Take.cons | exact Sel.here | apply Sel.there)); first | done | fail) (fun j hj => ?_)
              obtain ⟨hj, hne⟩ := hj
              repeat (first
                | (refine g_ops ?_; first | refine sO ?_ | refine s_n (fun _ => ?_) | refine s_app (fun _ _ => ?_) | refine s_b0 (fun _ => ?_) | ((fail_if_success refine g_lit rfl rfl rfl ?_); first | apply g_partM rfl rfl rfl | apply g_partMB rfl rfl rfl | fail))
                | refine gS ?_ | exact s_m | intro _)
              refine g_cond_dec rfl (fun h3 => ?_) (fun h3 => ?_)
              · have hj' : j < ks.length := by omega
                obtain ⟨kb', ko', e', hcell⟩ := slAt_elem hxk kn_len (by decide) (i := j) (a := ks[j]) (by simp [hj'])
                simp only [Option.some.injEq, Addr.mk.injEq, and_true] at e'
                obtain ⟨rfl, rfl⟩ := e'
                have hdj := hwd j (by omega)
                generalize hxj : ks[j] = k2 at hcell hdj
                repeat (first
                  | (refine g_ops ?_; first | refine sO ?_ | refine s_n (fun _ => ?_) | refine s_app (fun _ _ => ?_) | refine s_b0 (fun _ => ?_) | ((fail_if_success refine g_lit rfl rfl rfl ?_); first | apply g_partM rfl rfl rfl | apply g_partMB rfl rfl rfl | fail))
                  | refine gS ?_ | exact s_m | intro _)
                refine g_draw (.take 0 (.see 1 [] (.take 2 (.take 3 (.take 4 (.see 5 [] (.take 6 (.see 7 [] (.take 8 .done))))))))) (by kernel_rfl) (take_all _) (fun m hd hk => ?_)
                repeat (first
                  | (refine gp_take ?_; first | refine pT ?_ | ((fail_if_success refine gp_lit rfl rfl rfl rfl ?_); first | apply gp_guard_dec rfl rfl rfl rfl | apply gp_guard rfl rfl rfl rfl | fail))
                  | (refine gp_see ?_; first | refine p_f ?_ | refine pS ?_ | ((fail_if_success refine gp_lit rfl rfl rfl rfl ?_); first | apply gp_guard_dec rfl rfl rfl rfl | apply gp_guard rfl rfl rfl rfl | fail))
                  | (refine gp_one ?_; first | refine pO ?_ | refine p_n (fun _ => ?_) | refine p_app (fun _ _ => ?_) | refine p_b0 (fun _ => ?_) | ((fail_if_success refine gp_lit rfl rfl rfl rfl ?_); first | apply gp_guard_dec rfl rfl rfl rfl | apply gp_guard rfl rfl rfl rfl | fail))
                  | refine gp_two ?_ ?_ | refine gp_done hd hk ?_ | intro _ | refine p_ta hd hk (fun _ _ _ hd hk => ?_) | refine p_ts hd hk (fun _ hd hk => ?_))
                repeat (first
                  | (refine g_ops ?_; first | refine sO ?_ | refine s_n (fun _ => ?_) | refine s_app (fun _ _ => ?_) | refine s_b0 (fun _ => ?_) | ((fail_if_success refine g_lit rfl rfl rfl ?_); first | apply g_partM rfl rfl rfl | apply g_partMB rfl rfl rfl | fail))
                  | refine gS ?_ | exact s_m | intro _)
                refine g_cond_dec rfl (fun h4 => ?_) (fun h4 => ?_)
                · have hf := hdj h4
                  repeat (first
                    | (refine g_ops ?_; first | refine sO ?_ | refine s_n (fun _ => ?_) | refine s_app (fun _ _ => ?_) | refine s_b0 (fun _ => ?_) | ((fail_if_success refine g_lit rfl rfl rfl ?_); first | apply g_partM rfl rfl rfl | apply g_partMB rfl rfl rfl | fail))
                    | refine gS ?_ | exact s_m | intro _)
                  exact g_ret () rfl (by (repeat (first | exact RVs.nil | apply RVs.tmp rfl | apply RVs.cellA rfl (by (repeat (first | exact Sel.here | apply Sel.there)); first | done | fail) (by (repeat (first | exact Cut.zero | apply Cut.take | apply Cut.skip)); first | done | fail) | apply RVs.cell1 rfl (by (repeat (first | exact Sel.here | apply Sel.there)); first | done | fail) rfl)); first | done | fail) (by (repeat (first | exact Take.nil | apply Take.cons | exact Sel.here | apply Sel.there)); first | done | fail) (by simp [pack, hf]) trivial
                · repeat (first
                    | (refine g_ops ?_; first | refine sO ?_ | refine s_n (fun _ => ?_) | refine s_app (fun _ _ => ?_) | refine s_b0 (fun _ => ?_) | ((fail_if_success refine g_lit rfl rfl rfl ?_); first | apply g_partM rfl rfl rfl | apply g_partMB rfl rfl rfl | fail))
                    | refine gS ?_ | exact s_m | intro _)
                  refine g_as 6 (v' := int ((j + 1 : Nat) : Int)) rfl (congrArg (Value.int .i64) (by push_cast; rfl)) ?_
                  refine gA (j + 1) (by omega) ⟨by omega, fun j' hj2 hjj => ?_⟩
                  by_cases e : j' = j
                  · subst e; rw [hxj]; exact h4
                  · exact hne j' hj2 (by omega)
              · obtain rfl : j = i := by omega
                repeat (first
                  | (refine g_ops ?_; first | refine sO ?_ | refine s_n (fun _ => ?_) | refine s_app (fun _ _ => ?_) | refine s_b0 (fun _ => ?_) | ((fail_if_success refine g_lit rfl rfl rfl ?_); first | apply g_partM rfl rfl rfl | apply g_partMB rfl rfl rfl | fail))
                  | refine gS ?_ | exact s_m | intro _)
                refine g_as 4 (v' := int ((j + 1 : Nat) : Int)) rfl (congrArg (Value.int .i64) (by push_cast; rfl)) ?_
                refine gA (j + 1) (by omega) ⟨hi', ?_, fun k2 hk2 => ?_⟩
                · rw [htk, List.map_append, List.nodup_append]
                  refine ⟨hnd, by simp, fun a ha c hc e => ?_⟩
                  obtain rfl : c = k.key := by simpa using hc
                  obtain ⟨z, hz, rfl⟩ := List.mem_map.1 ha
                  obtain ⟨j', hj2, rfl⟩ := List.mem_iff_getElem.1 hz
                  have hlen : j' < j := by simp at hj2; omega
                  rw [List.getElem_take] at e
                  exact hne j' (by omega) hlen e
                · rw [htk] at hk2
                  rcases List.mem_append.1 hk2 with hk2 | hk2
                  · exact hall k2 hk2
                  · rw [List.mem_singleton.1 hk2]; exact hkk
        · obtain rfl : i = ks.length := by omega
          rw [List.take_length] at hnd hall
          have hf : wholeB ⟨nm, ep, ec, evs, kp, kc, ks⟩ = true := by
            unfold wholeB
            rw [hso]
            simp only [Bool.true_and, Bool.and_eq_true, decide_eq_true_eq, List.all_eq_true]
            exact ⟨hne, hgo, hnd, hall⟩
          repeat (first
            | (refine g_ops ?_; first | refine sO ?_ | refine s_n (fun _ => ?_) | refine s_app (fun _ _ => ?_) | refine s_b0 (fun _ => ?_) | ((fail_if_success refine g_lit rfl rfl rfl ?_); first | apply g_partM rfl rfl rfl | apply g_partMB rfl rfl rfl | fail))
            | refine gS ?_ | exact s_m | intro _)
          exact g_ret () rfl (by (repeat (first | exact RVs.nil | apply RVs.tmp rfl | apply RVs.cellA rfl (by (repeat (first | exact Sel.here | apply Sel.there)); first | done | fail) (by (repeat (first | exact Cut.zero | apply Cut.take | apply Cut.skip)); first | done | fail) | apply RVs.cell1 rfl (by (repeat (first | exact Sel.here | apply Sel.there)); first | done | fail) rfl)); first | done | fail) (by (repeat (first | exact Take.nil | apply Take.cons | exact Sel.here | apply Sel.there)); first | done | fail) (by simp [pack, hf]) trivial
set_option maxHeartbeats 2000000 in
theorem mmayput {H : HP} (p : Option Addr) (c : Nat) (xs : List StrV) (hS : SlAt (Pile H) 3 p xs.length (xs.flatMap StrV.cells)) (hA : ∀ y ∈ xs, StrAt (Pile H) y) (hm : ∀ y ∈ xs, StrSm y) (hsz : ∀ y ∈ xs, y.evs.length ≤ 40000 ∧ y.ks.length ≤ 40000) (hl : xs.length ≤ 1000000000) :
    Does1 Tryz.prog 37 [.slice p xs.length c] [Pile H] (int (if putB xs then 0 else 1)) := by
  refine fn_intro Tryz.func37 rfl Tryz.ntmps37 rfl (by simp only [argFr, Nat.zero_add, Nat.reduceAdd]; rfl) (fun Γ => ?_)
  repeat (first
    | (refine g_ops ?_; first | refine sO ?_ | refine s_n (fun _ => ?_) | refine s_app (fun _ _ => ?_) | refine s_b0 (fun _ => ?_) | ((fail_if_success refine g_lit rfl rfl rfl ?_); first | apply g_partM rfl rfl rfl | apply g_partMB rfl rfl rfl | fail))
    | refine gS ?_ | exact s_m | intro _)
  refine g_loop (X := Nat) (fun i => [(0, .slice p xs.length c), (3, int i)]) (fun _ => [Pile H]) (fun i => i ≤ xs.length ∧ ((xs.take i).map StrV.nm).Nodup ∧ ∀ x ∈ xs.take i, wholeB x = true) (fun i => xs.length - i) 0 ⟨Nat.zero_le _, .nil, by simp⟩ (by (repeat (first | exact FrSub.nil | refine FrSub.cons rfl ?_)); first | done | fail) (by (repeat (first | exact Take.nil | apply Take.cons | exact Sel.here | apply Sel.there)); first | done | fail) (fun i hi => ?_)
  obtain ⟨hi, hnd, hall⟩ := hi
  repeat (first
    | (refine g_ops ?_; first | refine sO ?_ | refine s_n (fun _ => ?_) | refine s_app (fun _ _ => ?_) | refine s_b0 (fun _ => ?_) | ((fail_if_success refine g_lit rfl rfl rfl ?_); first | apply g_partM rfl rfl rfl | apply g_partMB rfl rfl rfl | fail))
    | refine gS ?_ | exact s_m | intro _)
  refine g_cond_dec rfl (fun h1 => ?_) (fun h1 => ?_)
  · have hi' : i < xs.length := by omega
    obtain ⟨b, o, rfl, hrow⟩ := slAt_elem hS str_len (by decide) (i := i) (a := xs[i]) (by simp [hi'])
    have htk : xs.take (i + 1) = xs.take i ++ [xs[i]] := by rw [List.take_succ_eq_append_getElem hi']
    have hx := hA xs[i] (List.getElem_mem _)
    have hxm := hm xs[i] (List.getElem_mem _)
    have hz := hsz xs[i] (List.getElem_mem _)
    have hmem : xs[i] ∈ xs := List.getElem_mem _
    have hdup : ∀ (j : Nat) (hj : j < i), xs[j].nm = xs[i].nm → putB xs = false := fun j hj e => by
      unfold putB
      rw [decide_eq_false, Bool.false_and]
      intro hn
      have := List.pairwise_iff_getElem.1 hn j i (by simp; omega) (by simpa using hi') hj
      simp at this
      exact this e
    generalize hxx : xs[i] = x at hrow htk hx hxm hz hmem hdup
    have hso := msound x hx hxm hz.1 hz.2
    cases hw : wholeB x with
    | false =>
      rw [hw] at hso
      have hbad : putB xs = false := by
        unfold putB
        rw [List.all_eq_false.2 ⟨x, hmem, by simp [hw]⟩, Bool.and_false]
      repeat (first
        | (refine g_ops ?_; first | refine sO ?_ | refine s_n (fun _ => ?_) | refine s_app (fun _ _ => ?_) | refine s_b0 (fun _ => ?_) | ((fail_if_success refine g_lit rfl rfl rfl ?_); first | apply g_partM rfl rfl rfl | apply g_partMB rfl rfl rfl | fail) | refine s_k (hso) ?_)
        | refine gS ?_ | exact s_m | intro _)
      exact g_ret () rfl (by (repeat (first | exact RVs.nil | apply RVs.tmp rfl | apply RVs.cellA rfl (by (repeat (first | exact Sel.here | apply Sel.there)); first | done | fail) (by (repeat (first | exact Cut.zero | apply Cut.take | apply Cut.skip)); first | done | fail) | apply RVs.cell1 rfl (by (repeat (first | exact Sel.here | apply Sel.there)); first | done | fail) rfl)); first | done | fail) (by (repeat (first | exact Take.nil | apply Take.cons | exact Sel.here | apply Sel.there)); first | done | fail) (by simp [pack, hbad]) trivial
    | true =>
      rw [hw] at hso
      repeat (first
        | (refine g_ops ?_; first | refine sO ?_ | refine s_n (fun _ => ?_) | refine s_app (fun _ _ => ?_) | refine s_b0 (fun _ => ?_) | ((fail_if_success refine g_lit rfl rfl rfl ?_); first | apply g_partM rfl rfl rfl | apply g_partMB rfl rfl rfl | fail) | refine s_k (hso) ?_)
        | refine gS ?_ | exact s_m | intro _)
      dsimp only [List.cons_append, List.nil_append]
      refine g_loop (X := Nat) (fun j => [(0, .slice (some ⟨b, o, none⟩) xs.length c), (3, int i), (4, int j)]) (fun _ => [Pile H]) (fun j => j ≤ i ∧ ∀ (j' : Nat) (hj : j' < xs.length), j' < j → xs[j'].nm ≠ x.nm) (fun j => i - j) 0 ⟨Nat.zero_le _, fun j _ h => by omega⟩ (by (repeat (first | exact FrSub.nil | refine FrSub.cons rfl ?_)); first | done | fail) (by (repeat (first | exact Take.nil | apply Take.cons | exact Sel.here | apply Sel.there)); first | done | fail) (fun j hj => ?_)
      obtain ⟨hj, hne⟩ := hj
      repeat (first
        | (refine g_ops ?_; first | refine sO ?_ | refine s_n (fun _ => ?_) | refine s_app (fun _ _ => ?_) | refine s_b0 (fun _ => ?_) | ((fail_if_success refine g_lit rfl rfl rfl ?_); first | apply g_partM rfl rfl rfl | apply g_partMB rfl rfl rfl | fail))
        | refine gS ?_ | exact s_m | intro _)
      refine g_cond_dec rfl (fun h3 => ?_) (fun h3 => ?_)
      · have hj' : j < xs.length := by omega
        obtain ⟨b', o', e', hcell⟩ := slAt_elem hS str_len (by decide) (i := j) (a := xs[j]) (by simp [hj'])
        simp only [Option.some.injEq, Addr.mk.injEq, and_true] at e'
        obtain ⟨rfl, rfl⟩ := e'
        have hdj := hdup j (by omega)
        generalize hxj : xs[j] = y at hcell hdj
        have hcell2 : ∀ (j : Nat) (v : Value), x.cells[j]? = some v → Reads (Pile H) ⟨b, o + i * 3 + j, none⟩ v := hrow
        repeat (first
          | (refine g_ops ?_; first | refine sO ?_ | refine s_n (fun _ => ?_) | refine s_app (fun _ _ => ?_) | refine s_b0 (fun _ => ?_) | ((fail_if_success refine g_lit rfl rfl rfl ?_); first | apply g_partM rfl rfl rfl | apply g_partMB rfl rfl rfl | fail))
          | refine gS ?_ | exact s_m | intro _)
        refine g_draw (.take 0 (.take 1 (.take 2 (.take 3 (.see 4 [] (.take 5 (.take 6 (.take 7 (.take 8 (.see 9 [] (.take 10 .done))))))))))) (by kernel_rfl) (take_all _) (fun m hd hk => ?_)
        repeat (first
          | (refine gp_take ?_; first | refine pT ?_ | ((fail_if_success refine gp_lit rfl rfl rfl rfl ?_); first | apply gp_guard_dec rfl rfl rfl rfl | apply gp_guard rfl rfl rfl rfl | fail))
          | (refine gp_see ?_; first | refine p_f ?_ | refine pS ?_ | ((fail_if_success refine gp_lit rfl rfl rfl rfl ?_); first | apply gp_guard_dec rfl rfl rfl rfl | apply gp_guard rfl rfl rfl rfl | fail))
          | (refine gp_one ?_; first | refine pO ?_ | refine p_n (fun _ => ?_) | refine p_app (fun _ _ => ?_) | refine p_b0 (fun _ => ?_) | ((fail_if_success refine gp_lit rfl rfl rfl rfl ?_); first | apply gp_guard_dec rfl rfl rfl rfl | apply gp_guard rfl rfl rfl rfl | fail))
          | refine gp_two ?_ ?_ | refine gp_done hd hk ?_ | intro _ | refine p_ta hd hk (fun _ _ _ hd hk => ?_) | refine p_ts hd hk (fun _ hd hk => ?_))
        repeat (first
          | (refine g_ops ?_; first | refine sO ?_ | refine s_n (fun _ => ?_) | refine s_app (fun _ _ => ?_) | refine s_b0 (fun _ => ?_) | ((fail_if_success refine g_lit rfl rfl rfl ?_); first | apply g_partM rfl rfl rfl | apply g_partMB rfl rfl rfl | fail))
          | refine gS ?_ | exact s_m | intro _)
        refine g_cond_dec rfl (fun h4 => ?_) (fun h4 => ?_)
        · have hf := hdj h4
          repeat (first
            | (refine g_ops ?_; first | refine sO ?_ | refine s_n (fun _ => ?_) | refine s_app (fun _ _ => ?_) | refine s_b0 (fun _ => ?_) | ((fail_if_success refine g_lit rfl rfl rfl ?_); first | apply g_partM rfl rfl rfl | apply g_partMB rfl rfl rfl | fail))
            | refine gS ?_ | exact s_m | intro _)
          exact g_ret () rfl (by (repeat (first | exact RVs.nil | apply RVs.tmp rfl | apply RVs.cellA rfl (by (repeat (first | exact Sel.here | apply Sel.there)); first | done | fail) (by (repeat (first | exact Cut.zero | apply Cut.take | apply Cut.skip)); first | done | fail) | apply RVs.cell1 rfl (by (repeat (first | exact Sel.here | apply Sel.there)); first | done | fail) rfl)); first | done | fail) (by (repeat (first | exact Take.nil | apply Take.cons | exact Sel.here | apply Sel.there)); first | done | fail) (by simp [pack, hf]) trivial
        · repeat (first
            | (refine g_ops ?_; first | refine sO ?_ | refine s_n (fun _ => ?_) | refine s_app (fun _ _ => ?_) | refine s_b0 (fun _ => ?_) | ((fail_if_success refine g_lit rfl rfl rfl ?_); first | apply g_partM rfl rfl rfl | apply g_partMB rfl rfl rfl | fail))
            | refine gS ?_ | exact s_m | intro _)
          refine g_as 4 (v' := int ((j + 1 : Nat) : Int)) rfl (congrArg (Value.int .i64) (by push_cast; rfl)) ?_
          refine gA (j + 1) (by omega) ⟨by omega, fun j' hj2 hjj => ?_⟩
          by_cases e : j' = j
          · subst e; rw [hxj]; exact h4
          · exact hne j' hj2 (by omega)
      · obtain rfl : j = i := by omega
        repeat (first
          | (refine g_ops ?_; first | refine sO ?_ | refine s_n (fun _ => ?_) | refine s_app (fun _ _ => ?_) | refine s_b0 (fun _ => ?_) | ((fail_if_success refine g_lit rfl rfl rfl ?_); first | apply g_partM rfl rfl rfl | apply g_partMB rfl rfl rfl | fail))
          | refine gS ?_ | exact s_m | intro _)
        refine g_as 3 (v' := int ((j + 1 : Nat) : Int)) rfl (congrArg (Value.int .i64) (by push_cast; rfl)) ?_
        refine gA (j + 1) (by omega) ⟨hi', ?_, fun k2 hk2 => ?_⟩
        · rw [htk, List.map_append, List.nodup_append]
          refine ⟨hnd, by simp, fun a ha c hc e => ?_⟩
          obtain rfl : c = x.nm := by simpa using hc
          obtain ⟨z, hz, rfl⟩ := List.mem_map.1 ha
          obtain ⟨j', hj2, rfl⟩ := List.mem_iff_getElem.1 hz
          have hlen : j' < j := by simp at hj2; omega
          rw [List.getElem_take] at e
          exact hne j' (by omega) hlen e
        · rw [htk] at hk2
          rcases List.mem_append.1 hk2 with hk2 | hk2
          · exact hall k2 hk2
          · rw [List.mem_singleton.1 hk2]; exact hw
  · obtain rfl : i = xs.length := by omega
    rw [List.take_length] at hnd hall
    have hok : putB xs = true := by unfold putB; rw [decide_eq_true hnd, List.all_eq_true.2 hall]; rfl
    repeat (first
      | (refine g_ops ?_; first | refine sO ?_ | refine s_n (fun _ => ?_) | refine s_app (fun _ _ => ?_) | refine s_b0 (fun _ => ?_) | ((fail_if_success refine g_lit rfl rfl rfl ?_); first | apply g_partM rfl rfl rfl | apply g_partMB rfl rfl rfl | fail))
      | refine gS ?_ | exact s_m | intro _)
    exact g_ret () rfl (by (repeat (first | exact RVs.nil | apply RVs.tmp rfl | apply RVs.cellA rfl (by (repeat (first | exact Sel.here | apply Sel.there)); first | done | fail) (by (repeat (first | exact Cut.zero | apply Cut.take | apply Cut.skip)); first | done | fail) | apply RVs.cell1 rfl (by (repeat (first | exact Sel.here | apply Sel.there)); first | done | fail) rfl)); first | done | fail) (by (repeat (first | exact Take.nil | apply Take.cons | exact Sel.here | apply Sel.there)); first | done | fail) (by simp [pack, hok]) trivial
end Go.Proofs.YtcgmliaahdpmcaaGreatDoor
