/- Contracts and laws that the proof stands on. -/
import Derived.Test.YtcgmliaahdpmcaaGreatDoorTablePlays15
import Derived.Test.YtcgmliaahdpmcaaGreatDoorTablePlays21
set_option linter.unusedSimpArgs false
set_option linter.unusedVariables false
namespace Go.Proofs.YtcgmliaahdpmcaaGreatDoor
open Go.Sl facts
attribute [local irreducible] Code.wp wpList Exit.then Exit.inBlock bodyPost Back MidQ G GP QStep VStep CStep SStep Does Post Reads
structure StrSm (x : StrV) : Prop where
  nm : x.nm.size ≤ 1000000000
  evs : ∀ e ∈ x.evs, e.st.size ≤ 1000000000 ∧ e.data.size ≤ 1000000000
  ks : ∀ k ∈ x.ks, k.key.size ≤ 1000000000
set_option maxHeartbeats 4000000 in
theorem rencodeStream {H : HP} (x : StrV) (hx : StrAt (Pile H) x) (hs : StrSm x) (hl : x.evs.length ≤ 40000) (hkl : x.ks.length ≤ 40000) :
    Does Tryz.prog 74 [.agg x.cells.toArray] [Pile H] (X := EsX) (fun y => .slice y.p y.bs.length y.c) (fun y => [.own y.p y.bs.length y.c 1 (cells8 y.bs) 5, Pile H]) (fun y => y.bs.length = 0 ↔ strOk x = false) := by
  refine fn_intro Tryz.func74 rfl Tryz.ntmps74 rfl (by simp only [argFr, Nat.zero_add, Nat.reduceAdd]; rfl) (fun Γ => ?_)
  repeat (first
    | (refine g_ops ?_; first | refine sO ?_ | refine s_n (fun _ => ?_) | refine s_appB (fun _ _ => ?_) | refine s_app (fun _ _ => ?_) | refine s_b0 (fun _ => ?_) | ((fail_if_success refine g_lit rfl rfl rfl ?_); first | apply g_partM rfl rfl rfl | apply g_partMB rfl rfl rfl | fail) | refine s_k (name1d H x.nm hs.nm) ?_)
    | refine gS ?_ | exact s_m | intro _)
  rename_i b1
  refine g_cond rfl (fun h => ?_) (fun h => ?_)
  · have hn : nameB x.nm = false := by simpa using h
    dsimp only [List.cons_append, List.nil_append]
    repeat (first
      | (refine g_ops ?_; first | refine sO ?_ | refine s_n (fun _ => ?_) | refine s_appB (fun _ _ => ?_) | refine s_app (fun _ _ => ?_) | refine s_b0 (fun _ => ?_) | ((fail_if_success refine g_lit rfl rfl rfl ?_); first | apply g_partM rfl rfl rfl | apply g_partMB rfl rfl rfl | fail))
      | refine gS ?_ | exact s_m | intro _)
    refine g_own_nil none 1 5 ?_
    exact gR (⟨none, 0, []⟩ : EsX) (by simp [strOk, hn])
  · have hn : nameB x.nm = true := by simpa using h
    have hns := (name_size hn).2
    have v1 := vb_len10 x.nm.size (by omega)
    have v2 := vb_len10 x.evs.length (by omega)
    have hl1 : (txE x.nm).length ≤ 170 := by simp only [txE, List.length_append]; rw [show x.nm.data.toList.length = x.nm.size from by simp]; omega
    have hl0 := txE_pos x.nm
    obtain ⟨nm, ep, ec, evs, kp, kc, ks⟩ := x
    obtain ⟨a1, a2, a3, a4, a5, a6, a7⟩ := hx
    obtain ⟨m1, m2, m3⟩ := hs
    dsimp only at a1 a2 a3 a4 a5 a6 a7 hl hkl hn hns v1 v2 hl1 hl0 m1 m2 m3
    dsimp only [List.cons_append, List.nil_append]
    repeat (first
      | (refine g_ops ?_; first | refine sO ?_ | refine s_n (fun _ => ?_) | refine s_appB (fun _ _ => ?_) | refine s_app (fun _ _ => ?_) | refine s_b0 (fun _ => ?_) | ((fail_if_success refine g_lit rfl rfl rfl ?_); first | apply g_partM rfl rfl rfl | apply g_partMB rfl rfl rfl | fail))
      | refine gS ?_ | exact s_m | intro _)
    obtain ⟨B0, hB0⟩ : ∃ B0, B0 = [] ++ txE nm ++ vb evs.length := ⟨_, rfl⟩
    have hB0l : B0.length ≤ 200 := by rw [hB0]; simp only [List.length_append, List.length_nil]; omega
    have hB0p : 0 < B0.length := by rw [hB0]; simp only [List.length_append, List.length_nil]; omega
    refine g_cutX (X := OA) (fun y => [(1, ptr b1), (2, .slice none 0 0), (3, .slice y.1 B0.length y.2)]) (fun y => [.own y.1 B0.length y.2 1 (cells8 B0) 5, .row b1 [.string nm, .slice ep evs.length ec, .slice kp ks.length kc] 60, Pile H]) (fun _ => True) ?_ (fun y _ => ?_)
    · rw [hB0]
      refine g_own_nil none 1 5 ?_
      refine g_draw (.take 0 (.see 1 [] (.take 3 (.see 4 [] (.take 5 (.one 2 (.one 6 (.take 7 .done)))))))) (by kernel_rfl) (C := [.row b1 [.string nm, .slice ep evs.length ec, .slice kp ks.length kc] 60, Pile H]) (by (repeat (first | exact Take.nil | apply Take.cons | exact Sel.here | apply Sel.there)); first | done | fail) (fun k hd hk => ?_)
      have e0 : vb evs.length = vb ((evs.length : Int)).toNat := rfl
      rw [e0]
      repeat (first
        | (refine gp_take ?_; first | refine pT ?_ | ((fail_if_success refine gp_lit rfl rfl rfl rfl ?_); first | apply gp_guard_dec rfl rfl rfl rfl | apply gp_guard rfl rfl rfl rfl | fail))
        | (refine gp_see ?_; first | refine p_f ?_ | refine pS ?_ | ((fail_if_success refine gp_lit rfl rfl rfl rfl ?_); first | apply gp_guard_dec rfl rfl rfl rfl | apply gp_guard rfl rfl rfl rfl | fail))
        | (refine gp_one ?_; first | refine pO ?_ | refine p_n (fun _ => ?_) | refine p_appB (fun _ _ => ?_) | refine p_app (fun _ _ => ?_) | refine p_b0 (fun _ => ?_) | ((fail_if_success refine gp_lit rfl rfl rfl rfl ?_); first | apply gp_guard_dec rfl rfl rfl rfl | apply gp_guard rfl rfl rfl rfl | fail) | refine p_c (rtext none 0 [] nm (by decide) (by omega)) (fun _ _ => ?_) | refine p_c (rnum _ _ ([] ++ txE nm) (evs.length : Int) (by omega) (by omega) (by simp only [List.length_append, List.length_nil]; omega)) (fun _ _ => ?_))
        | refine gp_two ?_ ?_ | refine gp_done hd hk ?_ | intro _ | refine p_ta hd hk (fun _ _ _ hd hk => ?_) | refine p_ts hd hk (fun _ hd hk => ?_))
      exact gM (⟨_, _⟩ : OA) trivial
    · obtain ⟨q0, c0⟩ := y
      dsimp only
      repeat (first
        | (refine g_ops ?_; first | refine sO ?_ | refine s_n (fun _ => ?_) | refine s_appB (fun _ _ => ?_) | refine s_app (fun _ _ => ?_) | refine s_b0 (fun _ => ?_) | ((fail_if_success refine g_lit rfl rfl rfl ?_); first | apply g_partM rfl rfl rfl | apply g_partMB rfl rfl rfl | fail))
        | refine gS ?_ | exact s_m | intro _)
      refine g_loop (X := EsY) (fun y => [(1, ptr b1), (2, .slice none 0 0), (3, .slice y.q y.bs.length y.c), (4, int y.i)])
        (fun y => [.own y.q y.bs.length y.c 1 (cells8 y.bs) 5, .row b1 [.string nm, .slice ep evs.length ec, .slice kp ks.length kc] 60, Pile H])
        (fun y => y.i ≤ evs.length ∧ (y.bs.length ≤ 200 + 1224 * y.i ∧ 0 < y.bs.length) ∧ ∀ (j : Nat) (hj : j < evs.length), j < y.i → evs[j].ok = true ∧ evs[j].st = nm) (fun y => evs.length - y.i) ⟨0, q0, c0, B0⟩ ⟨Nat.zero_le _, ⟨by simp only; omega, hB0p⟩, fun j _ h => by simp only at h; omega⟩ (by (repeat (first | exact FrSub.nil | refine FrSub.cons rfl ?_)); first | done | fail) (by (repeat (first | exact Take.nil | apply Take.cons | exact Sel.here | apply Sel.there)); first | done | fail) (fun y hy => ?_)
      obtain ⟨i, q, c, bs⟩ := y
      obtain ⟨hi, ⟨hbl, hbp⟩, hall⟩ := hy
      dsimp only at hi hbl hbp hall ⊢
      repeat (first
        | (refine g_ops ?_; first | refine sO ?_ | refine s_n (fun _ => ?_) | refine s_appB (fun _ _ => ?_) | refine s_app (fun _ _ => ?_) | refine s_b0 (fun _ => ?_) | ((fail_if_success refine g_lit rfl rfl rfl ?_); first | apply g_partM rfl rfl rfl | apply g_partMB rfl rfl rfl | fail))
        | refine gS ?_ | exact s_m | intro _)
      refine g_cond_dec rfl (fun h2 => ?_) (fun h2 => ?_)
      · have hi' : i < evs.length := by omega
        obtain ⟨b, o, rfl, hrow⟩ := slAt_elem a1 ev_len (by decide) (i := i) (a := evs[i]) (by simp [hi'])
        obtain ⟨hst, hdt⟩ := m2 evs[i] (List.getElem_mem _)
        generalize hxe : evs[i] = e at hrow hst hdt
        have hel := e.enc_len
        have hep := e.enc_pos
        repeat (first
          | (refine g_ops ?_; first | refine sO ?_ | refine s_n (fun _ => ?_) | refine s_appB (fun _ _ => ?_) | refine s_app (fun _ _ => ?_) | refine s_b0 (fun _ => ?_) | ((fail_if_success refine g_lit rfl rfl rfl ?_); first | apply g_partM rfl rfl rfl | apply g_partMB rfl rfl rfl | fail) | refine s_c (rencodeEvent e hst hdt) (fun _ _ => ?_))
          | refine gS ?_ | exact s_m | intro _)
        rename_i y _
        obtain ⟨yq, yc⟩ := y
        dsimp only [List.cons_append, List.nil_append]
        have hgood : (bif decide ((e.enc.length : Int) = 0) then true else decide (e.st ≠ nm)) = !(e.ok && decide (e.st = nm)) := by
          have h1 : decide ((e.enc.length : Int) = 0) = !e.ok := by
            rw [Bool.eq_iff_iff, decide_eq_true_eq]
            constructor
            · intro h; have := hep.1 (by omega); simp [this]
            · intro h; have := hep.2 (by simpa using h); omega
          rw [h1]
          cases e.ok <;> by_cases h3 : e.st = nm <;> simp [h3]
        have hcell : ∀ (j : Nat) (v : Value), e.cells[j]? = some v → Reads (Pile H) ⟨b, o + i * 7 + j, none⟩ v := hrow
        repeat (first
          | (refine g_ops ?_; first | refine sO ?_ | refine s_n (fun _ => ?_) | refine s_appB (fun _ _ => ?_) | refine s_app (fun _ _ => ?_) | refine s_b0 (fun _ => ?_) | ((fail_if_success refine g_lit rfl rfl rfl ?_); first | apply g_partM rfl rfl rfl | apply g_partMB rfl rfl rfl | fail))
          | (apply g_drawB (id := 8) 45 (.take 0 (.take 1 (.take 2 (.take 3 (.take 4 (.see 5 [] (.take 6 (.take 7 (.take 8 (.see 9 [] (.take 10 (.see 11 [] (.take 12 (.take 13 .done)))))))))))))) (by kernel_rfl); intro k hd hk)
          | apply g_regB (id := 16) 90 | refine gS ?_ | exact s_m | intro _ | (refine gp_take ?_; first | refine pT ?_ | ((fail_if_success refine gp_lit rfl rfl rfl rfl ?_); first | apply gp_guard_dec rfl rfl rfl rfl | apply gp_guard rfl rfl rfl rfl | fail))
          | (refine gp_see ?_; first | refine p_f ?_ | refine pS ?_ | ((fail_if_success refine gp_lit rfl rfl rfl rfl ?_); first | apply gp_guard_dec rfl rfl rfl rfl | apply gp_guard rfl rfl rfl rfl | fail))
          | (refine gp_one ?_; first | refine pO ?_ | refine p_n (fun _ => ?_) | refine p_appB (fun _ _ => ?_) | refine p_app (fun _ _ => ?_) | refine p_b0 (fun _ => ?_) | ((fail_if_success refine gp_lit rfl rfl rfl rfl ?_); first | apply gp_guard_dec rfl rfl rfl rfl | apply gp_guard rfl rfl rfl rfl | fail))
          | refine gp_two ?_ ?_ | refine gp_done hd hk ?_ | intro _ | refine p_ta hd hk (fun _ _ _ hd hk => ?_) | refine p_ts hd hk (fun _ hd hk => ?_))
        refine g_as 45 (v' := .bool (!(e.ok && decide (e.st = nm)))) rfl (congrArg Value.bool ?_) ?_
        · exact hgood
        refine g_cond rfl (fun h3 => ?_) (fun h3 => ?_)
        · have hbad : (e.ok && decide (e.st = nm)) = false := by rw [← Bool.not_eq_true']; exact h3
          repeat (first
            | (refine g_ops ?_; first | refine sO ?_ | refine s_n (fun _ => ?_) | refine s_appB (fun _ _ => ?_) | refine s_app (fun _ _ => ?_) | refine s_b0 (fun _ => ?_) | ((fail_if_success refine g_lit rfl rfl rfl ?_); first | apply g_partM rfl rfl rfl | apply g_partMB rfl rfl rfl | fail))
            | refine gS ?_ | exact s_m | intro _)
          refine g_own_nil none 1 5 ?_
          exact gR (⟨none, 0, []⟩ : EsX) (by
            refine ⟨fun _ => ?_, fun _ => rfl⟩
            unfold strOk
            have : (evs.all fun e => e.ok && decide (e.st = nm)) = false := by
              rw [← Bool.not_eq_true, List.all_eq_true]
              intro h4
              have := h4 evs[i] (List.getElem_mem _)
              rw [hxe, hbad] at this; cases this
            simp only [this, Bool.false_and, Bool.and_false])
        · have hgd : e.ok = true ∧ e.st = nm := by simpa using h3
          repeat (first
            | (refine g_ops ?_; first | refine sO ?_ | refine s_n (fun _ => ?_) | refine s_appB (fun _ _ => ?_) | refine s_app (fun _ _ => ?_) | refine s_b0 (fun _ => ?_) | ((fail_if_success refine g_lit rfl rfl rfl ?_); first | apply g_partM rfl rfl rfl | apply g_partMB rfl rfl rfl | fail))
            | refine gS ?_ | exact s_m | intro _)
          rename_i q2 c2
          have hep' : 0 < e.enc.length := Nat.pos_of_ne_zero fun h0 => by rw [hep.1 h0] at hgd; cases hgd.1
          refine g_as 4 (v' := int ((i + 1 : Nat) : Int)) rfl (congrArg (Value.int .i64) (by push_cast; rfl)) ?_
          exact g_again ⟨i + 1, q2, c2, bs ++ e.enc⟩ (by simp only; omega) ⟨hi', ⟨by simp only [List.length_append]; omega, by simp only [List.length_append]; omega⟩, fun j hj hji => by
            by_cases h5 : j = i
            · subst h5; rw [hxe]; exact hgd
            · exact hall j hj (by simp only at hji; omega)⟩ (by (repeat (first | exact FrSub.nil | refine FrSub.cons rfl ?_)); first | done | fail) (by (repeat (first | exact Take.nil | apply Take.cons | exact Sel.here | apply Sel.there)); first | done | fail)
      · obtain rfl : i = evs.length := by omega
        have hev : (evs.all fun e => e.ok && decide (e.st = nm)) = true := by
          rw [List.all_eq_true]
          intro e he
          obtain ⟨j, hj, rfl⟩ := List.mem_iff_getElem.1 he
          obtain ⟨h3, h4⟩ := hall j hj hj
          simp [h3, h4]
        have hso : strOk ⟨nm, ep, ec, evs, kp, kc, ks⟩ = ks.all Kn.ok := by
          unfold strOk; simp only [hn, hev, Bool.true_and]
        clear hall
        have v3 := vb_len10 ks.length (by omega)
        have e3 : vb ks.length = vb ((ks.length : Int)).toNat := rfl
        repeat (first
          | (refine g_ops ?_; first | refine sO ?_ | refine s_n (fun _ => ?_) | refine s_appB (fun _ _ => ?_) | refine s_app (fun _ _ => ?_) | refine s_b0 (fun _ => ?_) | ((fail_if_success refine g_lit rfl rfl rfl ?_); first | apply g_partM rfl rfl rfl | apply g_partMB rfl rfl rfl | fail) | refine s_c (rnum q c bs (ks.length : Int) (by omega) (by omega) (by omega)) (fun _ _ => ?_))
          | refine gS ?_ | exact s_m | intro _)
        rename_i y _
        obtain ⟨q3, c3⟩ := y
        dsimp only [List.cons_append, List.nil_append]
        rw [← e3]
        refine g_loop (X := EsY) (fun y => [(1, ptr b1), (2, .slice none 0 0), (3, .slice y.q y.bs.length y.c), (6, int y.i)])
          (fun y => [.own y.q y.bs.length y.c 1 (cells8 y.bs) 5, .row b1 [.string nm, .slice ep evs.length ec, .slice kp ks.length kc] 60, Pile H])
          (fun y => y.i ≤ ks.length ∧ (y.bs.length ≤ 49000000 + 300 * y.i ∧ 0 < y.bs.length) ∧ ∀ (j : Nat) (hj : j < ks.length), j < y.i → ks[j].ok = true) (fun y => ks.length - y.i) ⟨0, q3, c3, bs ++ vb ks.length⟩ ⟨Nat.zero_le _, ⟨by simp only [List.length_append]; omega, by simp only [List.length_append]; omega⟩, fun j _ h => by simp only at h; omega⟩ (by (repeat (first | exact FrSub.nil | refine FrSub.cons rfl ?_)); first | done | fail) (by (repeat (first | exact Take.nil | apply Take.cons | exact Sel.here | apply Sel.there)); first | done | fail) (fun y hy => ?_)
        clear hbl hbp
        obtain ⟨i, q, c, bs⟩ := y
        obtain ⟨hi, ⟨hbl, hbp⟩, hall⟩ := hy
        dsimp only at hi hbl hbp hall ⊢
        repeat (first
          | (refine g_ops ?_; first | refine sO ?_ | refine s_n (fun _ => ?_) | refine s_appB (fun _ _ => ?_) | refine s_app (fun _ _ => ?_) | refine s_b0 (fun _ => ?_) | ((fail_if_success refine g_lit rfl rfl rfl ?_); first | apply g_partM rfl rfl rfl | apply g_partMB rfl rfl rfl | fail))
          | refine gS ?_ | exact s_m | intro _)
        refine g_cond_dec rfl (fun h2 => ?_) (fun h2 => ?_)
        · have hi' : i < ks.length := by omega
          obtain ⟨b, o, rfl, hrow⟩ := slAt_elem a2 kn_len (by decide) (i := i) (a := ks[i]) (by simp [hi'])
          have hkey := m3 ks[i] (List.getElem_mem _)
          generalize hxk : ks[i] = k at hrow hkey
          repeat (first
            | (refine g_ops ?_; first | refine sO ?_ | refine s_n (fun _ => ?_) | refine s_appB (fun _ _ => ?_) | refine s_app (fun _ _ => ?_) | refine s_b0 (fun _ => ?_) | ((fail_if_success refine g_lit rfl rfl rfl ?_); first | apply g_partM rfl rfl rfl | apply g_partMB rfl rfl rfl | fail) | refine s_p (rsound k.s.w k.s.l k.s.n) ?_ | refine s_k (key1d H k.key hkey) ?_)
            | apply g_regB (id := 16) 90 | refine gS ?_ | exact s_m | intro _ | (refine gp_take ?_; first | refine pT ?_ | ((fail_if_success refine gp_lit rfl rfl rfl rfl ?_); first | apply gp_guard_dec rfl rfl rfl rfl | apply gp_guard rfl rfl rfl rfl | fail) | refine p_p (rsound k.s.w k.s.l k.s.n) ?_)
            | (refine gp_see ?_; first | refine p_f ?_ | refine pS ?_ | ((fail_if_success refine gp_lit rfl rfl rfl rfl ?_); first | apply gp_guard_dec rfl rfl rfl rfl | apply gp_guard rfl rfl rfl rfl | fail) | refine p_sp (rsound k.s.w k.s.l k.s.n) ?_ | refine p_h (key1d H k.key hkey) hd hk ?_)
            | (refine gp_one ?_; first | refine pO ?_ | refine p_n (fun _ => ?_) | refine p_appB (fun _ _ => ?_) | refine p_app (fun _ _ => ?_) | refine p_b0 (fun _ => ?_) | ((fail_if_success refine gp_lit rfl rfl rfl rfl ?_); first | apply gp_guard_dec rfl rfl rfl rfl | apply gp_guard rfl rfl rfl rfl | fail) | refine p_k (key1d H k.key hkey) ?_)
            | refine gp_two ?_ ?_ | refine gp_done hd hk ?_ | intro _ | refine p_ta hd hk (fun _ _ _ hd hk => ?_) | refine p_ts hd hk (fun _ hd hk => ?_))
          rename_i b8
          refine g_as 90 (v' := .bool (!k.ok)) rfl (congrArg Value.bool ?_) ?_
          · rw [show ({ data := #[] } : ByteArray) = ByteArray.empty from rfl]
            unfold Kn.ok S3.sound
            generalize keyB k.key = b2
            generalize soundB k.s.w k.s.l k.s.n = b4
            rw [Bool.eq_iff_iff]
            cases b2 <;> cases b4 <;> simp [Bool.cond_eq_ite] <;> omega
          refine g_cond rfl (fun h3 => ?_) (fun h3 => ?_)
          · have hbad : k.ok = false := by simpa using h3
            repeat (first
              | (refine g_ops ?_; first | refine sO ?_ | refine s_n (fun _ => ?_) | refine s_appB (fun _ _ => ?_) | refine s_app (fun _ _ => ?_) | refine s_b0 (fun _ => ?_) | ((fail_if_success refine g_lit rfl rfl rfl ?_); first | apply g_partM rfl rfl rfl | apply g_partMB rfl rfl rfl | fail))
              | refine gS ?_ | exact s_m | intro _)
            refine g_own_nil none 1 5 ?_
            exact gR (⟨none, 0, []⟩ : EsX) (by
              refine ⟨fun _ => ?_, fun _ => rfl⟩
              rw [hso, ← Bool.not_eq_true, List.all_eq_true]
              intro h4
              have := h4 ks[i] (List.getElem_mem _)
              rw [hxk, hbad] at this; cases this)
          · have hgood : k.ok = true := by simpa using h3
            obtain ⟨g1, g2, g3, g4⟩ : k.key ≠ ByteArray.empty ∧ keyB k.key = true ∧ (1 ≤ k.first ∧ k.first ≤ 1099511627776) ∧ k.s.sound = true := by
              simpa only [Kn.ok, Bool.and_eq_true, decide_eq_true_eq] using hgood
            have g5 := key_size g2
            have w1 := vb_len10 k.key.size (by omega)
            have w2 := vb_len10 k.first.toNat (by omega)
            have w3 : (txE k.key).length ≤ 170 := by simp only [txE, List.length_append]; rw [show k.key.data.toList.length = k.key.size from by simp]; omega
            have w4 := k.s.enc_len
            have hB : (bs ++ txE k.key ++ vb k.first.toNat).length ≤ 100000000 := by simp only [List.length_append]; omega
            repeat (first
              | (refine g_ops ?_; first | refine sO ?_ | refine s_n (fun _ => ?_) | refine s_appB (fun _ _ => ?_) | refine s_app (fun _ _ => ?_) | refine s_b0 (fun _ => ?_) | ((fail_if_success refine g_lit rfl rfl rfl ?_); first | apply g_partM rfl rfl rfl | apply g_partMB rfl rfl rfl | fail))
              | refine gS ?_ | exact s_m | intro _)
            refine g_draw (.take 0 (.take 1 (.see 2 [] (.take 4 (.see 5 [] (.take 7 (.see 8 [] (.one 3 (.one 6 (.one 9 (.one 10 (.take 11 .done)))))))))))) (by kernel_rfl) (C := [.row b8 [.string k.key, int k.first, int k.s.w, int k.s.l, int k.s.n] 53]) (by (repeat (first | exact Take.nil | apply Take.cons | exact Sel.here | apply Sel.there)); first | done | fail) (fun m hd hk => ?_)
            repeat (first
              | (refine gp_take ?_; first | refine pT ?_ | ((fail_if_success refine gp_lit rfl rfl rfl rfl ?_); first | apply gp_guard_dec rfl rfl rfl rfl | apply gp_guard rfl rfl rfl rfl | fail))
              | (refine gp_see ?_; first | refine p_f ?_ | refine pS ?_ | ((fail_if_success refine gp_lit rfl rfl rfl rfl ?_); first | apply gp_guard_dec rfl rfl rfl rfl | apply gp_guard rfl rfl rfl rfl | fail))
              | (refine gp_one ?_; first | refine pO ?_ | refine p_n (fun _ => ?_) | refine p_appB (fun _ _ => ?_) | refine p_app (fun _ _ => ?_) | refine p_b0 (fun _ => ?_) | ((fail_if_success refine gp_lit rfl rfl rfl rfl ?_); first | apply gp_guard_dec rfl rfl rfl rfl | apply gp_guard rfl rfl rfl rfl | fail) | refine p_c (rtext q c bs k.key (by omega) (by omega)) (fun _ _ => ?_) | refine p_c (rnum _ _ (bs ++ txE k.key) k.first (by omega) (by omega) (by simp only [List.length_append]; omega)) (fun _ _ => ?_) | refine p_c (rencode k.s) (fun _ _ => ?_))
              | refine gp_two ?_ ?_ | refine gp_done hd hk ?_ | intro _ | refine p_ta hd hk (fun _ _ _ hd hk => ?_) | refine p_ts hd hk (fun _ hd hk => ?_))
            rename_i x1 _ x2 _ x3 _ q4 c4
            repeat (first
              | (refine g_ops ?_; first | refine sO ?_ | refine s_n (fun _ => ?_) | refine s_appB (fun _ _ => ?_) | refine s_app (fun _ _ => ?_) | refine s_b0 (fun _ => ?_) | ((fail_if_success refine g_lit rfl rfl rfl ?_); first | apply g_partM rfl rfl rfl | apply g_partMB rfl rfl rfl | fail))
              | refine gS ?_ | exact s_m | intro _)
            refine g_as 6 (v' := int ((i + 1 : Nat) : Int)) rfl (congrArg (Value.int .i64) (by push_cast; rfl)) ?_
            exact g_again ⟨i + 1, q4, c4, bs ++ txE k.key ++ vb k.first.toNat ++ k.s.enc⟩ (by simp only; omega) ⟨hi', ⟨by simp only [List.length_append]; omega, by simp only [List.length_append]; omega⟩, fun j hj hji => by
              by_cases h5 : j = i
              · subst h5; rw [hxk]; exact hgood
              · exact hall j hj (by simp only at hji; omega)⟩ (by (repeat (first | exact FrSub.nil | refine FrSub.cons rfl ?_)); first | done | fail) (by (repeat (first | exact Take.nil | apply Take.cons | exact Sel.here | apply Sel.there)); first | done | fail)
        · obtain rfl : i = ks.length := by omega
          repeat (first
            | (refine g_ops ?_; first | refine sO ?_ | refine s_n (fun _ => ?_) | refine s_appB (fun _ _ => ?_) | refine s_app (fun _ _ => ?_) | refine s_b0 (fun _ => ?_) | ((fail_if_success refine g_lit rfl rfl rfl ?_); first | apply g_partM rfl rfl rfl | apply g_partMB rfl rfl rfl | fail))
            | refine gS ?_ | exact s_m | intro _)
          exact gR (⟨q, c, bs⟩ : EsX) (by
            refine ⟨fun h0 => ?_, fun h0 => ?_⟩
            · simp only at h0; omega
            · rw [hso] at h0
              have : ks.all Kn.ok = true := by
                rw [List.all_eq_true]
                intro k hk
                obtain ⟨j, hj, rfl⟩ := List.mem_iff_getElem.1 hk
                exact hall j hj hj
              rw [this] at h0; cases h0)
end Go.Proofs.YtcgmliaahdpmcaaGreatDoor

namespace Go.Proofs.YtcgmliaahdpmcaaGreatDoor
open Go.Sl facts
theorem bl_irr : ∀ (x : List UInt8), Op.bytesLess x x = false
  | [] => rfl
  | a :: x => by simp [Op.bytesLess, bl_irr x]
theorem bl_asym : ∀ (x y : List UInt8), Op.bytesLess x y = true → Op.bytesLess y x = false
  | [], [], _ => rfl
  | [], _ :: _, _ => by simp [Op.bytesLess]
  | _ :: _, [], h => by simp [Op.bytesLess] at h
  | a :: x, b :: y, h => by
    simp only [Op.bytesLess, Bool.or_eq_true, decide_eq_true_eq, Bool.and_eq_true, beq_iff_eq] at h
    simp only [Op.bytesLess, Bool.or_eq_false_iff, decide_eq_false_iff_not, Bool.and_eq_false_iff, beq_eq_false_iff_ne]
    rcases h with h | ⟨rfl, h⟩
    · have h' : a.toNat < b.toNat := h
      refine ⟨fun hc => ?_, .inl fun e => ?_⟩
      · have : b.toNat < a.toNat := hc
        omega
      · subst e; omega
    · exact ⟨fun hc => by have : a.toNat < a.toNat := hc; omega, .inr (bl_asym x y h)⟩
theorem bl_or : ∀ (x y : List UInt8), Op.bytesLess x y = true ∨ Op.bytesLess y x = true ∨ x = y
  | [], [] => .inr (.inr rfl)
  | [], _ :: _ => .inl rfl
  | _ :: _, [] => .inr (.inl rfl)
  | a :: x, b :: y => by
    simp only [Op.bytesLess, Bool.or_eq_true, decide_eq_true_eq, Bool.and_eq_true, beq_iff_eq, List.cons.injEq]
    rcases Nat.lt_trichotomy a.toNat b.toNat with h | h | h
    · exact .inl (.inl h)
    · have e : a = b := UInt8.toNat_inj.1 h
      subst e
      rcases bl_or x y with h1 | h1 | h1
      · exact .inl (.inr ⟨rfl, h1⟩)
      · exact .inr (.inl (.inr ⟨rfl, h1⟩))
      · exact .inr (.inr ⟨rfl, h1⟩)
    · exact .inr (.inl (.inl h))
theorem bl_trans : ∀ (x y z : List UInt8), Op.bytesLess x y = true → Op.bytesLess y z = true → Op.bytesLess x z = true
  | [], [], _, h, _ => by simp [Op.bytesLess] at h
  | _ :: _, [], _, h, _ => by simp [Op.bytesLess] at h
  | _, _ :: _, [], _, h => by simp [Op.bytesLess] at h
  | [], _ :: _, _ :: _, _, _ => rfl
  | a :: x, b :: y, c :: z, h1, h2 => by
    simp only [Op.bytesLess, Bool.or_eq_true, decide_eq_true_eq, Bool.and_eq_true, beq_iff_eq] at h1 h2 ⊢
    rcases h1 with h1 | ⟨rfl, h1⟩ <;> rcases h2 with h2 | ⟨rfl, h2⟩
    · exact .inl (UInt8.lt_trans h1 h2)
    · exact .inl h1
    · exact .inl h2
    · exact .inr ⟨rfl, bl_trans x y z h1 h2⟩
theorem ltB_or (a b : ByteArray) : ltB a b = true ∨ ltB b a = true ∨ a = b := by
  rcases bl_or a.toList b.toList with h | h | h
  · exact .inl h
  · exact .inr (.inl h)
  · exact .inr (.inr (toList_inj.1 h))
theorem ltB_irr (a : ByteArray) : ltB a a = false := bl_irr _
theorem ltB_trans {a b c : ByteArray} (h : ltB a b = true) (h2 : ltB b c = true) : ltB a c = true := bl_trans _ _ _ h h2
def leB (a b : ByteArray) : Bool := Op.bytesLess a.toList b.toList || a.toList == b.toList
theorem leB_eq (a b : ByteArray) : leB a b = !ltB b a := by
  unfold leB ltB
  rcases bl_or a.toList b.toList with h | h | h
  · rw [h, bl_asym _ _ h]; rfl
  · rw [h, bl_asym _ _ h]
    have : a.toList ≠ b.toList := fun e => by rw [e, bl_irr] at h; cases h
    simp [this]
  · rw [h, bl_irr]; simp
section
variable {P : Program} {Γ : Ctx} {fr : Fr} {d : Nat} {ty : TypeId} {pos : String} {aft : Array Edge} {gd : Option (Nat × Bool)} {x y : Operand} {t t2 : TypeId}
theorem qs_gtrS {a b : ByteArray} (hx : ev fr x = some (.string a)) (hy : ev fr y = some (.string b)) : QStep P Γ fr ⟨some d, .binOp .gtr t x y t2, ty, pos, aft, gd⟩ (.bool (ltB b a)) :=
  qs_of (fun c w hf => by
    have e : (!(Op.bytesLess a.toList b.toList || a.toList == b.toList)) = ltB b a := by
      have := leB_eq a b
      unfold leB at this
      rw [this, Bool.not_not]
    simp only [execOp, hf.ev hx, hf.ev hy, eqGuard_at_string, binOp, Op.stringOp]
    simp [e])
end
abbrev Asc (l : List ByteArray) : Prop := l.Pairwise fun a b => ltB a b = true
def fi : List StrV → ByteArray → Option Nat
  | [], _ => none
  | x :: l, nm => if x.nm = nm then some 0 else (fi l nm).map (· + 1)
def dOf (ds : List StrV) (nm : ByteArray) : Option StrV := (fi ds nm).bind fun k => ds[k]?
def atD (k : Option Nat) : Int := match k with
  | some k => k
  | none => -1
theorem fi_of : ∀ {ds : List StrV} {nm : ByteArray} {i : Nat} (h : i < ds.length), ds[i].nm = nm → (∀ (j : Nat) (hj : j < ds.length), j < i → ds[j].nm ≠ nm) → fi ds nm = some i
  | x :: l, nm, 0, h, e, _ => by simp only [fi]; rw [if_pos (show x.nm = nm from e)]
  | x :: l, nm, i + 1, h, e, hn => by
    simp only [fi]
    rw [if_neg (show ¬ x.nm = nm from hn 0 (by simp) (by omega)), fi_of (ds := l) (i := i) (by simpa using h) (by simpa using e) (fun j hj hji => by have := hn (j + 1) (by simpa using hj) (by omega); simpa using this)]
    rfl
theorem fi_no : ∀ {ds : List StrV} {nm : ByteArray}, (∀ (j : Nat) (hj : j < ds.length), ds[j].nm ≠ nm) → fi ds nm = none
  | [], _, _ => rfl
  | x :: l, nm, hn => by
    simp only [fi]
    rw [if_neg (show ¬ x.nm = nm from hn 0 (by simp)), fi_no (ds := l) (fun j hj => by have := hn (j + 1) (by simpa using hj); simpa using this)]
    rfl
theorem fi_some : ∀ {ds : List StrV} {nm : ByteArray} {k : Nat}, fi ds nm = some k → ∃ h : k < ds.length, ds[k].nm = nm
  | x :: l, nm, k, h => by
    simp only [fi] at h
    split at h
    · cases h; exact ⟨by simp, by assumption⟩
    · cases hf : fi l nm with
      | none => rw [hf] at h; cases h
      | some j =>
        rw [hf] at h
        cases h
        obtain ⟨h1, h2⟩ := fi_some hf
        exact ⟨by simpa using h1, by simpa using h2⟩
theorem fi_none : ∀ {ds : List StrV} {nm : ByteArray}, fi ds nm = none → ∀ x ∈ ds, x.nm ≠ nm
  | x :: l, nm, h, y, hy => by
    simp only [fi] at h
    split at h
    · cases h
    · cases hf : fi l nm with
      | none =>
        rcases List.mem_cons.1 hy with rfl | hy
        · assumption
        · exact fi_none hf y hy
      | some j => rw [hf] at h; cases h
theorem dOf_some {ds : List StrV} {nm : ByteArray} {k : Nat} (h : fi ds nm = some k) : ∃ hk : k < ds.length, dOf ds nm = some ds[k] ∧ ds[k].nm = nm := by
  obtain ⟨h1, h2⟩ := fi_some h
  exact ⟨h1, by simp [dOf, h, h1], h2⟩
theorem dOf_none {ds : List StrV} {nm : ByteArray} (h : fi ds nm = none) : dOf ds nm = none := by simp [dOf, h]
def dEvs (ds : List StrV) (nm : ByteArray) : List Ev := match dOf ds nm with
  | some x => x.evs
  | none => []
def dKs (ds : List StrV) (nm : ByteArray) : List Kn := match dOf ds nm with
  | some x => x.ks
  | none => []
theorem fkn_of : ∀ {ks : List Kn} {key : ByteArray} {i : Nat} (h : i < ks.length), ks[i].key = key → (∀ (j : Nat) (hj : j < ks.length), j < i → ks[j].key ≠ key) → fkn ks key = some ks[i]
  | x :: l, key, 0, h, e, _ => by simp only [fkn]; rw [if_pos (show key = x.key from e.symm)]; rfl
  | x :: l, key, i + 1, h, e, hn => by
    simp only [fkn]
    rw [if_neg (show ¬ key = x.key from fun e' => hn 0 (by simp) (by omega) e'.symm), fkn_of (ks := l) (i := i) (by simpa using h) (by simpa using e) (fun j hj hji => by have := hn (j + 1) (by simpa using hj) (by omega); simpa using this)]
    rfl
theorem fkn_no {ks : List Kn} {key : ByteArray} (h : ∀ (j : Nat) (hj : j < ks.length), ks[j].key ≠ key) : fkn ks key = none := fkn_notin fun hm => by
  obtain ⟨k, hk, e⟩ := List.mem_map.1 hm
  obtain ⟨j, hj, rfl⟩ := List.mem_iff_getElem.1 hk
  exact h j hj e
theorem fkn_mem : ∀ {ks : List Kn} {key : ByteArray} {k : Kn}, fkn ks key = some k → k ∈ ks ∧ k.key = key
  | x :: l, key, k, h => by
    simp only [fkn] at h
    split at h
    · cases h; exact ⟨List.mem_cons_self .., by symm; assumption⟩
    · exact ⟨List.mem_cons_of_mem _ (fkn_mem h).1, (fkn_mem h).2⟩
theorem fkn_iff : ∀ {ks : List Kn}, (ks.map Kn.key).Nodup → ∀ {k : Kn}, k ∈ ks → fkn ks k.key = some k
  | x :: l, hn, k, h => by
    simp only [List.map_cons, List.nodup_cons] at hn
    simp only [fkn]
    rcases List.mem_cons.1 h with rfl | h
    · rw [if_pos rfl]
    · rw [if_neg (fun e => hn.1 (List.mem_map.2 ⟨k, h, e⟩)), fkn_iff hn.2 h]
theorem fkn_perm {a b : List Kn} (hp : a.Perm b) (hn : (a.map Kn.key).Nodup) (key : ByteArray) : fkn a key = fkn b key := by
  have hn2 : (b.map Kn.key).Nodup := ((hp.map Kn.key).nodup_iff).1 hn
  cases h : fkn b key with
  | none =>
    cases h1 : fkn a key with
    | none => rfl
    | some k =>
      obtain ⟨m1, m2⟩ := fkn_mem h1
      have := fkn_iff hn2 (hp.mem_iff.1 m1)
      rw [m2, h] at this; cases this
  | some k =>
    obtain ⟨m1, m2⟩ := fkn_mem h
    have := fkn_iff hn (hp.mem_iff.2 m1)
    rw [← m2]; exact this
def insK : List Kn → Kn → List Kn
  | [], x => [x]
  | k :: l, x => if ltB x.key k.key = true then x :: k :: l else k :: insK l x
theorem insK_perm : ∀ (l : List Kn) (x : Kn), (insK l x).Perm (x :: l)
  | [], x => List.Perm.refl _
  | k :: l, x => by
    simp only [insK]
    split
    · exact List.Perm.refl _
    · exact ((insK_perm l x).cons k).trans (List.Perm.swap x k l)
theorem insK_len (l : List Kn) (x : Kn) : (insK l x).length = l.length + 1 := by simpa using (insK_perm l x).length_eq
theorem insK_sort : ∀ {l : List Kn} {x : Kn}, Asc (l.map Kn.key) → x.key ∉ l.map Kn.key → Asc ((insK l x).map Kn.key)
  | [], x, _, _ => by simp [insK, Asc]
  | k :: l, x, hs, hn => by
    simp only [List.map_cons, List.mem_cons, not_or] at hn
    simp only [List.map_cons, List.pairwise_cons] at hs
    simp only [insK]
    split
    · rename_i h
      simp only [List.map_cons, List.pairwise_cons, List.mem_cons, forall_eq_or_imp]
      exact ⟨⟨h, fun y hy => ltB_trans h (hs.1 y hy)⟩, hs⟩
    · rename_i h
      simp only [List.map_cons, List.pairwise_cons]
      refine ⟨fun y hy => ?_, insK_sort hs.2 hn.2⟩
      have hy' : y ∈ (x :: l).map Kn.key := ((insK_perm l x).map Kn.key).mem_iff.1 hy
      rcases List.mem_cons.1 hy' with rfl | hy'
      · rcases ltB_or k.key x.key with h1 | h1 | h1
        · exact h1
        · exact absurd h1 h
        · exact absurd h1.symm hn.1
      · exact hs.1 y hy'
def sortK (ks : List Kn) : List Kn := ks.foldl insK []
theorem sortK_snoc (a : List Kn) (x : Kn) : sortK (a ++ [x]) = insK (sortK a) x := by simp [sortK]
theorem snoc_ind {α : Type} {p : List α → Prop} (h0 : p []) (h1 : ∀ l x, p l → p (l ++ [x])) : ∀ l, p l := fun l => by
  have : ∀ (n : Nat) (l : List α), l.length = n → p l := fun n => by
    induction n with
    | zero => intro l h; rw [List.eq_nil_of_length_eq_zero h]; exact h0
    | succ n ih =>
      intro l h
      rcases List.eq_nil_or_concat l with rfl | ⟨l', x, rfl⟩
      · exact h0
      · rw [List.concat_eq_append] at h ⊢
        exact h1 l' x (ih l' (by simpa using h))
  exact this _ l rfl
theorem sortK_perm (ks : List Kn) : (sortK ks).Perm ks := by
  refine snoc_ind (p := fun ks => (sortK ks).Perm ks) (List.Perm.refl _) (fun l x ih => ?_) ks
  rw [sortK_snoc]
  exact (insK_perm _ _).trans ((ih.cons x).trans (List.perm_append_comm (l₁ := [x]) (l₂ := l)))
theorem sortK_sort (ks : List Kn) (hn : (ks.map Kn.key).Nodup) : Asc ((sortK ks).map Kn.key) := by
  revert hn
  refine snoc_ind (p := fun ks => (ks.map Kn.key).Nodup → Asc ((sortK ks).map Kn.key)) (fun _ => .nil) (fun l x ih hn => ?_) ks
  rw [List.map_append, List.nodup_append] at hn
  rw [sortK_snoc]
  refine insK_sort (ih hn.1) fun h => ?_
  have := ((sortK_perm l).map Kn.key).mem_iff.1 h
  exact hn.2.2 _ this _ (by simp) rfl
def putS : Bool → List StrV → StrV → List StrV
  | d, [], s => if d = true then [] else [s]
  | d, x :: l, s => (if (!d && leB s.nm x.nm) = true then [s] else []) ++ ((if x.nm ≠ s.nm then [x] else []) ++ putS (d || leB s.nm x.nm) l s)
theorem putS_mem : ∀ (d : Bool) (ds : List StrV) (s y : StrV), y ∈ putS d ds s → y = s ∨ y ∈ ds ∧ y.nm ≠ s.nm
  | d, [], s, y, h => by
    simp only [putS] at h
    split at h
    · cases h
    · exact .inl (List.mem_singleton.1 h)
  | d, x :: l, s, y, h => by
    simp only [putS, List.mem_append] at h
    rcases h with h | h | h
    · split at h
      · exact .inl (List.mem_singleton.1 h)
      · cases h
    · split at h
      · rename_i hn
        obtain rfl := List.mem_singleton.1 h
        exact .inr ⟨List.mem_cons_self .., hn⟩
      · cases h
    · rcases putS_mem _ l s y h with h | ⟨h1, h2⟩
      · exact .inl h
      · exact .inr ⟨List.mem_cons_of_mem _ h1, h2⟩
theorem putS_keep : ∀ (d : Bool) (ds : List StrV) (s y : StrV), y ∈ ds → y.nm ≠ s.nm → y ∈ putS d ds s
  | d, x :: l, s, y, h, hn => by
    simp only [putS, List.mem_append]
    rcases List.mem_cons.1 h with rfl | h
    · exact .inr (.inl (by rw [if_pos hn]; exact List.mem_singleton.2 rfl))
    · exact .inr (.inr (putS_keep _ l s y h hn))
theorem putS_self : ∀ (ds : List StrV) (s : StrV), s ∈ putS false ds s
  | [], s => by simp [putS]
  | x :: l, s => by
    simp only [putS, List.mem_append]
    cases h : leB s.nm x.nm with
    | true => exact .inl (by simp)
    | false => exact .inr (.inr (putS_self l s))
theorem putS_true_mem (ds : List StrV) (s y : StrV) (h : y ∈ putS true ds s) : y ∈ ds := by
  induction ds with
  | nil => simp [putS] at h
  | cons x l ih =>
    simp only [putS, Bool.not_true, Bool.false_and, Bool.false_eq_true, if_false, List.nil_append, Bool.true_or, List.mem_append] at h
    rcases h with h | h
    · split at h
      · exact List.mem_cons.2 (.inl (List.mem_singleton.1 h))
      · cases h
    · exact List.mem_cons_of_mem _ (ih h)
theorem putS_true_sort : ∀ {ds : List StrV} (s : StrV), Asc (ds.map StrV.nm) → Asc ((putS true ds s).map StrV.nm)
  | [], s, _ => by simp [putS, Asc]
  | x :: l, s, h => by
    simp only [List.map_cons, List.pairwise_cons] at h
    have ih := putS_true_sort s h.2
    simp only [putS, Bool.not_true, Bool.false_and, Bool.false_eq_true, if_false, List.nil_append, Bool.true_or]
    split
    · simp only [List.singleton_append, List.map_cons, List.pairwise_cons]
      refine ⟨fun y hy => ?_, ih⟩
      obtain ⟨z, hz, rfl⟩ := List.mem_map.1 hy
      exact h.1 _ (List.mem_map.2 ⟨z, putS_true_mem l s z hz, rfl⟩)
    · exact ih
theorem putS_sort : ∀ {ds : List StrV} (s : StrV), Asc (ds.map StrV.nm) → Asc ((putS false ds s).map StrV.nm)
  | [], s, _ => by simp [putS, Asc]
  | x :: l, s, h => by
    have h0 := h
    simp only [List.map_cons, List.pairwise_cons] at h
    simp only [putS, Bool.not_false, Bool.true_and, Bool.false_or]
    cases hle : leB s.nm x.nm with
    | true =>
      have hle' : ltB x.nm s.nm = false := by rw [leB_eq] at hle; simpa using hle
      have ih := putS_true_sort s h.2
      have hl : ∀ y ∈ (putS true l s).map StrV.nm, ltB x.nm y = true := fun y hy => by
        obtain ⟨z, hz, rfl⟩ := List.mem_map.1 hy
        exact h.1 _ (List.mem_map.2 ⟨z, putS_true_mem l s z hz, rfl⟩)
      simp only [if_true, List.singleton_append, List.map_cons, List.pairwise_cons]
      by_cases he : x.nm = s.nm
      · rw [if_neg (by simp [he]), List.nil_append]
        exact ⟨fun y hy => by rw [← he]; exact hl y hy, ih⟩
      · rw [if_pos he]
        have hlt : ltB s.nm x.nm = true := by
          rcases ltB_or s.nm x.nm with h1 | h1 | h1
          · exact h1
          · rw [hle'] at h1; cases h1
          · exact absurd h1.symm he
        simp only [List.singleton_append, List.map_cons, List.pairwise_cons, List.mem_cons, forall_eq_or_imp]
        exact ⟨⟨hlt, fun y hy => ltB_trans hlt (hl y hy)⟩, hl, ih⟩
    | false =>
      have hle' : ltB x.nm s.nm = true := by rw [leB_eq] at hle; simpa using hle
      have hne : x.nm ≠ s.nm := fun e => by rw [e, ltB_irr] at hle'; cases hle'
      simp only [Bool.false_eq_true, if_false, List.nil_append]
      rw [if_pos hne]
      simp only [List.singleton_append, List.map_cons, List.pairwise_cons]
      refine ⟨fun y hy => ?_, putS_sort s h.2⟩
      obtain ⟨z, hz, rfl⟩ := List.mem_map.1 hy
      rcases putS_mem _ l s z hz with rfl | ⟨hz, _⟩
      · exact hle'
      · exact h.1 _ (List.mem_map.2 ⟨z, hz, rfl⟩)
theorem Taken.nd {T : List Sm} {ds : List StrV} (h : Taken T ds) : (T.map Sm.nm).Nodup := (h.perm.nodup_iff).1 (ltB_nodup h.sort)
theorem Taken.all {T : List Sm} {ds : List StrV} (h : Taken T ds) {s : Sm} (hs : s ∈ T) : ∃ y ∈ ds, y.nm = s.nm := by
  have := h.perm.mem_iff.2 (List.mem_map.2 ⟨s, hs, rfl⟩)
  obtain ⟨y, hy, e⟩ := List.mem_map.1 this
  exact ⟨y, hy, e⟩
theorem taken_of_mem {T : List Sm} {ds : List StrV} (hn : (T.map Sm.nm).Nodup) (hs : Asc (ds.map StrV.nm)) (h1 : ∀ y ∈ ds, ∃ s ∈ T, TakeOf s y) (h2 : ∀ s ∈ T, ∃ y ∈ ds, y.nm = s.nm) : Taken T ds :=
  ⟨hs, (List.perm_ext_iff_of_nodup (ltB_nodup hs) hn).2 fun a => ⟨fun ha => by
    obtain ⟨y, hy, rfl⟩ := List.mem_map.1 ha
    obtain ⟨s, hs, t⟩ := h1 y hy
    rw [t.nm]; exact List.mem_map.2 ⟨s, hs, rfl⟩, fun ha => by
    obtain ⟨s, hs, rfl⟩ := List.mem_map.1 ha
    obtain ⟨y, hy, e⟩ := h2 s hs
    exact List.mem_map.2 ⟨y, hy, e⟩⟩, h1⟩
theorem taken_nil : Taken [] [] := ⟨.nil, List.Perm.refl _, by simp⟩
theorem tput_self : ∀ (T : List Sm) (x : Sm), x ∈ tput T x
  | [], x => by simp [tput]
  | y :: T, x => by
    simp only [tput]
    split
    · simp
    · exact List.mem_cons_of_mem _ (tput_self T x)
theorem tput_keep : ∀ (T : List Sm) (x y : Sm), y ∈ T → y.nm ≠ x.nm → y ∈ tput T x
  | z :: T, x, y, h, hn => by
    simp only [tput]
    split
    · rename_i e
      rcases List.mem_cons.1 h with rfl | h
      · exact absurd e.symm hn
      · exact List.mem_cons_of_mem _ h
    · rcases List.mem_cons.1 h with rfl | h
      · exact List.mem_cons_self ..
      · exact List.mem_cons_of_mem _ (tput_keep T x y h hn)
theorem tput_out : ∀ {T : List Sm} {x y : Sm}, (T.map Sm.nm).Nodup → y ∈ tput T x → y = x ∨ y ∈ T ∧ y.nm ≠ x.nm
  | [], x, y, _, h => .inl (by simpa [tput] using h)
  | z :: T, x, y, hn, h => by
    simp only [List.map_cons, List.nodup_cons] at hn
    simp only [tput] at h
    split at h
    · rename_i e
      rcases List.mem_cons.1 h with rfl | h
      · exact .inl rfl
      · exact .inr ⟨List.mem_cons_of_mem _ h, fun e2 => hn.1 (by rw [← e, ← e2]; exact List.mem_map.2 ⟨y, h, rfl⟩)⟩
    · rename_i e
      rcases List.mem_cons.1 h with rfl | h
      · exact .inr ⟨List.mem_cons_self .., fun e2 => e e2.symm⟩
      · rcases tput_out hn.2 h with h | ⟨h1, h2⟩
        · exact .inl h
        · exact .inr ⟨List.mem_cons_of_mem _ h1, h2⟩
theorem Taken.ins {T : List Sm} {ds : List StrV} (h : Taken T ds) {x : Sm} {y : StrV} (t : TakeOf x y) : Taken (tput T x) (putS false ds y) := by
  refine taken_of_mem (tput_nodup h.nd) (putS_sort y h.sort) (fun z hz => ?_) (fun s hs => ?_)
  · rcases putS_mem _ _ _ _ hz with rfl | ⟨hz, hn⟩
    · exact ⟨x, tput_self T x, t⟩
    · obtain ⟨s, hs, ts⟩ := h.each z hz
      exact ⟨s, tput_keep T x s hs (by rw [← ts.nm, ← t.nm]; exact hn), ts⟩
  · rcases tput_out h.nd hs with rfl | ⟨hs, hn⟩
    · exact ⟨y, putS_self ds y, t.nm⟩
    · obtain ⟨z, hz, e⟩ := h.all hs
      exact ⟨z, putS_keep _ _ _ _ hz (by rw [e, t.nm]; exact hn), e⟩
theorem Taken.filt {T : List Sm} {ds : List StrV} (h : Taken T ds) (p : ByteArray → Bool) : Taken (T.filter fun s => p s.nm) (ds.filter fun y => p y.nm) := by
  refine taken_of_mem (h.nd.sublist (List.filter_sublist.map _)) ?_ (fun z hz => ?_) (fun s hs => ?_)
  · have : (ds.filter fun y => p y.nm).map StrV.nm = (ds.map StrV.nm).filter p := by rw [List.filter_map]; rfl
    rw [this]; exact h.sort.filter _
  · obtain ⟨h1, h2⟩ := List.mem_filter.1 hz
    obtain ⟨s, hs, t⟩ := h.each z h1
    exact ⟨s, List.mem_filter.2 ⟨hs, by rw [← t.nm]; exact h2⟩, t⟩
  · obtain ⟨h1, h2⟩ := List.mem_filter.1 hs
    obtain ⟨y, hy, e⟩ := h.all h1
    exact ⟨y, List.mem_filter.2 ⟨hy, by rw [e]; exact h2⟩, e⟩
theorem Taken.len {T : List Sm} {ds : List StrV} (h : Taken T ds) : ds.length = T.length := by simpa using h.perm.length_eq
theorem Taken.some {T : List Sm} {ds : List StrV} (h : Taken T ds) {nm : ByteArray} {x : StrV} (hx : dOf ds nm = some x) : ∃ s, fnd T nm = Option.some s ∧ TakeOf s x ∧ s ∈ T ∧ x ∈ ds ∧ x.nm = nm := by
  cases hf : fi ds nm with
  | none => rw [dOf_none hf] at hx; cases hx
  | some k =>
    obtain ⟨hk, e1, e2⟩ := dOf_some hf
    rw [e1] at hx
    cases hx
    obtain ⟨s, hs, t⟩ := h.each ds[k] (List.getElem_mem _)
    have := fnd_of_mem h.nd hs
    rw [← t.nm, e2] at this
    exact ⟨s, this, t, hs, List.getElem_mem _, e2⟩
theorem Taken.none {T : List Sm} {ds : List StrV} (h : Taken T ds) {nm : ByteArray} (hx : dOf ds nm = none) : fnd T nm = Option.none := by
  cases hf : fi ds nm with
  | some k =>
    obtain ⟨hk, e1, e2⟩ := dOf_some hf
    rw [e1] at hx; cases hx
  | none =>
    cases h1 : fnd T nm with
    | none => rfl
    | some s =>
      obtain ⟨e, A, B, hT, _⟩ := fnd_split h1
      obtain ⟨y, hy, e2⟩ := h.all (s := s) (by rw [hT]; simp)
      exact absurd (e2.trans e) (fi_none hf y hy)
theorem Taken.evs {T : List Sm} {ds : List StrV} (h : Taken T ds) (nm : ByteArray) : dEvs ds nm = evsOf T nm ∧ dEvs ds nm = oldE T nm ∧ (dEvs ds nm).length = verOf T nm := by
  unfold dEvs evsOf oldE verOf
  cases hd : dOf ds nm with
  | none => rw [h.none hd]; exact ⟨rfl, rfl, rfl⟩
  | some x =>
    obtain ⟨s, e, t, _⟩ := h.some hd
    rw [e]
    exact ⟨t.evs, t.evs, congrArg List.length t.evs⟩
theorem Taken.ks {T : List Sm} {ds : List StrV} (h : Taken T ds) (nm : ByteArray) : (dKs ds nm).Perm (oldK T nm) ∧ Asc ((dKs ds nm).map Kn.key) := by
  unfold dKs oldK
  cases hd : dOf ds nm with
  | none => rw [h.none hd]; exact ⟨List.Perm.refl _, .nil⟩
  | some x =>
    obtain ⟨s, e, t, _⟩ := h.some hd
    rw [e]
    exact ⟨t.perm, t.sort⟩
theorem Taken.kn {T : List Sm} {ds : List StrV} (h : Taken T ds) (nm key : ByteArray) : fkn (dKs ds nm) key = knOf T nm key ∧ fkn (oldK T nm) key = knOf T nm key := by
  obtain ⟨h1, h2⟩ := h.ks nm
  have e : fkn (oldK T nm) key = knOf T nm key := by
    unfold oldK knOf
    cases fnd T nm <;> rfl
  exact ⟨(fkn_perm h1 (ltB_nodup h2) key).trans e, e⟩
def newD (ks : List Kn) (key : ByteArray) (first : Int) (s : S3) : List Kn := if fkn ks key = none ∧ key ≠ ByteArray.empty then insK ks ⟨key, first, s⟩ else ks
theorem Taken.app {T : List Sm} {ds : List StrV} (h : Taken T ds) {key : ByteArray} {nm : ByteArray} {evs : List Ev} {ver : Int} {st : S3} {x : Sm} (h1 : x.nm = nm) (h2 : x.evs = oldE T nm ++ evs) (h3 : x.ks = newK (oldK T nm) key ver st) {y : StrV} (y1 : y.nm = nm) (y2 : y.evs = dEvs ds nm ++ evs) (y3 : y.ks = newD (dKs ds nm) key ver st) : TakeOf x y := by
  obtain ⟨k1, k2⟩ := h.ks nm
  obtain ⟨f1, f2⟩ := h.kn nm key
  refine ⟨by rw [y1, h1], by rw [y2, h2, (h.evs nm).2.1], ?_, ?_⟩
  · rw [y3, h3]
    unfold newD newK
    rw [f1, f2]
    split
    · exact (insK_perm _ _).trans ((k1.cons _).trans (List.perm_append_comm (l₁ := [_]) (l₂ := oldK T nm)))
    · exact k1
  · rw [y3]
    unfold newD
    split
    · rename_i hc
      refine insK_sort k2 fun hm => ?_
      obtain ⟨k, hk, e⟩ := List.mem_map.1 hm
      have := fkn_iff (ltB_nodup k2) hk
      rw [e] at this
      rw [hc.1] at this; cases this
    · exact k2
end Go.Proofs.YtcgmliaahdpmcaaGreatDoor
