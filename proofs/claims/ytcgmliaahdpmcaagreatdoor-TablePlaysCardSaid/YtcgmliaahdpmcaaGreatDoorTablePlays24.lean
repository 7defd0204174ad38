/- Contracts and laws that the proof stands on. -/
import Derived.Test.YtcgmliaahdpmcaaGreatDoorTablePlays23
set_option linter.unusedSimpArgs false
set_option linter.unusedVariables false
namespace Go.Proofs.YtcgmliaahdpmcaaGreatDoor
open Go.Sl facts
theorem rencodeEventP {H : HP} (x : Ev) (h1 : x.st.size ≤ 1000000000) (h2 : x.data.size ≤ 1000000000) : Does Tryz.prog 32 [x.v] [Pile H] (X := OA) (fun y => .slice y.1 x.enc.length y.2) (fun _ => [Pile H]) (fun _ => True) := fun Γ w hh =>
  (rencodeEvent x h1 h2 Γ w hh).mono fun e w' ⟨y, hy, he, hB⟩ => ⟨y, hy, he, hB.takeDrop (.cons (.there .here) .nil)⟩
theorem alike_iff {evs : List Ev} {e0 : Ev} {l : List Ev} (he : evs = e0 :: l) : alikeB evs = true ↔ ∀ (j : Nat) (hj : j < evs.length), (evs[j].st = e0.st ∧ (evs[j].s.w = e0.s.w ∧ evs[j].s.l = e0.s.l ∧ evs[j].s.n = e0.s.n)) ∧ evs[j].ok = true := by
  subst he
  simp only [alikeB, List.all_eq_true, Bool.and_eq_true, decide_eq_true_eq]
  constructor
  · intro hh j hj
    have := hh _ (List.getElem_mem hj)
    exact ⟨⟨this.1, this.2.1⟩, this.2.2⟩
  · intro hh y hy
    obtain ⟨j, hj, rfl⟩ := List.mem_iff_getElem.1 hy
    have := hh j hj
    exact ⟨this.1.1, this.1.2, this.2⟩
def AppR (evs : List Ev) (key : ByteArray) (ds : List StrV) (e : Int) (ds' : List StrV) : Prop :=
  (mayB evs key = false ∧ e = 1 ∧ ds' = ds) ∨ (mayB evs key = true ∧ ∃ e0 l, evs = e0 :: l ∧ ((goesB evs (dEvs ds e0.st).length = false ∧ e = 5 ∧ ds' = ds) ∨
    (goesB evs (dEvs ds e0.st).length = true ∧ e = 0 ∧ ∃ y : StrV, ds' = putS false ds y ∧ y.nm = e0.st ∧ y.evs = dEvs ds e0.st ++ evs ∧ y.ks = newD (dKs ds e0.st) key e0.ver e0.s)))
structure MaX where
  e : Int
  q : Option Addr
  c : Nat
  ds : List StrV
  H : HP
structure KsX where
  p : Option Addr
  c : Nat
  ks : List Kn
  H : HP
def insR (d : Bool) (l : List Kn) (x : Kn) : List Kn := if d = true then l else insK l x
theorem newD_mem {ks : List Kn} {key : ByteArray} {ver : Int} {st : S3} {k : Kn} (h : k ∈ newD ks key ver st) : k ∈ ks ∨ k.key = key := by
  unfold newD at h
  split at h
  · rcases List.mem_cons.1 ((insK_perm _ _).mem_iff.1 h) with rfl | h
    · exact .inr rfl
    · exact .inl h
  · exact .inl h
theorem newD_len (ks : List Kn) (key : ByteArray) (ver : Int) (st : S3) : (newD ks key ver st).length ≤ ks.length + 1 := by
  unfold newD
  split
  · rw [insK_len]; omega
  · omega
structure InX where
  i : Nat
  d : Bool
  l : List Kn
  q : Option Addr
  c : Nat
attribute [local irreducible] Code.wp wpList Exit.then Exit.inBlock bodyPost Back MidQ G GP QStep VStep CStep SStep Does Post Reads
section
variable {H : HP} (m : Nat) (q : Option Addr) (c : Nat) (ds : List StrV) (hM : MAt (Pile H) q ds) (hl : ds.length ≤ 100000000)
  (p : Option Addr) (cp : Nat) (evs : List Ev) (hS : SlAt (Pile H) 7 p evs.length (evs.flatMap Ev.cells)) (hO : EvsOk evs) (hsm : ∀ e ∈ evs, e.st.size ≤ 1000000000 ∧ e.data.size ≤ 1000000000) (hel : evs.length ≤ 100000000) (key : ByteArray) (hk : key.size ≤ 1000000000)
include hM hl hS hO hsm hel hk
set_option maxHeartbeats 4000000 in
theorem mapp (hold : ∀ nm, (dEvs ds nm).length ≤ 100000000 ∧ (dKs ds nm).length ≤ 100000000) : Does Tryz.prog 9 [ptr m, .string key, .slice p evs.length cp] [mrow m q ds.length c, Pile H] (X := MaX) (fun x => int x.e)
    (fun x => [mrow m x.q x.ds.length x.c, Pile x.H]) (fun x => HP.sub H x.H ∧ MAt (Pile x.H) x.q x.ds ∧ AppR evs key ds x.e x.ds) := by
  have hky := key1d H key hk
  refine fn_intro Tryz.func9 rfl Tryz.ntmps9 rfl (by simp only [argFr, Nat.zero_add, Nat.reduceAdd]; rfl) (fun Γ => ?_)
  repeat (first
    | (refine g_ops ?_; first | refine sO ?_ | refine s_n (fun _ => ?_) | refine s_app (fun _ _ => ?_) | refine s_b0 (fun _ => ?_) | ((fail_if_success refine g_lit rfl rfl rfl ?_); first | apply g_partM rfl rfl rfl | apply g_partMB rfl rfl rfl | fail) | refine s_k (hky) ?_)
    | apply g_regB (id := 1) 25 | refine gS ?_ | exact s_m | intro _ | (refine gp_take ?_; first | refine pT ?_ | ((fail_if_success refine gp_lit rfl rfl rfl rfl ?_); first | apply gp_guard_dec rfl rfl rfl rfl | apply gp_guard rfl rfl rfl rfl | fail))
    | (refine gp_see ?_; first | refine p_f ?_ | refine pS ?_ | ((fail_if_success refine gp_lit rfl rfl rfl rfl ?_); first | apply gp_guard_dec rfl rfl rfl rfl | apply gp_guard rfl rfl rfl rfl | fail) | refine p_h (hky) hd hk ?_)
    | (refine gp_one ?_; first | refine pO ?_ | refine p_n (fun _ => ?_) | refine p_app (fun _ _ => ?_) | refine p_b0 (fun _ => ?_) | ((fail_if_success refine gp_lit rfl rfl rfl rfl ?_); first | apply gp_guard_dec rfl rfl rfl rfl | apply gp_guard rfl rfl rfl rfl | fail) | refine p_k (hky) ?_)
    | refine gp_two ?_ ?_ | refine gp_done hd hk ?_ | intro _ | refine p_ta hd hk (fun _ _ _ hd hk => ?_) | refine p_ts hd hk (fun _ hd hk => ?_))
  refine g_cond rfl (fun h => ?_) (fun h => ?_)
  · have hm : mayB evs key = false := by
      cases evs with
      | nil => rfl
      | cons e l => simp [Bool.cond_eq_ite] at h; simp [mayB]; intro _; rcases h with h | h; exact absurd h (by omega); exact h
    repeat (first
      | (refine g_ops ?_; first | refine sO ?_ | refine s_n (fun _ => ?_) | refine s_app (fun _ _ => ?_) | refine s_b0 (fun _ => ?_) | ((fail_if_success refine g_lit rfl rfl rfl ?_); first | apply g_partM rfl rfl rfl | apply g_partMB rfl rfl rfl | fail))
      | refine gS ?_ | exact s_m | intro _)
    exact gR (⟨1, q, c, ds, H⟩ : MaX) ⟨HP.sub.refl _, hM, .inl ⟨hm, rfl, rfl⟩⟩
  have hne : 0 < evs.length ∧ keyB key = true := by
    simp [Bool.cond_eq_ite] at h
    refine ⟨Nat.pos_of_ne_zero fun e => ?_, h.2⟩
    exact absurd (List.eq_nil_of_length_eq_zero e) h.1
  obtain ⟨h0, hkb⟩ := hne
  obtain ⟨e0, l0, hcons⟩ : ∃ e l, evs = e :: l := by cases evs with
    | nil => simp at h0
    | cons e l => exact ⟨e, l, rfl⟩
  have hmay : mayB evs key = alikeB evs := by rw [hcons]; simp [mayB, hkb]
  have hE0 : evs[0]? = some e0 := by rw [hcons]; rfl
  obtain ⟨b, o, rfl, hc0⟩ := slAt_elem hS ev_len (by decide) (i := 0) (a := e0) hE0
  have hal := alike_iff hcons
  repeat (first
    | (refine g_ops ?_; first | refine sO ?_ | refine s_n (fun _ => ?_) | refine s_app (fun _ _ => ?_) | refine s_b0 (fun _ => ?_) | ((fail_if_success refine g_lit rfl rfl rfl ?_); first | apply g_partM rfl rfl rfl | apply g_partMB rfl rfl rfl | fail))
    | refine gS ?_ | exact s_m | intro _)
  refine g_loop (X := Nat) (fun i => [(0, ptr m), (1, .string key), (2, .slice (some ⟨b, o, none⟩) evs.length cp), (7, int i)]) (fun _ => [mrow m q ds.length c, Pile H])
    (fun i => i ≤ evs.length ∧ ∀ (j : Nat) (hj : j < evs.length), j < i → ((evs[j].st = e0.st ∧ (evs[j].s.w = e0.s.w ∧ evs[j].s.l = e0.s.l ∧ evs[j].s.n = e0.s.n)) ∧ evs[j].ok = true)) (fun i => evs.length - i) 0 ⟨Nat.zero_le _, fun j _ h => by omega⟩ (by (repeat (first | exact FrSub.nil | refine FrSub.cons rfl ?_)); first | done | fail) (by (repeat (first | exact Take.nil | apply Take.cons | exact Sel.here | apply Sel.there)); first | done | fail) (fun i hi => ?_)
  obtain ⟨hi, hall⟩ := hi
  repeat (first
    | (refine g_ops ?_; first | refine sO ?_ | refine s_n (fun _ => ?_) | refine s_app (fun _ _ => ?_) | refine s_b0 (fun _ => ?_) | ((fail_if_success refine g_lit rfl rfl rfl ?_); first | apply g_partM rfl rfl rfl | apply g_partMB rfl rfl rfl | fail))
    | refine gS ?_ | exact s_m | intro _)
  refine g_cond_dec rfl (fun h => ?_) (fun h => ?_)
  · have hi2 : i < evs.length := by omega
    obtain ⟨b', o', e', hrow⟩ := slAt_elem hS ev_len (by decide) (i := i) (a := evs[i]) (by simp [hi2])
    simp only [Option.some.injEq, Addr.mk.injEq, and_true] at e'
    obtain ⟨rfl, rfl⟩ := e'
    obtain ⟨hst, hdt⟩ := hsm evs[i] (by simp)
    generalize hx : evs[i] = x at hrow hst hdt
    have hcell : ∀ (j : Nat) (v : Value), x.cells[j]? = some v → Reads (Pile H) ⟨b, o + i * 7 + j, none⟩ v := hrow
    have hcell2 : ∀ (j : Nat) (v : Value), e0.cells[j]? = some v → Reads (Pile H) ⟨b, o + 0 * 7 + j, none⟩ v := hc0
    have hrow2 : ∀ (j : Nat) (v : Value), [Value.int .i64 e0.s.w, .int .i64 e0.s.l, .int .i64 e0.s.n][j]? = some v → Reads (Pile H) ⟨b, o + 0 * 7 + 3 + j, none⟩ v := fun j v hv => by
      match j with
      | 0 => exact hc0 3 v hv
      | 1 => exact hc0 4 v hv
      | 2 => exact hc0 5 v hv
      | j + 3 => simp at hv
    have hstep : (bif decide (x.st ≠ e0.st) then true else (bif !(decide (x.s.w = e0.s.w) && (decide (x.s.l = e0.s.l) && (decide (x.s.n = e0.s.n) && true))) then true else decide ((x.enc.length : Int) = 0))) = false ↔ ((x.st = e0.st ∧ (x.s.w = e0.s.w ∧ x.s.l = e0.s.l ∧ x.s.n = e0.s.n)) ∧ x.ok = true) := by
      have := x.enc_pos
      have h2 : (x.enc.length : Int) = 0 ↔ x.ok = false := by rw [← this]; omega
      have h5 : decide ((x.enc.length : Int) = 0) = !x.ok := by
        rw [Bool.eq_iff_iff, decide_eq_true_eq, h2]
        cases x.ok <;> simp
      rw [h5]
      clear h2 h5 this
      cases x.ok <;> simp [and_assoc]
    repeat (first
      | (refine g_ops ?_; first | refine sO ?_ | refine s_n (fun _ => ?_) | refine s_app (fun _ _ => ?_) | refine s_b0 (fun _ => ?_) | ((fail_if_success refine g_lit rfl rfl rfl ?_); first | apply g_partM rfl rfl rfl | apply g_partMB rfl rfl rfl | fail))
      | apply g_regB (id := 1) 25 | (apply g_drawB (id := 6) 62 (.take 0 (.take 1 (.take 2 (.take 3 (.see 4 [] (.take 5 (.take 6 (.take 7 (.see 8 [] (.take 9 (.take 10 (.take 11 (.take 12 (.take 13 (.take 14 (.see 15 [] (.take 16 (.take 17 (.take 18 (.see 19 [] (.take 20 (.take 21 (.take 22 (.take 23 (.take 24 (.take 25 (.see 26 [] (.one 27 (.take 28 (.take 29 (.take 30 .done))))))))))))))))))))))))))))))) (by kernel_rfl); intro k hd hk)
      | refine gS ?_ | exact s_m | intro _ | (refine gp_take ?_; first | refine pT ?_ | ((fail_if_success refine gp_lit rfl rfl rfl rfl ?_); first | apply gp_guard_dec rfl rfl rfl rfl | apply gp_guard rfl rfl rfl rfl | fail))
      | (refine gp_see ?_; first | refine p_f ?_ | refine pS ?_ | ((fail_if_success refine gp_lit rfl rfl rfl rfl ?_); first | apply gp_guard_dec rfl rfl rfl rfl | apply gp_guard rfl rfl rfl rfl | fail))
      | (refine gp_one ?_; first | refine pO ?_ | refine p_n (fun _ => ?_) | refine p_app (fun _ _ => ?_) | refine p_b0 (fun _ => ?_) | ((fail_if_success refine gp_lit rfl rfl rfl rfl ?_); first | apply gp_guard_dec rfl rfl rfl rfl | apply gp_guard rfl rfl rfl rfl | fail) | refine p_cP (rencodeEventP x hst hdt) hd hk (fun _ _ => ?_))
      | refine gp_two ?_ ?_ | refine gp_done hd hk ?_ | intro _ | refine p_ta hd hk (fun _ _ _ hd hk => ?_) | refine p_ts hd hk (fun _ hd hk => ?_))
    refine g_cond rfl (fun h2 => ?_) (fun h2 => ?_)
    · have e1 : alikeB evs = false := by
        cases hq : alikeB evs with
        | false => rfl
        | true =>
          have := hal.1 hq i hi2
          rw [hx] at this
          have h3 := hstep.2 this
          rw [h3] at h2; cases h2
      repeat (first
        | (refine g_ops ?_; first | refine sO ?_ | refine s_n (fun _ => ?_) | refine s_app (fun _ _ => ?_) | refine s_b0 (fun _ => ?_) | ((fail_if_success refine g_lit rfl rfl rfl ?_); first | apply g_partM rfl rfl rfl | apply g_partMB rfl rfl rfl | fail))
        | refine gS ?_ | exact s_m | intro _)
      exact gR (⟨1, q, c, ds, H⟩ : MaX) ⟨HP.sub.refl _, hM, .inl ⟨by rw [hmay]; exact e1, rfl, rfl⟩⟩
    · have h3 := hstep.1 h2
      repeat (first
        | (refine g_ops ?_; first | refine sO ?_ | refine s_n (fun _ => ?_) | refine s_app (fun _ _ => ?_) | refine s_b0 (fun _ => ?_) | ((fail_if_success refine g_lit rfl rfl rfl ?_); first | apply g_partM rfl rfl rfl | apply g_partMB rfl rfl rfl | fail))
        | refine gS ?_ | exact s_m | intro _)
      refine g_as 7 (v' := int ((i + 1 : Nat) : Int)) rfl (congrArg (Value.int .i64) (by push_cast; rfl)) ?_
      refine gA (i + 1) (by omega) ⟨hi2, fun j hj hji => ?_⟩
      by_cases e : j = i
      · subst e
        rw [hx]; exact h3
      · exact hall j hj (by omega)
  · obtain rfl : i = evs.length := by omega
    have hmy : mayB evs key = true := by rw [hmay]; exact hal.2 fun j hj => hall j hj hj
    clear hall hal
    have hcell := hc0
    have hver := mver m q c ds hM (by omega) e0.st
    obtain ⟨hold1, hold2⟩ := hold e0.st
    repeat (first
      | (refine g_ops ?_; first | refine sO ?_ | refine s_n (fun _ => ?_) | refine s_app (fun _ _ => ?_) | refine s_b0 (fun _ => ?_) | ((fail_if_success refine g_lit rfl rfl rfl ?_); first | apply g_partM rfl rfl rfl | apply g_partMB rfl rfl rfl | fail) | refine s_k (hver) ?_)
      | refine gS ?_ | exact s_m | intro _)
    dsimp only [List.cons_append, List.nil_append]
    clear hcell
    refine g_loop (X := Nat) (fun i => [(0, ptr m), (1, .string key), (2, .slice (some ⟨b, o, none⟩) evs.length cp), (8, int (dEvs ds e0.st).length), (9, int i)]) (fun _ => [mrow m q ds.length c, Pile H])
      (fun i => i ≤ evs.length ∧ ∀ (j : Nat) (hj : j < evs.length), j < i → evs[j].ver = (dEvs ds e0.st).length + 1 + j) (fun i => evs.length - i) 0 ⟨Nat.zero_le _, fun j _ h => by omega⟩ (by (repeat (first | exact FrSub.nil | refine FrSub.cons rfl ?_)); first | done | fail) (by (repeat (first | exact Take.nil | apply Take.cons | exact Sel.here | apply Sel.there)); first | done | fail) (fun i hi => ?_)
    obtain ⟨hi, hall⟩ := hi
    have hga := goes_all evs (dEvs ds e0.st).length
    repeat (first
      | (refine g_ops ?_; first | refine sO ?_ | refine s_n (fun _ => ?_) | refine s_app (fun _ _ => ?_) | refine s_b0 (fun _ => ?_) | ((fail_if_success refine g_lit rfl rfl rfl ?_); first | apply g_partM rfl rfl rfl | apply g_partMB rfl rfl rfl | fail))
      | refine gS ?_ | exact s_m | intro _)
    refine g_cond_dec rfl (fun h => ?_) (fun h => ?_)
    · have hi2 : i < evs.length := by omega
      obtain ⟨b', o', e', hcell⟩ := slAt_elem hS ev_len (by decide) (i := i) (a := evs[i]) (by simp [hi2])
      simp only [Option.some.injEq, Addr.mk.injEq, and_true] at e'
      obtain ⟨rfl, rfl⟩ := e'
      generalize hx : evs[i] = x at hcell
      repeat (first
        | (refine g_ops ?_; first | refine sO ?_ | refine s_n (fun _ => ?_) | refine s_app (fun _ _ => ?_) | refine s_b0 (fun _ => ?_) | ((fail_if_success refine g_lit rfl rfl rfl ?_); first | apply g_partM rfl rfl rfl | apply g_partMB rfl rfl rfl | fail))
        | refine gS ?_ | exact s_m | intro _)
      refine g_cond_dec rfl (fun h2 => ?_) (fun h2 => ?_)
      · have e1 : goesB evs (dEvs ds e0.st).length = false := by
          cases hq : goesB evs (dEvs ds e0.st).length with
          | false => rfl
          | true =>
            have := hga.1 hq i hi2
            rw [hx] at this
            exact absurd this h2
        repeat (first
          | (refine g_ops ?_; first | refine sO ?_ | refine s_n (fun _ => ?_) | refine s_app (fun _ _ => ?_) | refine s_b0 (fun _ => ?_) | ((fail_if_success refine g_lit rfl rfl rfl ?_); first | apply g_partM rfl rfl rfl | apply g_partMB rfl rfl rfl | fail))
          | refine gS ?_ | exact s_m | intro _)
        exact gR (⟨5, q, c, ds, H⟩ : MaX) ⟨HP.sub.refl _, hM, .inr ⟨hmy, e0, l0, hcons, .inl ⟨e1, rfl, rfl⟩⟩⟩
      · have h3 : x.ver = (dEvs ds e0.st).length + 1 + i := Classical.not_not.1 h2
        repeat (first
          | (refine g_ops ?_; first | refine sO ?_ | refine s_n (fun _ => ?_) | refine s_app (fun _ _ => ?_) | refine s_b0 (fun _ => ?_) | ((fail_if_success refine g_lit rfl rfl rfl ?_); first | apply g_partM rfl rfl rfl | apply g_partMB rfl rfl rfl | fail))
          | refine gS ?_ | exact s_m | intro _)
        refine g_as 9 (v' := int ((i + 1 : Nat) : Int)) rfl (congrArg (Value.int .i64) (by push_cast; rfl)) ?_
        refine gA (i + 1) (by omega) ⟨hi2, fun j hj hji => ?_⟩
        by_cases e : j = i
        · subst e; rw [hx]; exact h3
        · exact hall j hj (by omega)
    · obtain rfl : i = evs.length := by omega
      have hgo : goesB evs (dEvs ds e0.st).length = true := hga.2 fun j hj => hall j hj hj
      clear hall hga
      have hcell := hc0
      have hfi := mfind m q c ds hM (by omega) e0.st
      repeat (first
        | (refine g_ops ?_; first | refine sO ?_ | refine s_n (fun _ => ?_) | refine s_app (fun _ _ => ?_) | refine s_b0 (fun _ => ?_) | ((fail_if_success refine g_lit rfl rfl rfl ?_); first | apply g_partM rfl rfl rfl | apply g_partMB rfl rfl rfl | fail) | refine s_k (hfi) ?_)
        | refine gS ?_ | exact s_m | intro _)
      clear hcell
      rename_i b10
      dsimp only [List.cons_append, List.nil_append]
      refine g_cutX (X := StrV) (fun x => [(0, ptr m), (1, .string key), (2, .slice (some ⟨b, o, none⟩) evs.length cp), (10, ptr b10)]) (fun x => [.row b10 x.cells 60, mrow m q ds.length c, Pile H]) (fun x => x.nm = e0.st ∧ x.evs = dEvs ds e0.st ∧ x.ks = dKs ds e0.st ∧ StrAt (Pile H) x) ?_ (fun x hx => ?_)
      · cases hf : fi ds e0.st with
        | none =>
          have e1 : dEvs ds e0.st = [] := by simp [dEvs, dOf_none hf]
          have e2 : dKs ds e0.st = [] := by simp [dKs, dOf_none hf]
          refine g_as 95 (v' := .bool false) rfl rfl ?_
          repeat (first
            | (refine g_ops ?_; first | refine sO ?_ | refine s_n (fun _ => ?_) | refine s_app (fun _ _ => ?_) | refine s_b0 (fun _ => ?_) | ((fail_if_success refine g_lit rfl rfl rfl ?_); first | apply g_partM rfl rfl rfl | apply g_partMB rfl rfl rfl | fail))
            | refine gS ?_ | exact s_m | intro _)
          exact gM (⟨e0.st, none, 0, [], none, 0, []⟩ : StrV) ⟨rfl, e1.symm, e2.symm, ⟨SlAt.empty, SlAt.empty, by simp, by simp, hO.st e0 (by rw [hcons]; exact List.mem_cons_self ..), ⟨by simp, by simp⟩, by simp⟩⟩
        | some k =>
          obtain ⟨hk', e1, e2⟩ := dOf_some hf
          have e3 : dEvs ds e0.st = ds[k].evs := by simp [dEvs, e1]
          have e4 : dKs ds e0.st = ds[k].ks := by simp [dKs, e1]
          obtain ⟨qb, qo, rfl, hrow⟩ := slAt_elem hM.sl str_len (by decide) (i := k) (a := ds[k]) (by simp [hk'])
          have hx := hM.at_ ds[k] (List.getElem_mem _)
          generalize ds[k] = x at hrow hx e2 e3 e4
          refine g_as 95 (v' := .bool true) rfl (congrArg Value.bool (decide_eq_true (by simp [atD]))) ?_
          refine g_as 11 (v' := int (k : Int)) rfl rfl ?_
          repeat (first
            | (refine g_ops ?_; first | refine sO ?_ | refine s_n (fun _ => ?_) | refine s_app (fun _ _ => ?_) | refine s_b0 (fun _ => ?_) | ((fail_if_success refine g_lit rfl rfl rfl ?_); first | apply g_partM rfl rfl rfl | apply g_partMB rfl rfl rfl | fail))
            | refine gS ?_ | exact s_m | intro _)
          exact gM x ⟨e2, e3.symm, e4.symm, hx⟩
      · obtain ⟨hx1, hx2, hx3, hx4⟩ := hx
        have hkn := mknown m q c ds hM (by omega) e0.st key
        obtain ⟨nm, ep, ec, oe, kp, kc, ok⟩ := x
        dsimp only at hx1 hx2 hx3
        subst hx1
        rw [← hx2] at hgo hold1
        rw [← hx3] at hkn hold2
        have hxe := hx4.e
        have hxk := hx4.k
        dsimp only [StrV.cells] at hxe hxk ⊢
        repeat (first
          | (refine g_ops ?_; first | refine sO ?_ | refine s_n (fun _ => ?_) | refine s_app (fun _ _ => ?_) | refine s_b0 (fun _ => ?_) | ((fail_if_success refine g_lit rfl rfl rfl ?_); first | apply g_partM rfl rfl rfl | apply g_partMB rfl rfl rfl | fail))
          | refine gS ?_ | exact s_m | intro _)
        refine s_app (src := srcAt hxe inferInstance (by (repeat (first | exact Sel.here | apply Sel.there)); first | done | fail) (by decide)) (fun q2 c2 => ?_)
        rw [List.nil_append, Nat.zero_add]
        repeat (first
          | (refine g_ops ?_; first | refine sO ?_ | refine s_n (fun _ => ?_) | refine s_app (fun _ _ => ?_) | refine s_b0 (fun _ => ?_) | ((fail_if_success refine g_lit rfl rfl rfl ?_); first | apply g_partM rfl rfl rfl | apply g_partMB rfl rfl rfl | fail))
          | refine gS ?_ | exact s_m | intro _)
        refine s_app (src := srcAt hS inferInstance (by (repeat (first | exact Sel.here | apply Sel.there)); first | done | fail) (by decide)) (fun q3 c3 => ?_)
        rw [← List.flatMap_append, ← List.length_append]
        repeat (first
          | (refine g_ops ?_; first | refine sO ?_ | refine s_n (fun _ => ?_) | refine s_app (fun _ _ => ?_) | refine s_b0 (fun _ => ?_) | ((fail_if_success refine g_lit rfl rfl rfl ?_); first | apply g_partM rfl rfl rfl | apply g_partMB rfl rfl rfl | fail) | refine s_k (hkn) ?_)
          | apply g_regB (id := 1) 25 | apply g_regB (id := 20) 123 | refine gS ?_ | exact s_m | intro _ | (refine gp_take ?_; first | refine pT ?_ | ((fail_if_success refine gp_lit rfl rfl rfl rfl ?_); first | apply gp_guard_dec rfl rfl rfl rfl | apply gp_guard rfl rfl rfl rfl | fail))
          | (refine gp_see ?_; first | refine p_f ?_ | refine pS ?_ | ((fail_if_success refine gp_lit rfl rfl rfl rfl ?_); first | apply gp_guard_dec rfl rfl rfl rfl | apply gp_guard rfl rfl rfl rfl | fail) | refine p_h (hkn) hd hk ?_)
          | (refine gp_one ?_; first | refine pO ?_ | refine p_n (fun _ => ?_) | refine p_app (fun _ _ => ?_) | refine p_b0 (fun _ => ?_) | ((fail_if_success refine gp_lit rfl rfl rfl rfl ?_); first | apply gp_guard_dec rfl rfl rfl rfl | apply gp_guard rfl rfl rfl rfl | fail) | refine p_k (hkn) ?_)
          | refine gp_two ?_ ?_ | refine gp_done hd hk ?_ | intro _ | refine p_ta hd hk (fun _ _ _ hd hk => ?_) | refine p_ts hd hk (fun _ hd hk => ?_))
        rename_i b12
        dsimp only [List.cons_append, List.nil_append]
        refine g_cutX (X := KsX) (fun x => [(0, ptr m), (10, ptr b10)]) (fun x => [.row b10 [.string e0.st, .slice q3 (oe ++ evs).length c3, .slice x.p x.ks.length x.c] 60, .own q3 (oe ++ evs).length c3 7 ((oe ++ evs).flatMap Ev.cells) 68, mrow m q ds.length c, Pile x.H])
          (fun x => HP.sub H x.H ∧ SlAt (Pile x.H) 5 x.p x.ks.length (x.ks.flatMap Kn.cells) ∧ x.ks = newD ok key e0.ver e0.s) ?_ (fun x hx => ?_)
        · by_cases hc : fkn ok key = none ∧ key ≠ ByteArray.empty
          · have hnd : newD ok key e0.ver e0.s = insK ok ⟨key, e0.ver, e0.s⟩ := by unfold newD; rw [if_pos hc]
            refine g_as 123 (v' := .bool true) rfl (congrArg Value.bool (by rw [hc.1, show ({ data := #[] } : ByteArray) = ByteArray.empty from rfl, decide_eq_true hc.2]; rfl)) ?_
            have hcell := hc0
            repeat (first
              | (refine g_ops ?_; first | refine sO ?_ | refine s_n (fun _ => ?_) | refine s_app (fun _ _ => ?_) | refine s_b0 (fun _ => ?_) | ((fail_if_success refine g_lit rfl rfl rfl ?_); first | apply g_partM rfl rfl rfl | apply g_partMB rfl rfl rfl | fail))
              | refine gS ?_ | exact s_m | intro _)
            refine g_draw (.take 0 (.take 1 (.take 2 (.take 3 (.see 4 [] (.take 5 (.take 6 (.take 7 (.see 8 [] (.take 9 (.one 10 (.one 11 .done)))))))))))) (by kernel_rfl) (C := [Pile H]) (by (repeat (first | exact Take.nil | apply Take.cons | exact Sel.here | apply Sel.there)); first | done | fail) (fun k hd hk => ?_)
            repeat (first
              | (refine gp_take ?_; first | refine pT ?_ | ((fail_if_success refine gp_lit rfl rfl rfl rfl ?_); first | apply gp_guard_dec rfl rfl rfl rfl | apply gp_guard rfl rfl rfl rfl | fail))
              | (refine gp_see ?_; first | refine p_f ?_ | refine pS ?_ | ((fail_if_success refine gp_lit rfl rfl rfl rfl ?_); first | apply gp_guard_dec rfl rfl rfl rfl | apply gp_guard rfl rfl rfl rfl | fail))
              | (refine gp_one ?_; first | refine pO ?_ | refine p_n (fun _ => ?_) | refine p_app (fun _ _ => ?_) | refine p_b0 (fun _ => ?_) | ((fail_if_success refine gp_lit rfl rfl rfl rfl ?_); first | apply gp_guard_dec rfl rfl rfl rfl | apply gp_guard rfl rfl rfl rfl | fail))
              | refine gp_two ?_ ?_ | refine gp_done hd hk ?_ | intro _ | refine p_ta hd hk (fun _ _ _ hd hk => ?_) | refine p_ts hd hk (fun _ hd hk => ?_))
            rename_i b15
            clear hcell
            repeat (first
              | (refine g_ops ?_; first | refine sO ?_ | refine s_n (fun _ => ?_) | refine s_app (fun _ _ => ?_) | refine s_b0 (fun _ => ?_) | ((fail_if_success refine g_lit rfl rfl rfl ?_); first | apply g_partM rfl rfl rfl | apply g_partMB rfl rfl rfl | fail))
              | refine gS ?_ | exact s_m | intro _)
            refine g_own_nil none 5 53 ?_
            refine g_loop (X := InX) (fun y => [(0, ptr m), (1, .string key), (10, ptr b10), (14, .slice y.q y.l.length y.c), (15, ptr b15), (16, .bool y.d), (17, int y.i)])
              (fun y => [.own y.q y.l.length y.c 5 (y.l.flatMap Kn.cells) 53, .row b15 (⟨key, e0.ver, e0.s⟩ : Kn).cells 53, .row b10 [.string e0.st, .slice q3 (oe ++ evs).length c3, .slice kp ok.length kc] 60, .own q3 (oe ++ evs).length c3 7 ((oe ++ evs).flatMap Ev.cells) 68, mrow m q ds.length c, Pile H])
              (fun y => y.i ≤ ok.length ∧ y.l.length ≤ 2 * y.i ∧ y.l ++ insR y.d (ok.drop y.i) ⟨key, e0.ver, e0.s⟩ = insK ok ⟨key, e0.ver, e0.s⟩) (fun y => ok.length - y.i) ⟨0, false, [], none, 0⟩ ⟨Nat.zero_le _, Nat.zero_le _, rfl⟩ (by (repeat (first | exact FrSub.nil | refine FrSub.cons rfl ?_)); first | done | fail) (by (repeat (first | exact Take.nil | apply Take.cons | exact Sel.here | apply Sel.there)); first | done | fail) (fun y hy => ?_)
            obtain ⟨i, d, l, q4, c4⟩ := y
            obtain ⟨hi, hll, he⟩ := hy
            dsimp only at hi hll he ⊢
            generalize hkx : (⟨key, e0.ver, e0.s⟩ : Kn) = kx at he hnd ⊢
            have hkk : kx.key = key := by rw [← hkx]
            clear hkx
            repeat (first
              | (refine g_ops ?_; first | refine sO ?_ | refine s_n (fun _ => ?_) | refine s_app (fun _ _ => ?_) | refine s_b0 (fun _ => ?_) | ((fail_if_success refine g_lit rfl rfl rfl ?_); first | apply g_partM rfl rfl rfl | apply g_partMB rfl rfl rfl | fail))
              | refine gS ?_ | exact s_m | intro _)
            refine g_cond_dec rfl (fun h => ?_) (fun h => ?_)
            · have hi' : i < ok.length := by omega
              rw [List.drop_eq_getElem_cons hi'] at he
              obtain ⟨kb, ko', rfl, hk0⟩ := slAt_elem hxk kn_len (by decide) (i := i) (a := ok[i]) (by simp [hi'])
              generalize ok[i] = y at hk0 he
              cases d with
              | true =>
                simp only [insR, if_true] at he
                have hrow := hk0
                repeat (first
                  | (refine g_ops ?_; first | refine sO ?_ | refine s_n (fun _ => ?_) | refine s_app (fun _ _ => ?_) | refine s_b0 (fun _ => ?_) | ((fail_if_success refine g_lit rfl rfl rfl ?_); first | apply g_partM rfl rfl rfl | apply g_partMB rfl rfl rfl | fail))
                  | refine gS ?_ | exact s_m | intro _)
                rename_i q' c'
                rw [show l.flatMap Kn.cells ++ y.cells = (l ++ [y]).flatMap Kn.cells by simp, show l.length + 1 = (l ++ [y]).length by simp]
                refine g_as 17 (v' := int ((i + 1 : Nat) : Int)) rfl (congrArg (Value.int .i64) (by push_cast; rfl)) ?_
                exact gA ⟨i + 1, true, l ++ [y], q', c'⟩ (by simp only; omega) ⟨hi', by simp only [List.length_append, List.length_singleton]; omega, by simpa [insR] using he⟩
              | false =>
                simp only [insR, Bool.false_eq_true, if_false, insK, hkk] at he
                have hcell := hk0
                repeat (first
                  | (refine g_ops ?_; first | refine sO ?_ | refine s_n (fun _ => ?_) | refine s_app (fun _ _ => ?_) | refine s_b0 (fun _ => ?_) | ((fail_if_success refine g_lit rfl rfl rfl ?_); first | apply g_partM rfl rfl rfl | apply g_partMB rfl rfl rfl | fail))
                  | refine gS ?_ | exact s_m | intro _)
                clear hcell
                have hrow := hk0
                cases hlt : ltB key y.key with
                | true =>
                  rw [hlt, if_pos rfl] at he
                  refine g_as 152 (v' := .bool true) rfl (congrArg Value.bool hlt) ?_
                  repeat (first
                    | (refine g_ops ?_; first | refine sO ?_ | refine s_n (fun _ => ?_) | refine s_app (fun _ _ => ?_) | refine s_b0 (fun _ => ?_) | ((fail_if_success refine g_lit rfl rfl rfl ?_); first | apply g_partM rfl rfl rfl | apply g_partMB rfl rfl rfl | fail))
                    | refine gS ?_ | exact s_m | intro _)
                  rename_i q5 c5 q6 c6
                  rw [show l.flatMap Kn.cells ++ kx.cells ++ y.cells = (l ++ [kx] ++ [y]).flatMap Kn.cells by simp, show l.length + 1 + 1 = (l ++ [kx] ++ [y]).length by simp]
                  refine g_as 17 (v' := int ((i + 1 : Nat) : Int)) rfl (congrArg (Value.int .i64) (by push_cast; rfl)) ?_
                  exact gA ⟨i + 1, true, l ++ [kx] ++ [y], q6, c6⟩ (by simp only; omega) ⟨hi', by simp only [List.length_append, List.length_singleton]; omega, by simpa [insR] using he⟩
                | false =>
                  rw [hlt, if_neg (by simp)] at he
                  refine g_as 152 (v' := .bool false) rfl (congrArg Value.bool hlt) ?_
                  repeat (first
                    | (refine g_ops ?_; first | refine sO ?_ | refine s_n (fun _ => ?_) | refine s_app (fun _ _ => ?_) | refine s_b0 (fun _ => ?_) | ((fail_if_success refine g_lit rfl rfl rfl ?_); first | apply g_partM rfl rfl rfl | apply g_partMB rfl rfl rfl | fail))
                    | refine gS ?_ | exact s_m | intro _)
                  rename_i q' c'
                  rw [show l.flatMap Kn.cells ++ y.cells = (l ++ [y]).flatMap Kn.cells by simp, show l.length + 1 = (l ++ [y]).length by simp]
                  refine g_as 17 (v' := int ((i + 1 : Nat) : Int)) rfl (congrArg (Value.int .i64) (by push_cast; rfl)) ?_
                  exact gA ⟨i + 1, false, l ++ [y], q', c'⟩ (by simp only; omega) ⟨hi', by simp only [List.length_append, List.length_singleton]; omega, by simpa [insR] using he⟩
            · obtain rfl : i = ok.length := by omega
              rw [List.drop_length] at he
              cases d with
              | true =>
                simp only [insR, if_true, List.append_nil] at he
                rw [← hnd] at he
                repeat (first
                  | (refine g_ops ?_; first | refine sO ?_ | refine s_n (fun _ => ?_) | refine s_app (fun _ _ => ?_) | refine s_b0 (fun _ => ?_) | ((fail_if_success refine g_lit rfl rfl rfl ?_); first | apply g_partM rfl rfl rfl | apply g_partMB rfl rfl rfl | fail))
                  | refine gS ?_ | exact s_m | intro _)
                refine g_pile (p := q4) (m := l.length) (c := c4) (n := 5) (xs := l.flatMap Kn.cells) (e := 53) (by (repeat (first | exact Sel.here | apply Sel.there)); first | done | fail) (by (repeat (first | exact Sel.here | apply Sel.there)); first | done | fail) (fun H2 hs2 hA2 => ?_)
                exact gM (⟨q4, c4, l, H2⟩ : KsX) ⟨hs2, hA2, he⟩
              | false =>
                simp only [insR, Bool.false_eq_true, if_false, insK] at he
                rw [← hnd] at he
                repeat (first
                  | (refine g_ops ?_; first | refine sO ?_ | refine s_n (fun _ => ?_) | refine s_app (fun _ _ => ?_) | refine s_b0 (fun _ => ?_) | ((fail_if_success refine g_lit rfl rfl rfl ?_); first | apply g_partM rfl rfl rfl | apply g_partMB rfl rfl rfl | fail))
                  | refine gS ?_ | exact s_m | intro _)
                rename_i q5 c5
                rw [show l.flatMap Kn.cells ++ kx.cells = (l ++ [kx]).flatMap Kn.cells by simp, show l.length + 1 = (l ++ [kx]).length by simp]
                refine g_pile (p := q5) (m := (l ++ [kx]).length) (c := c5) (n := 5) (xs := (l ++ [kx]).flatMap Kn.cells) (e := 53) (by (repeat (first | exact Sel.here | apply Sel.there)); first | done | fail) (by (repeat (first | exact Sel.here | apply Sel.there)); first | done | fail) (fun H2 hs2 hA2 => ?_)
                exact gM (⟨q5, c5, l ++ [kx], H2⟩ : KsX) ⟨hs2, hA2, he⟩
          · refine g_as 123 (v' := .bool false) rfl (congrArg Value.bool (by
              rw [show ({ data := #[] } : ByteArray) = ByteArray.empty from rfl]
              by_cases hke : key = ByteArray.empty
              · rw [decide_eq_false (by simp [hke])]; rfl
              · cases hfk : fkn ok key with
                | none => exact absurd ⟨hfk, hke⟩ hc
                | some k => simp)) ?_
            repeat (first
              | (refine g_ops ?_; first | refine sO ?_ | refine s_n (fun _ => ?_) | refine s_app (fun _ _ => ?_) | refine s_b0 (fun _ => ?_) | ((fail_if_success refine g_lit rfl rfl rfl ?_); first | apply g_partM rfl rfl rfl | apply g_partMB rfl rfl rfl | fail))
              | refine gS ?_ | exact s_m | intro _)
            exact gM (⟨kp, kc, ok, H⟩ : KsX) ⟨HP.sub.refl _, hxk, by unfold newD; rw [if_neg hc]⟩
        · obtain ⟨kp2, kc2, ks2, H2⟩ := x
          obtain ⟨hs2, hA2, hks⟩ := hx
          dsimp only at hs2 hA2 hks ⊢
          refine g_pile (p := q3) (m := (oe ++ evs).length) (c := c3) (n := 7) (xs := (oe ++ evs).flatMap Ev.cells) (e := 68) (by (repeat (first | exact Sel.here | apply Sel.there)); first | done | fail) (by (repeat (first | exact Sel.here | apply Sel.there)); first | done | fail) (fun H3 hs3 hA3 => ?_)
          have hlen : (oe ++ evs).length ≤ 200000000 := by rw [List.length_append]; omega
          have hkl : ks2.length ≤ 200000000 := by have := newD_len ok key e0.ver e0.s; rw [hks]; omega
          have hSA : StrAt (Pile H3) ⟨e0.st, q3, c3, oe ++ evs, kp2, kc2, ks2⟩ := ⟨hA3, hA2.grow hs3, by simp only; omega, by simp only; omega, hx4.nl, ⟨fun e he => by
            rcases List.mem_append.1 he with he | he
            · exact hx4.eo.st e he
            · exact hO.st e he, fun e he => by
            rcases List.mem_append.1 he with he | he
            · exact hx4.eo.data e he
            · exact hO.data e he⟩, fun k hk => by
            simp only at hk
            rw [hks] at hk
            rcases newD_mem hk with hk | hk
            · exact hx4.ko k hk
            · rw [hk]; omega⟩
          have hput := mput_ m q c ds (hM.grow (hs2.trans hs3)) hl _ hSA
          dsimp only [StrV.cells] at hput
          repeat (first
            | (refine g_ops ?_; first | refine sO ?_ | refine s_n (fun _ => ?_) | refine s_app (fun _ _ => ?_) | refine s_b0 (fun _ => ?_) | ((fail_if_success refine g_lit rfl rfl rfl ?_); first | apply g_partM rfl rfl rfl | apply g_partMB rfl rfl rfl | fail) | refine s_c (hput) (fun _ _ => ?_))
            | refine gS ?_ | exact s_m | intro _)
          rename_i x hx
          obtain ⟨q', c', H4⟩ := x
          obtain ⟨hs4, hM4⟩ := hx
          exact gR (⟨0, q', c', _, H4⟩ : MaX) ⟨hs2.trans (hs3.trans hs4), hM4, .inr ⟨hmy, e0, l0, hcons, .inr ⟨by rw [← hx2]; exact hgo, rfl, _, rfl, rfl, by rw [← hx2], by rw [hks, hx3]⟩⟩⟩
end
end Go.Proofs.YtcgmliaahdpmcaaGreatDoor
