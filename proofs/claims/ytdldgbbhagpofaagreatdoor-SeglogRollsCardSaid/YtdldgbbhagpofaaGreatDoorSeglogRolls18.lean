/- Contracts and laws that the proof stands on. -/
import Derived.Test.YtdldgbbhagpofaaGreatDoorSeglogRolls17
set_option linter.unusedSimpArgs false
set_option linter.unusedVariables false
namespace Go.Proofs.YtdldgbbhagpofaaGreatDoor
open Go.Sl facts
def recR (m j : Nat) : List UInt8 := lettersL m j ++ [UInt8.ofNat j]
theorem recR_len (m j : Nat) : (recR m j).length = m + 1 := by unfold recR; rw [List.length_append, lettersL_len]; rfl
structure RoX where
  i : Nat
  x : LG
  y : DkX
  ops : Int
  H : HP
structure RoOk (m n : Nat) (s : RoX) : Prop where
  le : s.i ≤ n
  at_ : BtsAt s.H s.x.rs
  recs : bts s.x.rs = (List.range s.i).map (recR m)
  sl : s.x.sl = false
  seg : s.x.fs.length ≤ s.i
  seg1 : 0 < s.i → 0 < s.x.fs.length
  size : ∃ z : Nat, s.x.size = z ∧ z ≤ 2000 + m ∧ (s.x.fs.length ≤ 1 → z = s.i * (m + 1))
  sort : SortF s.y.fs
  fl : s.y.fs.length ≤ s.i
  used : Go.Proofs.YtdldgbbhagpofaaGreatDoor.used s.y.fs ≤ s.i * (m + 27)
  ops : 0 ≤ s.ops ∧ s.ops ≤ 2 * s.i
theorem RoOk.len {m n : Nat} {s : RoX} (h : RoOk m n s) : s.x.rs.length = s.i := by have := congrArg List.length h.recs; simpa using this
theorem RoOk.start (m n : Nat) (H : HP) : RoOk m n ⟨0, lg0, ⟨none, 0, []⟩, 0, H⟩ :=
  ⟨Nat.zero_le _, fun r hr => by simp at hr, rfl, rfl, Nat.le_refl _, fun h => absurd h (Nat.lt_irrefl _), ⟨0, rfl, Nat.zero_le _, fun _ => by simp⟩, by simp [SortF], Nat.le_refl _, by simp [Go.Proofs.YtdldgbbhagpofaaGreatDoor.used], ⟨Int.le_refl _, Int.le_refl _⟩⟩
theorem RoOk.next {m n : Nat} {s : RoX} (h : RoOk m n s) (hm : m ≤ 1500) (hi : s.i < n) (hn : n ≤ 100) {z : Nat} (hz : s.x.size = z) {H : HP} {r : BV} (hr : r.l = recR m s.i) {st : St} (hst : partsL s.x.fs.length z false s.x.rs.length [r] = st) {w : ApX} (ha : ApOk H s.x [r] st s.y.fs w) :
    RoOk m n ⟨s.i + 1, w.x, w.y, s.ops + 2 * (st.out.length : Int), w.H⟩ ∧ s.x.fs.length ≤ w.x.fs.length := by
  have hlr : r.l.length = m + 1 := by rw [hr, recR_len]
  have hsl : sumL [r] = m + 1 := by simp [sumL, hlr]
  obtain ⟨z', hz', hz2, hz3⟩ := h.size
  obtain rfl : z' = z := by have := hz'.symm.trans hz; omega
  rw [parts_one] at hst
  obtain ⟨ps, hps, hw⟩ := ha.wr
  have hseg := h.seg
  have hfl := h.fl
  have hused := h.used
  have hops := h.ops
  have h1 : s.i * (m + 27) + (m + 27) = (s.i + 1) * (m + 27) := by rw [Nat.succ_mul]
  have h2 : s.i * (m + 1) + (m + 1) = (s.i + 1) * (m + 1) := by rw [Nat.succ_mul]
  have hout : st.out.length = 1 := by rw [← hst]; split <;> rfl
  have hpl : ps.length = 1 := by have := congrArg List.length hps; rw [List.length_map] at this; omega
  have hpk := pok s.x.fs.length z' false s.x.rs.length [r] (by simp; omega) (by rw [h.len]; omega) (by omega)
  rw [parts_one, hst] at hpk
  have hb := hpk.byt ps hps
  rw [hsl] at hb
  have hwl := hw.len
  have hwu := hw.used
  simp only [List.length_singleton, Nat.mul_one] at hb
  have hrecs := ha.recs
  have hfst := ha.fst
  have hsize := ha.size
  have hsl2 := ha.sl
  refine ⟨⟨hi, ha.at_, ?_, ?_, ?_, fun _ => ?_, ?_, hw.sort h.sort, ?_, ?_, ?_⟩, ?_⟩
  · show bts w.x.rs = _
    rw [hrecs, h.recs, List.range_succ, List.map_append]
    show _ ++ [r.l] = _
    rw [hr]; rfl
  · show w.x.sl = false
    rw [hsl2, h.sl]; rfl
  · show w.x.fs.length ≤ s.i + 1
    rw [hfst, List.length_append, List.length_map]
    have := List.length_filter_le (fun a : PA => a.fresh) st.out
    omega
  · show 0 < w.x.fs.length
    rw [hfst, List.length_append, List.length_map, ← hst]
    split
    · omega
    · simp
  · show ∃ z : Nat, w.x.size = z ∧ z ≤ 2000 + m ∧ (w.x.fs.length ≤ 1 → z = (s.i + 1) * (m + 1))
    refine ⟨st.size, hsize, ?_⟩
    rw [hfst, List.length_append, List.length_map, ← hst]
    split
    · rename_i hc
      refine ⟨?_, fun hc2 => ?_⟩
      · show z' + r.l.length ≤ _; omega
      · show z' + r.l.length = _
        have := hz3 (by omega)
        omega
    · rename_i hc
      refine ⟨?_, fun hc2 => ?_⟩
      · show r.l.length ≤ _; omega
      · show r.l.length = _
        simp at hc2
        have h0 : s.x.fs.length = 0 := by rw [hc2]; rfl
        have hi0 : s.i = 0 := by
          cases hi0 : s.i with
          | zero => rfl
          | succ k => have := h.seg1 (by omega); omega
        rw [hi0, hlr]; omega
  · show w.y.fs.length ≤ s.i + 1; omega
  · show Go.Proofs.YtdldgbbhagpofaaGreatDoor.used w.y.fs ≤ (s.i + 1) * (m + 27); omega
  · show 0 ≤ s.ops + 2 * (st.out.length : Int) ∧ s.ops + 2 * (st.out.length : Int) ≤ 2 * ((s.i + 1 : Nat) : Int)
    rw [hout]; push_cast; omega
  · rw [hfst, List.length_append]; omega
attribute [local irreducible] Code.wp wpList Exit.then Exit.inBlock bodyPost Back MidQ G GP QStep VStep CStep SStep Does Post Reads
attribute [local irreducible] Begin RPost MPost frameB recB partB pbytes
theorem rolls11 (n size at_ : Int) : Does1 Tryz.prog 4 [int n, int size, int at_] [] (.bool true) := by
  have hm : n < 1 ∨ 100 < n ∨ size < 0 ∨ 1500 < size ∨ (0 ≤ n * size ∧ n * size ≤ 150000) := by
    by_cases h1 : n < 1
    · exact .inl h1
    by_cases h2 : 100 < n
    · exact .inr (.inl h2)
    by_cases h3 : size < 0
    · exact .inr (.inr (.inl h3))
    by_cases h4 : 1500 < size
    · exact .inr (.inr (.inr (.inl h4)))
    have h5 : n * size ≤ 100 * 1500 := Int.mul_le_mul (by omega) (by omega) (by omega) (by omega)
    have h6 : 0 ≤ n * size := Int.mul_nonneg (by omega) (by omega)
    exact .inr (.inr (.inr (.inr ⟨h6, by omega⟩)))
  refine fn_intro Tryz.func4 rfl Tryz.ntmps4 rfl (by simp only [argFr, Nat.zero_add, Nat.reduceAdd]; rfl) (fun Γ => ?_)
  by_cases hc : n < 1 ∨ 100 < n ∨ size < 0 ∨ 1500 < size ∨ 100000 < n * size
  · repeat (first
      | (refine g_ops ?_; first | refine sO ?_ | refine s_n (fun _ => ?_) | refine s_appB (fun _ _ => ?_) | refine s_app (fun _ _ => ?_) | refine s_b0 (fun _ => ?_) | ((fail_if_success refine g_lit rfl rfl rfl ?_); first | apply g_partM rfl rfl rfl | apply g_partMB rfl rfl rfl | fail))
      | apply g_regB (id := 1) 36 | apply g_regB (id := 12) 79 | refine gS ?_ | exact s_m | intro _ | (refine gp_take ?_; first | refine pT ?_ | ((fail_if_success refine gp_lit rfl rfl rfl rfl ?_); first | apply gp_guard_dec rfl rfl rfl rfl | apply gp_guard rfl rfl rfl rfl | fail))
      | (refine gp_see ?_; first | refine p_f ?_ | refine pS ?_ | ((fail_if_success refine gp_lit rfl rfl rfl rfl ?_); first | apply gp_guard_dec rfl rfl rfl rfl | apply gp_guard rfl rfl rfl rfl | fail))
      | (refine gp_one ?_; first | refine pO ?_ | refine p_n (fun _ => ?_) | refine p_appB (fun _ _ => ?_) | refine p_app (fun _ _ => ?_) | refine p_b0 (fun _ => ?_) | ((fail_if_success refine gp_lit rfl rfl rfl rfl ?_); first | apply gp_guard_dec rfl rfl rfl rfl | apply gp_guard rfl rfl rfl rfl | fail))
      | refine gp_two ?_ ?_ | refine gp_done hd hk ?_ | intro _ | refine p_ta hd hk (fun _ _ _ hd hk => ?_) | refine p_ts hd hk (fun _ hd hk => ?_))
    refine g_as 36 (v' := .bool true) rfl (congrArg Value.bool (by
      rcases hc with h | h | h | h | h <;> rw [decide_eq_true h] <;> simp)) ?_
    repeat (first
      | (refine g_ops ?_; first | refine sO ?_ | refine s_n (fun _ => ?_) | refine s_appB (fun _ _ => ?_) | refine s_app (fun _ _ => ?_) | refine s_b0 (fun _ => ?_) | ((fail_if_success refine g_lit rfl rfl rfl ?_); first | apply g_partM rfl rfl rfl | apply g_partMB rfl rfl rfl | fail) | refine s_k (awake_) ?_)
      | apply g_regB (id := 1) 36 | apply g_regB (id := 12) 79 | refine gS ?_ | exact s_m | intro _ | (refine gp_take ?_; first | refine pT ?_ | ((fail_if_success refine gp_lit rfl rfl rfl rfl ?_); first | apply gp_guard_dec rfl rfl rfl rfl | apply gp_guard rfl rfl rfl rfl | fail))
      | (refine gp_see ?_; first | refine p_f ?_ | refine pS ?_ | ((fail_if_success refine gp_lit rfl rfl rfl rfl ?_); first | apply gp_guard_dec rfl rfl rfl rfl | apply gp_guard rfl rfl rfl rfl | fail) | refine p_h (awake_) hd hk ?_)
      | (refine gp_one ?_; first | refine pO ?_ | refine p_n (fun _ => ?_) | refine p_appB (fun _ _ => ?_) | refine p_app (fun _ _ => ?_) | refine p_b0 (fun _ => ?_) | ((fail_if_success refine gp_lit rfl rfl rfl rfl ?_); first | apply gp_guard_dec rfl rfl rfl rfl | apply gp_guard rfl rfl rfl rfl | fail) | refine p_k (awake_) ?_)
      | refine gp_two ?_ ?_ | refine gp_done hd hk ?_ | intro _ | refine p_ta hd hk (fun _ _ _ hd hk => ?_) | refine p_ts hd hk (fun _ hd hk => ?_))
    exact gR () trivial
  · have h1 : ¬ n < 1 := fun h => hc (.inl h)
    have h2 : ¬ 100 < n := fun h => hc (.inr (.inl h))
    have h3 : ¬ size < 0 := fun h => hc (.inr (.inr (.inl h)))
    have h4 : ¬ 1500 < size := fun h => hc (.inr (.inr (.inr (.inl h))))
    have h5 : ¬ 100000 < n * size := fun h => hc (.inr (.inr (.inr (.inr h))))
    obtain ⟨k, rfl⟩ : ∃ k : Nat, n = (k : Int) := ⟨n.toNat, by omega⟩
    obtain ⟨m, rfl⟩ : ∃ m : Nat, size = (m : Int) := ⟨size.toNat, by omega⟩
    have h5' : k * m ≤ 100000 := by
      have : ((k * m : Nat) : Int) ≤ 100000 := by rw [Int.natCast_mul]; omega
      omega
    repeat (first
      | (refine g_ops ?_; first | refine sO ?_ | refine s_n (fun _ => ?_) | refine s_appB (fun _ _ => ?_) | refine s_app (fun _ _ => ?_) | refine s_b0 (fun _ => ?_) | ((fail_if_success refine g_lit rfl rfl rfl ?_); first | apply g_partM rfl rfl rfl | apply g_partMB rfl rfl rfl | fail))
      | apply g_regB (id := 1) 36 | apply g_regB (id := 12) 79 | refine gS ?_ | exact s_m | intro _ | (refine gp_take ?_; first | refine pT ?_ | ((fail_if_success refine gp_lit rfl rfl rfl rfl ?_); first | apply gp_guard_dec rfl rfl rfl rfl | apply gp_guard rfl rfl rfl rfl | fail))
      | (refine gp_see ?_; first | refine p_f ?_ | refine pS ?_ | ((fail_if_success refine gp_lit rfl rfl rfl rfl ?_); first | apply gp_guard_dec rfl rfl rfl rfl | apply gp_guard rfl rfl rfl rfl | fail))
      | (refine gp_one ?_; first | refine pO ?_ | refine p_n (fun _ => ?_) | refine p_appB (fun _ _ => ?_) | refine p_app (fun _ _ => ?_) | refine p_b0 (fun _ => ?_) | ((fail_if_success refine gp_lit rfl rfl rfl rfl ?_); first | apply gp_guard_dec rfl rfl rfl rfl | apply gp_guard rfl rfl rfl rfl | fail))
      | refine gp_two ?_ ?_ | refine gp_done hd hk ?_ | intro _ | refine p_ta hd hk (fun _ _ _ hd hk => ?_) | refine p_ts hd hk (fun _ hd hk => ?_))
    refine g_as 36 (v' := .bool false) rfl (congrArg Value.bool (by
      simp only [decide_eq_false h1, decide_eq_false h2, decide_eq_false h3, decide_eq_false h4, decide_eq_false h5, cond_false])) ?_
    repeat (first
      | (refine g_ops ?_; first | refine sO ?_ | refine s_n (fun _ => ?_) | refine s_appB (fun _ _ => ?_) | refine s_app (fun _ _ => ?_) | refine s_b0 (fun _ => ?_) | ((fail_if_success refine g_lit rfl rfl rfl ?_); first | apply g_partM rfl rfl rfl | apply g_partMB rfl rfl rfl | fail) | refine s_c (fresh0) (fun _ _ => ?_))
      | apply g_regB (id := 1) 36 | apply g_regB (id := 12) 79 | refine gS ?_ | exact s_m | intro _ | (refine gp_take ?_; first | refine pT ?_ | ((fail_if_success refine gp_lit rfl rfl rfl rfl ?_); first | apply gp_guard_dec rfl rfl rfl rfl | apply gp_guard rfl rfl rfl rfl | fail))
      | (refine gp_see ?_; first | refine p_f ?_ | refine pS ?_ | ((fail_if_success refine gp_lit rfl rfl rfl rfl ?_); first | apply gp_guard_dec rfl rfl rfl rfl | apply gp_guard rfl rfl rfl rfl | fail))
      | (refine gp_one ?_; first | refine pO ?_ | refine p_n (fun _ => ?_) | refine p_appB (fun _ _ => ?_) | refine p_app (fun _ _ => ?_) | refine p_b0 (fun _ => ?_) | ((fail_if_success refine gp_lit rfl rfl rfl rfl ?_); first | apply gp_guard_dec rfl rfl rfl rfl | apply gp_guard rfl rfl rfl rfl | fail) | refine p_c (fresh0) (fun _ _ => ?_))
      | refine gp_two ?_ ?_ | refine gp_done hd hk ?_ | intro _ | refine p_ta hd hk (fun _ _ _ hd hk => ?_) | refine p_ts hd hk (fun _ hd hk => ?_))
    rename_i y _
    obtain ⟨d, lg⟩ := y
    dsimp only [List.cons_append, List.nil_append, List.append_nil]
    have hsg0 := segs_ lg d none 0 0 (.slice none 0 0) 0 false false
    dsimp only [LG.row, List.length_nil]
    repeat (first
      | (refine g_ops ?_; first | refine sO ?_ | refine s_n (fun _ => ?_) | refine s_appB (fun _ _ => ?_) | refine s_app (fun _ _ => ?_) | refine s_b0 (fun _ => ?_) | ((fail_if_success refine g_lit rfl rfl rfl ?_); first | apply g_partM rfl rfl rfl | apply g_partMB rfl rfl rfl | fail) | refine s_k (hsg0) ?_)
      | apply g_regB (id := 1) 36 | apply g_regB (id := 12) 79 | refine gS ?_ | exact s_m | intro _ | (refine gp_take ?_; first | refine pT ?_ | ((fail_if_success refine gp_lit rfl rfl rfl rfl ?_); first | apply gp_guard_dec rfl rfl rfl rfl | apply gp_guard rfl rfl rfl rfl | fail))
      | (refine gp_see ?_; first | refine p_f ?_ | refine pS ?_ | ((fail_if_success refine gp_lit rfl rfl rfl rfl ?_); first | apply gp_guard_dec rfl rfl rfl rfl | apply gp_guard rfl rfl rfl rfl | fail) | refine p_h (hsg0) hd hk ?_)
      | (refine gp_one ?_; first | refine pO ?_ | refine p_n (fun _ => ?_) | refine p_appB (fun _ _ => ?_) | refine p_app (fun _ _ => ?_) | refine p_b0 (fun _ => ?_) | ((fail_if_success refine gp_lit rfl rfl rfl rfl ?_); first | apply gp_guard_dec rfl rfl rfl rfl | apply gp_guard rfl rfl rfl rfl | fail) | refine p_k (hsg0) ?_)
      | refine gp_two ?_ ?_ | refine gp_done hd hk ?_ | intro _ | refine p_ta hd hk (fun _ _ _ hd hk => ?_) | refine p_ts hd hk (fun _ hd hk => ?_))
    refine g_pileN ?_
    refine g_loop (X := RoX) (fun s => [(0, int k), (1, int m), (2, int at_), (6, .bool false), (8, ptr lg), (10, int s.x.fs.length), (11, int s.i)])
      (fun s => s.x.L lg d false ++ bagL d 1048576 s.ops 0 s.y.q s.y.c s.y.fs [Pile s.H])
      (RoOk m k) (fun s => k - s.i) ⟨0, lg0, ⟨none, 0, []⟩, 0, fun _ => none⟩ (RoOk.start m k _) (by (repeat (first | exact FrSub.nil | refine FrSub.cons rfl ?_)); first | done | fail) (by (repeat (first | exact Take.nil | apply Take.cons | exact Sel.here | apply Sel.there)); first | done | fail) (fun s hs => ?_)
    obtain ⟨i, x, ⟨q, c, fs⟩, op, H⟩ := s
    have hle := hs.le
    dsimp only at hle ⊢
    repeat (first
      | (refine g_ops ?_; first | refine sO ?_ | refine s_n (fun _ => ?_) | refine s_appB (fun _ _ => ?_) | refine s_app (fun _ _ => ?_) | refine s_b0 (fun _ => ?_) | ((fail_if_success refine g_lit rfl rfl rfl ?_); first | apply g_partM rfl rfl rfl | apply g_partMB rfl rfl rfl | fail))
      | refine gS ?_ | exact s_m | intro _)
    refine g_cond_dec rfl (fun h => ?_) (fun h => ?_)
    · have hi : i < k := by omega
      have hlt := letters11 m i (by omega) ⟨by omega, by omega⟩
      repeat (first
        | (refine g_ops ?_; first | refine sO ?_ | refine s_n (fun _ => ?_) | refine s_appB (fun _ _ => ?_) | refine s_app (fun _ _ => ?_) | refine s_b0 (fun _ => ?_) | ((fail_if_success refine g_lit rfl rfl rfl ?_); first | apply g_partM rfl rfl rfl | apply g_partMB rfl rfl rfl | fail) | refine s_p (hlt) ?_)
        | refine gS ?_ | exact s_m | intro _)
      refine g_c (cs_strBytes inferInstance inferInstance inferInstance rfl) rfl rfl (fun sb hsb => ?_)
      obtain ⟨sb, sc⟩ := sb
      have hsz : ByteArray.size ⟨(lettersL m (i : Int)).toArray⟩ = m := by simp [ByteArray.size, lettersL_len]
      dsimp only at hsb ⊢
      rw [hsz] at hsb ⊢
      have hsr : strRow ⟨(lettersL m (i : Int)).toArray⟩ sc = cells8 (lettersL m (i : Int)) ++ List.replicate (sc - m) (.int .u8 0) := by unfold strRow; rw [hsz]
      have hcl : (cells8 (lettersL m (i : Int))).length = m := by rw [cells8_len, lettersL_len]
      have hcl2 : (cells8 (lettersL m (i : Int)) ++ List.replicate (sc - m) (Value.int .u8 0)).length = sc := by rw [List.length_append, hcl, List.length_replicate]; omega
      rw [hsr, hcl2]
      repeat (first
        | (refine g_ops ?_; first | refine sO ?_ | refine s_n (fun _ => ?_) | refine s_appB (fun _ _ => ?_) | refine s_app (fun _ _ => ?_) | refine s_b0 (fun _ => ?_) | ((fail_if_success refine g_lit rfl rfl rfl ?_); first | apply g_partM rfl rfl rfl | apply g_partMB rfl rfl rfl | fail))
        | refine gS ?_ | exact s_m | intro _)
      refine s_q (q := by exact qs_convInt rfl) ?_
      refine g_as 57 (v' := .int .u8 ((UInt8.ofNat i).toNat : Int)) rfl (congrArg (Value.int .u8) (by rw [u8_mod, byte_of _ (by omega)]; omega)) ?_
      repeat (first
        | (refine g_ops ?_; first | refine sO ?_ | refine s_n (fun _ => ?_) | refine s_appB (fun _ _ => ?_) | refine s_app (fun _ _ => ?_) | refine s_b0 (fun _ => ?_) | ((fail_if_success refine g_lit rfl rfl rfl ?_); first | apply g_partM rfl rfl rfl | apply g_partMB rfl rfl rfl | fail))
        | refine gS ?_ | exact s_m | intro _)
      rename_i nb
      refine g_c (cs_appendStr (v := .int .u8 ((UInt8.ofNat i).toNat : Int)) (fz := (sc, sc + 1)) (xs := cells8 (lettersL m (i : Int))) (junk := List.replicate (sc - m) (.int .u8 0)) inferInstance inferInstance inferInstance inferInstance rfl rfl (by (repeat (first | exact Sel.here | apply Sel.there)); first | done | fail) hcl hcl2 (Nat.le_refl _) (cells8_one _) (srcRow inferInstance (by (repeat (first | exact Sel.here | apply Sel.there)); first | done | fail) (by (repeat (first | exact Cut.zero | apply Cut.take | apply Cut.skip)); first | done | fail) rfl) rfl (by omega) (by omega)) rfl rfl (fun z _ => ?_)
      obtain ⟨ab, ac⟩ := z
      dsimp only
      repeat (first
        | (refine g_ops ?_; first | refine sO ?_ | refine s_n (fun _ => ?_) | refine s_appB (fun _ _ => ?_) | refine s_app (fun _ _ => ?_) | refine s_b0 (fun _ => ?_) | ((fail_if_success refine g_lit rfl rfl rfl ?_); first | apply g_partM rfl rfl rfl | apply g_partMB rfl rfl rfl | fail))
        | refine gS ?_ | exact s_m | intro _)
      rename_i bl
      refine g_pileC (c := .asn (rowS ab (cells8 (lettersL m (i : Int)) ++ [.int .u8 ((UInt8.ofNat i).toNat : Int)]))) (by (repeat (first | exact Sel.here | apply Sel.there)); first | done | fail) (by (repeat (first | exact Sel.here | apply Sel.there)); first | done | fail) (fun H1 hs1 hr1 => ?_)
      refine g_toOwn (b := bl) (len := 1) (n := 1) (xs := [.slice (some ⟨ab, 0, none⟩) (m + 1) ac]) (e := 28) (by (repeat (first | exact Sel.here | apply Sel.there)); first | done | fail) rfl rfl ?_
      refine g_pile (p := some ⟨bl, 0, none⟩) (m := 1) (c := 1) (n := 1) (xs := [.slice (some ⟨ab, 0, none⟩) (m + 1) ac]) (e := 28) (by (repeat (first | exact Sel.here | apply Sel.there)); first | done | fail) (by (repeat (first | exact Sel.here | apply Sel.there)); first | done | fail) (fun H3 hs3 hA => ?_)
      have hrl := recR_len m i
      have hrc : cells8 (recR m i) = cells8 (lettersL m (i : Int)) ++ [.int .u8 ((UInt8.ofNat i).toNat : Int)] := cells8_snoc .. |>.symm
      have hR : RecsAt H3 (some ⟨bl, 0, none⟩) [⟨some ⟨ab, 0, none⟩, recR m i, ac⟩] := by
        refine ⟨by simpa [BV.v, hrl] using hA, fun r hr => ?_⟩
        rw [List.mem_singleton.1 hr]
        intro j hj
        refine ⟨ab, 0, rfl, reads_grow hs3 (hr1 _ _ ?_)⟩
        rw [Nat.zero_add, ← hrc]
        exact reads_rowS (cells8_get _ j hj)
      have hsl : sumL [(⟨some ⟨ab, 0, none⟩, recR m i, ac⟩ : BV)] = m + 1 := by simp [sumL, hrl]
      obtain ⟨z, hz1, hz2, hz3⟩ := hs.size
      have hsg := hs.seg
      have hfl := hs.fl
      have hus := hs.used
      have hop := hs.ops
      have hln := hs.len
      have hsort := hs.sort
      have hsl0 := hs.sl
      have hat0 := hs.at_
      dsimp only at hz1 hz2 hz3 hsg hfl hus hop hln hsort hsl0 hat0
      have him : i * (m + 27) ≤ 100 * 1527 := Nat.mul_le_mul (by omega) (by omega)
      have hpk := pok x.fs.length z false x.rs.length [(⟨some ⟨ab, 0, none⟩, recR m i, ac⟩ : BV)] (by simp; omega) (by omega) (by omega)
      rw [hsl, List.length_singleton] at hpk
      have hap := append_ (H := H3) lg d x 1048576 q c op ⟨by omega, by omega⟩ fs hsort (by omega) (by decide) (by omega) (some ⟨bl, 0, none⟩) 1 _ hR (by simp) (by simp) (fun r hr => by rw [List.mem_singleton.1 hr]; show (recR m i).length ≤ _; omega) (by omega) z hz1 (by omega) (fun r hr => BtAt.grow (hat0 r hr) (hs1.trans hs3)) (by omega) (by omega) (m + 1 + 26 * 1) (by omega) (by omega) (by rw [hsl0]; exact hpk)
      obtain ⟨st, hst⟩ : ∃ st, partsL x.fs.length z false x.rs.length [(⟨some ⟨ab, 0, none⟩, recR m i, ac⟩ : BV)] = st := ⟨_, rfl⟩
      rw [hsl0, hst] at hap
      dsimp only [LG.L, LG.own, List.cons_append, List.nil_append, List.append_nil, List.length_singleton] at hap ⊢
      repeat ((fail_if_success refine s_at 74 ?_); first
        | (refine g_ops ?_; first | refine sO ?_ | refine s_n (fun _ => ?_) | refine s_appB (fun _ _ => ?_) | refine s_app (fun _ _ => ?_) | refine s_b0 (fun _ => ?_) | ((fail_if_success refine g_lit rfl rfl rfl ?_); first | apply g_partM rfl rfl rfl | apply g_partMB rfl rfl rfl | fail) | refine s_c (hap) (fun _ _ => ?_))
        | apply g_regB (id := 1) 36 | refine gS ?_ | exact s_m | intro _ | (refine gp_take ?_; first | refine pT ?_ | ((fail_if_success refine gp_lit rfl rfl rfl rfl ?_); first | apply gp_guard_dec rfl rfl rfl rfl | apply gp_guard rfl rfl rfl rfl | fail))
        | (refine gp_see ?_; first | refine p_f ?_ | refine pS ?_ | ((fail_if_success refine gp_lit rfl rfl rfl rfl ?_); first | apply gp_guard_dec rfl rfl rfl rfl | apply gp_guard rfl rfl rfl rfl | fail))
        | (refine gp_one ?_; first | refine pO ?_ | refine p_n (fun _ => ?_) | refine p_appB (fun _ _ => ?_) | refine p_app (fun _ _ => ?_) | refine p_b0 (fun _ => ?_) | ((fail_if_success refine gp_lit rfl rfl rfl rfl ?_); first | apply gp_guard_dec rfl rfl rfl rfl | apply gp_guard rfl rfl rfl rfl | fail) | refine p_c (hap) (fun _ _ => ?_))
        | refine gp_two ?_ ?_ | refine gp_done hd hk ?_ | intro _ | refine p_ta hd hk (fun _ _ _ hd hk => ?_) | refine p_ts hd hk (fun _ hd hk => ?_))
      rename_i w hw
      obtain ⟨hs', hmono⟩ := hs.next (by omega) (by dsimp only; omega) (by omega) hz1 (r := ⟨some ⟨ab, 0, none⟩, recR m i, ac⟩) rfl hst hw
      dsimp only at hs' hmono
      have hsg1 := segs_ lg d w.x.fq w.x.fs.length w.x.fc (.slice w.x.rq w.x.rs.length w.x.rc) w.x.size w.x.sl false
      dsimp only [LG.row]
      first
        | (refine g_ops ?_; first | refine sO ?_ | refine s_n (fun _ => ?_) | refine s_appB (fun _ _ => ?_) | refine s_app (fun _ _ => ?_) | refine s_b0 (fun _ => ?_) | ((fail_if_success refine g_lit rfl rfl rfl ?_); first | apply g_partM rfl rfl rfl | apply g_partMB rfl rfl rfl | fail))
        | refine gS ?_ | exact s_m | intro _
      refine g_as 74 (v' := .bool false) rfl (congrArg Value.bool (by rw [hln]; simp)) ?_
      repeat (first
        | (refine g_ops ?_; first | refine sO ?_ | refine s_n (fun _ => ?_) | refine s_appB (fun _ _ => ?_) | refine s_app (fun _ _ => ?_) | refine s_b0 (fun _ => ?_) | ((fail_if_success refine g_lit rfl rfl rfl ?_); first | apply g_partM rfl rfl rfl | apply g_partMB rfl rfl rfl | fail) | refine s_k (hsg1) ?_)
        | apply g_regB (id := 1) 36 | refine gS ?_ | exact s_m | intro _ | (refine gp_take ?_; first | refine pT ?_ | ((fail_if_success refine gp_lit rfl rfl rfl rfl ?_); first | apply gp_guard_dec rfl rfl rfl rfl | apply gp_guard rfl rfl rfl rfl | fail))
        | (refine gp_see ?_; first | refine p_f ?_ | refine pS ?_ | ((fail_if_success refine gp_lit rfl rfl rfl rfl ?_); first | apply gp_guard_dec rfl rfl rfl rfl | apply gp_guard rfl rfl rfl rfl | fail) | refine p_h (hsg1) hd hk ?_)
        | (refine gp_one ?_; first | refine pO ?_ | refine p_n (fun _ => ?_) | refine p_appB (fun _ _ => ?_) | refine p_app (fun _ _ => ?_) | refine p_b0 (fun _ => ?_) | ((fail_if_success refine gp_lit rfl rfl rfl rfl ?_); first | apply gp_guard_dec rfl rfl rfl rfl | apply gp_guard rfl rfl rfl rfl | fail) | refine p_k (hsg1) ?_)
        | refine gp_two ?_ ?_ | refine gp_done hd hk ?_ | intro _ | refine p_ta hd hk (fun _ _ _ hd hk => ?_) | refine p_ts hd hk (fun _ hd hk => ?_))
      refine g_as 79 (v' := .bool false) rfl (congrArg Value.bool (by simp; omega)) ?_
      repeat (first
        | (refine g_ops ?_; first | refine sO ?_ | refine s_n (fun _ => ?_) | refine s_appB (fun _ _ => ?_) | refine s_app (fun _ _ => ?_) | refine s_b0 (fun _ => ?_) | ((fail_if_success refine g_lit rfl rfl rfl ?_); first | apply g_partM rfl rfl rfl | apply g_partMB rfl rfl rfl | fail) | refine s_k (hsg1) ?_)
        | apply g_regB (id := 1) 36 | refine gS ?_ | exact s_m | intro _ | (refine gp_take ?_; first | refine pT ?_ | ((fail_if_success refine gp_lit rfl rfl rfl rfl ?_); first | apply gp_guard_dec rfl rfl rfl rfl | apply gp_guard rfl rfl rfl rfl | fail))
        | (refine gp_see ?_; first | refine p_f ?_ | refine pS ?_ | ((fail_if_success refine gp_lit rfl rfl rfl rfl ?_); first | apply gp_guard_dec rfl rfl rfl rfl | apply gp_guard rfl rfl rfl rfl | fail) | refine p_h (hsg1) hd hk ?_)
        | (refine gp_one ?_; first | refine pO ?_ | refine p_n (fun _ => ?_) | refine p_appB (fun _ _ => ?_) | refine p_app (fun _ _ => ?_) | refine p_b0 (fun _ => ?_) | ((fail_if_success refine gp_lit rfl rfl rfl rfl ?_); first | apply gp_guard_dec rfl rfl rfl rfl | apply gp_guard rfl rfl rfl rfl | fail) | refine p_k (hsg1) ?_)
        | refine gp_two ?_ ?_ | refine gp_done hd hk ?_ | intro _ | refine p_ta hd hk (fun _ _ _ hd hk => ?_) | refine p_ts hd hk (fun _ hd hk => ?_))
      refine g_as 11 (v' := int ((i + 1 : Nat) : Int)) rfl (congrArg (Value.int .i64) (by push_cast; rfl)) ?_
      obtain ⟨wx, wy, wH⟩ := w
      exact gA (⟨i + 1, wx, wy, op + 2 * (st.out.length : Int), wH⟩ : RoX) (by simp only; omega) hs'
    · obtain rfl : i = k := by omega
      have hlf := lf_in at_ i (by omega)
      obtain ⟨j, hj⟩ : ∃ j : Nat, lf at_ i = (j : Int) := ⟨(lf at_ i).toNat, by omega⟩
      have hrn := round11 at_ i (by omega) (by omega)
      rw [hj] at hrn
      have hji : j < i := by omega
      have hln := hs.len
      have hat0 := hs.at_
      have hrecs := hs.recs
      have hsz := hs.size
      have hsg := hs.seg
      have hsg1 := hs.seg1
      dsimp only at hln hat0 hrecs hsz hsg hsg1
      have hrd := read_ (H := H) lg d x false j 1 (by omega) hat0 (by omega) (fun r hr => by
        have h6 : r.l ∈ bts x.rs := List.mem_map.2 ⟨r, hr, rfl⟩
        rw [hrecs] at h6
        obtain ⟨j', hj', e⟩ := List.mem_map.1 h6
        rw [← e, recR_len]; omega)
      have hw1 : bts (rdL x.rs j 1) = [recR m j] := by
        unfold rdL
        show List.map _ ((x.rs.drop j).take 1) = _
        rw [List.map_take, List.map_drop]
        show ((bts x.rs).drop j).take 1 = _
        rw [hrecs, List.drop_eq_getElem_cons (by simpa using hji)]
        simp
      rw [hw1] at hrd
      dsimp only [LG.L, LG.own, List.cons_append, List.nil_append, List.append_nil] at hrd ⊢
      repeat (first
        | (refine g_ops ?_; first | refine sO ?_ | refine s_n (fun _ => ?_) | refine s_appB (fun _ _ => ?_) | refine s_app (fun _ _ => ?_) | refine s_b0 (fun _ => ?_) | ((fail_if_success refine g_lit rfl rfl rfl ?_); first | apply g_partM rfl rfl rfl | apply g_partMB rfl rfl rfl | fail) | refine s_p (hrn) ?_ | refine s_c (hrd) (fun _ _ => ?_))
        | apply g_regB (id := 1) 36 | apply g_regB (id := 12) 79 | refine gS ?_ | exact s_m | intro _ | (refine gp_take ?_; first | refine pT ?_ | ((fail_if_success refine gp_lit rfl rfl rfl rfl ?_); first | apply gp_guard_dec rfl rfl rfl rfl | apply gp_guard rfl rfl rfl rfl | fail) | refine p_p (hrn) ?_)
        | (refine gp_see ?_; first | refine p_f ?_ | refine pS ?_ | ((fail_if_success refine gp_lit rfl rfl rfl rfl ?_); first | apply gp_guard_dec rfl rfl rfl rfl | apply gp_guard rfl rfl rfl rfl | fail) | refine p_sp (hrn) ?_)
        | (refine gp_one ?_; first | refine pO ?_ | refine p_n (fun _ => ?_) | refine p_appB (fun _ _ => ?_) | refine p_app (fun _ _ => ?_) | refine p_b0 (fun _ => ?_) | ((fail_if_success refine gp_lit rfl rfl rfl rfl ?_); first | apply gp_guard_dec rfl rfl rfl rfl | apply gp_guard rfl rfl rfl rfl | fail) | refine p_c (hrd) (fun _ _ => ?_))
        | refine gp_two ?_ ?_ | refine gp_done hd hk ?_ | intro _ | refine p_ta hd hk (fun _ _ _ hd hk => ?_) | refine p_ts hd hk (fun _ hd hk => ?_))
      rename_i y hy
      obtain ⟨rq, rc, ws, H5⟩ := y
      obtain ⟨g1, g2, g3⟩ := hy
      dsimp only at g1 g2 g3 ⊢
      obtain ⟨w, rfl⟩ : ∃ w, ws = [w] := by
        have := congrArg List.length g3
        match ws, this with
        | [w], _ => exact ⟨w, rfl⟩
      have hwl : w.l = recR m j := by simpa using g3
      dsimp only [List.cons_append, List.nil_append, List.length_cons, List.length_nil, Nat.zero_add]
      refine g_own (p := rq) (len := 1) (cap := rc) (n := 1) (xs := [w].map BV.v) (e := 28) (by (repeat (first | exact Sel.here | apply Sel.there)); first | done | fail) (fun _ _ hq => ?_)
      obtain ⟨ob, rfl⟩ := hq (by decide)
      have hrow := reads_own (b := ob) (len := 1) (cap := rc) (n := 1) (e := 28) (xs := [w].map BV.v) (j := 0) (v := w.v) rfl
      have hr : ∀ k, k = 0 → Reads (.own (some ⟨ob, 0, none⟩) 1 rc 1 ([w].map BV.v) 28) ⟨ob, k, none⟩ w.v := fun k hk => by rw [hk]; exact hrow
      have hbw := g2 w (by simp)
      have hlt := letters11 m j (by omega) ⟨by omega, by omega⟩
      refine g_draw (id := 17) (.take 0 (.take 1 (.take 2 (.take 3 (.take 4 (.take 5 (.take 6 (.take 7 (.take 8 (.take 9 (.see 10 [] (.see 11 [] (.take 12 (.take 13 (.see 14 [] (.take 15 (.take 16 (.one 17 (.one 18 (.take 19 (.take 20 (.take 21 (.take 22 (.take 23 (.take 24 (.take 25 (.take 26 (.take 27 (.take 28 (.take 29 (.take 30 (.take 31 (.take 32 (.take 33 (.take 34 (.take 35 (.take 36 (.take 37 (.take 38 (.take 39 (.take 40 (.take 41 (.take 42 (.take 43 (.take 44 (.take 45 (.take 46 (.see 47 [] (.take 48 (.take 49 .done)))))))))))))))))))))))))))))))))))))))))))))))))) (by kernel_rfl) (take_all _) (fun k hd hk => ?_)
      repeat (first
        | (refine gp_take ?_; first | refine pT ?_ | ((fail_if_success refine gp_lit rfl rfl rfl rfl ?_); first | apply gp_guard_dec rfl rfl rfl rfl | apply gp_guard rfl rfl rfl rfl | fail))
        | (refine gp_see ?_; first | refine p_f ?_ | refine pS ?_ | ((fail_if_success refine gp_lit rfl rfl rfl rfl ?_); first | apply gp_guard_dec rfl rfl rfl rfl | apply gp_guard rfl rfl rfl rfl | fail))
        | (refine gp_one ?_; first | refine pO ?_ | refine p_n (fun _ => ?_) | refine p_appB (fun _ _ => ?_) | refine p_app (fun _ _ => ?_) | refine p_b0 (fun _ => ?_) | ((fail_if_success refine gp_lit rfl rfl rfl rfl ?_); first | apply gp_guard_dec rfl rfl rfl rfl | apply gp_guard rfl rfl rfl rfl | fail))
        | refine gp_two ?_ ?_ | refine gp_done hd hk ?_ | intro _ | refine p_ta hd hk (fun _ _ _ hd hk => ?_) | refine p_ts hd hk (fun _ hd hk => ?_))
      refine p_sq (q := by exact qs_bytesF (l := w.l) hd hk inferInstance inferInstance inferInstance rfl (by (repeat (first | exact Sel.here | apply Sel.there)); first | done | fail) hbw (by rw [hwl, recR_len]; omega)) ?_
      rw [hwl]
      repeat (first
        | (refine gp_take ?_; first | refine pT ?_ | ((fail_if_success refine gp_lit rfl rfl rfl rfl ?_); first | apply gp_guard_dec rfl rfl rfl rfl | apply gp_guard rfl rfl rfl rfl | fail) | refine p_p (hlt) ?_)
        | (refine gp_see ?_; first | refine p_f ?_ | refine pS ?_ | ((fail_if_success refine gp_lit rfl rfl rfl rfl ?_); first | apply gp_guard_dec rfl rfl rfl rfl | apply gp_guard rfl rfl rfl rfl | fail) | refine p_sp (hlt) ?_)
        | (refine gp_one ?_; first | refine pO ?_ | refine p_n (fun _ => ?_) | refine p_appB (fun _ _ => ?_) | refine p_app (fun _ _ => ?_) | refine p_b0 (fun _ => ?_) | ((fail_if_success refine gp_lit rfl rfl rfl rfl ?_); first | apply gp_guard_dec rfl rfl rfl rfl | apply gp_guard rfl rfl rfl rfl | fail))
        | refine gp_two ?_ ?_ | refine gp_done hd hk ?_ | intro _ | refine p_ta hd hk (fun _ _ _ hd hk => ?_) | refine p_ts hd hk (fun _ hd hk => ?_))
      refine p_q (q := by intro Δ; exact qs_convInt rfl) ?_
      refine gp_as 107 (v' := .int .u8 ((UInt8.ofNat j).toNat : Int)) rfl (congrArg (Value.int .u8) (by rw [u8_mod, byte_of _ (by omega)]; omega)) ?_
      repeat (first
        | (refine gp_take ?_; first | refine pT ?_ | ((fail_if_success refine gp_lit rfl rfl rfl rfl ?_); first | apply gp_guard_dec rfl rfl rfl rfl | apply gp_guard rfl rfl rfl rfl | fail))
        | (refine gp_see ?_; first | refine p_f ?_ | refine pS ?_ | ((fail_if_success refine gp_lit rfl rfl rfl rfl ?_); first | apply gp_guard_dec rfl rfl rfl rfl | apply gp_guard rfl rfl rfl rfl | fail))
        | (refine gp_one ?_; first | refine pO ?_ | refine p_n (fun _ => ?_) | refine p_appB (fun _ _ => ?_) | refine p_app (fun _ _ => ?_) | refine p_b0 (fun _ => ?_) | ((fail_if_success refine gp_lit rfl rfl rfl rfl ?_); first | apply gp_guard_dec rfl rfl rfl rfl | apply gp_guard rfl rfl rfl rfl | fail))
        | refine gp_two ?_ ?_ | refine gp_done hd hk ?_ | intro _ | refine p_ta hd hk (fun _ _ _ hd hk => ?_) | refine p_ts hd hk (fun _ hd hk => ?_))
      rename_i nb
      have hb1 : BtAt (.row nb [.int .u8 ((UInt8.ofNat j).toNat : Int)] 5) (some ⟨nb, 0, none⟩) [UInt8.ofNat j] := fun k hk => by
        obtain rfl : k = 0 := by simpa using hk
        exact ⟨nb, 0, rfl, reads_row rfl⟩
      refine p_v (q := by exact vs_bytesAt (l := [UInt8.ofNat j]) inferInstance inferInstance inferInstance rfl (by (repeat (first | exact Sel.here | apply Sel.there)); first | done | fail) hb1 (by simp)) ?_
      have hz1 : ByteArray.size ⟨(lettersL m (j : Int)).toArray⟩ = m := by simp [ByteArray.size, lettersL_len]
      have hz2 : ByteArray.size ⟨[UInt8.ofNat j].toArray⟩ = 1 := rfl
      have hadd : (⟨(recR m j).toArray⟩ : ByteArray) = ⟨(lettersL m (j : Int)).toArray⟩ ++ ⟨[UInt8.ofNat j].toArray⟩ := by
        apply ByteArray.ext
        simp [recR, ByteArray.data_append]
      rw [hadd]
      generalize (⟨(lettersL m (j : Int)).toArray⟩ : ByteArray) = sa at *
      generalize (⟨[UInt8.ofNat j].toArray⟩ : ByteArray) = sc at *
      refine p_q (q := by intro Δ; exact qs_addS rfl rfl (by omega)) ?_
      have hmm : 0 ≤ (i : Int) * ((m : Int) + 1) ∧ (i : Int) * ((m : Int) + 1) ≤ 200000 := by
        have e : (i : Int) * ((m : Int) + 1) = ((i * m + i : Nat) : Int) := by push_cast; rw [Int.mul_add, Int.mul_one]
        rw [e]; omega
      repeat (first
        | (refine gp_take ?_; first | refine pT ?_ | ((fail_if_success refine gp_lit rfl rfl rfl rfl ?_); first | apply gp_guard_dec rfl rfl rfl rfl | apply gp_guard rfl rfl rfl rfl | fail) | refine p_p (awake_) ?_)
        | (refine gp_see ?_; first | refine p_f ?_ | refine pS ?_ | ((fail_if_success refine gp_lit rfl rfl rfl rfl ?_); first | apply gp_guard_dec rfl rfl rfl rfl | apply gp_guard rfl rfl rfl rfl | fail) | refine p_sp (awake_) ?_)
        | (refine gp_one ?_; first | refine pO ?_ | refine p_n (fun _ => ?_) | refine p_appB (fun _ _ => ?_) | refine p_app (fun _ _ => ?_) | refine p_b0 (fun _ => ?_) | ((fail_if_success refine gp_lit rfl rfl rfl rfl ?_); first | apply gp_guard_dec rfl rfl rfl rfl | apply gp_guard rfl rfl rfl rfl | fail))
        | refine gp_two ?_ ?_ | refine gp_done hd hk ?_ | intro _ | refine p_ta hd hk (fun _ _ _ hd hk => ?_) | refine p_ts hd hk (fun _ hd hk => ?_))
      refine gp_as 113 (v' := .bool true) rfl (congrArg Value.bool (by simp)) ?_
      have hf1 := hsg1 (by omega)
      repeat (first
        | (refine gp_take ?_; first | refine pT ?_ | ((fail_if_success refine gp_lit rfl rfl rfl rfl ?_); first | apply gp_guard_dec rfl rfl rfl rfl | apply gp_guard rfl rfl rfl rfl | fail) | refine p_p (awake_) ?_)
        | (refine gp_see ?_; first | refine p_f ?_ | refine pS ?_ | ((fail_if_success refine gp_lit rfl rfl rfl rfl ?_); first | apply gp_guard_dec rfl rfl rfl rfl | apply gp_guard rfl rfl rfl rfl | fail) | refine p_sp (awake_) ?_)
        | (refine gp_one ?_; first | refine pO ?_ | refine p_n (fun _ => ?_) | refine p_appB (fun _ _ => ?_) | refine p_app (fun _ _ => ?_) | refine p_b0 (fun _ => ?_) | ((fail_if_success refine gp_lit rfl rfl rfl rfl ?_); first | apply gp_guard_dec rfl rfl rfl rfl | apply gp_guard rfl rfl rfl rfl | fail))
        | refine gp_two ?_ ?_ | refine gp_done hd hk ?_ | intro _ | refine p_ta hd hk (fun _ _ _ hd hk => ?_) | refine p_ts hd hk (fun _ hd hk => ?_))
      refine gp_as 117 (v' := .bool true) rfl (congrArg Value.bool (decide_eq_true (by omega))) ?_
      repeat (first
        | (refine gp_take ?_; first | refine pT ?_ | ((fail_if_success refine gp_lit rfl rfl rfl rfl ?_); first | apply gp_guard_dec rfl rfl rfl rfl | apply gp_guard rfl rfl rfl rfl | fail) | refine p_p (awake_) ?_)
        | (refine gp_see ?_; first | refine p_f ?_ | refine pS ?_ | ((fail_if_success refine gp_lit rfl rfl rfl rfl ?_); first | apply gp_guard_dec rfl rfl rfl rfl | apply gp_guard rfl rfl rfl rfl | fail) | refine p_sp (awake_) ?_)
        | (refine gp_one ?_; first | refine pO ?_ | refine p_n (fun _ => ?_) | refine p_appB (fun _ _ => ?_) | refine p_app (fun _ _ => ?_) | refine p_b0 (fun _ => ?_) | ((fail_if_success refine gp_lit rfl rfl rfl rfl ?_); first | apply gp_guard_dec rfl rfl rfl rfl | apply gp_guard rfl rfl rfl rfl | fail))
        | refine gp_two ?_ ?_ | refine gp_done hd hk ?_ | intro _ | refine p_ta hd hk (fun _ _ _ hd hk => ?_) | refine p_ts hd hk (fun _ hd hk => ?_))
      refine gp_as 123 (v' := .bool true) rfl (congrArg Value.bool (decide_eq_true (by omega))) ?_
      repeat (first
        | (refine gp_take ?_; first | refine pT ?_ | ((fail_if_success refine gp_lit rfl rfl rfl rfl ?_); first | apply gp_guard_dec rfl rfl rfl rfl | apply gp_guard rfl rfl rfl rfl | fail) | refine p_p (awake_) ?_)
        | (refine gp_see ?_; first | refine p_f ?_ | refine pS ?_ | ((fail_if_success refine gp_lit rfl rfl rfl rfl ?_); first | apply gp_guard_dec rfl rfl rfl rfl | apply gp_guard rfl rfl rfl rfl | fail) | refine p_sp (awake_) ?_)
        | (refine gp_one ?_; first | refine pO ?_ | refine p_n (fun _ => ?_) | refine p_appB (fun _ _ => ?_) | refine p_app (fun _ _ => ?_) | refine p_b0 (fun _ => ?_) | ((fail_if_success refine gp_lit rfl rfl rfl rfl ?_); first | apply gp_guard_dec rfl rfl rfl rfl | apply gp_guard rfl rfl rfl rfl | fail))
        | refine gp_two ?_ ?_ | refine gp_done hd hk ?_ | intro _ | refine p_ta hd hk (fun _ _ _ hd hk => ?_) | refine p_ts hd hk (fun _ hd hk => ?_))
      by_cases hlt2 : (i : Int) * ((m : Int) + 1) < 6000 + 3 * (m : Int)
      · refine gp_as 132 (v' := .bool true) rfl (congrArg Value.bool (decide_eq_true hlt2)) ?_
        repeat (first
          | (refine gp_take ?_; first | refine pT ?_ | ((fail_if_success refine gp_lit rfl rfl rfl rfl ?_); first | apply gp_guard_dec rfl rfl rfl rfl | apply gp_guard rfl rfl rfl rfl | fail) | refine p_p (awake_) ?_)
          | (refine gp_see ?_; first | refine p_f ?_ | refine pS ?_ | ((fail_if_success refine gp_lit rfl rfl rfl rfl ?_); first | apply gp_guard_dec rfl rfl rfl rfl | apply gp_guard rfl rfl rfl rfl | fail) | refine p_sp (awake_) ?_)
          | (refine gp_one ?_; first | refine pO ?_ | refine p_n (fun _ => ?_) | refine p_appB (fun _ _ => ?_) | refine p_app (fun _ _ => ?_) | refine p_b0 (fun _ => ?_) | ((fail_if_success refine gp_lit rfl rfl rfl rfl ?_); first | apply gp_guard_dec rfl rfl rfl rfl | apply gp_guard rfl rfl rfl rfl | fail))
          | refine gp_two ?_ ?_ | refine gp_done hd hk ?_ | intro _ | refine p_ta hd hk (fun _ _ _ hd hk => ?_) | refine p_ts hd hk (fun _ hd hk => ?_))
        repeat (first
          | (refine g_ops ?_; first | refine sO ?_ | refine s_n (fun _ => ?_) | refine s_appB (fun _ _ => ?_) | refine s_app (fun _ _ => ?_) | refine s_b0 (fun _ => ?_) | ((fail_if_success refine g_lit rfl rfl rfl ?_); first | apply g_partM rfl rfl rfl | apply g_partMB rfl rfl rfl | fail))
          | refine gS ?_ | exact s_m | intro _)
        exact gR () trivial
      · have hf2 : 1 < x.fs.length := by
          obtain ⟨z, hz3, hz4, hz5⟩ := hsz
          refine Decidable.byContradiction fun hn => ?_
          have e1 := hz5 (by omega)
          have e2 : (i : Int) * ((m : Int) + 1) = ((i * (m + 1) : Nat) : Int) := by push_cast; rfl
          rw [e2, ← e1] at hlt2
          omega
        refine gp_as 132 (v' := .bool false) rfl (congrArg Value.bool (decide_eq_false hlt2)) ?_
        repeat (first
          | (refine gp_take ?_; first | refine pT ?_ | ((fail_if_success refine gp_lit rfl rfl rfl rfl ?_); first | apply gp_guard_dec rfl rfl rfl rfl | apply gp_guard rfl rfl rfl rfl | fail) | refine p_p (awake_) ?_)
          | (refine gp_see ?_; first | refine p_f ?_ | refine pS ?_ | ((fail_if_success refine gp_lit rfl rfl rfl rfl ?_); first | apply gp_guard_dec rfl rfl rfl rfl | apply gp_guard rfl rfl rfl rfl | fail) | refine p_sp (awake_) ?_)
          | (refine gp_one ?_; first | refine pO ?_ | refine p_n (fun _ => ?_) | refine p_appB (fun _ _ => ?_) | refine p_app (fun _ _ => ?_) | refine p_b0 (fun _ => ?_) | ((fail_if_success refine gp_lit rfl rfl rfl rfl ?_); first | apply gp_guard_dec rfl rfl rfl rfl | apply gp_guard rfl rfl rfl rfl | fail))
          | refine gp_two ?_ ?_ | refine gp_done hd hk ?_ | intro _ | refine p_ta hd hk (fun _ _ _ hd hk => ?_) | refine p_ts hd hk (fun _ hd hk => ?_))
        refine gp_as 137 (v' := .bool true) rfl (congrArg Value.bool (decide_eq_true (by omega))) ?_
        repeat (first
          | (refine gp_take ?_; first | refine pT ?_ | ((fail_if_success refine gp_lit rfl rfl rfl rfl ?_); first | apply gp_guard_dec rfl rfl rfl rfl | apply gp_guard rfl rfl rfl rfl | fail) | refine p_p (awake_) ?_)
          | (refine gp_see ?_; first | refine p_f ?_ | refine pS ?_ | ((fail_if_success refine gp_lit rfl rfl rfl rfl ?_); first | apply gp_guard_dec rfl rfl rfl rfl | apply gp_guard rfl rfl rfl rfl | fail) | refine p_sp (awake_) ?_)
          | (refine gp_one ?_; first | refine pO ?_ | refine p_n (fun _ => ?_) | refine p_appB (fun _ _ => ?_) | refine p_app (fun _ _ => ?_) | refine p_b0 (fun _ => ?_) | ((fail_if_success refine gp_lit rfl rfl rfl rfl ?_); first | apply gp_guard_dec rfl rfl rfl rfl | apply gp_guard rfl rfl rfl rfl | fail))
          | refine gp_two ?_ ?_ | refine gp_done hd hk ?_ | intro _ | refine p_ta hd hk (fun _ _ _ hd hk => ?_) | refine p_ts hd hk (fun _ hd hk => ?_))
        repeat (first
          | (refine g_ops ?_; first | refine sO ?_ | refine s_n (fun _ => ?_) | refine s_appB (fun _ _ => ?_) | refine s_app (fun _ _ => ?_) | refine s_b0 (fun _ => ?_) | ((fail_if_success refine g_lit rfl rfl rfl ?_); first | apply g_partM rfl rfl rfl | apply g_partMB rfl rfl rfl | fail))
          | refine gS ?_ | exact s_m | intro _)
        exact gR () trivial
end Go.Proofs.YtdldgbbhagpofaaGreatDoor
