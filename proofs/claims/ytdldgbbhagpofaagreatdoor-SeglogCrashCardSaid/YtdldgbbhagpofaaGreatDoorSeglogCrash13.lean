/- Contracts and laws that the proof stands on. -/
import Derived.Test.YtdldgbbhagpofaaGreatDoorSeglogCrash12
import Derived.Test.YtdldgbbhagpofaaGreatDoorSeglogCrash7
set_option linter.unusedSimpArgs false
set_option linter.unusedVariables false
namespace Go.Proofs.YtdldgbbhagpofaaGreatDoor
open Go.Sl facts
attribute [local irreducible] Code.wp wpList Exit.then Exit.inBlock bodyPost Back MidQ G GP QStep VStep CStep SStep Does Post Reads
theorem read_g (d : Nat) (room : Int) (q : Option Addr) (c : Nat) (ops ct : Int) (fs : List Fi) (nm : ByteArray) (pos : Nat) (hn : fs.length ≤ 2000) (hP : PosIs fs nm pos) (hu : used fs ≤ 1000000) (hfd : foundB fs nm pos = true) (hlt : pos < fs.length) :
    Does Tryz.prog 35 [ptr d, .string nm] (bagL d room ops ct q c fs []) (X := OA) (fun x => .tuple #[.slice x.1 (fs[pos].safe ++ fs[pos].loose).length x.2, int 0]) (fun x => .own x.1 (fs[pos].safe ++ fs[pos].loose).length x.2 1 (cells8 (fs[pos].safe ++ fs[pos].loose)) 5 :: bagL d room ops ct q c fs []) (fun _ => True) := by
  have hf := findg d room q c ops ct fs nm pos (by omega) hP
  rw [hfd] at hf
  have hup := used_take fs pos hlt
  have hul := used_le fs (pos + 1)
  refine fn_intro Tryz.func35 rfl Tryz.ntmps35 rfl (by simp only [argFr, Nat.zero_add, Nat.reduceAdd]; rfl) (fun Γ => ?_)
  repeat (first
    | (refine g_ops ?_; first | refine s_q ?_ | refine s_v ?_ | refine s_s ?_ | refine s_n (fun _ => ?_) | refine s_x ?_ | refine s_y ?_ | refine s_mq ?_ | refine s_app (fun _ _ => ?_) | refine s_mv ?_ | refine s_ms ?_ | refine s_b0 (fun _ => ?_) | ((fail_if_success refine g_lit rfl rfl rfl ?_); first | apply g_partM rfl rfl rfl | apply g_partMB rfl rfl rfl | fail) | refine s_k (hf) ?_)
    | refine g_seq ?_ | refine g_region ?_ | refine g_nil ?_ | refine g_then_normal ?_ | refine g_block ?_ | refine g_in_normal ?_ | refine g_retc ?_ | refine g_then_ret ?_
    | refine g_in_ret ?_ | refine g_exit ?_ | refine g_then_exit ?_ | refine g_in_exit ?_ | refine g_in_other rfl ?_ | refine g_skip ?_ | refine g_label ?_
    | refine g_cond_true rfl ?_ | refine g_cond_false rfl ?_ | exact s_m | intro _)
  refine g_own (p := q) (len := fs.length) (cap := c) (n := 1) (xs := ptrs fs) (e := 80) (by (repeat (first | exact Sel.here | apply Sel.there)); first | done | fail) (fun _ _ hp => ?_)
  obtain ⟨b, rfl⟩ := hp (by omega)
  have hr : ∀ j, j = pos → Reads (.own (some ⟨b, 0, none⟩) fs.length c 1 (ptrs fs) 80) ⟨b, 0 + j, none⟩ (ptr fs[pos].f) := fun j e => by
    subst e; rw [Nat.zero_add]; exact reads_own (ptrs_at fs _ hlt)
  refine g_file fs pos hlt (by (repeat (first | exact Take.nil | apply Take.cons | exact Sel.here | apply Sel.there)); first | done | fail) ?_
  have hsp := split_at fs pos hlt
  generalize fs[pos] = x at hr hup hsp ⊢
  obtain ⟨f, xnm, sp, safe, sc, lp, loose, lc⟩ := x
  dsimp only at hr hup hsp ⊢
  dsimp only [Fi.L]
  refine g_own (p := sp) (len := safe.length) (cap := sc) (n := 1) (xs := cells8 safe) (e := 5) (by (repeat (first | exact Sel.here | apply Sel.there)); first | done | fail) (fun q1 _ q2 => ?_)
  refine g_own (p := lp) (len := loose.length) (cap := lc) (n := 1) (xs := cells8 loose) (e := 5) (by (repeat (first | exact Sel.here | apply Sel.there)); first | done | fail) (fun q3 _ q4 => ?_)
  have s1 := slAt_own (c := sc) (e := 5) q1 (cells8_one safe) q2
  have s2 := slAt_own (c := lc) (e := 5) q3 (cells8_one loose) q4
  refine g_draw (.take 0 (.take 1 (.take 2 (.see 3 [] (.take 4 (.take 5 (.see 6 [] (.take 7 (.take 8 (.see 9 [] (.take 10 (.take 11 (.take 12 (.see 13 [] (.take 14 (.take 15 (.see 16 [] (.take 17 (.take 18 (.see 19 [] (.one 20 (.one 21 (.take 22 (.take 23 .done)))))))))))))))))))))))) (by kernel_rfl) (C := [drow d room (.slice (some ⟨b, 0, none⟩) fs.length c) ops ct, .own (some ⟨b, 0, none⟩) fs.length c 1 (ptrs fs) 80, frow f xnm sp safe.length sc lp loose.length lc]) (by (repeat (first | exact Take.nil | apply Take.cons | exact Sel.here | apply Sel.there)); first | done | fail) (fun k hd hk => ?_)
  repeat (first
    | (refine gp_take ?_; first | refine p_q ?_ | refine p_x ?_ | refine p_mq ?_ | ((fail_if_success refine gp_lit rfl rfl rfl rfl ?_); first | apply gp_guard_dec rfl rfl rfl rfl | apply gp_guard rfl rfl rfl rfl | fail))
    | (refine gp_see ?_; first | refine p_f ?_ | refine p_sx ?_ | ((fail_if_success refine gp_lit rfl rfl rfl rfl ?_); first | apply gp_guard_dec rfl rfl rfl rfl | apply gp_guard rfl rfl rfl rfl | fail) | refine p_sq ?_)
    | (refine gp_one ?_; first | refine p_v ?_ | refine p_s ?_ | refine p_n (fun _ => ?_) | refine p_y ?_ | refine p_app (fun _ _ => ?_) | refine p_mv ?_ | refine p_ms ?_ | refine p_b0 (fun _ => ?_) | ((fail_if_success refine gp_lit rfl rfl rfl rfl ?_); first | apply gp_guard_dec rfl rfl rfl rfl | apply gp_guard rfl rfl rfl rfl | fail))
    | refine gp_two ?_ ?_ | refine gp_done hd hk ?_ | intro _ | refine p_ta hd hk (fun _ _ _ hd hk => ?_) | refine p_ts hd hk (fun _ hd hk => ?_))
  rename_i pb
  repeat (first
    | (refine gp_take ?_; first | refine p_q ?_ | refine p_x ?_ | refine p_mq ?_ | ((fail_if_success refine gp_lit rfl rfl rfl rfl ?_); first | apply gp_guard_dec rfl rfl rfl rfl | apply gp_guard rfl rfl rfl rfl | fail))
    | (refine gp_see ?_; first | refine p_f ?_ | refine p_sx ?_ | ((fail_if_success refine gp_lit rfl rfl rfl rfl ?_); first | apply gp_guard_dec rfl rfl rfl rfl | apply gp_guard rfl rfl rfl rfl | fail) | refine p_sq ?_)
    | (refine gp_one ?_; first | refine p_v ?_ | refine p_s ?_ | refine p_n (fun _ => ?_) | refine p_y ?_ | refine p_app (fun _ _ => ?_) | refine p_mv ?_ | refine p_ms ?_ | refine p_b0 (fun _ => ?_) | ((fail_if_success refine gp_lit rfl rfl rfl rfl ?_); first | apply gp_guard_dec rfl rfl rfl rfl | apply gp_guard rfl rfl rfl rfl | fail) | refine p_c (concat sc lc pb s1 s2 (by omega) (by omega)) (fun _ _ => ?_))
    | refine gp_two ?_ ?_ | refine gp_done hd hk ?_ | intro _ | refine p_ta hd hk (fun _ _ _ hd hk => ?_) | refine p_ts hd hk (fun _ hd hk => ?_))
  rename_i x _
  repeat (first
    | (refine g_ops ?_; first | refine s_q ?_ | refine s_v ?_ | refine s_s ?_ | refine s_n (fun _ => ?_) | refine s_x ?_ | refine s_y ?_ | refine s_mq ?_ | refine s_app (fun _ _ => ?_) | refine s_mv ?_ | refine s_ms ?_ | refine s_b0 (fun _ => ?_) | ((fail_if_success refine g_lit rfl rfl rfl ?_); first | apply g_partM rfl rfl rfl | apply g_partMB rfl rfl rfl | fail))
    | refine g_seq ?_ | refine g_region ?_ | refine g_nil ?_ | refine g_then_normal ?_ | refine g_block ?_ | refine g_in_normal ?_ | refine g_retc ?_ | refine g_then_ret ?_
    | refine g_in_ret ?_ | refine g_exit ?_ | refine g_then_exit ?_ | refine g_in_exit ?_ | refine g_in_other rfl ?_ | refine g_skip ?_ | refine g_label ?_
    | refine g_cond_true rfl ?_ | refine g_cond_false rfl ?_ | exact s_m | intro _)
  refine g_bagIn (fs.take pos) (fs.drop (pos + 1)) ⟨f, xnm, sp, safe, sc, lp, loose, lc⟩ (by (repeat (first | exact Take.nil | apply Take.cons | exact Sel.here | apply Sel.there)); first | done | fail) ?_
  rw [← hsp]
  exact g_ret x rfl (by (repeat (first | exact RVs.nil | apply RVs.tmp rfl | apply RVs.cellA rfl (by (repeat (first | exact Sel.here | apply Sel.there)); first | done | fail) (by (repeat (first | exact Cut.zero | apply Cut.take | apply Cut.skip)); first | done | fail) | apply RVs.cell1 rfl (by (repeat (first | exact Sel.here | apply Sel.there)); first | done | fail) rfl)); first | done | fail) (by (repeat (first | exact Take.nil | apply Take.cons | exact Sel.here | apply Sel.there)); first | done | fail) rfl trivial
structure NmX where
  i : Nat
  q : Option Addr
  c : Nat
theorem names_g (d : Nat) (room : Int) (q : Option Addr) (c : Nat) (ops ct : Int) (fs : List Fi) (hn : fs.length ≤ 2000) :
    Does Tryz.prog 56 [ptr d] (bagL d room ops ct q c fs []) (X := OA) (fun x => .slice x.1 fs.length x.2) (fun x => .own x.1 fs.length x.2 1 (fs.map fun y => .string y.nm) 9 :: bagL d room ops ct q c fs []) (fun _ => True) := by
  refine fn_intro Tryz.func56 rfl Tryz.ntmps56 rfl (by simp only [argFr, Nat.zero_add, Nat.reduceAdd]; rfl) (fun Γ => ?_)
  repeat (first
    | (refine g_ops ?_; first | refine s_q ?_ | refine s_v ?_ | refine s_s ?_ | refine s_n (fun _ => ?_) | refine s_x ?_ | refine s_y ?_ | refine s_mq ?_ | refine s_app (fun _ _ => ?_) | refine s_mv ?_ | refine s_ms ?_ | refine s_b0 (fun _ => ?_) | ((fail_if_success refine g_lit rfl rfl rfl ?_); first | apply g_partM rfl rfl rfl | apply g_partMB rfl rfl rfl | fail))
    | refine g_seq ?_ | refine g_region ?_ | refine g_nil ?_ | refine g_then_normal ?_ | refine g_block ?_ | refine g_in_normal ?_ | refine g_retc ?_ | refine g_then_ret ?_
    | refine g_in_ret ?_ | refine g_exit ?_ | refine g_then_exit ?_ | refine g_in_exit ?_ | refine g_in_other rfl ?_ | refine g_skip ?_ | refine g_label ?_
    | refine g_cond_true rfl ?_ | refine g_cond_false rfl ?_ | exact s_m | intro _)
  refine g_own (p := q) (len := fs.length) (cap := c) (n := 1) (xs := ptrs fs) (e := 80) (by (repeat (first | exact Sel.here | apply Sel.there)); first | done | fail) (fun _ _ hp => ?_)
  refine g_own_nil none 1 9 ?_
  refine g_loop (X := NmX) (fun x => [(2, .slice x.q x.i x.c), (10, .slice q fs.length c), (11, int fs.length), (12, int x.i)]) (fun x => .own x.q x.i x.c 1 ((fs.take x.i).map fun y => .string y.nm) 9 :: bagL d room ops ct q c fs []) (fun x => x.i ≤ fs.length) (fun x => fs.length - x.i) ⟨0, none, 0⟩ (Nat.zero_le _) (by (repeat (first | exact FrSub.nil | refine FrSub.cons rfl ?_)); first | done | fail) (by (repeat (first | exact Take.nil | apply Take.cons | exact Sel.here | apply Sel.there)); first | done | fail) (fun x hi => ?_)
  obtain ⟨i, q1, c1⟩ := x
  dsimp only at hi ⊢
  repeat (first
    | (refine g_ops ?_; first | refine s_q ?_ | refine s_v ?_ | refine s_s ?_ | refine s_n (fun _ => ?_) | refine s_x ?_ | refine s_y ?_ | refine s_mq ?_ | refine s_app (fun _ _ => ?_) | refine s_mv ?_ | refine s_ms ?_ | refine s_b0 (fun _ => ?_) | ((fail_if_success refine g_lit rfl rfl rfl ?_); first | apply g_partM rfl rfl rfl | apply g_partMB rfl rfl rfl | fail))
    | refine g_seq ?_ | refine g_region ?_ | refine g_nil ?_ | refine g_then_normal ?_ | refine g_block ?_ | refine g_in_normal ?_ | refine g_retc ?_ | refine g_then_ret ?_
    | refine g_in_ret ?_ | refine g_exit ?_ | refine g_then_exit ?_ | refine g_in_exit ?_ | refine g_in_other rfl ?_ | refine g_skip ?_ | refine g_label ?_
    | refine g_cond_true rfl ?_ | refine g_cond_false rfl ?_ | exact s_m | intro _)
  refine g_cond_dec rfl (fun h => ?_) (fun h => ?_)
  · have hlt : i < fs.length := by omega
    obtain ⟨b, rfl⟩ := hp (by omega)
    have hr : ∀ j, j = i → Reads (.own (some ⟨b, 0, none⟩) fs.length c 1 (ptrs fs) 80) ⟨b, 0 + j, none⟩ (ptr fs[i].f) := fun j e => by
      subst e; rw [Nat.zero_add]; exact reads_own (ptrs_at fs _ hlt)
    refine g_file fs i hlt (by (repeat (first | exact Take.nil | apply Take.cons | exact Sel.here | apply Sel.there)); first | done | fail) ?_
    have hsp := split_at fs i hlt
    have htk : (fs.take (i + 1)).map (fun y => Value.string y.nm) = (fs.take i).map (fun y => Value.string y.nm) ++ [.string fs[i].nm] := by
      rw [List.take_succ_eq_append_getElem hlt]; simp only [List.map_append, List.map_cons, List.map_nil]
    generalize fs[i] = x at hr hsp htk ⊢
    obtain ⟨f, xnm, sp, safe, sc, lp, loose, lc⟩ := x
    dsimp only at hr hsp htk ⊢
    dsimp only [Fi.L]
    repeat (first
      | (refine g_ops ?_; first | refine s_q ?_ | refine s_v ?_ | refine s_s ?_ | refine s_n (fun _ => ?_) | refine s_x ?_ | refine s_y ?_ | refine s_mq ?_ | refine s_app (fun _ _ => ?_) | refine s_mv ?_ | refine s_ms ?_ | refine s_b0 (fun _ => ?_) | ((fail_if_success refine g_lit rfl rfl rfl ?_); first | apply g_partM rfl rfl rfl | apply g_partMB rfl rfl rfl | fail))
      | refine g_seq ?_ | refine g_region ?_ | refine g_nil ?_ | refine g_then_normal ?_ | refine g_block ?_ | refine g_in_normal ?_ | refine g_retc ?_
      | refine g_then_ret ?_ | refine g_in_ret ?_ | refine g_exit ?_ | refine g_then_exit ?_ | refine g_in_exit ?_ | refine g_in_other rfl ?_ | refine g_skip ?_
      | refine g_label ?_ | refine g_cond_true rfl ?_ | refine g_cond_false rfl ?_ | exact s_m | intro _)
    rename_i q2 c2
    refine g_bagIn (fs.take i) (fs.drop (i + 1)) ⟨f, xnm, sp, safe, sc, lp, loose, lc⟩ (by (repeat (first | exact Take.nil | apply Take.cons | exact Sel.here | apply Sel.there)); first | done | fail) ?_
    rw [← hsp, ← htk]
    exact g_again ⟨i + 1, q2, c2⟩ (by simp only; omega) hlt (by (repeat (first | exact FrSub.nil | refine FrSub.cons rfl ?_)); first | done | fail) (by (repeat (first | exact Take.nil | apply Take.cons | exact Sel.here | apply Sel.there)); first | done | fail)
  · obtain rfl : i = fs.length := by omega
    rw [List.take_length]
    repeat (first
      | (refine g_ops ?_; first | refine s_q ?_ | refine s_v ?_ | refine s_s ?_ | refine s_n (fun _ => ?_) | refine s_x ?_ | refine s_y ?_ | refine s_mq ?_ | refine s_app (fun _ _ => ?_) | refine s_mv ?_ | refine s_ms ?_ | refine s_b0 (fun _ => ?_) | ((fail_if_success refine g_lit rfl rfl rfl ?_); first | apply g_partM rfl rfl rfl | apply g_partMB rfl rfl rfl | fail))
      | refine g_seq ?_ | refine g_region ?_ | refine g_nil ?_ | refine g_then_normal ?_ | refine g_block ?_ | refine g_in_normal ?_ | refine g_retc ?_
      | refine g_then_ret ?_ | refine g_in_ret ?_ | refine g_exit ?_ | refine g_then_exit ?_ | refine g_in_exit ?_ | refine g_in_other rfl ?_ | refine g_skip ?_
      | refine g_label ?_ | refine g_cond_true rfl ?_ | refine g_cond_false rfl ?_ | exact s_m | intro _)
    exact g_ret (q1, c1) rfl (by (repeat (first | exact RVs.nil | apply RVs.tmp rfl | apply RVs.cellA rfl (by (repeat (first | exact Sel.here | apply Sel.there)); first | done | fail) (by (repeat (first | exact Cut.zero | apply Cut.take | apply Cut.skip)); first | done | fail) | apply RVs.cell1 rfl (by (repeat (first | exact Sel.here | apply Sel.there)); first | done | fail) rfl)); first | done | fail) (by (repeat (first | exact Take.nil | apply Take.cons | exact Sel.here | apply Sel.there)); first | done | fail) rfl trivial
end Go.Proofs.YtdldgbbhagpofaaGreatDoor

namespace Go.Proofs.YtdldgbbhagpofaaGreatDoor
open Go.Sl facts
theorem bl_trans : ∀ (x y z : List UInt8), Op.bytesLess x y = true → Op.bytesLess y z = true → Op.bytesLess x z = true
  | [], [], _, h, _ => by simp [Op.bytesLess] at h
  | _ :: _, [], _, h, _ => by simp [Op.bytesLess] at h
  | _, _ :: _, [], _, h => by simp [Op.bytesLess] at h
  | [], _ :: _, _ :: _, _, _ => rfl
  | a :: x, b :: y, c :: z, h1, h2 => by
    simp only [Op.bytesLess, Bool.or_eq_true, decide_eq_true_eq, Bool.and_eq_true, beq_iff_eq] at h1 h2 ⊢
    rcases h1 with h1 | ⟨rfl, h1⟩
    · rcases h2 with h2 | ⟨rfl, h2⟩
      · exact .inl (UInt8.lt_trans h1 h2)
      · exact .inl h1
    · rcases h2 with h2 | ⟨rfl, h2⟩
      · exact .inl h2
      · exact .inr ⟨rfl, bl_trans x y z h1 h2⟩
theorem ltB_trans {a b c : ByteArray} (h1 : ltB a b = true) (h2 : ltB b c = true) : ltB a c = true := bl_trans _ _ _ h1 h2
theorem cmpS_neg {a b : ByteArray} : cmpS a b < 0 ↔ ltB a b = true := by
  unfold cmpS
  split
  · rename_i h; simp [h]
  · rename_i h
    split <;> simp [h]
theorem cmpS_zero {a b : ByteArray} : cmpS a b = 0 ↔ a = b := by
  unfold cmpS
  split
  · rename_i h
    constructor
    · intro e; cases e
    · rintro rfl; rw [ltB_irr] at h; cases h
  · rename_i h
    split
    · rename_i h2
      constructor
      · intro e; cases e
      · rintro rfl; exact absurd h2 h
    · rename_i h2
      refine ⟨fun _ => ?_, fun _ => rfl⟩
      rcases ltB_or a b with q | q | q
      · exact absurd q h
      · exact absurd q h2
      · exact q
def SortF (fs : List Fi) : Prop := (fs.map Fi.nm).Pairwise fun a b => ltB a b = true
theorem SortF.lt {fs : List Fi} (h : SortF fs) {i j : Nat} (hij : i < j) (hj : j < fs.length) : ltB (fs[i]'(by omega)).nm fs[j].nm = true := by
  have := List.pairwise_iff_getElem.1 h i j (by simp; omega) (by simpa using hj) hij
  simpa using this
theorem pos_first (fs : List Fi) (nm : ByteArray) : ∀ n, n ≤ fs.length → ∃ pos, pos ≤ n ∧ (∀ (i : Nat) (h : i < fs.length), i < pos → ltB fs[i].nm nm = true) ∧ (pos < n → ∃ h : pos < fs.length, ltB fs[pos].nm nm ≠ true)
  | 0, _ => ⟨0, Nat.le_refl _, fun i _ h => by omega, fun h => by omega⟩
  | n + 1, hn => by
    obtain ⟨pos, h1, h2, h3⟩ := pos_first fs nm n (by omega)
    by_cases hp : pos < n
    · exact ⟨pos, by omega, h2, fun _ => h3 hp⟩
    · obtain rfl : pos = n := by omega
      by_cases hl : ltB fs[pos].nm nm = true
      · refine ⟨pos + 1, Nat.le_refl _, fun i h hi => ?_, fun h => by omega⟩
        by_cases he : i = pos
        · subst he; exact hl
        · exact h2 i h (by omega)
      · exact ⟨pos, by omega, h2, fun _ => ⟨by omega, hl⟩⟩
theorem SortF.pos {fs : List Fi} (h : SortF fs) (nm : ByteArray) : ∃ pos, PosIs fs nm pos := by
  obtain ⟨pos, h1, h2, h3⟩ := pos_first fs nm fs.length (Nat.le_refl _)
  refine ⟨pos, h1, fun i hi hp => cmpS_neg.2 (h2 i hi hp), fun i hi hp hc => ?_⟩
  obtain ⟨h4, h5⟩ := h3 (by omega)
  have hc := cmpS_neg.1 hc
  by_cases he : pos = i
  · subst he; exact h5 hc
  · exact h5 (ltB_trans (h.lt (show pos < i by omega) hi) hc)
theorem found_nm {fs : List Fi} {nm : ByteArray} {pos : Nat} (h : foundB fs nm pos = true) (hlt : pos < fs.length) : fs[pos].nm = nm := by
  unfold foundB at h
  rw [dif_pos hlt] at h
  exact cmpS_zero.1 (of_decide_eq_true h)
theorem SortF.at {fs : List Fi} (h : SortF fs) {i : Nat} (hi : i < fs.length) : PosIs fs fs[i].nm i ∧ foundB fs fs[i].nm i = true := by
  refine ⟨⟨by omega, fun j hj hji => cmpS_neg.2 (h.lt hji hi), fun j hj hij hc => ?_⟩, ?_⟩
  · have hc := cmpS_neg.1 hc
    by_cases he : i = j
    · subst he; rw [ltB_irr] at hc; cases hc
    · have := ltB_asym (h.lt (show i < j by omega) hj)
      rw [this] at hc; cases hc
  · unfold foundB
    rw [dif_pos hi]
    exact decide_eq_true (cmpS_zero.2 rfl)
theorem sort_ins {fs : List Fi} (h : SortF fs) {x : Fi} {pos : Nat} (hP : PosIs fs x.nm pos) (hf : foundB fs x.nm pos = false) : SortF (ins fs pos x) := by
  have hsplit : SortF (fs.take pos ++ fs.drop pos) := by rw [List.take_append_drop]; exact h
  unfold SortF at hsplit ⊢
  simp only [ins, List.map_append, List.map_cons] at hsplit ⊢
  rw [List.pairwise_append] at hsplit ⊢
  obtain ⟨h1, h2, h3⟩ := hsplit
  have hlo : ∀ a ∈ (fs.take pos).map Fi.nm, ltB a x.nm = true := fun a ha => by
    obtain ⟨y, hy, rfl⟩ := List.mem_map.1 ha
    obtain ⟨i, hi, rfl⟩ := List.mem_iff_getElem.1 hy
    simp only [List.length_take] at hi
    rw [List.getElem_take]
    exact cmpS_neg.1 (hP.lo i (by omega) (by omega))
  have hhi : ∀ b ∈ (fs.drop pos).map Fi.nm, ltB x.nm b = true := fun b hb => by
    obtain ⟨y, hy, rfl⟩ := List.mem_map.1 hb
    obtain ⟨i, hi, rfl⟩ := List.mem_iff_getElem.1 hy
    simp only [List.length_drop] at hi
    rw [List.getElem_drop]
    have hlt : pos < fs.length := by omega
    have h0 : ltB x.nm fs[pos].nm = true := by
      rcases ltB_or x.nm fs[pos].nm with q | q | q
      · exact q
      · exact absurd (cmpS_neg.2 q) (hP.hi pos hlt (Nat.le_refl _))
      · unfold foundB at hf
        rw [dif_pos hlt] at hf
        exact absurd (cmpS_zero.2 q.symm) (of_decide_eq_false hf)
    by_cases he : i = 0
    · subst he; exact h0
    · exact ltB_trans h0 (h.lt (show pos < pos + i by omega) (by omega))
  refine ⟨h1, List.pairwise_cons.2 ⟨hhi, h2⟩, fun a ha b hb => ?_⟩
  rcases List.mem_cons.1 hb with rfl | hb
  · exact hlo a ha
  · exact h3 a ha b hb
theorem sort_upd {fs : List Fi} (h : SortF fs) {x : Fi} {pos : Nat} (hlt : pos < fs.length) (hx : x.nm = fs[pos].nm) : SortF (upd fs pos x) := by
  have e : (upd fs pos x).map Fi.nm = fs.map Fi.nm := by
    have e := congrArg (List.map Fi.nm) (split_at fs pos hlt)
    rw [e]
    simp only [upd, List.map_append, List.map_cons, hx]
  unfold SortF
  rw [e]
  exact h
theorem used_ins (fs : List Fi) (pos : Nat) (x : Fi) : used (ins fs pos x) = used fs + x.safe.length + x.loose.length := by
  have := used_append (fs.take pos) (fs.drop pos)
  rw [List.take_append_drop] at this
  rw [ins, used_append]
  simp only [used]
  omega
theorem used_upd (fs : List Fi) (pos : Nat) (x : Fi) (hlt : pos < fs.length) : used (upd fs pos x) + (fs[pos].safe.length + fs[pos].loose.length) = used fs + (x.safe.length + x.loose.length) := by
  have e := used_append (fs.take pos) (fs[pos] :: fs.drop (pos + 1))
  rw [← split_at fs pos hlt] at e
  rw [upd, used_append]
  simp only [used] at e ⊢
  omega
end Go.Proofs.YtdldgbbhagpofaaGreatDoor

namespace Go.Proofs.YtdldgbbhagpofaaGreatDoor
open Go.Sl facts
attribute [local irreducible] Code.wp wpList Exit.then Exit.inBlock bodyPost Back MidQ G GP QStep VStep CStep SStep Does Post Reads
theorem begun_off (d : Nat) (room : Int) (fs : Value) (ops ct : Int) (h : Cnt ops ct) (h1 : ct = 1) (nm : ByteArray) : Does Tryz.prog 61 [ptr d, .string nm] [drow d room fs ops ct] (X := Unit) (fun _ => .tuple #[int 0, int 9]) (fun _ => [drow d room fs (ops + 1) ct]) (fun _ => True) := by
  subst h1
  have hb := h.starts d room fs
  refine fn_intro Tryz.func61 rfl Tryz.ntmps61 rfl (by simp only [argFr, Nat.zero_add, Nat.reduceAdd]; rfl) (fun Γ => ?_)
  repeat (first
    | (refine g_ops ?_; first | refine s_q ?_ | refine s_v ?_ | refine s_s ?_ | refine s_n (fun _ => ?_) | refine s_x ?_ | refine s_y ?_ | refine s_mq ?_ | refine s_app (fun _ _ => ?_) | refine s_mv ?_ | refine s_ms ?_ | refine s_b0 (fun _ => ?_) | ((fail_if_success refine g_lit rfl rfl rfl ?_); first | apply g_partM rfl rfl rfl | apply g_partMB rfl rfl rfl | fail) | refine s_c (hb) (fun _ _ => ?_))
    | refine g_seq ?_ | refine g_region ?_ | refine g_nil ?_ | refine g_then_normal ?_ | refine g_block ?_ | refine g_in_normal ?_ | refine g_retc ?_ | refine g_then_ret ?_
    | refine g_in_ret ?_ | refine g_exit ?_ | refine g_then_exit ?_ | refine g_in_exit ?_ | refine g_in_other rfl ?_ | refine g_skip ?_ | refine g_label ?_
    | refine g_cond_true rfl ?_ | refine g_cond_false rfl ?_ | exact s_m | intro _)
  exact g_ret () rfl (by (repeat (first | exact RVs.nil | apply RVs.tmp rfl | apply RVs.cellA rfl (by (repeat (first | exact Sel.here | apply Sel.there)); first | done | fail) (by (repeat (first | exact Cut.zero | apply Cut.take | apply Cut.skip)); first | done | fail) | apply RVs.cell1 rfl (by (repeat (first | exact Sel.here | apply Sel.there)); first | done | fail) rfl)); first | done | fail) (by (repeat (first | exact Take.nil | apply Take.cons | exact Sel.here | apply Sel.there)); first | done | fail) (by simp [pack]) trivial
theorem begun_g (d : Nat) (room : Int) (q : Option Addr) (c : Nat) (ops ct : Int) (h : Cnt ops ct) (h1 : ct ≠ 1) (fs : List Fi) (nm : ByteArray) (pos : Nat) (hn : fs.length ≤ 2000) (hP : PosIs fs nm pos) :
    Does Tryz.prog 61 [ptr d, .string nm] (bagL d room ops ct q c fs []) (X := Unit) (fun _ => .tuple #[int (if foundB fs nm pos = true then pos else 0), int (if foundB fs nm pos = true then 0 else 4)]) (fun _ => bagL d room (ops + 1) (cutN ct) q c fs []) (fun _ => True) := by
  have hb := h.starts d room (.slice q fs.length c)
  rw [show decide (ct ≠ 1) = true from decide_eq_true h1] at hb
  have hf := findg d room q c (ops + 1) (cutN ct) fs nm pos (by omega) hP
  refine fn_intro Tryz.func61 rfl Tryz.ntmps61 rfl (by simp only [argFr, Nat.zero_add, Nat.reduceAdd]; rfl) (fun Γ => ?_)
  cases hfd : foundB fs nm pos with
  | false =>
    rw [hfd] at hf
    repeat (first
      | (refine g_ops ?_; first | refine s_q ?_ | refine s_v ?_ | refine s_s ?_ | refine s_n (fun _ => ?_) | refine s_x ?_ | refine s_y ?_ | refine s_mq ?_ | refine s_app (fun _ _ => ?_) | refine s_mv ?_ | refine s_ms ?_ | refine s_b0 (fun _ => ?_) | ((fail_if_success refine g_lit rfl rfl rfl ?_); first | apply g_partM rfl rfl rfl | apply g_partMB rfl rfl rfl | fail) | refine s_k (hf) ?_ | refine s_c (hb) (fun _ _ => ?_))
      | refine g_seq ?_ | refine g_region ?_ | refine g_nil ?_ | refine g_then_normal ?_ | refine g_block ?_ | refine g_in_normal ?_ | refine g_retc ?_
      | refine g_then_ret ?_ | refine g_in_ret ?_ | refine g_exit ?_ | refine g_then_exit ?_ | refine g_in_exit ?_ | refine g_in_other rfl ?_ | refine g_skip ?_
      | refine g_label ?_ | refine g_cond_true rfl ?_ | refine g_cond_false rfl ?_ | exact s_m | intro _)
    exact g_ret () rfl (by (repeat (first | exact RVs.nil | apply RVs.tmp rfl | apply RVs.cellA rfl (by (repeat (first | exact Sel.here | apply Sel.there)); first | done | fail) (by (repeat (first | exact Cut.zero | apply Cut.take | apply Cut.skip)); first | done | fail) | apply RVs.cell1 rfl (by (repeat (first | exact Sel.here | apply Sel.there)); first | done | fail) rfl)); first | done | fail) (by (repeat (first | exact Take.nil | apply Take.cons | exact Sel.here | apply Sel.there)); first | done | fail) (by simp [pack]) trivial
  | true =>
    rw [hfd] at hf
    repeat (first
      | (refine g_ops ?_; first | refine s_q ?_ | refine s_v ?_ | refine s_s ?_ | refine s_n (fun _ => ?_) | refine s_x ?_ | refine s_y ?_ | refine s_mq ?_ | refine s_app (fun _ _ => ?_) | refine s_mv ?_ | refine s_ms ?_ | refine s_b0 (fun _ => ?_) | ((fail_if_success refine g_lit rfl rfl rfl ?_); first | apply g_partM rfl rfl rfl | apply g_partMB rfl rfl rfl | fail) | refine s_k (hf) ?_ | refine s_c (hb) (fun _ _ => ?_))
      | refine g_seq ?_ | refine g_region ?_ | refine g_nil ?_ | refine g_then_normal ?_ | refine g_block ?_ | refine g_in_normal ?_ | refine g_retc ?_
      | refine g_then_ret ?_ | refine g_in_ret ?_ | refine g_exit ?_ | refine g_then_exit ?_ | refine g_in_exit ?_ | refine g_in_other rfl ?_ | refine g_skip ?_
      | refine g_label ?_ | refine g_cond_true rfl ?_ | refine g_cond_false rfl ?_ | exact s_m | intro _)
    exact g_ret () rfl (by (repeat (first | exact RVs.nil | apply RVs.tmp rfl | apply RVs.cellA rfl (by (repeat (first | exact Sel.here | apply Sel.there)); first | done | fail) (by (repeat (first | exact Cut.zero | apply Cut.take | apply Cut.skip)); first | done | fail) | apply RVs.cell1 rfl (by (repeat (first | exact Sel.here | apply Sel.there)); first | done | fail) rfl)); first | done | fail) (by (repeat (first | exact Take.nil | apply Take.cons | exact Sel.here | apply Sel.there)); first | done | fail) (by simp [pack]) trivial
theorem sync_off (d : Nat) (room : Int) (fs : Value) (ops ct : Int) (h : Cnt ops ct) (h1 : ct = 1) (nm : ByteArray) : Does Tryz.prog 39 [ptr d, .string nm] [drow d room fs ops ct] (X := Unit) (fun _ => int 9) (fun _ => [drow d room fs (ops + 1) ct]) (fun _ => True) := by
  have hb := begun_off d room fs ops ct h h1 nm
  refine fn_intro Tryz.func39 rfl Tryz.ntmps39 rfl (by simp only [argFr, Nat.zero_add, Nat.reduceAdd]; rfl) (fun Γ => ?_)
  repeat (first
    | (refine g_ops ?_; first | refine s_q ?_ | refine s_v ?_ | refine s_s ?_ | refine s_n (fun _ => ?_) | refine s_x ?_ | refine s_y ?_ | refine s_mq ?_ | refine s_app (fun _ _ => ?_) | refine s_mv ?_ | refine s_ms ?_ | refine s_b0 (fun _ => ?_) | ((fail_if_success refine g_lit rfl rfl rfl ?_); first | apply g_partM rfl rfl rfl | apply g_partMB rfl rfl rfl | fail) | refine s_c (hb) (fun _ _ => ?_))
    | refine g_seq ?_ | refine g_region ?_ | refine g_nil ?_ | refine g_then_normal ?_ | refine g_block ?_ | refine g_in_normal ?_ | refine g_retc ?_ | refine g_then_ret ?_
    | refine g_in_ret ?_ | refine g_exit ?_ | refine g_then_exit ?_ | refine g_in_exit ?_ | refine g_in_other rfl ?_ | refine g_skip ?_ | refine g_label ?_
    | refine g_cond_true rfl ?_ | refine g_cond_false rfl ?_ | exact s_m | intro _)
  exact g_ret () rfl (by (repeat (first | exact RVs.nil | apply RVs.tmp rfl | apply RVs.cellA rfl (by (repeat (first | exact Sel.here | apply Sel.there)); first | done | fail) (by (repeat (first | exact Cut.zero | apply Cut.take | apply Cut.skip)); first | done | fail) | apply RVs.cell1 rfl (by (repeat (first | exact Sel.here | apply Sel.there)); first | done | fail) rfl)); first | done | fail) (by (repeat (first | exact Take.nil | apply Take.cons | exact Sel.here | apply Sel.there)); first | done | fail) rfl trivial
theorem sync_g (d : Nat) (room : Int) (q : Option Addr) (c : Nat) (ops ct : Int) (h : Cnt ops ct) (h1 : ct ≠ 1) (fs : List Fi) (nm : ByteArray) (pos : Nat) (hn : fs.length ≤ 2000) (hP : PosIs fs nm pos) (hu : used fs ≤ 100000000) (hfd : foundB fs nm pos = true) (hlt : pos < fs.length) :
    Does Tryz.prog 39 [ptr d, .string nm] (bagL d room ops ct q c fs []) (X := Fi) (fun _ => int 0) (fun x => bagL d room (ops + 1) (cutN ct) q c (upd fs pos x) []) (fun x => x.nm = fs[pos].nm ∧ x.safe = fs[pos].safe ++ fs[pos].loose ∧ x.loose = []) := by
  have hb := begun_g d room q c ops ct h h1 fs nm pos hn hP
  simp only [hfd, if_true] at hb
  have hup := used_take fs pos hlt
  have hul := used_le fs (pos + 1)
  refine fn_intro Tryz.func39 rfl Tryz.ntmps39 rfl (by simp only [argFr, Nat.zero_add, Nat.reduceAdd]; rfl) (fun Γ => ?_)
  refine g_own (p := q) (len := fs.length) (cap := c) (n := 1) (xs := ptrs fs) (e := 80) (by (repeat (first | exact Sel.here | apply Sel.there)); first | done | fail) (fun _ _ hp => ?_)
  obtain ⟨b, rfl⟩ := hp (by omega)
  have hr : ∀ j, j = pos → Reads (.own (some ⟨b, 0, none⟩) fs.length c 1 (ptrs fs) 80) ⟨b, 0 + j, none⟩ (ptr fs[pos].f) := fun j e => by
    subst e; rw [Nat.zero_add]; exact reads_own (ptrs_at fs _ hlt)
  have hxf : ∀ x : Fi, x.f = fs[pos].f → ptrs (upd fs pos x) = ptrs fs := fun x hx => upd_ptrs fs pos x hlt hx
  repeat (first
    | (refine g_ops ?_; first | refine s_q ?_ | refine s_v ?_ | refine s_s ?_ | refine s_n (fun _ => ?_) | refine s_x ?_ | refine s_y ?_ | refine s_mq ?_ | refine s_app (fun _ _ => ?_) | refine s_mv ?_ | refine s_ms ?_ | refine s_b0 (fun _ => ?_) | ((fail_if_success refine g_lit rfl rfl rfl ?_); first | apply g_partM rfl rfl rfl | apply g_partMB rfl rfl rfl | fail) | refine s_c (hb) (fun _ _ => ?_))
    | refine g_seq ?_ | refine g_region ?_ | refine g_nil ?_ | refine g_then_normal ?_ | refine g_block ?_ | refine g_in_normal ?_ | refine g_retc ?_ | refine g_then_ret ?_
    | refine g_in_ret ?_ | refine g_exit ?_ | refine g_then_exit ?_ | refine g_in_exit ?_ | refine g_in_other rfl ?_ | refine g_skip ?_ | refine g_label ?_
    | refine g_cond_true rfl ?_ | refine g_cond_false rfl ?_ | exact s_m | intro _)
  refine g_file fs pos hlt (by (repeat (first | exact Take.nil | apply Take.cons | exact Sel.here | apply Sel.there)); first | done | fail) ?_
  generalize fs[pos] = x at hr hxf hup ⊢
  obtain ⟨f, xnm, sp, safe, sc, lp, loose, lc⟩ := x
  dsimp only at hr hxf hup ⊢
  dsimp only [Fi.L]
  refine g_drawO (p := sp) (len := safe.length) (cap := sc) (.take 0 (.take 1 (.take 2 (.take 3 (.take 4 (.see 5 [10,11,12,13,14,15,16] (.take 6 (.take 7 (.take 8 (.see 9 [10,11,12,13,14,15,16] (.one 10 (.take 11 (.take 12 (.thaw 13 (.take 14 (.take 15 (.thaw 16 .done))))))))))))))))) (by (repeat (first | exact Sel.here | apply Sel.there)); first | done | fail) (fun k hd hk => ?_)
  repeat (first
    | (refine gp_take ?_; first | refine p_q ?_ | refine p_x ?_ | refine p_mq ?_ | ((fail_if_success refine gp_lit rfl rfl rfl rfl ?_); first | apply gp_guard_dec rfl rfl rfl rfl | apply gp_guard rfl rfl rfl rfl | fail))
    | (refine gp_see ?_; first | refine p_f ?_ | refine p_sx ?_ | ((fail_if_success refine gp_lit rfl rfl rfl rfl ?_); first | apply gp_guard_dec rfl rfl rfl rfl | apply gp_guard rfl rfl rfl rfl | fail) | refine p_sq ?_)
    | (refine gp_one ?_; first | refine p_v ?_ | refine p_s ?_ | refine p_n (fun _ => ?_) | refine p_y ?_ | refine p_app (fun _ _ => ?_) | refine p_mv ?_ | refine p_ms ?_ | refine p_b0 (fun _ => ?_) | ((fail_if_success refine gp_lit rfl rfl rfl rfl ?_); first | apply gp_guard_dec rfl rfl rfl rfl | apply gp_guard rfl rfl rfl rfl | fail))
    | refine gp_two ?_ ?_ | refine gp_done hd hk ?_ | intro _ | refine p_ta hd hk (fun _ _ _ hd hk => ?_) | refine p_ts hd hk (fun _ hd hk => ?_))
  refine p_app (src := srcOwnF (p := lp) hd hk inferInstance (by (repeat (first | exact Sel.here | apply Sel.there)); first | done | fail)) (fun sq sc' => ?_)
  rw [cells8_append, ← List.length_append]
  repeat (first
    | (refine gp_take ?_; first | refine p_q ?_ | refine p_x ?_ | refine p_mq ?_ | ((fail_if_success refine gp_lit rfl rfl rfl rfl ?_); first | apply gp_guard_dec rfl rfl rfl rfl | apply gp_guard rfl rfl rfl rfl | fail))
    | (refine gp_see ?_; first | refine p_f ?_ | refine p_sx ?_ | ((fail_if_success refine gp_lit rfl rfl rfl rfl ?_); first | apply gp_guard_dec rfl rfl rfl rfl | apply gp_guard rfl rfl rfl rfl | fail) | refine p_sq ?_)
    | (refine gp_one ?_; first | refine p_v ?_ | refine p_s ?_ | refine p_n (fun _ => ?_) | refine p_y ?_ | refine p_app (fun _ _ => ?_) | refine p_mv ?_ | refine p_ms ?_ | refine p_b0 (fun _ => ?_) | ((fail_if_success refine gp_lit rfl rfl rfl rfl ?_); first | apply gp_guard_dec rfl rfl rfl rfl | apply gp_guard rfl rfl rfl rfl | fail))
    | refine gp_two ?_ ?_ | refine gp_done hd hk ?_ | intro _ | refine p_ta hd hk (fun _ _ _ hd hk => ?_) | refine p_ts hd hk (fun _ hd hk => ?_))
  refine g_own_nil none 1 5 ?_
  repeat (first
    | (refine g_ops ?_; first | refine s_q ?_ | refine s_v ?_ | refine s_s ?_ | refine s_n (fun _ => ?_) | refine s_x ?_ | refine s_y ?_ | refine s_mq ?_ | refine s_app (fun _ _ => ?_) | refine s_mv ?_ | refine s_ms ?_ | refine s_b0 (fun _ => ?_) | ((fail_if_success refine g_lit rfl rfl rfl ?_); first | apply g_partM rfl rfl rfl | apply g_partMB rfl rfl rfl | fail))
    | refine g_seq ?_ | refine g_region ?_ | refine g_nil ?_ | refine g_then_normal ?_ | refine g_block ?_ | refine g_in_normal ?_ | refine g_retc ?_ | refine g_then_ret ?_
    | refine g_in_ret ?_ | refine g_exit ?_ | refine g_then_exit ?_ | refine g_in_exit ?_ | refine g_in_other rfl ?_ | refine g_skip ?_ | refine g_label ?_
    | refine g_cond_true rfl ?_ | refine g_cond_false rfl ?_ | exact s_m | intro _)
  refine g_bagIn (fs.take pos) (fs.drop (pos + 1)) ⟨f, xnm, sq, safe ++ loose, sc', none, [], 0⟩ (by (repeat (first | exact Take.nil | apply Take.cons | exact Sel.here | apply Sel.there)); first | done | fail) ?_
  rw [← upd_len fs pos ⟨f, xnm, sq, safe ++ loose, sc', none, [], 0⟩ hlt, ← hxf ⟨f, xnm, sq, safe ++ loose, sc', none, [], 0⟩ rfl]
  exact g_ret (⟨f, xnm, sq, safe ++ loose, sc', none, [], 0⟩ : Fi) rfl (by (repeat (first | exact RVs.nil | apply RVs.tmp rfl | apply RVs.cellA rfl (by (repeat (first | exact Sel.here | apply Sel.there)); first | done | fail) (by (repeat (first | exact Cut.zero | apply Cut.take | apply Cut.skip)); first | done | fail) | apply RVs.cell1 rfl (by (repeat (first | exact Sel.here | apply Sel.there)); first | done | fail) rfl)); first | done | fail) (by (repeat (first | exact Take.nil | apply Take.cons | exact Sel.here | apply Sel.there)); first | done | fail) rfl ⟨rfl, rfl, rfl⟩
end Go.Proofs.YtdldgbbhagpofaaGreatDoor

namespace Go.Proofs.YtdldgbbhagpofaaGreatDoor
open Go.Sl facts
attribute [local irreducible] Code.wp wpList Exit.then Exit.inBlock bodyPost Back MidQ G GP QStep VStep CStep SStep Does Post Reads
theorem deleteg (q : Option Addr) (n c i : Nat) (xs : List Value) (hi : i < n) (hn : n ≤ 1000000) : Does Tryz.prog 84 [.slice q n c, int i, int ((i + 1 : Nat) : Int)] [.own q n c 1 xs 80] (X := Unit) (fun _ => .slice q (n - 1) c) (fun _ => [.own q (n - 1) c 1 (xs.take i ++ xs.drop (i + 1)) 80]) (fun _ => True) := by
  refine fn_intro Tryz.func84 rfl Tryz.ntmps84 rfl (by simp only [argFr, Nat.zero_add, Nat.reduceAdd]; rfl) (fun Γ => ?_)
  refine g_own .here (fun hxl hc hp => ?_)
  rw [Nat.mul_one] at hxl
  obtain ⟨b, rfl⟩ := hp (by omega)
  repeat (first
    | (refine g_ops ?_; first | refine s_q ?_ | refine s_v ?_ | refine s_s ?_ | refine s_n (fun _ => ?_) | refine s_x ?_ | refine s_y ?_ | refine s_mq ?_ | refine s_app (fun _ _ => ?_) | refine s_mv ?_ | refine s_ms ?_ | refine s_b0 (fun _ => ?_) | ((fail_if_success refine g_lit rfl rfl rfl ?_); first | apply g_partM rfl rfl rfl | apply g_partMB rfl rfl rfl | fail))
    | refine g_seq ?_ | refine g_region ?_ | refine g_nil ?_ | refine g_then_normal ?_ | refine g_block ?_ | refine g_in_normal ?_ | refine g_retc ?_ | refine g_then_ret ?_
    | refine g_in_ret ?_ | refine g_exit ?_ | refine g_then_exit ?_ | refine g_in_exit ?_ | refine g_in_other rfl ?_ | refine g_skip ?_ | refine g_label ?_
    | refine g_cond_true rfl ?_ | refine g_cond_false rfl ?_ | exact s_m | intro _)
  refine s_q (q := by exact qs_slice3 (l := i) (h := i + 1) (m := n) inferInstance inferInstance rfl rfl rfl rfl rfl rfl rfl (by omega) (by omega) hc) ?_
  repeat (first
    | (refine g_ops ?_; first | refine s_q ?_ | refine s_v ?_ | refine s_s ?_ | refine s_n (fun _ => ?_) | refine s_x ?_ | refine s_y ?_ | refine s_mq ?_ | refine s_app (fun _ _ => ?_) | refine s_mv ?_ | refine s_ms ?_ | refine s_b0 (fun _ => ?_) | ((fail_if_success refine g_lit rfl rfl rfl ?_); first | apply g_partM rfl rfl rfl | apply g_partMB rfl rfl rfl | fail))
    | refine g_seq ?_ | refine g_region ?_ | refine g_nil ?_ | refine g_then_normal ?_ | refine g_block ?_ | refine g_in_normal ?_ | refine g_retc ?_ | refine g_then_ret ?_
    | refine g_in_ret ?_ | refine g_exit ?_ | refine g_then_exit ?_ | refine g_in_exit ?_ | refine g_in_other rfl ?_ | refine g_skip ?_ | refine g_label ?_
    | refine g_cond_true rfl ?_ | refine g_cond_false rfl ?_ | exact s_m | intro _)
  refine g_cond_dec rfl (fun h => ?_) (fun _ => ?_)
  · exact absurd h (by omega)
  repeat (first
    | (refine g_ops ?_; first | refine s_q ?_ | refine s_v ?_ | refine s_s ?_ | refine s_n (fun _ => ?_) | refine s_x ?_ | refine s_y ?_ | refine s_mq ?_ | refine s_app (fun _ _ => ?_) | refine s_mv ?_ | refine s_ms ?_ | refine s_b0 (fun _ => ?_) | ((fail_if_success refine g_lit rfl rfl rfl ?_); first | apply g_partM rfl rfl rfl | apply g_partMB rfl rfl rfl | fail))
    | refine g_seq ?_ | refine g_region ?_ | refine g_nil ?_ | refine g_then_normal ?_ | refine g_block ?_ | refine g_in_normal ?_ | refine g_retc ?_ | refine g_then_ret ?_
    | refine g_in_ret ?_ | refine g_exit ?_ | refine g_then_exit ?_ | refine g_in_exit ?_ | refine g_in_other rfl ?_ | refine g_skip ?_ | refine g_label ?_
    | refine g_cond_true rfl ?_ | refine g_cond_false rfl ?_ | exact s_m | intro _)
  refine g_draw (.take 0 (.take 1 (.take 2 (.take 3 (.take 4 (.take 5 (.one 6 (.take 7 .done)))))))) (by kernel_rfl) (C := []) .nil (fun k hd hk => ?_)
  repeat (first
    | (refine gp_take ?_; first | refine p_q ?_ | refine p_x ?_ | refine p_mq ?_ | ((fail_if_success refine gp_lit rfl rfl rfl rfl ?_); first | apply gp_guard_dec rfl rfl rfl rfl | apply gp_guard rfl rfl rfl rfl | fail))
    | (refine gp_see ?_; first | refine p_f ?_ | refine p_sx ?_ | ((fail_if_success refine gp_lit rfl rfl rfl rfl ?_); first | apply gp_guard_dec rfl rfl rfl rfl | apply gp_guard rfl rfl rfl rfl | fail) | refine p_sq ?_)
    | (refine gp_one ?_; first | refine p_v ?_ | refine p_s ?_ | refine p_n (fun _ => ?_) | refine p_y ?_ | refine p_app (fun _ _ => ?_) | refine p_mv ?_ | refine p_ms ?_ | refine p_b0 (fun _ => ?_) | ((fail_if_success refine gp_lit rfl rfl rfl rfl ?_); first | apply gp_guard_dec rfl rfl rfl rfl | apply gp_guard rfl rfl rfl rfl | fail))
    | refine gp_two ?_ ?_ | refine gp_done hd hk ?_ | intro _ | refine p_ta hd hk (fun _ _ _ hd hk => ?_) | refine p_ts hd hk (fun _ hd hk => ?_))
  refine p_q (q := by intro Δ; exact qs_slice (l := 0) (h := i) inferInstance inferInstance rfl .none (.some rfl rfl) (Nat.zero_le _) (by omega)) ?_
  refine gp_as 22 (v' := .slice (some ⟨b, 0, none⟩) i c) rfl (offTake _ _ i) ?_
  repeat (first
    | (refine gp_take ?_; first | refine p_q ?_ | refine p_x ?_ | refine p_mq ?_ | ((fail_if_success refine gp_lit rfl rfl rfl rfl ?_); first | apply gp_guard_dec rfl rfl rfl rfl | apply gp_guard rfl rfl rfl rfl | fail))
    | (refine gp_see ?_; first | refine p_f ?_ | refine p_sx ?_ | ((fail_if_success refine gp_lit rfl rfl rfl rfl ?_); first | apply gp_guard_dec rfl rfl rfl rfl | apply gp_guard rfl rfl rfl rfl | fail) | refine p_sq ?_)
    | (refine gp_one ?_; first | refine p_v ?_ | refine p_s ?_ | refine p_n (fun _ => ?_) | refine p_y ?_ | refine p_app (fun _ _ => ?_) | refine p_mv ?_ | refine p_ms ?_ | refine p_b0 (fun _ => ?_) | ((fail_if_success refine gp_lit rfl rfl rfl rfl ?_); first | apply gp_guard_dec rfl rfl rfl rfl | apply gp_guard rfl rfl rfl rfl | fail))
    | refine gp_two ?_ ?_ | refine gp_done hd hk ?_ | intro _ | refine p_ta hd hk (fun _ _ _ hd hk => ?_) | refine p_ts hd hk (fun _ hd hk => ?_))
  refine p_q (q := by intro Δ; exact qs_slice (l := i + 1) (h := n) inferInstance inferInstance rfl (.some rfl rfl) .none (by omega) hc) ?_
  have fin : ∀ ys : List Value, ys.length = n → ys.take (n - 1) = xs.take i ++ xs.drop (i + 1) → ((ys.set (n - 1) (.pointer none)).take ((n - 1) * 1)) = xs.take i ++ xs.drop (i + 1) := fun ys hl he => by
    rw [Nat.mul_one, List.take_set_of_le (Nat.le_refl _), he]
  by_cases hci : c = i + 1
  · obtain rfl : n = i + 1 := by omega
    refine gp_as 25 (v' := .slice (some ⟨b, 0, none⟩) 0 0) rfl (by rw [if_pos hci, hci]; simp) ?_
    refine gp_v (vs_appendNone inferInstance inferInstance inferInstance rfl rfl (by omega)) rfl rfl rfl ?_
    repeat (first
      | (refine gp_take ?_; first | refine p_q ?_ | refine p_x ?_ | refine p_mq ?_ | ((fail_if_success refine gp_lit rfl rfl rfl rfl ?_); first | apply gp_guard_dec rfl rfl rfl rfl | apply gp_guard rfl rfl rfl rfl | fail))
      | (refine gp_see ?_; first | refine p_f ?_ | refine p_sx ?_ | ((fail_if_success refine gp_lit rfl rfl rfl rfl ?_); first | apply gp_guard_dec rfl rfl rfl rfl | apply gp_guard rfl rfl rfl rfl | fail) | refine p_sq ?_)
      | (refine gp_one ?_; first | refine p_v ?_ | refine p_s ?_ | refine p_n (fun _ => ?_) | refine p_y ?_ | refine p_app (fun _ _ => ?_) | refine p_mv ?_ | refine p_ms ?_ | refine p_b0 (fun _ => ?_) | ((fail_if_success refine gp_lit rfl rfl rfl rfl ?_); first | apply gp_guard_dec rfl rfl rfl rfl | apply gp_guard rfl rfl rfl rfl | fail))
      | refine gp_two ?_ ?_ | refine gp_done hd hk ?_ | intro _ | refine p_ta hd hk (fun _ _ _ hd hk => ?_) | refine p_ts hd hk (fun _ hd hk => ?_))
    repeat (first
      | (refine g_ops ?_; first | refine s_q ?_ | refine s_v ?_ | refine s_s ?_ | refine s_n (fun _ => ?_) | refine s_x ?_ | refine s_y ?_ | refine s_mq ?_ | refine s_app (fun _ _ => ?_) | refine s_mv ?_ | refine s_ms ?_ | refine s_b0 (fun _ => ?_) | ((fail_if_success refine g_lit rfl rfl rfl ?_); first | apply g_partM rfl rfl rfl | apply g_partMB rfl rfl rfl | fail))
      | refine g_seq ?_ | refine g_region ?_ | refine g_nil ?_ | refine g_then_normal ?_ | refine g_block ?_ | refine g_in_normal ?_ | refine g_retc ?_
      | refine g_then_ret ?_ | refine g_in_ret ?_ | refine g_exit ?_ | refine g_then_exit ?_ | refine g_in_exit ?_ | refine g_in_other rfl ?_ | refine g_skip ?_
      | refine g_label ?_ | refine g_cond_true rfl ?_ | refine g_cond_false rfl ?_ | exact s_m | intro _)
    refine s_q (q := by exact qs_slice (l := i) (h := i + 1) inferInstance inferInstance rfl (.some rfl rfl) (.some rfl rfl) (by omega) hc) ?_
    refine g_as 31 (v' := .slice (some ⟨b, i, none⟩) 1 (c - i)) rfl (by rw [offAt b i c (by omega), show i + 1 - i = 1 by omega]) ?_
    refine g_s (ss_clearAt inferInstance inferInstance rfl rfl rfl (by omega) (by (repeat (first | exact Sel.here | apply Sel.there)); first | done | fail)) rfl ?_
    refine g_less i .here (by omega) ?_
    have hf := fin xs hxl (by rw [show i + 1 - 1 = i by omega, List.drop_of_length_le (show xs.length ≤ i + 1 by omega), List.append_nil])
    rw [show i + 1 - 1 = i by omega] at hf
    rw [hf]
    repeat (first
      | (refine g_ops ?_; first | refine s_q ?_ | refine s_v ?_ | refine s_s ?_ | refine s_n (fun _ => ?_) | refine s_x ?_ | refine s_y ?_ | refine s_mq ?_ | refine s_app (fun _ _ => ?_) | refine s_mv ?_ | refine s_ms ?_ | refine s_b0 (fun _ => ?_) | ((fail_if_success refine g_lit rfl rfl rfl ?_); first | apply g_partM rfl rfl rfl | apply g_partMB rfl rfl rfl | fail))
      | refine g_seq ?_ | refine g_region ?_ | refine g_nil ?_ | refine g_then_normal ?_ | refine g_block ?_ | refine g_in_normal ?_ | refine g_retc ?_
      | refine g_then_ret ?_ | refine g_in_ret ?_ | refine g_exit ?_ | refine g_then_exit ?_ | refine g_in_exit ?_ | refine g_in_other rfl ?_ | refine g_skip ?_
      | refine g_label ?_ | refine g_cond_true rfl ?_ | refine g_cond_false rfl ?_ | exact s_m | intro _)
    exact g_ret () rfl (by (repeat (first | exact RVs.nil | apply RVs.tmp rfl | apply RVs.cellA rfl (by (repeat (first | exact Sel.here | apply Sel.there)); first | done | fail) (by (repeat (first | exact Cut.zero | apply Cut.take | apply Cut.skip)); first | done | fail) | apply RVs.cell1 rfl (by (repeat (first | exact Sel.here | apply Sel.there)); first | done | fail) rfl)); first | done | fail) (by (repeat (first | exact Take.nil | apply Take.cons | exact Sel.here | apply Sel.there)); first | done | fail) rfl trivial
  · refine gp_as 25 (v' := .slice (some ⟨b, i + 1, none⟩) (n - (i + 1)) (c - (i + 1))) rfl (by rw [offAt b (i + 1) c hci]) ?_
    refine gp_c (cs_appendSelf inferInstance inferInstance inferInstance rfl rfl .here hi) rfl rfl rfl (fun _ _ => ?_)
    repeat (first
      | (refine gp_take ?_; first | refine p_q ?_ | refine p_x ?_ | refine p_mq ?_ | ((fail_if_success refine gp_lit rfl rfl rfl rfl ?_); first | apply gp_guard_dec rfl rfl rfl rfl | apply gp_guard rfl rfl rfl rfl | fail))
      | (refine gp_see ?_; first | refine p_f ?_ | refine p_sx ?_ | ((fail_if_success refine gp_lit rfl rfl rfl rfl ?_); first | apply gp_guard_dec rfl rfl rfl rfl | apply gp_guard rfl rfl rfl rfl | fail) | refine p_sq ?_)
      | (refine gp_one ?_; first | refine p_v ?_ | refine p_s ?_ | refine p_n (fun _ => ?_) | refine p_y ?_ | refine p_app (fun _ _ => ?_) | refine p_mv ?_ | refine p_ms ?_ | refine p_b0 (fun _ => ?_) | ((fail_if_success refine gp_lit rfl rfl rfl rfl ?_); first | apply gp_guard_dec rfl rfl rfl rfl | apply gp_guard rfl rfl rfl rfl | fail))
      | refine gp_two ?_ ?_ | refine gp_done hd hk ?_ | intro _ | refine p_ta hd hk (fun _ _ _ hd hk => ?_) | refine p_ts hd hk (fun _ hd hk => ?_))
    repeat (first
      | (refine g_ops ?_; first | refine s_q ?_ | refine s_v ?_ | refine s_s ?_ | refine s_n (fun _ => ?_) | refine s_x ?_ | refine s_y ?_ | refine s_mq ?_ | refine s_app (fun _ _ => ?_) | refine s_mv ?_ | refine s_ms ?_ | refine s_b0 (fun _ => ?_) | ((fail_if_success refine g_lit rfl rfl rfl ?_); first | apply g_partM rfl rfl rfl | apply g_partMB rfl rfl rfl | fail))
      | refine g_seq ?_ | refine g_region ?_ | refine g_nil ?_ | refine g_then_normal ?_ | refine g_block ?_ | refine g_in_normal ?_ | refine g_retc ?_
      | refine g_then_ret ?_ | refine g_in_ret ?_ | refine g_exit ?_ | refine g_then_exit ?_ | refine g_in_exit ?_ | refine g_in_other rfl ?_ | refine g_skip ?_
      | refine g_label ?_ | refine g_cond_true rfl ?_ | refine g_cond_false rfl ?_ | exact s_m | intro _)
    refine s_q (q := by exact qs_slice (l := n - 1) (h := n) inferInstance inferInstance rfl (.some rfl rfl) (.some rfl rfl) (by omega) hc) ?_
    refine g_as 31 (v' := .slice (some ⟨b, n - 1, none⟩) 1 (c - (n - 1))) rfl (by rw [offAt b (n - 1) c (by omega), show n - (n - 1) = 1 by omega]) ?_
    refine g_s (ss_clearAt (n := n) (o := n - 1) (xs := xs.take i ++ xs.drop (i + 1) ++ xs.drop (n - 1)) inferInstance inferInstance rfl rfl rfl (by omega) .here) rfl ?_
    refine g_less (n - 1) .here (by omega) ?_
    rw [fin _ (by simp [hxl]; omega) (by rw [List.take_append_of_le_length (by simp [hxl]; omega), List.take_of_length_le (by simp [hxl]; omega)])]
    repeat (first
      | (refine g_ops ?_; first | refine s_q ?_ | refine s_v ?_ | refine s_s ?_ | refine s_n (fun _ => ?_) | refine s_x ?_ | refine s_y ?_ | refine s_mq ?_ | refine s_app (fun _ _ => ?_) | refine s_mv ?_ | refine s_ms ?_ | refine s_b0 (fun _ => ?_) | ((fail_if_success refine g_lit rfl rfl rfl ?_); first | apply g_partM rfl rfl rfl | apply g_partMB rfl rfl rfl | fail))
      | refine g_seq ?_ | refine g_region ?_ | refine g_nil ?_ | refine g_then_normal ?_ | refine g_block ?_ | refine g_in_normal ?_ | refine g_retc ?_
      | refine g_then_ret ?_ | refine g_in_ret ?_ | refine g_exit ?_ | refine g_then_exit ?_ | refine g_in_exit ?_ | refine g_in_other rfl ?_ | refine g_skip ?_
      | refine g_label ?_ | refine g_cond_true rfl ?_ | refine g_cond_false rfl ?_ | exact s_m | intro _)
    exact g_ret () rfl (by (repeat (first | exact RVs.nil | apply RVs.tmp rfl | apply RVs.cellA rfl (by (repeat (first | exact Sel.here | apply Sel.there)); first | done | fail) (by (repeat (first | exact Cut.zero | apply Cut.take | apply Cut.skip)); first | done | fail) | apply RVs.cell1 rfl (by (repeat (first | exact Sel.here | apply Sel.there)); first | done | fail) rfl)); first | done | fail) (by (repeat (first | exact Take.nil | apply Take.cons | exact Sel.here | apply Sel.there)); first | done | fail) rfl trivial
end Go.Proofs.YtdldgbbhagpofaaGreatDoor

namespace Go.Proofs.YtdldgbbhagpofaaGreatDoor
open Go.Sl facts
structure Df where
  nm : ByteArray
  p : Option Addr
  c : Nat
  bs : List UInt8
  sy : Nat
abbrev D3 := ByteArray × List UInt8 × Nat
abbrev fiD (x : Fi) : D3 := (x.nm, x.safe ++ x.loose, x.safe.length)
abbrev dfD (x : Df) : D3 := (x.nm, x.bs, x.sy)
def Rel (fs : List Fi) (ds : List Df) : Prop := ds.map dfD = fs.map fiD
theorem Rel.len {fs : List Fi} {ds : List Df} (h : Rel fs ds) : ds.length = fs.length := by
  have := congrArg List.length h
  simpa using this
theorem Rel.at_ {fs : List Fi} {ds : List Df} (h : Rel fs ds) {i : Nat} (hd : i < ds.length) (hf : i < fs.length) : ds[i].nm = fs[i].nm ∧ ds[i].bs = fs[i].safe ++ fs[i].loose ∧ ds[i].sy = fs[i].safe.length := by
  have e : (ds.map dfD)[i]? = (fs.map fiD)[i]? := by rw [h]
  simp only [List.getElem?_map, List.getElem?_eq_getElem hd, List.getElem?_eq_getElem hf, Option.map_some, Option.some.injEq, Prod.mk.injEq] at e
  exact ⟨e.1, e.2.1, e.2.2⟩
theorem Rel.nms {fs : List Fi} {ds : List Df} (h : Rel fs ds) : ds.map Df.nm = fs.map Fi.nm := by
  have := congrArg (List.map Prod.fst) h
  simpa [List.map_map, Function.comp_def] using this
abbrev dins (ds : List Df) (pos : Nat) (x : Df) : List Df := ds.take pos ++ x :: ds.drop pos
abbrev dupd (ds : List Df) (pos : Nat) (x : Df) : List Df := ds.take pos ++ x :: ds.drop (pos + 1)
abbrev ddel (ds : List Df) (pos : Nat) : List Df := ds.take pos ++ ds.drop (pos + 1)
abbrev del (fs : List Fi) (pos : Nat) : List Fi := fs.take pos ++ fs.drop (pos + 1)
theorem Rel.ins {fs : List Fi} {ds : List Df} (h : Rel fs ds) {x : Fi} {y : Df} (pos : Nat) (e : dfD y = fiD x) : Rel (ins fs pos x) (dins ds pos y) := by
  unfold Rel at h ⊢
  simp only [List.map_append, List.map_cons, List.map_take, List.map_drop, h, e]
theorem Rel.upd {fs : List Fi} {ds : List Df} (h : Rel fs ds) {x : Fi} {y : Df} (pos : Nat) (e : dfD y = fiD x) : Rel (upd fs pos x) (dupd ds pos y) := by
  unfold Rel at h ⊢
  simp only [List.map_append, List.map_cons, List.map_take, List.map_drop, h, e]
theorem Rel.del {fs : List Fi} {ds : List Df} (h : Rel fs ds) (pos : Nat) : Rel (del fs pos) (ddel ds pos) := by
  unfold Rel at h ⊢
  simp only [List.map_append, List.map_take, List.map_drop, h]
theorem sort_del {fs : List Fi} (h : SortF fs) (pos : Nat) : SortF (del fs pos) := by
  unfold SortF at h ⊢
  have : List.Sublist ((del fs pos).map Fi.nm) (fs.map Fi.nm) := by
    refine List.Sublist.map _ ?_
    have e : fs = fs.take pos ++ fs.drop pos := (List.take_append_drop pos fs).symm
    conv => rhs; rw [e]
    refine List.Sublist.append (List.Sublist.refl _) ?_
    rw [← List.drop_drop]
    exact List.drop_sublist _ _
  exact h.sublist this
theorem used_del (fs : List Fi) (pos : Nat) : used (del fs pos) ≤ used fs := by
  have e := used_append (fs.take pos) (fs.drop pos)
  rw [List.take_append_drop] at e
  have e2 := used_append ((fs.drop pos).take 1) ((fs.drop pos).drop 1)
  rw [List.take_append_drop, List.drop_drop] at e2
  rw [del, used_append]
  omega
theorem del_len (fs : List Fi) (pos : Nat) (h : pos < fs.length) : (del fs pos).length = fs.length - 1 := by simp [del]; omega
structure FndAt (ds : List Df) (nm : ByteArray) (k : Nat) : Prop where
  lt : k < ds.length
  eq : ds[k].nm = nm
  ne : ∀ (i : Nat) (h : i < ds.length), i < k → ds[i].nm ≠ nm
def FndNo (ds : List Df) (nm : ByteArray) : Prop := ∀ (i : Nat) (h : i < ds.length), ds[i].nm ≠ nm
structure PutAt (ds : List Df) (nm : ByteArray) (pos : Nat) : Prop where
  le : pos ≤ ds.length
  lo : ∀ (i : Nat) (h : i < ds.length), i < pos → ltB nm ds[i].nm = false
  hi : ∀ (i : Nat) (h : i < ds.length), pos ≤ i → ltB nm ds[i].nm = true
theorem Rel.fnd {fs : List Fi} {ds : List Df} (h : Rel fs ds) {nm : ByteArray} {pos : Nat} (hP : PosIs fs nm pos) (hf : foundB fs nm pos = true) : FndAt ds nm pos := by
  have hlt := found_lt hf
  have hl := h.len
  refine ⟨by omega, by rw [(h.at_ (by omega) hlt).1]; exact found_nm hf hlt, fun i hi hip e => ?_⟩
  rw [(h.at_ hi (by omega)).1] at e
  have := hP.lo i (by omega) hip
  rw [cmpS_zero.2 e] at this
  omega
theorem Rel.no {fs : List Fi} {ds : List Df} (h : Rel fs ds) (hs : SortF fs) {nm : ByteArray} {pos : Nat} (hP : PosIs fs nm pos) (hf : foundB fs nm pos = false) : FndNo ds nm := fun i hi e => by
  have hl := h.len
  have hi2 : i < fs.length := by omega
  rw [(h.at_ hi hi2).1] at e
  subst e
  obtain ⟨p1, p2⟩ := hs.at hi2
  have hpi : pos = i := by
    rcases Nat.lt_trichotomy pos i with q | q | q
    · have hlt : pos < fs.length := by omega
      have := p1.lo pos hlt q
      exact absurd this (hP.hi pos hlt (Nat.le_refl _))
    · exact q
    · have := hP.lo i hi2 q
      rw [cmpS_zero.2 rfl] at this
      omega
  subst hpi
  rw [p2] at hf
  cases hf
theorem Rel.put {fs : List Fi} {ds : List Df} (h : Rel fs ds) (hs : SortF fs) {nm : ByteArray} {pos : Nat} (hP : PosIs fs nm pos) (hf : foundB fs nm pos = false) : PutAt ds nm pos := by
  have hl := h.len
  have hno := h.no hs hP hf
  refine ⟨by have := hP.le; omega, fun i hi hip => ?_, fun i hi hip => ?_⟩
  · rw [(h.at_ hi (by omega)).1]
    exact ltB_asym (cmpS_neg.1 (hP.lo i (by omega) hip))
  · have hne := hno i hi
    have h1 := hP.hi i (by omega) hip
    rw [(h.at_ hi (by omega)).1] at hne ⊢
    rcases ltB_or fs[i].nm nm with q | q | q
    · exact absurd (cmpS_neg.2 q) h1
    · exact q
    · exact absurd q hne
def CutRel (ops ct n last : Int) : Prop := n = ops ∧ 0 ≤ ops ∧ ((ct = 0 ∧ last = -1) ∨ (1 ≤ ct ∧ ct ≤ 1000000 ∧ 0 ≤ last ∧ last ≤ 1000000 ∧ ct - 1 = max (last - n) 0))
theorem CutRel.off {ops ct n last : Int} (h : CutRel ops ct n last) : (0 ≤ last ∧ n + 1 > last) ↔ ct = 1 := by
  obtain ⟨_, _, h | h⟩ := h <;> omega
theorem CutRel.next {ops ct n last : Int} (h : CutRel ops ct n last) : CutRel (ops + 1) (cutN ct) (n + 1) last := by
  obtain ⟨h1, h2, h⟩ := h
  refine ⟨by omega, by omega, ?_⟩
  unfold cutN
  rcases h with h | h
  · left; split <;> omega
  · obtain ⟨g1, g2, g3, g4, g5⟩ := h
    right
    split
    · refine ⟨by omega, by omega, g3, g4, by omega⟩
    · refine ⟨by omega, by omega, g3, g4, by omega⟩
end Go.Proofs.YtdldgbbhagpofaaGreatDoor
