/- Contracts and laws that the proof stands on. -/
import Derived.Test.YtdldgbbhagpofaaGreatDoorSeglogRolls12
import Derived.Test.YtdldgbbhagpofaaGreatDoorSeglogRolls7
import Derived.Test.YtdldgbbhagpofaaGreatDoorSeglogRolls10
import Derived.Test.YtdldgbbhagpofaaGreatDoorSeglogRolls8
import Derived.Shelf.Strconv.Itoa3
import Derived.Test.YtdldgbbhagpofaaGreatDoorProg
set_option linter.unusedSimpArgs false
set_option linter.unusedVariables false
namespace Go.Proofs.YtdldgbbhagpofaaGreatDoor
open Go.Sl facts
theorem bl_trans : ∀ (x y z : List UInt8), Op.bytesLess x y = true → Op.bytesLess y z = true → Op.bytesLess x z = true
  | [], [], _, h, _ => by simp [Op.bytesLess] at h
  | _ :: _, [], _, h, _ => by simp [Op.bytesLess] at h
  | _, _ :: _, [], _, h => by simp [Op.bytesLess] at h
  | [], _ :: _, _ :: _, _, _ => rfl
  | a :: x, b :: y, c :: z, h1, h2 => by
    simp only [Op.bytesLess, Bool.or_eq_true, decide_eq_true_eq, Bool.and_eq_true, beq_iff_eq] at h1 h2 ⊢
    rcases h1 with h1 | ⟨rfl, h1⟩
    · rcases h2 with h2 | ⟨rfl, h2⟩
      · exact .inl (UInt8.lt_trans h1 h2)
      · exact .inl h1
    · rcases h2 with h2 | ⟨rfl, h2⟩
      · exact .inl h2
      · exact .inr ⟨rfl, bl_trans x y z h1 h2⟩
theorem ltB_trans {a b c : ByteArray} (h1 : ltB a b = true) (h2 : ltB b c = true) : ltB a c = true := bl_trans _ _ _ h1 h2
theorem cmpS_neg {a b : ByteArray} : cmpS a b < 0 ↔ ltB a b = true := by
  unfold cmpS
  split
  · rename_i h; simp [h]
  · rename_i h
    split <;> simp [h]
theorem cmpS_zero {a b : ByteArray} : cmpS a b = 0 ↔ a = b := by
  unfold cmpS
  split
  · rename_i h
    constructor
    · intro e; cases e
    · rintro rfl; rw [ltB_irr] at h; cases h
  · rename_i h
    split
    · rename_i h2
      constructor
      · intro e; cases e
      · rintro rfl; exact absurd h2 h
    · rename_i h2
      refine ⟨fun _ => ?_, fun _ => rfl⟩
      rcases ltB_or a b with q | q | q
      · exact absurd q h
      · exact absurd q h2
      · exact q
def SortF (fs : List Fi) : Prop := (fs.map Fi.nm).Pairwise fun a b => ltB a b = true
theorem SortF.lt {fs : List Fi} (h : SortF fs) {i j : Nat} (hij : i < j) (hj : j < fs.length) : ltB (fs[i]'(by omega)).nm fs[j].nm = true := by
  have := List.pairwise_iff_getElem.1 h i j (by simp; omega) (by simpa using hj) hij
  simpa using this
theorem pos_first (fs : List Fi) (nm : ByteArray) : ∀ n, n ≤ fs.length → ∃ pos, pos ≤ n ∧ (∀ (i : Nat) (h : i < fs.length), i < pos → ltB fs[i].nm nm = true) ∧ (pos < n → ∃ h : pos < fs.length, ltB fs[pos].nm nm ≠ true)
  | 0, _ => ⟨0, Nat.le_refl _, fun i _ h => by omega, fun h => by omega⟩
  | n + 1, hn => by
    obtain ⟨pos, h1, h2, h3⟩ := pos_first fs nm n (by omega)
    by_cases hp : pos < n
    · exact ⟨pos, by omega, h2, fun _ => h3 hp⟩
    · obtain rfl : pos = n := by omega
      by_cases hl : ltB fs[pos].nm nm = true
      · refine ⟨pos + 1, Nat.le_refl _, fun i h hi => ?_, fun h => by omega⟩
        by_cases he : i = pos
        · subst he; exact hl
        · exact h2 i h (by omega)
      · exact ⟨pos, by omega, h2, fun _ => ⟨by omega, hl⟩⟩
theorem SortF.pos {fs : List Fi} (h : SortF fs) (nm : ByteArray) : ∃ pos, PosIs fs nm pos := by
  obtain ⟨pos, h1, h2, h3⟩ := pos_first fs nm fs.length (Nat.le_refl _)
  refine ⟨pos, h1, fun i hi hp => cmpS_neg.2 (h2 i hi hp), fun i hi hp hc => ?_⟩
  obtain ⟨h4, h5⟩ := h3 (by omega)
  have hc := cmpS_neg.1 hc
  by_cases he : pos = i
  · subst he; exact h5 hc
  · exact h5 (ltB_trans (h.lt (show pos < i by omega) hi) hc)
theorem found_nm {fs : List Fi} {nm : ByteArray} {pos : Nat} (h : foundB fs nm pos = true) (hlt : pos < fs.length) : fs[pos].nm = nm := by
  unfold foundB at h
  rw [dif_pos hlt] at h
  exact cmpS_zero.1 (of_decide_eq_true h)
theorem SortF.at {fs : List Fi} (h : SortF fs) {i : Nat} (hi : i < fs.length) : PosIs fs fs[i].nm i ∧ foundB fs fs[i].nm i = true := by
  refine ⟨⟨by omega, fun j hj hji => cmpS_neg.2 (h.lt hji hi), fun j hj hij hc => ?_⟩, ?_⟩
  · have hc := cmpS_neg.1 hc
    by_cases he : i = j
    · subst he; rw [ltB_irr] at hc; cases hc
    · have := ltB_asym (h.lt (show i < j by omega) hj)
      rw [this] at hc; cases hc
  · unfold foundB
    rw [dif_pos hi]
    exact decide_eq_true (cmpS_zero.2 rfl)
theorem sort_ins {fs : List Fi} (h : SortF fs) {x : Fi} {pos : Nat} (hP : PosIs fs x.nm pos) (hf : foundB fs x.nm pos = false) : SortF (ins fs pos x) := by
  have hsplit : SortF (fs.take pos ++ fs.drop pos) := by rw [List.take_append_drop]; exact h
  unfold SortF at hsplit ⊢
  simp only [ins, List.map_append, List.map_cons] at hsplit ⊢
  rw [List.pairwise_append] at hsplit ⊢
  obtain ⟨h1, h2, h3⟩ := hsplit
  have hlo : ∀ a ∈ (fs.take pos).map Fi.nm, ltB a x.nm = true := fun a ha => by
    obtain ⟨y, hy, rfl⟩ := List.mem_map.1 ha
    obtain ⟨i, hi, rfl⟩ := List.mem_iff_getElem.1 hy
    simp only [List.length_take] at hi
    rw [List.getElem_take]
    exact cmpS_neg.1 (hP.lo i (by omega) (by omega))
  have hhi : ∀ b ∈ (fs.drop pos).map Fi.nm, ltB x.nm b = true := fun b hb => by
    obtain ⟨y, hy, rfl⟩ := List.mem_map.1 hb
    obtain ⟨i, hi, rfl⟩ := List.mem_iff_getElem.1 hy
    simp only [List.length_drop] at hi
    rw [List.getElem_drop]
    have hlt : pos < fs.length := by omega
    have h0 : ltB x.nm fs[pos].nm = true := by
      rcases ltB_or x.nm fs[pos].nm with q | q | q
      · exact q
      · exact absurd (cmpS_neg.2 q) (hP.hi pos hlt (Nat.le_refl _))
      · unfold foundB at hf
        rw [dif_pos hlt] at hf
        exact absurd (cmpS_zero.2 q.symm) (of_decide_eq_false hf)
    by_cases he : i = 0
    · subst he; exact h0
    · exact ltB_trans h0 (h.lt (show pos < pos + i by omega) (by omega))
  refine ⟨h1, List.pairwise_cons.2 ⟨hhi, h2⟩, fun a ha b hb => ?_⟩
  rcases List.mem_cons.1 hb with rfl | hb
  · exact hlo a ha
  · exact h3 a ha b hb
theorem sort_upd {fs : List Fi} (h : SortF fs) {x : Fi} {pos : Nat} (hlt : pos < fs.length) (hx : x.nm = fs[pos].nm) : SortF (upd fs pos x) := by
  have e : (upd fs pos x).map Fi.nm = fs.map Fi.nm := by
    have e := congrArg (List.map Fi.nm) (split_at fs pos hlt)
    rw [e]
    simp only [upd, List.map_append, List.map_cons, hx]
  unfold SortF
  rw [e]
  exact h
theorem used_ins (fs : List Fi) (pos : Nat) (x : Fi) : used (ins fs pos x) = used fs + x.safe.length + x.loose.length := by
  have := used_append (fs.take pos) (fs.drop pos)
  rw [List.take_append_drop] at this
  rw [ins, used_append]
  simp only [used]
  omega
theorem used_upd (fs : List Fi) (pos : Nat) (x : Fi) (hlt : pos < fs.length) : used (upd fs pos x) + (fs[pos].safe.length + fs[pos].loose.length) = used fs + (x.safe.length + x.loose.length) := by
  have e := used_append (fs.take pos) (fs[pos] :: fs.drop (pos + 1))
  rw [← split_at fs pos hlt] at e
  rw [upd, used_append]
  simp only [used] at e ⊢
  omega
end Go.Proofs.YtdldgbbhagpofaaGreatDoor

namespace Go.Proofs.YtdldgbbhagpofaaGreatDoor
open Go.Sl facts
attribute [local irreducible] Code.wp wpList Exit.then Exit.inBlock bodyPost Back MidQ G GP QStep VStep CStep SStep Does Post Reads
theorem begun_g (d : Nat) (room : Int) (q : Option Addr) (c : Nat) (ops ct : Int) (h : Cnt ops ct) (h1 : ct ≠ 1) (fs : List Fi) (nm : ByteArray) (pos : Nat) (hn : fs.length ≤ 2000) (hP : PosIs fs nm pos) :
    Does Tryz.prog 61 [ptr d, .string nm] (bagL d room ops ct q c fs []) (X := Unit) (fun _ => .tuple #[int (if foundB fs nm pos = true then pos else 0), int (if foundB fs nm pos = true then 0 else 4)]) (fun _ => bagL d room (ops + 1) (cutN ct) q c fs []) (fun _ => True) := by
  have hb := h.starts d room (.slice q fs.length c)
  rw [show decide (ct ≠ 1) = true from decide_eq_true h1] at hb
  have hf := findg d room q c (ops + 1) (cutN ct) fs nm pos (by omega) hP
  refine fn_intro Tryz.func61 rfl Tryz.ntmps61 rfl (by simp only [argFr, Nat.zero_add, Nat.reduceAdd]; rfl) (fun Γ => ?_)
  cases hfd : foundB fs nm pos with
  | false =>
    rw [hfd] at hf
    repeat (first
      | (refine g_ops ?_; first | refine s_q ?_ | refine s_v ?_ | refine s_s ?_ | refine s_n (fun _ => ?_) | refine s_x ?_ | refine s_y ?_ | refine s_mq ?_ | refine s_app (fun _ _ => ?_) | refine s_mv ?_ | refine s_ms ?_ | refine s_b0 (fun _ => ?_) | ((fail_if_success refine g_lit rfl rfl rfl ?_); first | apply g_partM rfl rfl rfl | apply g_partMB rfl rfl rfl | fail) | refine s_k (hf) ?_ | refine s_c (hb) (fun _ _ => ?_))
      | refine g_seq ?_ | refine g_region ?_ | refine g_nil ?_ | refine g_then_normal ?_ | refine g_block ?_ | refine g_in_normal ?_ | refine g_retc ?_
      | refine g_then_ret ?_ | refine g_in_ret ?_ | refine g_exit ?_ | refine g_then_exit ?_ | refine g_in_exit ?_ | refine g_in_other rfl ?_ | refine g_skip ?_
      | refine g_label ?_ | refine g_cond_true rfl ?_ | refine g_cond_false rfl ?_ | exact s_m | intro _)
    exact g_ret () rfl (by (repeat (first | exact RVs.nil | apply RVs.tmp rfl | apply RVs.cellA rfl (by (repeat (first | exact Sel.here | apply Sel.there)); first | done | fail) (by (repeat (first | exact Cut.zero | apply Cut.take | apply Cut.skip)); first | done | fail) | apply RVs.cell1 rfl (by (repeat (first | exact Sel.here | apply Sel.there)); first | done | fail) rfl)); first | done | fail) (by (repeat (first | exact Take.nil | apply Take.cons | exact Sel.here | apply Sel.there)); first | done | fail) (by simp [pack]) trivial
  | true =>
    rw [hfd] at hf
    repeat (first
      | (refine g_ops ?_; first | refine s_q ?_ | refine s_v ?_ | refine s_s ?_ | refine s_n (fun _ => ?_) | refine s_x ?_ | refine s_y ?_ | refine s_mq ?_ | refine s_app (fun _ _ => ?_) | refine s_mv ?_ | refine s_ms ?_ | refine s_b0 (fun _ => ?_) | ((fail_if_success refine g_lit rfl rfl rfl ?_); first | apply g_partM rfl rfl rfl | apply g_partMB rfl rfl rfl | fail) | refine s_k (hf) ?_ | refine s_c (hb) (fun _ _ => ?_))
      | refine g_seq ?_ | refine g_region ?_ | refine g_nil ?_ | refine g_then_normal ?_ | refine g_block ?_ | refine g_in_normal ?_ | refine g_retc ?_
      | refine g_then_ret ?_ | refine g_in_ret ?_ | refine g_exit ?_ | refine g_then_exit ?_ | refine g_in_exit ?_ | refine g_in_other rfl ?_ | refine g_skip ?_
      | refine g_label ?_ | refine g_cond_true rfl ?_ | refine g_cond_false rfl ?_ | exact s_m | intro _)
    exact g_ret () rfl (by (repeat (first | exact RVs.nil | apply RVs.tmp rfl | apply RVs.cellA rfl (by (repeat (first | exact Sel.here | apply Sel.there)); first | done | fail) (by (repeat (first | exact Cut.zero | apply Cut.take | apply Cut.skip)); first | done | fail) | apply RVs.cell1 rfl (by (repeat (first | exact Sel.here | apply Sel.there)); first | done | fail) rfl)); first | done | fail) (by (repeat (first | exact Take.nil | apply Take.cons | exact Sel.here | apply Sel.there)); first | done | fail) (by simp [pack]) trivial
theorem sync_g (d : Nat) (room : Int) (q : Option Addr) (c : Nat) (ops ct : Int) (h : Cnt ops ct) (h1 : ct ≠ 1) (fs : List Fi) (nm : ByteArray) (pos : Nat) (hn : fs.length ≤ 2000) (hP : PosIs fs nm pos) (hu : used fs ≤ 100000000) (hfd : foundB fs nm pos = true) (hlt : pos < fs.length) :
    Does Tryz.prog 39 [ptr d, .string nm] (bagL d room ops ct q c fs []) (X := Fi) (fun _ => int 0) (fun x => bagL d room (ops + 1) (cutN ct) q c (upd fs pos x) []) (fun x => x.nm = fs[pos].nm ∧ x.safe = fs[pos].safe ++ fs[pos].loose ∧ x.loose = []) := by
  have hb := begun_g d room q c ops ct h h1 fs nm pos hn hP
  simp only [hfd, if_true] at hb
  have hup := used_take fs pos hlt
  have hul := used_le fs (pos + 1)
  refine fn_intro Tryz.func39 rfl Tryz.ntmps39 rfl (by simp only [argFr, Nat.zero_add, Nat.reduceAdd]; rfl) (fun Γ => ?_)
  refine g_own (p := q) (len := fs.length) (cap := c) (n := 1) (xs := ptrs fs) (e := 80) (by (repeat (first | exact Sel.here | apply Sel.there)); first | done | fail) (fun _ _ hp => ?_)
  obtain ⟨b, rfl⟩ := hp (by omega)
  have hr : ∀ j, j = pos → Reads (.own (some ⟨b, 0, none⟩) fs.length c 1 (ptrs fs) 80) ⟨b, 0 + j, none⟩ (ptr fs[pos].f) := fun j e => by
    subst e; rw [Nat.zero_add]; exact reads_own (ptrs_at fs _ hlt)
  have hxf : ∀ x : Fi, x.f = fs[pos].f → ptrs (upd fs pos x) = ptrs fs := fun x hx => upd_ptrs fs pos x hlt hx
  repeat (first
    | (refine g_ops ?_; first | refine s_q ?_ | refine s_v ?_ | refine s_s ?_ | refine s_n (fun _ => ?_) | refine s_x ?_ | refine s_y ?_ | refine s_mq ?_ | refine s_app (fun _ _ => ?_) | refine s_mv ?_ | refine s_ms ?_ | refine s_b0 (fun _ => ?_) | ((fail_if_success refine g_lit rfl rfl rfl ?_); first | apply g_partM rfl rfl rfl | apply g_partMB rfl rfl rfl | fail) | refine s_c (hb) (fun _ _ => ?_))
    | refine g_seq ?_ | refine g_region ?_ | refine g_nil ?_ | refine g_then_normal ?_ | refine g_block ?_ | refine g_in_normal ?_ | refine g_retc ?_ | refine g_then_ret ?_
    | refine g_in_ret ?_ | refine g_exit ?_ | refine g_then_exit ?_ | refine g_in_exit ?_ | refine g_in_other rfl ?_ | refine g_skip ?_ | refine g_label ?_
    | refine g_cond_true rfl ?_ | refine g_cond_false rfl ?_ | exact s_m | intro _)
  refine g_file fs pos hlt (by (repeat (first | exact Take.nil | apply Take.cons | exact Sel.here | apply Sel.there)); first | done | fail) ?_
  generalize fs[pos] = x at hr hxf hup ⊢
  obtain ⟨f, xnm, sp, safe, sc, lp, loose, lc⟩ := x
  dsimp only at hr hxf hup ⊢
  dsimp only [Fi.L]
  refine g_drawO (p := sp) (len := safe.length) (cap := sc) (.take 0 (.take 1 (.take 2 (.take 3 (.take 4 (.see 5 [10,11,12,13,14,15,16] (.take 6 (.take 7 (.take 8 (.see 9 [10,11,12,13,14,15,16] (.one 10 (.take 11 (.take 12 (.thaw 13 (.take 14 (.take 15 (.thaw 16 .done))))))))))))))))) (by (repeat (first | exact Sel.here | apply Sel.there)); first | done | fail) (fun k hd hk => ?_)
  repeat (first
    | (refine gp_take ?_; first | refine p_q ?_ | refine p_x ?_ | refine p_mq ?_ | ((fail_if_success refine gp_lit rfl rfl rfl rfl ?_); first | apply gp_guard_dec rfl rfl rfl rfl | apply gp_guard rfl rfl rfl rfl | fail))
    | (refine gp_see ?_; first | refine p_f ?_ | refine p_sx ?_ | ((fail_if_success refine gp_lit rfl rfl rfl rfl ?_); first | apply gp_guard_dec rfl rfl rfl rfl | apply gp_guard rfl rfl rfl rfl | fail) | refine p_sq ?_)
    | (refine gp_one ?_; first | refine p_v ?_ | refine p_s ?_ | refine p_n (fun _ => ?_) | refine p_y ?_ | refine p_app (fun _ _ => ?_) | refine p_mv ?_ | refine p_ms ?_ | refine p_b0 (fun _ => ?_) | ((fail_if_success refine gp_lit rfl rfl rfl rfl ?_); first | apply gp_guard_dec rfl rfl rfl rfl | apply gp_guard rfl rfl rfl rfl | fail))
    | refine gp_two ?_ ?_ | refine gp_done hd hk ?_ | intro _ | refine p_ta hd hk (fun _ _ _ hd hk => ?_) | refine p_ts hd hk (fun _ hd hk => ?_))
  refine p_app (src := srcOwnF (p := lp) hd hk inferInstance (by (repeat (first | exact Sel.here | apply Sel.there)); first | done | fail)) (fun sq sc' => ?_)
  rw [cells8_append, ← List.length_append]
  repeat (first
    | (refine gp_take ?_; first | refine p_q ?_ | refine p_x ?_ | refine p_mq ?_ | ((fail_if_success refine gp_lit rfl rfl rfl rfl ?_); first | apply gp_guard_dec rfl rfl rfl rfl | apply gp_guard rfl rfl rfl rfl | fail))
    | (refine gp_see ?_; first | refine p_f ?_ | refine p_sx ?_ | ((fail_if_success refine gp_lit rfl rfl rfl rfl ?_); first | apply gp_guard_dec rfl rfl rfl rfl | apply gp_guard rfl rfl rfl rfl | fail) | refine p_sq ?_)
    | (refine gp_one ?_; first | refine p_v ?_ | refine p_s ?_ | refine p_n (fun _ => ?_) | refine p_y ?_ | refine p_app (fun _ _ => ?_) | refine p_mv ?_ | refine p_ms ?_ | refine p_b0 (fun _ => ?_) | ((fail_if_success refine gp_lit rfl rfl rfl rfl ?_); first | apply gp_guard_dec rfl rfl rfl rfl | apply gp_guard rfl rfl rfl rfl | fail))
    | refine gp_two ?_ ?_ | refine gp_done hd hk ?_ | intro _ | refine p_ta hd hk (fun _ _ _ hd hk => ?_) | refine p_ts hd hk (fun _ hd hk => ?_))
  refine g_own_nil none 1 5 ?_
  repeat (first
    | (refine g_ops ?_; first | refine s_q ?_ | refine s_v ?_ | refine s_s ?_ | refine s_n (fun _ => ?_) | refine s_x ?_ | refine s_y ?_ | refine s_mq ?_ | refine s_app (fun _ _ => ?_) | refine s_mv ?_ | refine s_ms ?_ | refine s_b0 (fun _ => ?_) | ((fail_if_success refine g_lit rfl rfl rfl ?_); first | apply g_partM rfl rfl rfl | apply g_partMB rfl rfl rfl | fail))
    | refine g_seq ?_ | refine g_region ?_ | refine g_nil ?_ | refine g_then_normal ?_ | refine g_block ?_ | refine g_in_normal ?_ | refine g_retc ?_ | refine g_then_ret ?_
    | refine g_in_ret ?_ | refine g_exit ?_ | refine g_then_exit ?_ | refine g_in_exit ?_ | refine g_in_other rfl ?_ | refine g_skip ?_ | refine g_label ?_
    | refine g_cond_true rfl ?_ | refine g_cond_false rfl ?_ | exact s_m | intro _)
  refine g_bagIn (fs.take pos) (fs.drop (pos + 1)) ⟨f, xnm, sq, safe ++ loose, sc', none, [], 0⟩ (by (repeat (first | exact Take.nil | apply Take.cons | exact Sel.here | apply Sel.there)); first | done | fail) ?_
  rw [← upd_len fs pos ⟨f, xnm, sq, safe ++ loose, sc', none, [], 0⟩ hlt, ← hxf ⟨f, xnm, sq, safe ++ loose, sc', none, [], 0⟩ rfl]
  exact g_ret (⟨f, xnm, sq, safe ++ loose, sc', none, [], 0⟩ : Fi) rfl (by (repeat (first | exact RVs.nil | apply RVs.tmp rfl | apply RVs.cellA rfl (by (repeat (first | exact Sel.here | apply Sel.there)); first | done | fail) (by (repeat (first | exact Cut.zero | apply Cut.take | apply Cut.skip)); first | done | fail) | apply RVs.cell1 rfl (by (repeat (first | exact Sel.here | apply Sel.there)); first | done | fail) rfl)); first | done | fail) (by (repeat (first | exact Take.nil | apply Take.cons | exact Sel.here | apply Sel.there)); first | done | fail) rfl ⟨rfl, rfl, rfl⟩
end Go.Proofs.YtdldgbbhagpofaaGreatDoor


namespace Go.Proofs.YtdldgbbhagpofaaGreatDoor
open Go.Sl facts
structure Df where
  nm : ByteArray
  p : Option Addr
  c : Nat
  bs : List UInt8
  sy : Nat
abbrev D3 := ByteArray × List UInt8 × Nat
abbrev fiD (x : Fi) : D3 := (x.nm, x.safe ++ x.loose, x.safe.length)
abbrev dfD (x : Df) : D3 := (x.nm, x.bs, x.sy)
def Rel (fs : List Fi) (ds : List Df) : Prop := ds.map dfD = fs.map fiD
theorem Rel.len {fs : List Fi} {ds : List Df} (h : Rel fs ds) : ds.length = fs.length := by
  have := congrArg List.length h
  simpa using this
theorem Rel.at_ {fs : List Fi} {ds : List Df} (h : Rel fs ds) {i : Nat} (hd : i < ds.length) (hf : i < fs.length) : ds[i].nm = fs[i].nm ∧ ds[i].bs = fs[i].safe ++ fs[i].loose ∧ ds[i].sy = fs[i].safe.length := by
  have e : (ds.map dfD)[i]? = (fs.map fiD)[i]? := by rw [h]
  simp only [List.getElem?_map, List.getElem?_eq_getElem hd, List.getElem?_eq_getElem hf, Option.map_some, Option.some.injEq, Prod.mk.injEq] at e
  exact ⟨e.1, e.2.1, e.2.2⟩
abbrev dins (ds : List Df) (pos : Nat) (x : Df) : List Df := ds.take pos ++ x :: ds.drop pos
abbrev dupd (ds : List Df) (pos : Nat) (x : Df) : List Df := ds.take pos ++ x :: ds.drop (pos + 1)
theorem Rel.ins {fs : List Fi} {ds : List Df} (h : Rel fs ds) {x : Fi} {y : Df} (pos : Nat) (e : dfD y = fiD x) : Rel (ins fs pos x) (dins ds pos y) := by
  unfold Rel at h ⊢
  simp only [List.map_append, List.map_cons, List.map_take, List.map_drop, h, e]
theorem Rel.upd {fs : List Fi} {ds : List Df} (h : Rel fs ds) {x : Fi} {y : Df} (pos : Nat) (e : dfD y = fiD x) : Rel (upd fs pos x) (dupd ds pos y) := by
  unfold Rel at h ⊢
  simp only [List.map_append, List.map_cons, List.map_take, List.map_drop, h, e]
structure FndAt (ds : List Df) (nm : ByteArray) (k : Nat) : Prop where
  lt : k < ds.length
  eq : ds[k].nm = nm
  ne : ∀ (i : Nat) (h : i < ds.length), i < k → ds[i].nm ≠ nm
def FndNo (ds : List Df) (nm : ByteArray) : Prop := ∀ (i : Nat) (h : i < ds.length), ds[i].nm ≠ nm
structure PutAt (ds : List Df) (nm : ByteArray) (pos : Nat) : Prop where
  le : pos ≤ ds.length
  lo : ∀ (i : Nat) (h : i < ds.length), i < pos → ltB nm ds[i].nm = false
  hi : ∀ (i : Nat) (h : i < ds.length), pos ≤ i → ltB nm ds[i].nm = true
theorem Rel.fnd {fs : List Fi} {ds : List Df} (h : Rel fs ds) {nm : ByteArray} {pos : Nat} (hP : PosIs fs nm pos) (hf : foundB fs nm pos = true) : FndAt ds nm pos := by
  have hlt := found_lt hf
  have hl := h.len
  refine ⟨by omega, by rw [(h.at_ (by omega) hlt).1]; exact found_nm hf hlt, fun i hi hip e => ?_⟩
  rw [(h.at_ hi (by omega)).1] at e
  have := hP.lo i (by omega) hip
  rw [cmpS_zero.2 e] at this
  omega
theorem Rel.no {fs : List Fi} {ds : List Df} (h : Rel fs ds) (hs : SortF fs) {nm : ByteArray} {pos : Nat} (hP : PosIs fs nm pos) (hf : foundB fs nm pos = false) : FndNo ds nm := fun i hi e => by
  have hl := h.len
  have hi2 : i < fs.length := by omega
  rw [(h.at_ hi hi2).1] at e
  subst e
  obtain ⟨p1, p2⟩ := hs.at hi2
  have hpi : pos = i := by
    rcases Nat.lt_trichotomy pos i with q | q | q
    · have hlt : pos < fs.length := by omega
      have := p1.lo pos hlt q
      exact absurd this (hP.hi pos hlt (Nat.le_refl _))
    · exact q
    · have := hP.lo i hi2 q
      rw [cmpS_zero.2 rfl] at this
      omega
  subst hpi
  rw [p2] at hf
  cases hf
theorem Rel.put {fs : List Fi} {ds : List Df} (h : Rel fs ds) (hs : SortF fs) {nm : ByteArray} {pos : Nat} (hP : PosIs fs nm pos) (hf : foundB fs nm pos = false) : PutAt ds nm pos := by
  have hl := h.len
  have hno := h.no hs hP hf
  refine ⟨by have := hP.le; omega, fun i hi hip => ?_, fun i hi hip => ?_⟩
  · rw [(h.at_ hi (by omega)).1]
    exact ltB_asym (cmpS_neg.1 (hP.lo i (by omega) hip))
  · have hne := hno i hi
    have h1 := hP.hi i (by omega) hip
    rw [(h.at_ hi (by omega)).1] at hne ⊢
    rcases ltB_or fs[i].nm nm with q | q | q
    · exact absurd (cmpS_neg.2 q) h1
    · exact q
    · exact absurd q hne
def CutRel (ops ct n last : Int) : Prop := n = ops ∧ 0 ≤ ops ∧ ((ct = 0 ∧ last = -1) ∨ (1 ≤ ct ∧ ct ≤ 1000000 ∧ 0 ≤ last ∧ last ≤ 1000000 ∧ ct - 1 = max (last - n) 0))
theorem CutRel.off {ops ct n last : Int} (h : CutRel ops ct n last) : (0 ≤ last ∧ n + 1 > last) ↔ ct = 1 := by
  obtain ⟨_, _, h | h⟩ := h <;> omega
theorem CutRel.next {ops ct n last : Int} (h : CutRel ops ct n last) : CutRel (ops + 1) (cutN ct) (n + 1) last := by
  obtain ⟨h1, h2, h⟩ := h
  refine ⟨by omega, by omega, ?_⟩
  unfold cutN
  rcases h with h | h
  · left; split <;> omega
  · obtain ⟨g1, g2, g3, g4, g5⟩ := h
    right
    split
    · refine ⟨by omega, by omega, g3, g4, by omega⟩
    · refine ⟨by omega, by omega, g3, g4, by omega⟩
end Go.Proofs.YtdldgbbhagpofaaGreatDoor

namespace Go.Proofs.YtdldgbbhagpofaaGreatDoor
open Go.Sl facts
attribute [local irreducible] Code.wp wpList Exit.then Exit.inBlock bodyPost Back MidQ G GP QStep VStep CStep SStep Does Post Reads
theorem read_no (d : Nat) (room : Int) (q : Option Addr) (c : Nat) (ops ct : Int) (fs : List Fi) (nm : ByteArray) (pos : Nat) (hn : fs.length ≤ 2000) (hP : PosIs fs nm pos) (hfd : foundB fs nm pos = false) :
    Does1 Tryz.prog 35 [ptr d, .string nm] (bagL d room ops ct q c fs []) (.tuple #[.slice none 0 0, int 4]) := by
  have hf := findg d room q c ops ct fs nm pos (by omega) hP
  rw [hfd] at hf
  refine fn_intro Tryz.func35 rfl Tryz.ntmps35 rfl (by simp only [argFr, Nat.zero_add, Nat.reduceAdd]; rfl) (fun Γ => ?_)
  repeat (first
    | (refine g_ops ?_; first | refine s_q ?_ | refine s_v ?_ | refine s_s ?_ | refine s_n (fun _ => ?_) | refine s_x ?_ | refine s_y ?_ | refine s_mq ?_ | refine s_app (fun _ _ => ?_) | refine s_mv ?_ | refine s_ms ?_ | refine s_b0 (fun _ => ?_) | ((fail_if_success refine g_lit rfl rfl rfl ?_); first | apply g_partM rfl rfl rfl | apply g_partMB rfl rfl rfl | fail) | refine s_k (hf) ?_)
    | refine g_seq ?_ | refine g_region ?_ | refine g_nil ?_ | refine g_then_normal ?_ | refine g_block ?_ | refine g_in_normal ?_ | refine g_retc ?_ | refine g_then_ret ?_
    | refine g_in_ret ?_ | refine g_exit ?_ | refine g_then_exit ?_ | refine g_in_exit ?_ | refine g_in_other rfl ?_ | refine g_skip ?_ | refine g_label ?_
    | refine g_cond_true rfl ?_ | refine g_cond_false rfl ?_ | exact s_m | intro _)
  exact g_ret () rfl (by (repeat (first | exact RVs.nil | apply RVs.tmp rfl | apply RVs.cellA rfl (by (repeat (first | exact Sel.here | apply Sel.there)); first | done | fail) (by (repeat (first | exact Cut.zero | apply Cut.take | apply Cut.skip)); first | done | fail) | apply RVs.cell1 rfl (by (repeat (first | exact Sel.here | apply Sel.there)); first | done | fail) rfl)); first | done | fail) (by (repeat (first | exact Take.nil | apply Take.cons | exact Sel.here | apply Sel.there)); first | done | fail) (by simp [pack]) trivial
abbrev Fi.as (x : Fi) (to : ByteArray) : Fi := ⟨x.f, to, x.sp, x.safe, x.sc, x.lp, x.loose, x.lc⟩
structure RnX where
  q : Option Addr
  c : Nat
end Go.Proofs.YtdldgbbhagpofaaGreatDoor


namespace Go.Sl
theorem does_map {P : Program} {f : FuncId} {args : List Value} {X Y : Type} {A A2 : List Chunk} {ret : X → Value} {ret2 : Y → Value} {B : X → List Chunk} {B2 : Y → List Chunk} {φ : X → Prop} {ψ : Y → Prop} (m : X → Y) (t : Take A2 A []) (hr : ∀ x, φ x → ret x = ret2 (m x)) (hB : ∀ (Γ : Ctx) (x : X) (w : World), φ x → Holds Γ (B x) w → Holds Γ (B2 (m x)) w) (hφ : ∀ x, φ x → ψ (m x)) (d : Does P f args A ret B φ) : Does P f args A2 ret2 B2 ψ := fun Γ w hh =>
  (d Γ w (hh.takeDrop t)).mono fun e w' ⟨x, hx, he, hb⟩ => ⟨m x, hφ x hx, by rw [← hr x hx]; exact he, hB Γ x w' hx hb⟩
end Go.Sl
namespace Go.Proofs.YtdldgbbhagpofaaGreatDoor
open Go.Sl facts
attribute [local irreducible] Code.wp wpList Exit.then Exit.inBlock bodyPost Back MidQ G GP QStep VStep CStep SStep Does Post Reads
theorem cloneB {C : Chunk} {p : Option Addr} {m c : Nat} {news : List Value} (h : SlAt C 1 p m news) (hm : m ≤ 1000000000) : Does Tryz.prog 31 [.slice p m c] [C] (X := OA) (fun q => .slice q.1 m q.2) (fun q => [.own q.1 m q.2 1 news 5, C]) (fun _ => True) := by
  cases p with
  | none =>
    obtain rfl : m = 0 := h.nil rfl
    obtain rfl : news = [] := List.eq_nil_of_length_eq_zero (by rw [h.len, Nat.zero_mul])
    refine fn_intro Tryz.func31 rfl Tryz.ntmps31 rfl (by simp only [argFr, Nat.zero_add, Nat.reduceAdd]; rfl) (fun Γ => ?_)
    repeat (first
      | (refine g_ops ?_; first | refine s_q ?_ | refine s_v ?_ | refine s_s ?_ | refine s_n (fun _ => ?_) | refine s_x ?_ | refine s_y ?_ | refine s_mq ?_ | refine s_app (fun _ _ => ?_) | refine s_mv ?_ | refine s_ms ?_ | refine s_b0 (fun _ => ?_) | ((fail_if_success refine g_lit rfl rfl rfl ?_); first | apply g_partM rfl rfl rfl | apply g_partMB rfl rfl rfl | fail))
      | refine g_seq ?_ | refine g_region ?_ | refine g_nil ?_ | refine g_then_normal ?_ | refine g_block ?_ | refine g_in_normal ?_ | refine g_retc ?_
      | refine g_then_ret ?_ | refine g_in_ret ?_ | refine g_exit ?_ | refine g_then_exit ?_ | refine g_in_exit ?_ | refine g_in_other rfl ?_ | refine g_skip ?_
      | refine g_label ?_ | refine g_cond_true rfl ?_ | refine g_cond_false rfl ?_ | exact s_m | intro _)
    refine g_own_nil none 1 5 ?_
    exact s_r (none, 0)
  | some a =>
    refine fn_intro Tryz.func31 rfl Tryz.ntmps31 rfl (by simp only [argFr, Nat.zero_add, Nat.reduceAdd]; rfl) (fun Γ => ?_)
    have hsrc : ∀ {Γ : Ctx} {b : Nat}, SrcIs Tryz.prog Γ [.own (some ⟨b, 0, none⟩) 0 0 1 [] 5, C] 1 28 (.slice (some a) m c) m news := fun {Γ b} => srcAt h inferInstance (.there .here) (by decide)
    repeat (first
      | (refine g_ops ?_; first | refine s_q ?_ | refine s_v ?_ | refine s_s ?_ | refine s_n (fun _ => ?_) | refine s_x ?_ | refine s_y ?_ | refine s_mq ?_ | refine s_app (fun _ _ => ?_) | refine s_mv ?_ | refine s_ms ?_ | refine s_b0 (fun _ => ?_) | ((fail_if_success refine g_lit rfl rfl rfl ?_); first | apply g_partM rfl rfl rfl | apply g_partMB rfl rfl rfl | fail))
      | refine g_seq ?_ | refine g_region ?_ | refine g_nil ?_ | refine g_then_normal ?_ | refine g_block ?_ | refine g_in_normal ?_ | refine g_retc ?_
      | refine g_then_ret ?_ | refine g_in_ret ?_ | refine g_exit ?_ | refine g_then_exit ?_ | refine g_in_exit ?_ | refine g_in_other rfl ?_ | refine g_skip ?_
      | refine g_label ?_ | refine g_cond_true rfl ?_ | refine g_cond_false rfl ?_ | exact s_m | intro _)
    rename_i q c'
    exact s_r (q, c') (hp := by simp [pack]) (tk := by rw [Nat.zero_add, List.nil_append]; exact (by (repeat (first | exact Take.nil | apply Take.cons | exact Sel.here | apply Sel.there)); first | done | fail))
structure Pk where
  p : Option Addr
  l : List Int
  c : Nat
structure PkAt (C : Chunk) (x : Pk) : Prop where
  le : x.l.length ≤ x.c
  at_ : IntsAt C x.p x.l
abbrev Pk.row (x : Pk) (pb : Nat) : Chunk := .row pb [.slice x.p x.l.length x.c] 47
structure EaX where
  fs : List Fi
  q : Option Addr
  c : Nat
structure EbX where
  d : Nat
  x : EaX
structure OaX where
  a : OA
  b : OA
end Go.Proofs.YtdldgbbhagpofaaGreatDoor

namespace Go.Proofs.YtdldgbbhagpofaaGreatDoor
open Go.Sl facts
abbrev yv (l : Nat) : Value := .func (.yield l) #[] #[]
abbrev lpB (l : Nat) (r : Loop) (b : Bool) : Chunk := lp l r (if b then .done else .ready) (if b then some .ret else none)
structure BkX (X : Type) where
  i : Nat
  x : X
theorem all_last {x c : Chunk} {A : List Chunk} {h : HP} (a : All ((c :: A) ++ [x]) h) : All (c :: x :: A) h :=
  a.take (R := []) (.cons .here (.cons (sel_mid x [] A) (by rw [List.append_nil]; exact take_all _))) |> fun a => by simpa using a
attribute [local irreducible] Code.wp wpList Exit.then Exit.inBlock bodyPost Back MidQ G GP QStep VStep CStep SStep Does Post Reads
section
variable {X : Type} {l : Nat} {r : Loop} {bx : Nat} {p : Option Addr} {n c : Nat} {M F : Nat → X → List Chunk} {φ ψ : Nat → X → Prop}
theorem back46 {el : Nat → List Value} (hel : ∀ i, (el i).length = 4) (hn : n ≤ 1000000000)
    (hr : ∀ i x, i < n → φ (i + 1) x → ∃ b o C R', p = some ⟨b, o, none⟩ ∧ Sel (M (i + 1) x) C R' ∧ ∀ (j : Nat) (v : Value), (el i)[j]? = some v → Reads C ⟨b, o + i * 4 + j, none⟩ v)
    (Y : ∀ i x, i < n → φ (i + 1) x → YDoes Tryz.prog l [int i, .agg (el i).toArray] (lp l r .ready none :: M (i + 1) x) (fun b y => lpB l r (!b) :: (if b then M i y else F i y)) (fun b y => if b then φ i y else ψ i y)) (x0 : X) (h0 : φ n x0) :
    Does Tryz.prog 46 [yv l, ptr bx] (lp l r .ready none :: .row bx [.slice p n c] 56 :: M n x0) (fun _ => .tuple #[])
      (fun z : Bool × Nat × X => lpB l r z.1 :: .row bx [.slice p n c] 56 :: (if z.1 then F z.2.1 z.2.2 else M 0 z.2.2)) (fun z => if z.1 then ψ z.2.1 z.2.2 ∧ z.2.1 < n else φ 0 z.2.2) := by
  refine fn_intro Tryz.func46 rfl Tryz.ntmps46 rfl (by simp only [argFr, Nat.zero_add, Nat.reduceAdd]; rfl) (fun Γ => ?_)
  repeat (first
    | (refine g_ops ?_; first | refine sO ?_ | refine s_n (fun _ => ?_) | refine s_app (fun _ _ => ?_) | refine s_b0 (fun _ => ?_) | ((fail_if_success refine g_lit rfl rfl rfl ?_); first | apply g_partM rfl rfl rfl | apply g_partMB rfl rfl rfl | fail))
    | refine gS ?_ | exact s_m | intro _ | refine r_seq ?_ | refine r_region ?_ | refine r_block ?_ | refine r_retc ?_ | refine r_exit ?_ | refine r_skip ?_
    | refine r_label ?_ | refine r_cond_true rfl ?_ | refine r_cond_false rfl ?_)
  refine g_loop (X := BkX X) (fun z => [(3, int ((z.i : Int) - 1)), (0, yv l), (1, ptr bx)]) (fun z => lp l r .ready none :: .row bx [.slice p n c] 56 :: M z.i z.x) (fun z => z.i ≤ n ∧ φ z.i z.x) (fun z => z.i) ⟨n, x0⟩ ⟨Nat.le_refl _, h0⟩ (by (repeat (first | exact FrSub.nil | refine FrSub.cons rfl ?_)); first | done | fail) (take_all _) (fun z hz => ?_)
  obtain ⟨i, x⟩ := z
  obtain ⟨hi, hx⟩ := hz
  dsimp only at hi hx ⊢
  repeat (first
    | (refine g_ops ?_; first | refine sO ?_ | refine s_n (fun _ => ?_) | refine s_app (fun _ _ => ?_) | refine s_b0 (fun _ => ?_) | ((fail_if_success refine g_lit rfl rfl rfl ?_); first | apply g_partM rfl rfl rfl | apply g_partMB rfl rfl rfl | fail))
    | refine gS ?_ | exact s_m | intro _ | refine r_seq ?_ | refine r_region ?_ | refine r_block ?_ | refine r_retc ?_ | refine r_exit ?_ | refine r_skip ?_
    | refine r_label ?_ | refine r_cond_true rfl ?_ | refine r_cond_false rfl ?_)
  refine g_cond_dec rfl (fun h => ?_) (fun h => ?_)
  · obtain ⟨i, rfl⟩ : ∃ j, i = j + 1 := ⟨i - 1, by omega⟩
    obtain ⟨b, o, C, R', rfl, hs, hrow⟩ := hr i x (by omega) hx
    have e1 : ((i + 1 : Nat) : Int) - 1 = (i : Int) := by omega
    rw [e1]
    repeat (first | refine g_skip ?_ | refine g_then_normal ?_ | refine g_seq ?_ | refine g_block ?_)
    refine g_regY (id := 3) 6 ?_
    dsimp only [List.take, List.drop]
    repeat (first
      | (refine g_ops ?_; first | refine sO ?_ | refine s_n (fun _ => ?_) | refine s_app (fun _ _ => ?_) | refine s_b0 (fun _ => ?_) | ((fail_if_success refine g_lit rfl rfl rfl ?_); first | apply g_partM rfl rfl rfl | apply g_partMB rfl rfl rfl | fail))
      | refine gS ?_ | exact s_m | intro _ | refine r_seq ?_ | refine r_region ?_ | refine r_block ?_ | refine r_retc ?_ | refine r_exit ?_ | refine r_skip ?_
      | refine r_label ?_ | refine r_cond_true rfl ?_ | refine r_cond_false rfl ?_)
    refine g_v (vs_loadAR rfl (.there (.there hs)) (hel i) hrow) rfl rfl ?_
    refine g_nil ?_
    refine g_then_normal ?_
    refine g_yield (Y i x (by omega) hx) rfl rfl rfl (by (repeat (first | exact Evs.nil | refine Evs.cons rfl ?_)); first | done | fail) (by first | exact .cons .here (Take.under (take_all _)) | fail) (fun b' y hy => ?_)
    refine g_back ?_
    cases b' with
    | true =>
      refine g_weak (fr' := [(17, .bool true), (3, int i), (0, yv l), (1, ptr bx)]) (by (repeat (first | exact FrSub.nil | refine FrSub.cons rfl ?_)); first | done | fail) (fun h a => all_last (x := .row bx [.slice (some ⟨b, o, none⟩) n c] 56) a) ?_
      repeat (first
        | (refine g_ops ?_; first | refine sO ?_ | refine s_n (fun _ => ?_) | refine s_app (fun _ _ => ?_) | refine s_b0 (fun _ => ?_) | ((fail_if_success refine g_lit rfl rfl rfl ?_); first | apply g_partM rfl rfl rfl | apply g_partMB rfl rfl rfl | fail))
        | refine gS ?_ | exact s_m | intro _ | refine r_seq ?_ | refine r_region ?_ | refine r_block ?_ | refine r_retc ?_ | refine r_exit ?_ | refine r_skip ?_
        | refine r_label ?_ | refine r_cond_true rfl ?_ | refine r_cond_false rfl ?_)
      exact g_again ⟨i, y⟩ (Nat.lt_succ_self i) ⟨Nat.le_of_succ_le hi, hy⟩ (by (repeat (first | exact FrSub.nil | refine FrSub.cons rfl ?_)); first | done | fail) (take_all _)
    | false =>
      refine g_weak (fr' := [(17, .bool false), (0, yv l), (1, ptr bx)]) (by (repeat (first | exact FrSub.nil | refine FrSub.cons rfl ?_)); first | done | fail) (fun h a => all_last (x := .row bx [.slice (some ⟨b, o, none⟩) n c] 56) a) ?_
      repeat (first
        | (refine g_ops ?_; first | refine sO ?_ | refine s_n (fun _ => ?_) | refine s_app (fun _ _ => ?_) | refine s_b0 (fun _ => ?_) | ((fail_if_success refine g_lit rfl rfl rfl ?_); first | apply g_partM rfl rfl rfl | apply g_partMB rfl rfl rfl | fail))
        | refine gS ?_ | exact s_m | intro _ | refine r_seq ?_ | refine r_region ?_ | refine r_block ?_ | refine r_retc ?_ | refine r_exit ?_ | refine r_skip ?_
        | refine r_label ?_ | refine r_cond_true rfl ?_ | refine r_cond_false rfl ?_)
      exact g_ret (true, i, y) rfl (by (repeat (first | exact RVs.nil | apply RVs.tmp rfl | apply RVs.cellA rfl (by (repeat (first | exact Sel.here | apply Sel.there)); first | done | fail) (by (repeat (first | exact Cut.zero | apply Cut.take | apply Cut.skip)); first | done | fail) | apply RVs.cell1 rfl (by (repeat (first | exact Sel.here | apply Sel.there)); first | done | fail) rfl)); first | done | fail) (take_all _) rfl ⟨hy, hi⟩
  · obtain rfl : i = 0 := by omega
    repeat (first
      | (refine g_ops ?_; first | refine sO ?_ | refine s_n (fun _ => ?_) | refine s_app (fun _ _ => ?_) | refine s_b0 (fun _ => ?_) | ((fail_if_success refine g_lit rfl rfl rfl ?_); first | apply g_partM rfl rfl rfl | apply g_partMB rfl rfl rfl | fail))
      | refine gS ?_ | exact s_m | intro _ | refine r_seq ?_ | refine r_region ?_ | refine r_block ?_ | refine r_retc ?_ | refine r_exit ?_ | refine r_skip ?_
      | refine r_label ?_ | refine r_cond_true rfl ?_ | refine r_cond_false rfl ?_)
    exact g_end (false, 0, x) rfl (by (repeat (first | exact RVs.nil | apply RVs.tmp rfl | apply RVs.cellA rfl (by (repeat (first | exact Sel.here | apply Sel.there)); first | done | fail) (by (repeat (first | exact Cut.zero | apply Cut.take | apply Cut.skip)); first | done | fail) | apply RVs.cell1 rfl (by (repeat (first | exact Sel.here | apply Sel.there)); first | done | fail) rfl)); first | done | fail) (take_all _) rfl (by simpa using hx)
theorem back80 {el : Nat → Int} (hn : n ≤ 1000000000)
    (hr : ∀ i x, i < n → φ (i + 1) x → ∃ b o C R', p = some ⟨b, o, none⟩ ∧ Sel (M (i + 1) x) C R' ∧ Reads C ⟨b, o + i * 1, none⟩ (int (el i)))
    (Y : ∀ i x, i < n → φ (i + 1) x → YDoes Tryz.prog l [int i, int (el i)] (lp l r .ready none :: M (i + 1) x) (fun b y => lpB l r (!b) :: (if b then M i y else F i y)) (fun b y => if b then φ i y else ψ i y)) (x0 : X) (h0 : φ n x0) :
    Does Tryz.prog 80 [yv l, ptr bx] (lp l r .ready none :: .row bx [.slice p n c] 47 :: M n x0) (fun _ => .tuple #[])
      (fun z : Bool × Nat × X => lpB l r z.1 :: .row bx [.slice p n c] 47 :: (if z.1 then F z.2.1 z.2.2 else M 0 z.2.2)) (fun z => if z.1 then ψ z.2.1 z.2.2 ∧ z.2.1 < n else φ 0 z.2.2) := by
  refine fn_intro Tryz.func80 rfl Tryz.ntmps80 rfl (by simp only [argFr, Nat.zero_add, Nat.reduceAdd]; rfl) (fun Γ => ?_)
  repeat (first
    | (refine g_ops ?_; first | refine sO ?_ | refine s_n (fun _ => ?_) | refine s_app (fun _ _ => ?_) | refine s_b0 (fun _ => ?_) | ((fail_if_success refine g_lit rfl rfl rfl ?_); first | apply g_partM rfl rfl rfl | apply g_partMB rfl rfl rfl | fail))
    | refine gS ?_ | exact s_m | intro _ | refine r_seq ?_ | refine r_region ?_ | refine r_block ?_ | refine r_retc ?_ | refine r_exit ?_ | refine r_skip ?_
    | refine r_label ?_ | refine r_cond_true rfl ?_ | refine r_cond_false rfl ?_)
  refine g_loop (X := BkX X) (fun z => [(3, int ((z.i : Int) - 1)), (0, yv l), (1, ptr bx)]) (fun z => lp l r .ready none :: .row bx [.slice p n c] 47 :: M z.i z.x) (fun z => z.i ≤ n ∧ φ z.i z.x) (fun z => z.i) ⟨n, x0⟩ ⟨Nat.le_refl _, h0⟩ (by (repeat (first | exact FrSub.nil | refine FrSub.cons rfl ?_)); first | done | fail) (take_all _) (fun z hz => ?_)
  obtain ⟨i, x⟩ := z
  obtain ⟨hi, hx⟩ := hz
  dsimp only at hi hx ⊢
  repeat (first
    | (refine g_ops ?_; first | refine sO ?_ | refine s_n (fun _ => ?_) | refine s_app (fun _ _ => ?_) | refine s_b0 (fun _ => ?_) | ((fail_if_success refine g_lit rfl rfl rfl ?_); first | apply g_partM rfl rfl rfl | apply g_partMB rfl rfl rfl | fail))
    | refine gS ?_ | exact s_m | intro _ | refine r_seq ?_ | refine r_region ?_ | refine r_block ?_ | refine r_retc ?_ | refine r_exit ?_ | refine r_skip ?_
    | refine r_label ?_ | refine r_cond_true rfl ?_ | refine r_cond_false rfl ?_)
  refine g_cond_dec rfl (fun h => ?_) (fun h => ?_)
  · obtain ⟨i, rfl⟩ : ∃ j, i = j + 1 := ⟨i - 1, by omega⟩
    obtain ⟨b, o, C, R', rfl, hs, hrow⟩ := hr i x (by omega) hx
    have e1 : ((i + 1 : Nat) : Int) - 1 = (i : Int) := by omega
    rw [e1]
    repeat (first | refine g_skip ?_ | refine g_then_normal ?_ | refine g_seq ?_ | refine g_block ?_)
    refine g_regY (id := 3) 6 ?_
    dsimp only [List.take, List.drop]
    repeat (first
      | (refine g_ops ?_; first | refine sO ?_ | refine s_n (fun _ => ?_) | refine s_app (fun _ _ => ?_) | refine s_b0 (fun _ => ?_) | ((fail_if_success refine g_lit rfl rfl rfl ?_); first | apply g_partM rfl rfl rfl | apply g_partMB rfl rfl rfl | fail))
      | refine gS ?_ | exact s_m | intro _ | refine r_seq ?_ | refine r_region ?_ | refine r_block ?_ | refine r_retc ?_ | refine r_exit ?_ | refine r_skip ?_
      | refine r_label ?_ | refine r_cond_true rfl ?_ | refine r_cond_false rfl ?_)
    refine g_v (vs_loadR rfl (.there (.there hs)) (by simpa using hrow)) rfl rfl ?_
    refine g_nil ?_
    refine g_then_normal ?_
    refine g_yield (Y i x (by omega) hx) rfl rfl rfl (by (repeat (first | exact Evs.nil | refine Evs.cons rfl ?_)); first | done | fail) (by first | exact .cons .here (Take.under (take_all _)) | fail) (fun b' y hy => ?_)
    refine g_back ?_
    cases b' with
    | true =>
      refine g_weak (fr' := [(17, .bool true), (3, int i), (0, yv l), (1, ptr bx)]) (by (repeat (first | exact FrSub.nil | refine FrSub.cons rfl ?_)); first | done | fail) (fun h a => all_last (x := .row bx [.slice (some ⟨b, o, none⟩) n c] 47) a) ?_
      repeat (first
        | (refine g_ops ?_; first | refine sO ?_ | refine s_n (fun _ => ?_) | refine s_app (fun _ _ => ?_) | refine s_b0 (fun _ => ?_) | ((fail_if_success refine g_lit rfl rfl rfl ?_); first | apply g_partM rfl rfl rfl | apply g_partMB rfl rfl rfl | fail))
        | refine gS ?_ | exact s_m | intro _ | refine r_seq ?_ | refine r_region ?_ | refine r_block ?_ | refine r_retc ?_ | refine r_exit ?_ | refine r_skip ?_
        | refine r_label ?_ | refine r_cond_true rfl ?_ | refine r_cond_false rfl ?_)
      exact g_again ⟨i, y⟩ (Nat.lt_succ_self i) ⟨Nat.le_of_succ_le hi, hy⟩ (by (repeat (first | exact FrSub.nil | refine FrSub.cons rfl ?_)); first | done | fail) (take_all _)
    | false =>
      refine g_weak (fr' := [(17, .bool false), (0, yv l), (1, ptr bx)]) (by (repeat (first | exact FrSub.nil | refine FrSub.cons rfl ?_)); first | done | fail) (fun h a => all_last (x := .row bx [.slice (some ⟨b, o, none⟩) n c] 47) a) ?_
      repeat (first
        | (refine g_ops ?_; first | refine sO ?_ | refine s_n (fun _ => ?_) | refine s_app (fun _ _ => ?_) | refine s_b0 (fun _ => ?_) | ((fail_if_success refine g_lit rfl rfl rfl ?_); first | apply g_partM rfl rfl rfl | apply g_partMB rfl rfl rfl | fail))
        | refine gS ?_ | exact s_m | intro _ | refine r_seq ?_ | refine r_region ?_ | refine r_block ?_ | refine r_retc ?_ | refine r_exit ?_ | refine r_skip ?_
        | refine r_label ?_ | refine r_cond_true rfl ?_ | refine r_cond_false rfl ?_)
      exact g_ret (true, i, y) rfl (by (repeat (first | exact RVs.nil | apply RVs.tmp rfl | apply RVs.cellA rfl (by (repeat (first | exact Sel.here | apply Sel.there)); first | done | fail) (by (repeat (first | exact Cut.zero | apply Cut.take | apply Cut.skip)); first | done | fail) | apply RVs.cell1 rfl (by (repeat (first | exact Sel.here | apply Sel.there)); first | done | fail) rfl)); first | done | fail) (take_all _) rfl ⟨hy, hi⟩
  · obtain rfl : i = 0 := by omega
    repeat (first
      | (refine g_ops ?_; first | refine sO ?_ | refine s_n (fun _ => ?_) | refine s_app (fun _ _ => ?_) | refine s_b0 (fun _ => ?_) | ((fail_if_success refine g_lit rfl rfl rfl ?_); first | apply g_partM rfl rfl rfl | apply g_partMB rfl rfl rfl | fail))
      | refine gS ?_ | exact s_m | intro _ | refine r_seq ?_ | refine r_region ?_ | refine r_block ?_ | refine r_retc ?_ | refine r_exit ?_ | refine r_skip ?_
      | refine r_label ?_ | refine r_cond_true rfl ?_ | refine r_cond_false rfl ?_)
    exact g_end (false, 0, x) rfl (by (repeat (first | exact RVs.nil | apply RVs.tmp rfl | apply RVs.cellA rfl (by (repeat (first | exact Sel.here | apply Sel.there)); first | done | fail) (by (repeat (first | exact Cut.zero | apply Cut.take | apply Cut.skip)); first | done | fail) | apply RVs.cell1 rfl (by (repeat (first | exact Sel.here | apply Sel.there)); first | done | fail) rfl)); first | done | fail) (take_all _) rfl (by simpa using hx)
end
theorem backP (p : Option Addr) (n c : Nat) : Does Tryz.prog 28 [.slice p n c] [] (fun b : Nat => .func (.func 46) #[] [ptr b].toArray) (fun b => [.row b [.slice p n c] 56]) (fun _ => True) := by
  refine fn_intro Tryz.func28 rfl Tryz.ntmps28 rfl (by simp only [argFr, Nat.zero_add, Nat.reduceAdd]; rfl) (fun Γ => ?_)
  repeat (first
    | (refine g_ops ?_; first | refine sO ?_ | refine s_n (fun _ => ?_) | refine s_app (fun _ _ => ?_) | refine s_b0 (fun _ => ?_) | ((fail_if_success refine g_lit rfl rfl rfl ?_); first | apply g_partM rfl rfl rfl | apply g_partMB rfl rfl rfl | fail))
    | refine gS ?_ | exact s_m | intro _ | refine r_seq ?_ | refine r_region ?_ | refine r_block ?_ | refine r_retc ?_ | refine r_exit ?_ | refine r_skip ?_
    | refine r_label ?_ | refine r_cond_true rfl ?_ | refine r_cond_false rfl ?_)
  rename_i x
  refine s_q (q := by exact qs_makeFunc (vs := [ptr x]) (.cons rfl .nil)) ?_
  repeat (first
    | (refine g_ops ?_; first | refine sO ?_ | refine s_n (fun _ => ?_) | refine s_app (fun _ _ => ?_) | refine s_b0 (fun _ => ?_) | ((fail_if_success refine g_lit rfl rfl rfl ?_); first | apply g_partM rfl rfl rfl | apply g_partMB rfl rfl rfl | fail))
    | refine gS ?_ | exact s_m | intro _ | refine r_seq ?_ | refine r_region ?_ | refine r_block ?_ | refine r_retc ?_ | refine r_exit ?_ | refine r_skip ?_
    | refine r_label ?_ | refine r_cond_true rfl ?_ | refine r_cond_false rfl ?_)
  exact gR _ trivial
theorem backI (p : Option Addr) (n c : Nat) : Does Tryz.prog 60 [.slice p n c] [] (fun b : Nat => .func (.func 80) #[] [ptr b].toArray) (fun b => [.row b [.slice p n c] 47]) (fun _ => True) := by
  refine fn_intro Tryz.func60 rfl Tryz.ntmps60 rfl (by simp only [argFr, Nat.zero_add, Nat.reduceAdd]; rfl) (fun Γ => ?_)
  repeat (first
    | (refine g_ops ?_; first | refine sO ?_ | refine s_n (fun _ => ?_) | refine s_app (fun _ _ => ?_) | refine s_b0 (fun _ => ?_) | ((fail_if_success refine g_lit rfl rfl rfl ?_); first | apply g_partM rfl rfl rfl | apply g_partMB rfl rfl rfl | fail))
    | refine gS ?_ | exact s_m | intro _ | refine r_seq ?_ | refine r_region ?_ | refine r_block ?_ | refine r_retc ?_ | refine r_exit ?_ | refine r_skip ?_
    | refine r_label ?_ | refine r_cond_true rfl ?_ | refine r_cond_false rfl ?_)
  rename_i x
  refine s_q (q := by exact qs_makeFunc (vs := [ptr x]) (.cons rfl .nil)) ?_
  repeat (first
    | (refine g_ops ?_; first | refine sO ?_ | refine s_n (fun _ => ?_) | refine s_app (fun _ _ => ?_) | refine s_b0 (fun _ => ?_) | ((fail_if_success refine g_lit rfl rfl rfl ?_); first | apply g_partM rfl rfl rfl | apply g_partMB rfl rfl rfl | fail))
    | refine gS ?_ | exact s_m | intro _ | refine r_seq ?_ | refine r_region ?_ | refine r_block ?_ | refine r_retc ?_ | refine r_exit ?_ | refine r_skip ?_
    | refine r_label ?_ | refine r_cond_true rfl ?_ | refine r_cond_false rfl ?_)
  exact gR _ trivial
end Go.Proofs.YtdldgbbhagpofaaGreatDoor

/-
  DERIVED: THE SHELF's CONTRACTS AT THIS DUMP, IN PLAIN WORDS (tools/lay-plain.mjs out of 'TryzShelI.lean', which tools/lay-shelf.mjs wrote): THE SAME DECLARATIONS UNDER THE SAME NAMES: 'import', 'namespace', 'open', 'def', 'theorem' AND NOTHING ELSE: no command of the shelf's: FOR A HAND-IN. Each laying: the table of numbers ('.._ren') and one theorem, a field a fact of the dump's own or the kernel's comparison; each contract: ONE APPLICATION.
-/
namespace Go.Proofs
open Go.Shelf
def Tryz.laysNm171_ren : Go.Shelf.Ren := ⟨fun | 171 => 53 | 243 => 73 | 246 => 86 | 283 => 106 | 284 => 107 | 285 => 108 | 286 => 109 | 129 => 104 | 317 => 120 | 318 => 121 | 319 => 122 | 320 => 123 | 337 => 127 | 338 => 128 | n => n, fun | 3 => 3 | 9 => 9 | 2 => 2 | 4 => 4 | 171 => 151 | 0 => 0 | 53 => 94 | 37 => 28 | 5 => 5 | 173 => 153 | 212 => 170 | 51 => 117 | 20 => 20 | 213 => 171 | 46 => 119 | 232 => 180 | 233 => 181 | n => n, fun | 17 => 2 | 18 => 3 | 19 => 4 | n => n⟩
theorem Tryz.laysNm171 : Go.Proofs.Lays.n171 Tryz.prog Tryz.laysNm171_ren := {
  mixed := by kernel_rfl
  f129 := Tryz.func104.trans (congrArg some (by kernel_rfl))
  f171 := Tryz.func53.trans (congrArg some (by kernel_rfl))
  f243 := Tryz.func73.trans (congrArg some (by kernel_rfl))
  f246 := Tryz.func86.trans (congrArg some (by kernel_rfl))
  f283 := Tryz.func106.trans (congrArg some (by kernel_rfl))
  f284 := Tryz.func107.trans (congrArg some (by kernel_rfl))
  f285 := Tryz.func108.trans (congrArg some (by kernel_rfl))
  f286 := Tryz.func109.trans (congrArg some (by kernel_rfl))
  f317 := Tryz.func120.trans (congrArg some (by kernel_rfl))
  f318 := Tryz.func121.trans (congrArg some (by kernel_rfl))
  f319 := Tryz.func122.trans (congrArg some (by kernel_rfl))
  f320 := Tryz.func123.trans (congrArg some (by kernel_rfl))
  f337 := Tryz.func127.trans (congrArg some (by kernel_rfl))
  f338 := Tryz.func128.trans (congrArg some (by kernel_rfl))
  t0 := Tryz.underlying0
  a0 := Tryz.isAgg0
  z0 := Tryz.sizeOf0
  v0 := Tryz.zeroValue0
  t2 := Tryz.underlying2
  a2 := Tryz.isAgg2
  z2 := Tryz.sizeOf2
  v2 := Tryz.zeroValue2
  t3 := Tryz.underlying3
  a3 := Tryz.isAgg3
  z3 := Tryz.sizeOf3
  v3 := Tryz.zeroValue3
  t4 := Tryz.underlying4
  a4 := Tryz.isAgg4
  z4 := Tryz.sizeOf4
  v4 := Tryz.zeroValue4
  t5 := Tryz.underlying5
  a5 := Tryz.isAgg5
  z5 := Tryz.sizeOf5
  v5 := Tryz.zeroValue5
  t9 := Tryz.underlying9
  a9 := Tryz.isAgg9
  z9 := Tryz.sizeOf9
  v9 := Tryz.zeroValue9
  t20 := Tryz.underlying20
  a20 := Tryz.isAgg20
  z20 := Tryz.sizeOf20
  v20 := Tryz.zeroValue20
  t37 := Tryz.underlying28
  a37 := Tryz.isAgg28
  z37 := Tryz.sizeOf28
  v37 := Tryz.zeroValue28
  t46 := Tryz.underlying119
  a46 := Tryz.isAgg119
  z46 := Tryz.sizeOf119
  v46 := Tryz.zeroValue119
  t51 := Tryz.underlying117
  a51 := Tryz.isAgg117
  z51 := Tryz.sizeOf117
  v51 := Tryz.zeroValue117
  t53 := Tryz.underlying94
  a53 := Tryz.isAgg94
  z53 := Tryz.sizeOf94
  v53 := Tryz.zeroValue94
  t171 := Tryz.underlying151
  a171 := Tryz.isAgg151
  z171 := Tryz.sizeOf151
  v171 := Tryz.zeroValue151
  t173 := Tryz.underlying153
  a173 := Tryz.isAgg153
  z173 := Tryz.sizeOf153
  v173 := Tryz.zeroValue153
  t212 := Tryz.underlying170
  a212 := Tryz.isAgg170
  z212 := Tryz.sizeOf170
  v212 := Tryz.zeroValue170
  t213 := Tryz.underlying171
  a213 := Tryz.isAgg171
  z213 := Tryz.sizeOf171
  t232 := Tryz.underlying180
  a232 := Tryz.isAgg180
  z232 := Tryz.sizeOf180
  v232 := Tryz.zeroValue180
  t233 := Tryz.underlying181
  a233 := Tryz.isAgg181
  z233 := Tryz.sizeOf181
  v233 := Tryz.zeroValue181
  g17 := by kernel_rfl
  g18 := by kernel_rfl
  g19 := by kernel_rfl }
end Go.Proofs
