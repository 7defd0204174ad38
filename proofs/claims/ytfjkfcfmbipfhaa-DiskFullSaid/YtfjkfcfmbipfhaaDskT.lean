/- Plain: names in their order; where a name stands. -/
import Derived.Test.YtfjkfcfmbipfhaaDskS
set_option linter.unusedSimpArgs false
set_option linter.unusedVariables false
namespace Go.Proofs.Ytfjkfcfmbipfhaa
open Go.Sl facts
theorem bl_trans : ∀ (x y z : List UInt8), Op.bytesLess x y = true → Op.bytesLess y z = true → Op.bytesLess x z = true
  | [], [], _, h, _ => by simp [Op.bytesLess] at h
  | _ :: _, [], _, h, _ => by simp [Op.bytesLess] at h
  | _, _ :: _, [], _, h => by simp [Op.bytesLess] at h
  | [], _ :: _, _ :: _, _, _ => rfl
  | a :: x, b :: y, c :: z, h1, h2 => by
    simp only [Op.bytesLess, Bool.or_eq_true, decide_eq_true_eq, Bool.and_eq_true, beq_iff_eq] at h1 h2 ⊢
    rcases h1 with h1 | ⟨rfl, h1⟩
    · rcases h2 with h2 | ⟨rfl, h2⟩
      · exact .inl (UInt8.lt_trans h1 h2)
      · exact .inl h1
    · rcases h2 with h2 | ⟨rfl, h2⟩
      · exact .inl h2
      · exact .inr ⟨rfl, bl_trans x y z h1 h2⟩
theorem ltB_trans {a b c : ByteArray} (h1 : ltB a b = true) (h2 : ltB b c = true) : ltB a c = true := bl_trans _ _ _ h1 h2
theorem cmpS_neg {a b : ByteArray} : cmpS a b < 0 ↔ ltB a b = true := by
  unfold cmpS
  split
  · rename_i h; simp [h]
  · rename_i h
    split <;> simp [h]
theorem cmpS_zero {a b : ByteArray} : cmpS a b = 0 ↔ a = b := by
  unfold cmpS
  split
  · rename_i h
    constructor
    · intro e; cases e
    · rintro rfl; rw [ltB_irr] at h; cases h
  · rename_i h
    split
    · rename_i h2
      constructor
      · intro e; cases e
      · rintro rfl; exact absurd h2 h
    · rename_i h2
      refine ⟨fun _ => ?_, fun _ => rfl⟩
      rcases ltB_or a b with q | q | q
      · exact absurd q h
      · exact absurd q h2
      · exact q
/-- The names rise. -/
def SortF (fs : List Fi) : Prop := (fs.map Fi.nm).Pairwise fun a b => ltB a b = true
theorem SortF.lt {fs : List Fi} (h : SortF fs) {i j : Nat} (hij : i < j) (hj : j < fs.length) : ltB (fs[i]'(by omega)).nm fs[j].nm = true := by
  have := List.pairwise_iff_getElem.1 h i j (by simp; omega) (by simpa using hj) hij
  simpa using this
theorem pos_first (fs : List Fi) (nm : ByteArray) : ∀ n, n ≤ fs.length → ∃ pos, pos ≤ n ∧ (∀ (i : Nat) (h : i < fs.length), i < pos → ltB fs[i].nm nm = true) ∧ (pos < n → ∃ h : pos < fs.length, ltB fs[pos].nm nm ≠ true)
  | 0, _ => ⟨0, Nat.le_refl _, fun i _ h => by omega, fun h => by omega⟩
  | n + 1, hn => by
    obtain ⟨pos, h1, h2, h3⟩ := pos_first fs nm n (by omega)
    by_cases hp : pos < n
    · exact ⟨pos, by omega, h2, fun _ => h3 hp⟩
    · obtain rfl : pos = n := by omega
      by_cases hl : ltB fs[pos].nm nm = true
      · refine ⟨pos + 1, Nat.le_refl _, fun i h hi => ?_, fun h => by omega⟩
        by_cases he : i = pos
        · subst he; exact hl
        · exact h2 i h (by omega)
      · exact ⟨pos, by omega, h2, fun _ => ⟨by omega, hl⟩⟩
theorem SortF.pos {fs : List Fi} (h : SortF fs) (nm : ByteArray) : ∃ pos, PosIs fs nm pos := by
  obtain ⟨pos, h1, h2, h3⟩ := pos_first fs nm fs.length (Nat.le_refl _)
  refine ⟨pos, h1, fun i hi hp => cmpS_neg.2 (h2 i hi hp), fun i hi hp hc => ?_⟩
  obtain ⟨h4, h5⟩ := h3 (by omega)
  have hc := cmpS_neg.1 hc
  by_cases he : pos = i
  · subst he; exact h5 hc
  · exact h5 (ltB_trans (h.lt (show pos < i by omega) hi) hc)
theorem found_nm {fs : List Fi} {nm : ByteArray} {pos : Nat} (h : foundB fs nm pos = true) (hlt : pos < fs.length) : fs[pos].nm = nm := by
  unfold foundB at h
  rw [dif_pos hlt] at h
  exact cmpS_zero.1 (of_decide_eq_true h)
/-- A name that stands there is found. -/
theorem SortF.at {fs : List Fi} (h : SortF fs) {i : Nat} (hi : i < fs.length) : PosIs fs fs[i].nm i ∧ foundB fs fs[i].nm i = true := by
  refine ⟨⟨by omega, fun j hj hji => cmpS_neg.2 (h.lt hji hi), fun j hj hij hc => ?_⟩, ?_⟩
  · have hc := cmpS_neg.1 hc
    by_cases he : i = j
    · subst he; rw [ltB_irr] at hc; cases hc
    · have := ltB_asym (h.lt (show i < j by omega) hj)
      rw [this] at hc; cases hc
  · unfold foundB
    rw [dif_pos hi]
    exact decide_eq_true (cmpS_zero.2 rfl)
theorem sort_ins {fs : List Fi} (h : SortF fs) {x : Fi} {pos : Nat} (hP : PosIs fs x.nm pos) (hf : foundB fs x.nm pos = false) : SortF (ins fs pos x) := by
  have hsplit : SortF (fs.take pos ++ fs.drop pos) := by rw [List.take_append_drop]; exact h
  unfold SortF at hsplit ⊢
  simp only [ins, List.map_append, List.map_cons] at hsplit ⊢
  rw [List.pairwise_append] at hsplit ⊢
  obtain ⟨h1, h2, h3⟩ := hsplit
  have hlo : ∀ a ∈ (fs.take pos).map Fi.nm, ltB a x.nm = true := fun a ha => by
    obtain ⟨y, hy, rfl⟩ := List.mem_map.1 ha
    obtain ⟨i, hi, rfl⟩ := List.mem_iff_getElem.1 hy
    simp only [List.length_take] at hi
    rw [List.getElem_take]
    exact cmpS_neg.1 (hP.lo i (by omega) (by omega))
  have hhi : ∀ b ∈ (fs.drop pos).map Fi.nm, ltB x.nm b = true := fun b hb => by
    obtain ⟨y, hy, rfl⟩ := List.mem_map.1 hb
    obtain ⟨i, hi, rfl⟩ := List.mem_iff_getElem.1 hy
    simp only [List.length_drop] at hi
    rw [List.getElem_drop]
    have hlt : pos < fs.length := by omega
    have h0 : ltB x.nm fs[pos].nm = true := by
      rcases ltB_or x.nm fs[pos].nm with q | q | q
      · exact q
      · exact absurd (cmpS_neg.2 q) (hP.hi pos hlt (Nat.le_refl _))
      · unfold foundB at hf
        rw [dif_pos hlt] at hf
        exact absurd (cmpS_zero.2 q.symm) (of_decide_eq_false hf)
    by_cases he : i = 0
    · subst he; exact h0
    · exact ltB_trans h0 (h.lt (show pos < pos + i by omega) (by omega))
  refine ⟨h1, List.pairwise_cons.2 ⟨hhi, h2⟩, fun a ha b hb => ?_⟩
  rcases List.mem_cons.1 hb with rfl | hb
  · exact hlo a ha
  · exact h3 a ha b hb
theorem sort_upd {fs : List Fi} (h : SortF fs) {x : Fi} {pos : Nat} (hlt : pos < fs.length) (hx : x.nm = fs[pos].nm) : SortF (upd fs pos x) := by
  have e : (upd fs pos x).map Fi.nm = fs.map Fi.nm := by
    have e := congrArg (List.map Fi.nm) (split_at fs pos hlt)
    rw [e]
    simp only [upd, List.map_append, List.map_cons, hx]
  unfold SortF
  rw [e]
  exact h
theorem used_ins (fs : List Fi) (pos : Nat) (x : Fi) : used (ins fs pos x) = used fs + x.safe.length + x.loose.length := by
  have := used_append (fs.take pos) (fs.drop pos)
  rw [List.take_append_drop] at this
  rw [ins, used_append]
  simp only [used]
  omega
theorem used_upd (fs : List Fi) (pos : Nat) (x : Fi) (hlt : pos < fs.length) : used (upd fs pos x) + (fs[pos].safe.length + fs[pos].loose.length) = used fs + (x.safe.length + x.loose.length) := by
  have e := used_append (fs.take pos) (fs[pos] :: fs.drop (pos + 1))
  rw [← split_at fs pos hlt] at e
  rw [upd, used_append]
  simp only [used] at e ⊢
  omega
end Go.Proofs.Ytfjkfcfmbipfhaa
