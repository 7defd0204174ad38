/- Plain: what a cut's parts are. -/
import Derived.Test.YtfachckbjmofgaaCrdL
set_option linter.unusedSimpArgs false
set_option linter.unusedVariables false
namespace Go.Proofs.Ytfachckbjmofgaa
open Go.Sl
/-- The puts of one owner. -/
def selK (k : Int) (L : List (Int × PtD)) : List PtD := (L.filter fun x => decide (x.1 = k)).map (·.2)
theorem selK_snoc (k : Int) (L : List (Int × PtD)) (a : Int × PtD) : selK k (L ++ [a]) = selK k L ++ if a.1 = k then [a.2] else [] := by
  unfold selK
  rw [List.filter_append, List.map_append]
  congr 1
  by_cases h : a.1 = k <;> simp [h]
structure CutI (L : List (Int × PtD)) (T : List (Int × List PtD)) : Prop where
  nd : (T.map (·.1)).Nodup
  sel : ∀ z ∈ T, z.2 = selK z.1 L ∧ z.2 ≠ [] ∧ z.1 > 0
  out : ∀ k, k > 0 → k ∉ T.map (·.1) → selK k L = []
  sum : (T.map (·.2.length)).sum = (L.filter fun x => decide (x.1 > 0)).length
theorem dput_spec {T : List (Int × List PtD)} {k : Int} {x : PtD} : (k ∉ T.map (·.1) ∧ dput T k x = T ++ [(k, [x])]) ∨ (∃ A l B, T = A ++ (k, l) :: B ∧ k ∉ A.map (·.1) ∧ dput T k x = A ++ (k, l ++ [x]) :: B) := by
  induction T with
  | nil => exact .inl ⟨by simp, rfl⟩
  | cons a T ih =>
    obtain ⟨a, l⟩ := a
    simp only [dput]
    by_cases h : k = a
    · subst h
      rw [if_pos rfl]
      exact .inr ⟨[], l, T, rfl, by simp, rfl⟩
    · rw [if_neg h]
      rcases ih with ⟨h1, h2⟩ | ⟨A, m, B, h1, h2, h3⟩
      · exact .inl ⟨by simp only [List.map_cons, List.mem_cons, not_or]; exact ⟨h, h1⟩, by rw [h2]; rfl⟩
      · exact .inr ⟨(a, l) :: A, m, B, by rw [h1]; rfl, by simp only [List.map_cons, List.mem_cons, not_or]; exact ⟨h, h2⟩, by rw [h3]; rfl⟩
theorem CutI.snoc {L : List (Int × PtD)} {T : List (Int × List PtD)} (h : CutI L T) (a : Int × PtD) : CutI (L ++ [a]) (if a.1 > 0 then dput T a.1 a.2 else T) := by
  obtain ⟨k, x⟩ := a
  obtain ⟨h1, h2, h3, h4⟩ := h
  by_cases hk : k > 0
  · rw [if_pos hk]
    have hf : ((L ++ [(k, x)]).filter fun x => decide (x.1 > 0)).length = (L.filter fun x => decide (x.1 > 0)).length + 1 := by
      rw [List.filter_append, List.length_append]; simp [hk]
    rcases dput_spec (T := T) (k := k) (x := x) with ⟨g1, g2⟩ | ⟨A, l, B, g1, g2, g3⟩
    · have hs := h3 k hk g1
      rw [g2]
      refine ⟨?_, fun z hz => ?_, fun j hj hn => ?_, ?_⟩
      · rw [List.map_append]
        exact List.nodup_append.2 ⟨h1, by simp, fun y hy z hz => by
          simp only [List.map_cons, List.map_nil, List.mem_singleton] at hz
          subst hz
          exact fun e => g1 (e ▸ hy)⟩
      · rcases List.mem_append.1 hz with hz | hz
        · obtain ⟨e1, e2, e3⟩ := h2 z hz
          have hne : k ≠ z.1 := fun e => g1 (e ▸ List.mem_map.2 ⟨z, hz, rfl⟩)
          exact ⟨by rw [selK_snoc, if_neg hne, List.append_nil]; exact e1, e2, e3⟩
        · rw [List.mem_singleton.1 hz]
          exact ⟨by rw [selK_snoc, if_pos rfl, hs]; rfl, by simp, hk⟩
      · simp only [List.map_append, List.map_cons, List.map_nil, List.mem_append, List.mem_singleton, not_or] at hn
        rw [selK_snoc, if_neg (fun e => hn.2 e.symm), h3 j hj hn.1]
        rfl
      · rw [hf, ← h4]; simp
    · rw [g3]
      subst g1
      rw [List.map_append, List.map_cons] at h1
      have hB : k ∉ B.map (·.1) := (List.nodup_cons.1 (List.nodup_append.1 h1).2.1).1
      refine ⟨by rw [List.map_append, List.map_cons]; exact h1, fun z hz => ?_, fun j hj hn => ?_, ?_⟩
      · have hold : ∀ z, z ∈ A ++ B → z.2 = selK z.1 (L ++ [(k, x)]) ∧ z.2 ≠ [] ∧ z.1 > 0 := fun z hz => by
          have hz' : z ∈ A ++ (k, l) :: B := by
            rcases List.mem_append.1 hz with h | h
            · exact List.mem_append_left _ h
            · exact List.mem_append_right _ (List.mem_cons_of_mem _ h)
          obtain ⟨e1, e2, e3⟩ := h2 z hz'
          have hne : k ≠ z.1 := fun e => by
            rcases List.mem_append.1 hz with h | h
            · exact g2 (e ▸ List.mem_map.2 ⟨z, h, rfl⟩)
            · exact hB (e ▸ List.mem_map.2 ⟨z, h, rfl⟩)
          exact ⟨by rw [selK_snoc, if_neg hne, List.append_nil]; exact e1, e2, e3⟩
        rcases List.mem_append.1 hz with hz | hz
        · exact hold z (List.mem_append_left _ hz)
        · rcases List.mem_cons.1 hz with rfl | hz
          · have e1 := (h2 (k, l) (by simp)).1
            simp only at e1
            exact ⟨by simp only; rw [selK_snoc, if_pos rfl, ← e1], by simp, hk⟩
          · exact hold z (List.mem_append_right _ hz)
      · simp only [List.map_append, List.map_cons, List.mem_append, List.mem_cons, not_or] at hn
        rw [selK_snoc, if_neg (fun e => hn.2.1 e.symm), h3 j hj (by simp only [List.map_append, List.map_cons, List.mem_append, List.mem_cons, not_or]; exact hn)]
        rfl
      · rw [hf, ← h4]
        simp only [List.map_append, List.map_cons, List.sum_append, List.sum_cons, List.length_append, List.length_cons, List.length_nil]
        omega
  · rw [if_neg hk]
    refine ⟨h1, fun z hz => ?_, fun j hj hn => ?_, ?_⟩
    · obtain ⟨e1, e2, e3⟩ := h2 z hz
      exact ⟨by rw [selK_snoc, if_neg (fun (e : k = z.1) => hk (e ▸ e3)), List.append_nil]; exact e1, e2, e3⟩
    · rw [selK_snoc, if_neg (fun (e : k = j) => hk (e ▸ hj)), h3 j hj hn]; rfl
    · rw [h4, List.filter_append]; simp [hk]
theorem cutD_I (L : List (Int × PtD)) : CutI L (cutD L) := by
  have : ∀ (M : List (Int × PtD)) (L : List (Int × PtD)) (T : List (Int × List PtD)), CutI L T → CutI (L ++ M) (M.foldl (fun T x => if x.1 > 0 then dput T x.1 x.2 else T) T) := by
    intro M
    induction M with
    | nil => intro L T h; simpa using h
    | cons a M ih =>
      intro L T h
      have := ih _ _ (h.snoc a)
      rwa [List.append_assoc] at this
  have := this L [] [] ⟨List.nodup_nil, fun z hz => (by cases hz), fun _ _ _ => rfl, rfl⟩
  simpa [cutD] using this
theorem selK_sub (k : Int) (L : List (Int × PtD)) : (selK k L).Sublist (L.map (·.2)) := (List.filter_sublist).map _
theorem perm_sum {α : Type} {l m : List α} (f : α → Nat) (h : l.Perm m) : (l.map f).sum = (m.map f).sum := by
  induction h with
  | nil => rfl
  | cons x _ ih => simp only [List.map_cons, List.sum_cons, ih]
  | swap x y l => simp only [List.map_cons, List.sum_cons]; omega
  | trans _ _ h1 h2 => rw [h1, h2]
theorem zip_map_d (ws : List Int) (ps : List Pt) (h : ws.length = ps.length) : ((ws.zip ps).map fun z => (z.1, z.2.d)).map (·.2) = ps.map Pt.d := by
  rw [List.map_map]
  induction ws generalizing ps with
  | nil => cases ps with
    | nil => rfl
    | cons => simp at h
  | cons w ws ih => cases ps with
    | nil => simp at h
    | cons p ps => simp only [List.zip_cons_cons, List.map_cons, Function.comp_def]; congr 1; exact ih ps (by simpa using h)
theorem zip_filter (ws : List Int) (ps : List Pt) (h : ws.length = ps.length) : (((ws.zip ps).map fun z => (z.1, z.2.d)).filter fun x => decide (x.1 > 0)).length = (ws.filter fun w => decide (w > 0)).length := by
  induction ws generalizing ps with
  | nil => cases ps with
    | nil => rfl
    | cons => simp at h
  | cons w ws ih => cases ps with
    | nil => simp at h
    | cons p ps =>
      have := ih ps (by simpa using h)
      simp only [List.zip_cons_cons, List.map_cons, List.filter_cons]
      split <;> simp_all
theorem nd_find {T : List Pr} (h : (T.map Pr.k).Nodup) {z : Pr} (hz : z ∈ T) : fndP T z.k = some z := by
  induction T with
  | nil => cases hz
  | cons y T ih =>
    simp only [List.map_cons, List.nodup_cons] at h
    simp only [fndP]
    rcases List.mem_cons.1 hz with rfl | hz
    · rw [if_pos rfl]
    · rw [if_neg (fun (e : z.k = y.k) => h.1 (e ▸ List.mem_map.2 ⟨z, hz, rfl⟩)), ih h.2 hz]
/-- Of the parts: each is the puts of its owner, in order. -/
theorem parts_plain {C : Chunk} {ns : List Int} {T : List Pr} {ws : List Int} {puts : List Pt} (key : ByteArray) (hp : PtsAt C ns T) (hD : T.map Pr.d = cutL ws puts) (hl : ws.length = puts.length) :
    (∀ k ∈ ns, (btOf key T k).puts.map Pt.d = selK k ((ws.zip puts).map fun z => (z.1, z.2.d)) ∧ (btOf key T k).puts ≠ [] ∧ (btOf key T k).key = key ∧ k > 0) ∧ (ns.map fun k => (btOf key T k).puts.length).sum = (ws.filter fun w => decide (w > 0)).length := by
  have hI := cutD_I ((ws.zip puts).map fun z => (z.1, z.2.d))
  have hD' : cutD ((ws.zip puts).map fun z => (z.1, z.2.d)) = T.map Pr.d := hD.symm
  rw [hD'] at hI
  have hk : (T.map Pr.d).map (·.1) = T.map Pr.k := by rw [List.map_map]; rfl
  have hnd : (T.map Pr.k).Nodup := by rw [← hk]; exact hI.nd
  constructor
  · intro k hkn
    obtain ⟨_, z, hz, e⟩ := hp.bt key hkn
    have hzm : z ∈ T := by
      obtain ⟨_, A, B, h, _⟩ := fndP_some hz
      rw [h]; simp
    have hzk := (fndP_some hz).1
    obtain ⟨h1, h2, h3⟩ := hI.sel z.d (List.mem_map.2 ⟨z, hzm, rfl⟩)
    rw [e]
    simp only [Pr.d] at h1 h2 h3
    rw [hzk] at h1 h3
    exact ⟨h1, fun e => h2 (by rw [show z.puts = [] from e]; rfl), rfl, h3⟩
  · rw [perm_sum _ hp.perm, List.map_map]
    have h1 : T.map ((fun k => (btOf key T k).puts.length) ∘ Pr.k) = (T.map Pr.d).map (·.2.length) := by
      rw [List.map_map]
      refine List.map_congr_left fun z hz => ?_
      simp [Function.comp_def, btOf, nd_find hnd hz, Pr.d]
    rw [h1, hI.sum, zip_filter _ _ hl]
/-- Either all have an owner, or none. -/
theorem chain_o : ∀ (l : List Rg) (n m : Int), chain l n = some m → ∀ r ∈ l, r.o ≥ 1
  | [], _, _, _, r, hr => by cases hr
  | a :: l, n, m, h, r, hr => by
    simp only [chain] at h
    split at h
    · rename_i hg
      rcases List.mem_cons.1 hr with rfl | hr
      · simp only [Rg.goes, Rg.ok, Bool.and_eq_true, decide_eq_true_eq] at hg
        exact hg.2.2.2.1
      · exact chain_o l _ _ h r hr
    · cases h
theorem chain_cov : ∀ (l : List Rg) (n m h : Int), chain l n = some m → n ≤ h → h < m → upTo (·.hasN h) l < l.length
  | [], n, m, h, e, h1, h2 => by simp only [chain, Option.some.injEq] at e; omega
  | a :: l, n, m, h, e, h1, h2 => by
    simp only [chain] at e
    split at e
    · rename_i hg
      simp only [Rg.goes, Bool.and_eq_true, decide_eq_true_eq] at hg
      simp only [upTo, List.length_cons]
      split
      · omega
      · rename_i hn
        simp only [Rg.hasN, Bool.and_eq_true, decide_eq_true_eq, not_and, Int.not_le] at hn
        have := chain_cov l _ m h e (by have := hn (by omega); omega) h2
        omega
    · cases e
theorem whose_all (l : List Rg) : (∀ s, whose l s > 0) ∨ (∀ s, whose l s = 0) := by
  by_cases hs : soundR l = true
  · left
    intro s
    have hlt := hashN_lt s
    have hs2 := hs
    simp only [soundR, Bool.and_eq_true, decide_eq_true_eq] at hs2
    have hc := chain_cov l 0 _ (hashN s) hs2.1 (by omega) (by omega)
    unfold whose fndR
    rw [if_pos hs, List.getElem?_eq_getElem hc]
    have := chain_o l _ _ hs2.1 _ (List.getElem_mem hc)
    simp only [Option.getD_some]
    omega
  · right
    intro s
    unfold whose fndR
    rw [if_neg hs]
    rfl
theorem owners_all (l : List Rg) (ps : List Pt) : ((ownersL l ps).filter fun w => decide (w > 0)).length = ps.length ∨ ((ownersL l ps).filter fun w => decide (w > 0)).length = 0 := by
  rcases whose_all l with h | h
  · left
    rw [List.filter_eq_self.2 (fun w hw => by
      obtain ⟨x, _, rfl⟩ := List.mem_map.1 hw
      exact decide_eq_true (h _)), ownersL, List.length_map]
  · right
    rw [List.filter_eq_nil_iff.2 (fun w hw => by
      obtain ⟨x, _, rfl⟩ := List.mem_map.1 hw
      rw [h]; decide), List.length_nil]
/-- A step of looking for what comes next. -/
theorem sub_skip {s : ByteArray} {rest M : List ByteArray} {at_ : Nat} (h : (s :: rest).Sublist (M.drop at_)) (hl : at_ < M.length) (hne : M[at_] ≠ s) : (s :: rest).Sublist (M.drop (at_ + 1)) := by
  rw [List.drop_eq_getElem_cons hl] at h
  cases h with
  | cons _ h => exact h
  | cons_cons _ h => exact absurd rfl hne
theorem sub_take {s : ByteArray} {rest M : List ByteArray} {at_ : Nat} (h : (s :: rest).Sublist (M.drop at_)) (hl : at_ < M.length) (he : M[at_] = s) : rest.Sublist (M.drop (at_ + 1)) := by
  rw [List.drop_eq_getElem_cons hl, he] at h
  exact List.cons_sublist_cons.1 h
end Go.Proofs.Ytfachckbjmofgaa
