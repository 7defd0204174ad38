/- The plain law: what the client's map of asks and the document's polls have in common. -/
import Derived.Test.YtkejdilmdpgbpaaPlaJ
set_option linter.unusedSimpArgs false
set_option linter.unusedVariables false
namespace Go.Sl
theorem mget_mputI {M : List (Int × Value)} {k y : Int} {v : Value} : mget (mput M k v) y = if y = k then some v else mget M y := by
  induction M with
  | nil => simp [mput, mget]
  | cons a M ih =>
    obtain ⟨a, u⟩ := a
    simp only [mput]
    by_cases h : k = a
    · rw [if_pos h]
      subst h
      simp only [mget]
      by_cases h2 : y = k <;> simp [h2]
    · rw [if_neg h]
      simp only [mget, ih]
      by_cases h2 : y = a
      · subst h2
        simp [Ne.symm h]
      · simp [h2]
theorem mget_keys {M : List (Int × Value)} {k : Int} (h : k ∉ M.map Prod.fst) : mget M k = none := by
  induction M with
  | nil => rfl
  | cons a M ih =>
    obtain ⟨a, u⟩ := a
    simp only [List.map_cons, List.mem_cons, not_or] at h
    rw [mget, if_neg h.1]
    exact ih h.2
theorem mget_mdelI {M : List (Int × Value)} {k y : Int} (hn : (M.map Prod.fst).Nodup) : mget (mdel M k) y = if y = k then none else mget M y := by
  induction M with
  | nil => simp [mget, mdel]
  | cons a M ih =>
    obtain ⟨a, u⟩ := a
    rw [List.map_cons, List.nodup_cons] at hn
    simp only [mdel]
    by_cases h : k = a
    · rw [if_pos h]
      subst h
      by_cases h2 : y = k
      · subst h2; rw [if_pos rfl]; exact mget_keys hn.1
      · rw [if_neg h2, mget, if_neg h2]
    · rw [if_neg h]
      simp only [mget, ih hn.2]
      by_cases h2 : y = a
      · subst h2; simp [Ne.symm h]
      · simp [h2]
theorem mput_mem {M : List (Int × Value)} {k y : Int} {v : Value} (h : y ∈ (mput M k v).map Prod.fst) : y = k ∨ y ∈ M.map Prod.fst := by
  induction M with
  | nil => simp [mput] at h; exact .inl h
  | cons a M ih =>
    obtain ⟨a, u⟩ := a
    simp only [mput] at h
    split at h
    · rename_i e
      subst e
      rw [List.map_cons, List.mem_cons] at h ⊢
      rcases h with h | h
      · exact .inl h
      · exact .inr (.inr h)
    · rw [List.map_cons, List.mem_cons] at h
      rcases h with h | h
      · exact .inr (by rw [List.map_cons, List.mem_cons]; exact .inl h)
      · rcases ih h with h | h
        · exact .inl h
        · exact .inr (by rw [List.map_cons, List.mem_cons]; exact .inr h)
theorem mput_nodup {M : List (Int × Value)} {k : Int} {v : Value} (hn : (M.map Prod.fst).Nodup) : ((mput M k v).map Prod.fst).Nodup := by
  induction M with
  | nil => simp [mput]
  | cons a M ih =>
    obtain ⟨a, u⟩ := a
    rw [List.map_cons, List.nodup_cons] at hn
    simp only [mput]
    split
    · rw [List.map_cons, List.nodup_cons]; exact hn
    · rename_i e
      rw [List.map_cons, List.nodup_cons]
      refine ⟨fun h => ?_, ih hn.2⟩
      rcases mput_mem h with h | h
      · exact e h.symm
      · exact hn.1 h
theorem mdel_mem {M : List (Int × Value)} {k y : Int} (h : y ∈ (mdel M k).map Prod.fst) : y ∈ M.map Prod.fst := by
  induction M with
  | nil => simp [mdel] at h
  | cons a M ih =>
    obtain ⟨a, u⟩ := a
    simp only [mdel] at h
    rw [List.map_cons, List.mem_cons]
    split at h
    · exact .inr h
    · rw [List.map_cons, List.mem_cons] at h
      exact h.imp id ih
theorem mdel_nodup {M : List (Int × Value)} {k : Int} (hn : (M.map Prod.fst).Nodup) : ((mdel M k).map Prod.fst).Nodup := by
  induction M with
  | nil => simp [mdel]
  | cons a M ih =>
    obtain ⟨a, u⟩ := a
    rw [List.map_cons, List.nodup_cons] at hn
    simp only [mdel]
    split
    · exact hn.2
    · rw [List.map_cons, List.nodup_cons]
      exact ⟨fun h => hn.1 (mdel_mem h), ih hn.2⟩
end Go.Sl
namespace Go.Proofs.Ytkejdilmdpgbpaa
open Go.Sl facts
theorem sameC_eq {a b : Cur} (h : sameC a b = true) : a = b := by
  obtain ⟨⟨a1, a2, a3⟩, a4, a5⟩ := a
  obtain ⟨⟨b1, b2, b3⟩, b4, b5⟩ := b
  simp [sameC] at h
  obtain ⟨⟨rfl, rfl, rfl⟩, rfl, rfl⟩ := h
  rfl
/-- Of the polls just those of this number take the reply, as the ask says. -/
def Mt (ps : List Po) (num : Int) (pb : Bool) (c0 : Cur) : Prop := ∀ (v : RepV) (evs : List Ev) (st : Cur × List Ev), ps.foldl (plyF num v evs) st = if (pb && (sameC c0 st.1 && decide (v.code = 0))) = true then (v.cur, st.2 ++ evs) else st
structure Inv (s : Cl) (mp : Option Nat) (M : List (Int × Value)) (ps : List Po) (ts : List Int) : Prop where
  m0 : mp = none → M = []
  yes : ∀ num, 1 ≤ num → num ≤ s.last → num ∉ ts → ∃ pb c0, mget M num = some (askV pb c0) ∧ Mt ps num pb c0
  no : ∀ num, (num < 1 ∨ s.last < num ∨ num ∈ ts) → mget M num = none
  pl : ∀ p ∈ ps, p.num ≤ s.last
  tl : ∀ t ∈ ts, t ≤ s.last
  nd : (M.map Prod.fst).Nodup
theorem Inv.zero (s : Cl) (h : s.last = 0) : Inv s none [] [] [] := ⟨fun _ => rfl, fun num h1 h2 => by omega, fun _ _ => rfl, fun p hp => (by cases hp), fun t ht => (by cases ht), List.nodup_nil⟩
theorem fold_out {num : Int} {v : RepV} {evs : List Ev} : ∀ {ps : List Po} {st : Cur × List Ev}, (∀ p ∈ ps, p.num ≠ num) → ps.foldl (plyF num v evs) st = st
  | [], _, _ => rfl
  | p :: ps, st, h => by
    rw [List.foldl_cons, plyF, decide_eq_false (h p (List.mem_cons_self ..)), Bool.false_and, if_neg (by decide)]
    exact fold_out fun q hq => h q (List.mem_cons_of_mem _ hq)
theorem Inv.ask {s : Cl} {mp : Option Nat} {M : List (Int × Value)} {ps : List Po} {ts : List Int} (h : Inv s mp M ps ts) (x : CallV) (q : Nat) (h0 : 0 ≤ s.last) :
    Inv { s with last := s.last + 1 } (some q) (mput M (s.last + 1) (askV (decide (x.kind = 3) && sameC (sent s x).cur s.cur) (sent s x).cur)) (ps ++ askP s x) ts := by
  obtain ⟨m0, yes, no, pl, tl, nd⟩ := h
  refine ⟨fun e => (by cases e), fun num h1 h2 h3 => ?_, fun num h1 => ?_, fun p hp => ?_, fun t ht => ?_, mput_nodup nd⟩
  · dsimp only at h2
    by_cases e : num = s.last + 1
    · subst e
      refine ⟨_, _, by rw [mget_mputI, if_pos rfl], fun v evs st => ?_⟩
      rw [List.foldl_append, fold_out (ps := ps) (st := st) (fun p hp => by have := pl p hp; omega), askP]
      by_cases hb : (decide (x.kind = 3) && sameC (sent s x).cur s.cur) = true
      · have hc : (sent s x).cur = s.cur := sameC_eq (by simp only [Bool.and_eq_true] at hb; exact hb.2)
        rw [if_pos hb, hb, hc]
        show plyF (s.last + 1) v evs st ⟨s.last + 1, s.cur⟩ = _
        rw [plyF, decide_eq_true rfl]
      · rw [if_neg hb, Bool.not_eq_true _ |>.mp hb]
        rfl
    · obtain ⟨pb, c0, g1, g2⟩ := yes num h1 (by omega) h3
      refine ⟨pb, c0, by rw [mget_mputI, if_neg e]; exact g1, fun v evs st => ?_⟩
      rw [List.foldl_append, g2 v evs st]
      refine fold_out fun p hp => ?_
      unfold askP at hp
      split at hp
      · rw [List.mem_singleton.1 hp]; exact fun e2 => e e2.symm
      · cases hp
  · dsimp only at h1
    have hne : num ≠ s.last + 1 := by
      intro e
      rcases h1 with h1 | h1 | h1
      · omega
      · omega
      · have := tl num h1; omega
    rw [mget_mputI, if_neg hne]
    exact no num (by rcases h1 with h1 | h1 | h1; exact .inl h1; exact .inr (.inl (by omega)); exact .inr (.inr h1))
  · rcases List.mem_append.1 hp with hp | hp
    · have := pl p hp; dsimp only; omega
    · unfold askP at hp
      split at hp
      · rw [List.mem_singleton.1 hp]; exact Int.le_refl _
      · cases hp
  · have := tl t ht; dsimp only; omega
theorem Inv.take {s s' : Cl} {mp : Option Nat} {M : List (Int × Value)} {ps : List Po} {ts : List Int} (h : Inv s mp M ps ts) (num : Int) (hl : s'.last = s.last) (h1 : num ≤ s.last) (hm : mp ≠ none) : Inv s' mp (mdel M num) ps (ts ++ [num]) := by
  obtain ⟨m0, yes, no, pl, tl, nd⟩ := h
  refine ⟨fun e => absurd e hm, fun k k1 k2 k3 => ?_, fun k k1 => ?_, fun p hp => by rw [hl]; exact pl p hp, fun t ht => ?_, mdel_nodup nd⟩
  · have hk : k ∉ ts ∧ k ≠ num := by simpa [not_or] using k3
    obtain ⟨pb, c0, g1, g2⟩ := yes k k1 (by omega) hk.1
    exact ⟨pb, c0, by rw [mget_mdelI nd, if_neg hk.2]; exact g1, g2⟩
  · rw [mget_mdelI nd]
    split
    · rfl
    · rename_i hne
      refine no k ?_
      rcases k1 with k1 | k1 | k1
      · exact .inl k1
      · exact .inr (.inl (by omega))
      · rcases List.mem_append.1 k1 with k1 | k1
        · exact .inr (.inr k1)
        · exact absurd (List.mem_singleton.1 k1) hne
  · rcases List.mem_append.1 ht with ht | ht
    · have := tl t ht; omega
    · have := List.mem_singleton.1 ht; omega
theorem tok_eq (s : Cl) (v : RepV) : rtok s v = tokOf s v := by
  unfold rtok tokOf
  rw [maxS_eq]
  by_cases h1 : soundB v.st.w v.st.l v.st.n = true
  · by_cases h2 : ltS s.tok v.st
    · rw [if_pos ⟨h1, h2⟩, if_pos h1, if_pos h2]
    · rw [if_neg (fun h => h2 h.2), if_pos h1, if_neg h2]
  · rw [if_neg (fun h => h1 h.1), if_neg h1]
theorem fold_len {num : Int} {v : RepV} {evs : List Ev} (n : Nat) (he : evs.length ≤ n) : ∀ (ps : List Po) (st : Cur × List Ev), (ps.foldl (plyF num v evs) st).2.length ≤ st.2.length + ps.length * n
  | [], _ => by simp
  | p :: ps, st => by
    rw [List.foldl_cons]
    refine Nat.le_trans (fold_len n he ps _) ?_
    have : (plyF num v evs st p).2.length ≤ st.2.length + n := by
      unfold plyF
      split
      · simp only [List.length_append]; omega
      · omega
    rw [List.length_cons, Nat.succ_mul]
    omega
end Go.Proofs.Ytkejdilmdpgbpaa
