/- Plain: answers. -/
import Derived.Test.YtfachckbjmofgaaCrdQ
set_option linter.unusedSimpArgs false
set_option linter.unusedVariables false
namespace Go.Proofs.Ytfachckbjmofgaa
open Go.Sl
theorem ns_eq {C C' : Chunk} {ns ns' : List Int} {T T' : List Pr} (h : PtsAt C ns T) (h' : PtsAt C' ns' T') (he : T.map Pr.d = T'.map Pr.d) : ns = ns' := by
  have hk : T.map Pr.k = T'.map Pr.k := by
    have := congrArg (List.map (·.1)) he
    rw [List.map_map, List.map_map] at this
    exact this
  have hp : ns.Perm ns' := h.perm.trans (hk ▸ h'.perm.symm)
  exact List.Perm.eq_of_pairwise (le := fun a b => a < b) (fun a b _ _ h h' => by omega) h.inc h'.inc hp
theorem btOf_d {T T' : List Pr} (key : ByteArray) (he : T.map Pr.d = T'.map Pr.d) (k : Int) : (btOf key T k).puts.map Pt.d = (btOf key T' k).puts.map Pt.d ∧ (btOf key T k).key = (btOf key T' k).key := by
  induction T generalizing T' with
  | nil =>
    cases T' with
    | nil => exact ⟨rfl, rfl⟩
    | cons a T' => simp at he
  | cons z T ih =>
    cases T' with
    | nil => simp at he
    | cons z' T' =>
      simp only [List.map_cons, List.cons.injEq, Pr.d, Prod.mk.injEq] at he
      obtain ⟨⟨h1, h2⟩, h3⟩ := he
      have h4 := ih h3
      unfold btOf at h4 ⊢
      simp only [fndP, h1]
      by_cases e : k = z'.k
      · rw [if_pos e, if_pos e]
        exact ⟨h2, rfl⟩
      · rw [if_neg e, if_neg e]
        exact h4
abbrev kd (M : List (Int × An)) : List (Int × AnD) := M.map fun x => (x.1, x.2.d)
theorem kd_keys (M : List (Int × An)) : (kd M).map (·.1) = M.map (·.1) := by rw [List.map_map]; rfl
theorem aget_isSome {M : List (Int × An)} {k : Int} : (aget M k).isSome = decide (k ∈ M.map (·.1)) := by
  rw [Bool.eq_iff_iff]
  simp only [Option.isSome_iff_ne_none, ne_eq, aget_none, decide_eq_true_eq, Decidable.not_not]
theorem kd_some {M M' : List (Int × An)} {w : Int} {d : AnD} {b : Bool} (h : kd M' = kd M ++ if b then [(w, d)] else []) (k : Int) : (aget M' k).isSome = ((aget M k).isSome || (b && decide (k = w))) := by
  rw [aget_isSome, aget_isSome, ← kd_keys M', h, List.map_append, kd_keys, Bool.eq_iff_iff]
  cases b <;> simp
theorem kd_code {M M' : List (Int × An)} {w : Int} {d : AnD} {b : Bool} (h : kd M' = kd M ++ if b then [(w, d)] else []) (hc : ∀ x ∈ M, x.2.code = 0) (hd : d.code = 0) : ∀ x ∈ M', x.2.code = 0 := fun x hx => by
  have h1 : (x.1, x.2.d) ∈ kd M' := List.mem_map.2 ⟨x, hx, rfl⟩
  rw [h] at h1
  rcases List.mem_append.1 h1 with h1 | h1
  · obtain ⟨y, hy, e⟩ := List.mem_map.1 h1
    simp only [Prod.mk.injEq] at e
    have h2 := hc y hy
    have h3 : y.2.d.code = x.2.d.code := by rw [e.2]
    exact h3.symm.trans h2
  · cases b with
    | false => simp at h1
    | true =>
      simp only [if_true, List.mem_singleton, Prod.mk.injEq] at h1
      have h3 : x.2.d.code = d.code := by rw [h1.2]
      exact h3.trans hd
theorem aget_mem {M : List (Int × An)} {k : Int} {a : An} (h : aget M k = some a) : (k, a) ∈ M := by
  induction M with
  | nil => cases h
  | cons x M ih =>
    obtain ⟨b, x⟩ := x
    simp only [aget] at h
    split at h
    · rename_i e; cases h; subst e; simp
    · exact List.mem_cons_of_mem _ (ih h)
theorem wrongL_none {M : List (Int × An)} (h : ∀ x ∈ M, x.2.code = 0) (ns : List Int) : wrongL M ns = none := by
  induction ns with
  | nil => rfl
  | cons k ns ih =>
    have : badOf M k = none := by
      unfold badOf
      cases e : aget M k with
      | none => rfl
      | some a =>
        have := h _ (aget_mem e)
        simp only at this
        simp [this, goodB]
    simp only [wrongL, this, ih]
theorem full_iff {M : List (Int × An)} {ns : List Int} (hd : (M.map (·.1)).Nodup) (hs : ∀ x ∈ M, x.1 ∈ ns) (hn : ns.Nodup) : M.length = ns.length ↔ openL M ns = [] := by
  have hs' : ∀ k ∈ M.map (·.1), k ∈ ns := fun k hk => by
    obtain ⟨x, hx, rfl⟩ := List.mem_map.1 hk
    exact hs x hx
  have h1 := nodup_le hd hs'
  rw [List.length_map] at h1
  constructor
  · intro he
    unfold openL
    rw [List.filter_eq_nil_iff]
    intro k hk hno
    have hno' : k ∉ M.map (·.1) := by
      rw [Option.isNone_iff_eq_none, aget_none] at hno
      exact hno
    have h2 := nodup_le (m := ns.erase k) hd fun x hx => (List.mem_erase_of_ne (fun (e : x = k) => hno' (by rw [← e]; exact hx))).2 (hs' x hx)
    rw [List.length_map, List.length_erase_of_mem hk] at h2
    have := List.length_pos_of_mem hk
    omega
  · intro he
    unfold openL at he
    rw [List.filter_eq_nil_iff] at he
    have h2 := nodup_le (m := M.map (·.1)) hn fun k hk => by
      have := he k hk
      rw [Option.isNone_iff_eq_none, aget_none, Decidable.not_not] at this
      exact this
    rw [List.length_map] at h2
    omega
theorem openL_split {M : List (Int × An)} {ns : List Int} {j : Nat} (h : j < ns.length) (hn : (aget M ns[j]).isSome = false) : openL M ns = openL M (ns.take j) ++ ns[j] :: openL M (ns.drop (j + 1)) := by
  unfold openL
  conv => lhs; rw [← List.take_append_drop j ns, List.filter_append, List.drop_eq_getElem_cons h, List.filter_cons]
  have hn' : (aget M ns[j]).isNone = true := by
    cases e : aget M ns[j] with
    | none => rfl
    | some a => rw [e] at hn; cases hn
  rw [if_pos hn']
end Go.Proofs.Ytfachckbjmofgaa
