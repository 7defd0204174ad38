/- Part 14: stores into slices of one's own; what stands, and only grows. -/
import Derived.Test.YtpilcncdgjnbeaaDoorSlm
set_option linter.unusedSimpArgs false
set_option linter.unusedVariables false
namespace Go.Sl
variable {P : Program} {Γ : Ctx} {L R : List Chunk} {N : Nat} {fr : Fr}
variable {d : Nat} {ty : TypeId} {pos : String} {aft : Array Edge} {gd : Option (Nat × Bool)} {x y : Operand} {v : Value} {t : TypeId}
theorem Holds.ownRow {w : World} {b len cap n : Nat} {xs : List Value} {e : TypeId} (hh : Holds Γ L w) (s : Sel L (.own (some ⟨b, 0, none⟩) len cap n xs e) R) (hp : 0 < xs.length) :
    ∃ junk, (xs.length = len * n ∧ xs.all (·.oneCell') = true) ∧ junk.length = (cap - len) * n ∧ len ≤ cap ∧ Holds Γ (.row b (xs ++ junk) e :: R) w := by
  have hs := hh.sel s
  obtain ⟨hp', hd, hsub, h1, h2, dj, s1, s2, hc, hr⟩ := hs.own
  obtain ⟨⟨hl, ho⟩, ⟨e1, _⟩ | ⟨b', junk, e1, e3, e4, e2⟩⟩ := hc
  · rw [hl, e1, Nat.zero_mul] at hp; omega
  · simp only [Option.some.injEq, Addr.mk.injEq, and_true] at e1
    subst e1
    exact ⟨junk, ⟨hl, ho⟩, e3, e4, hs.os, hs.tape, hs.output, hs.frz, hs.frame, hp', hd, hsub, h1, h2, dj, s1, s2, e2, hr⟩
theorem ss_storeOwn {b k len cap n : Nat} {xs : List Value} {e : TypeId} (T : TOne P t) (hx : ev fr x = some (.pointer (some ⟨b, k, none⟩))) (hy : ev fr y = some v) (h1 : v.oneCell' = true) (s : Sel L (.own (some ⟨b, 0, none⟩) len cap n xs e) R) (hk : k < xs.length) :
    SStep P Γ fr L ⟨none, .store t x y, ty, pos, aft, gd⟩ (.own (some ⟨b, 0, none⟩) len cap n (xs.set k v) e :: R) := fun a hf w hh => by
  obtain ⟨junk, ⟨hl, ho⟩, e3, e4, hrow⟩ := hh.ownRow s (by omega)
  haveI : TSize P t 1 := ⟨T.size⟩
  have hst := ss_storeE (P := P) (Γ := Γ) (fr := fr) (t := t) (ty := ty) (pos := pos) (aft := aft) (gd := gd) (n := 1) (vs := [v]) (ys := (xs ++ junk).take k ++ [v] ++ (xs ++ junk).drop (k + [v].length)) hx hy (.here (L := R)) (by cases v <;> simp_all [Value.cells, Value.oneCell']) rfl (by simp [h1]) (Nat.zero_le _) ⟨by simp only [List.length_append, List.length_cons, List.length_nil]; omega, rfl⟩ a hf w hrow
  refine hst.mono fun u w' h => h.mono fun _ ⟨k1, k2, dj', t1, t2, hc', hr'⟩ => ⟨k1, k2, dj', t1, t2, ⟨⟨by simpa using hl, ?_⟩, .inr ⟨b, junk, rfl, e3, e4, ?_⟩⟩, hr'⟩
  · rw [List.all_eq_true] at ho ⊢
    intro z hz
    rcases List.mem_or_eq_of_mem_set hz with h | h
    · exact ho z h
    · rw [h]; exact h1
  · have hc'' : k1 b = some (.cells ((xs ++ junk).take k ++ [v] ++ (xs ++ junk).drop (k + [v].length)).toArray e (0, 0)) := hc'
    rw [hc'']
    congr 2
    have : (xs ++ junk).take k ++ [v] ++ (xs ++ junk).drop (k + [v].length) = (xs ++ junk).set k v := by
      rw [List.set_eq_take_append_cons_drop, if_pos (by simp only [List.length_append]; omega)]
      simp
    rw [this, List.set_append_left _ _ hk]
/-! ### What stands -/
/-- All of H, and nothing else. -/
abbrev Pile (H : HP) : Chunk := .asn fun h => h = H
theorem SlAt.grow {H H' : HP} {n m : Nat} {p : Option Addr} {news : List Value} (h : SlAt (Pile H) n p m news) (s : HP.sub H H') : SlAt (Pile H') n p m news := by
  refine ⟨h.len, h.one, h.nil, fun j v hv => ?_⟩
  obtain ⟨b, o, e, r⟩ := h.reads j v hv
  refine ⟨b, o, e, fun hp hc => ?_⟩
  obtain ⟨xs, e, fz, h1, h2, h3⟩ := r H rfl
  have hc' : hp = H' := hc
  subst hc'
  exact ⟨xs, e, fz, s _ _ h1, h2, h3⟩
/-- A slice of one's own is laid to what stands. -/
theorem g_pile {φ : Act → World → Prop} {H : HP} {R1 : List Chunk} {p : Option Addr} {m c n : Nat} {xs : List Value} {e : TypeId} (s1 : Sel L (.own p m c n xs e) R1) (s2 : Sel R1 (Pile H) R)
    (g : ∀ H', HP.sub H H' → SlAt (Pile H') n p m xs → G Γ N fr (Pile H' :: R) φ) : G Γ N fr L φ := fun a w hN hd hf hh => by
  have hs := hh.take (Take.cons s1 (Take.cons s2 .nil))
  obtain ⟨hp, hdj, hsub, h1, r1, dj1, a1, a2, hc1, h2, r2, dj2, b1, b2, hc2, hr⟩ := hs.own
  have hH : h2 = H := hc2
  subst hH
  have hd12 : HP.disj h1 h2 := (HP.disj_sub dj1.symm b1).symm
  have hd1r : HP.disj h1 r2 := (HP.disj_sub dj1.symm b2).symm
  refine g (HP.union h1 h2) (HP.sub_union_right hd12) ?_ a w hN hd hf ⟨hs.os, hs.tape, hs.output, hs.frz, hs.frame, hp, hdj, hsub, HP.union h1 h2, r2, HP.disj_union hd1r dj2, HP.union_sub a1 (b1.trans a2), b2.trans a2, rfl, hr⟩
  obtain ⟨⟨hl, ho⟩, hcase⟩ := hc1
  refine ⟨hl, ho, ?_, fun j v hv => ?_⟩
  · rintro rfl
    rcases hcase with ⟨e1, _⟩ | ⟨b, junk, e1, _⟩
    · exact e1
    · cases e1
  · rcases hcase with ⟨e1, _⟩ | ⟨b, junk, e1, e3, e4, e2⟩
    · have : xs = [] := List.eq_nil_of_length_eq_zero (by rw [hl, e1, Nat.zero_mul])
      subst this
      simp at hv
    · subst e1
      refine ⟨b, 0, rfl, fun hp' hc' => ?_⟩
      have hc'' : hp' = HP.union h1 h2 := hc'
      subst hc''
      refine ⟨_, _, _, HP.sub_union_left _ _ _ _ e2, rfl, ?_⟩
      have hj := (List.getElem?_eq_some_iff.1 hv).1
      simp only [List.getElem?_toArray, Nat.zero_add]
      rw [List.getElem?_append_left hj]
      exact hv
end Go.Sl
