/- Part 23: one cell taken out of the middle: append of a row's end to its own beginning; clear of one cell. -/
import Derived.Test.YtpilcncdgjnbeaaDoorSlw
set_option linter.unusedSimpArgs false
set_option linter.unusedVariables false
namespace Go.Sl
variable {P : Program} {Γ : Ctx} {L R : List Chunk} {N : Nat} {fr : Fr} {Q : Exit → Act → World → Prop} {ops : Array Oper} {rest : List Oper}
variable {d : Nat} {ty : TypeId} {pos : String} {aft : Array Edge} {gd : Option (Nat × Bool)} {x y z : Operand} {v u : Value} {t t2 tx : TypeId}
theorem cs_appendSelf {e b i n cap c' : Nat} {xs : List Value} (D : TDesc P t (.slice e)) (D2 : TDesc P tx (.slice e)) (S : TSize P e 1) (hx : ev fr x = some (.slice (some ⟨b, 0, none⟩) i cap)) (hy : ev fr y = some (.slice (some ⟨b, i + 1, none⟩) (n - (i + 1)) c'))
    (s : Sel L (.own (some ⟨b, 0, none⟩) n cap 1 xs e) R) (hi : i < n) :
    CStep P Γ fr L ⟨some d, .call ⟨.builtin .append, [x, y].toArray, [t, tx].toArray⟩, ty, pos, aft, gd⟩ (X := Unit) (fun _ => .slice (some ⟨b, 0, none⟩) (n - 1) cap) (fun _ => .own (some ⟨b, 0, none⟩) n cap 1 (xs.take i ++ xs.drop (i + 1) ++ xs.drop (n - 1)) e :: R) (fun _ => True) :=
  cs_of (fun a w hf hh => by
    have hpl := own_place hh s
    have hxl : xs.length = n := by have := hpl.1; rwa [Nat.mul_one] at this
    have hcap := hpl.2.1
    have hall := own_one hh s
    have hone : ∀ v ∈ xs.drop (i + 1), v.oneCell' = true := fun v hv => (List.all_eq_true.1 hall) v (List.mem_of_mem_drop hv)
    have hdl : (xs.drop (i + 1)).length = n - (i + 1) := by simp [hxl]
    cases hie : P.info? e with
    | none => have := S.size; simp [hie] at this
    | some ie =>
      have hsz : ie.size = 1 := by have := S.size; simpa [hie] using this
      obtain ⟨h1, h2, h3⟩ := hh.setOwn (o := i) (cs := xs.drop (i + 1)) (zs := xs.take i ++ xs.drop (i + 1) ++ xs.drop (n - 1)) (len' := n) s (by omega) hcap (by simp [hxl]; omega) (by omega) hone (by
        rw [List.all_eq_true] at hall ⊢
        intro z hz
        rcases List.mem_append.1 hz with hz | hz
        · rcases List.mem_append.1 hz with hz | hz
          · exact hall z (List.mem_of_mem_take hz)
          · exact hall z (List.mem_of_mem_drop hz)
        · exact hall z (List.mem_of_mem_drop hz)) (fun j v hv => by
          have htl : (xs.take i).length = i := by simp; omega
          split
          · rename_i hc
            rw [List.getElem?_append_left (by simp [hxl]; omega), List.getElem?_append_right (by omega), htl] at hv
            exact hv
          · rename_i hc
            by_cases hji : j < i
            · rw [List.append_assoc, List.getElem?_append_left (by omega), List.getElem?_take, if_pos hji] at hv
              exact hv
            · rw [List.getElem?_append_right (by simp [hxl]; omega), List.getElem?_drop] at hv
              rw [← hv]
              congr 1
              have : j < n := by
                have := (List.getElem?_eq_some_iff.1 hv).1
                simp [hxl] at this
                omega
              simp [hxl]
              omega)
      have hsrc := srcReads (P := P) (tx := tx) (Γ := Γ) (L := L) (m := n - (i + 1)) (c := c') (n := 1) (news := xs.drop (i + 1)) D2 s (by omega) (List.all_eq_true.2 hone) (b := b) (o := i + 1) (fun j v hv => by
        rw [List.getElem?_drop] at hv
        exact reads_own hv) w hh
      have hsrc2 : Src P ie.size tx (.slice (some ⟨b, i + 1, none⟩) (n - (i + 1)) c') (n - (i + 1)) (xs.drop (i + 1)) w := by rw [hsz]; exact hsrc
      have hg := run_append_room_src (P := P) w t tx ty e ie D.desc hie b 0 i cap _ (n - (i + 1)) (xs.drop (i + 1)) hsrc2 (by omega) (fun j hj => by rw [Nat.zero_add, hsz, Nat.mul_one]; exact h2 j hj) (fun j hj => by rw [Nat.zero_add, hsz, Nat.mul_one]; exact h3 j hj)
      rw [Nat.zero_add, hsz, Nat.mul_one, show i + (n - (i + 1)) = n - 1 by omega] at hg
      refine ⟨(), _, trivial, ?_, h1⟩
      simp [execOp, resolve, hf.ev hx, hf.ev hy, invoke, builtin_append', hg])
theorem ss_clearAt {e : TypeId} {b n cap o c' : Nat} {xs : List Value} {zv : Value} (D : TDesc P t (.slice e)) (Z : TZero P e zv) (hz : zv.cells = #[zv]) (h1 : zv.oneCell' = true) (hx : ev fr x = some (.slice (some ⟨b, o, none⟩) 1 c')) (ho : o < n) (s : Sel L (.own (some ⟨b, 0, none⟩) n cap 1 xs e) R) :
    SStep P Γ fr L ⟨none, .call ⟨.builtin .clear, [x].toArray, [t].toArray⟩, ty, pos, aft, gd⟩ (.own (some ⟨b, 0, none⟩) n cap 1 (xs.set o zv) e :: R) := fun a hf w hh => by
  have hpl := own_place hh s
  have hxl : xs.length = n := by have := hpl.1; rwa [Nat.mul_one] at this
  have hall := own_one hh s
  obtain ⟨g1, g2, g3⟩ := hh.setOwn (o := o) (cs := [zv]) (zs := xs.set o zv) (len' := n) s (by omega) hpl.2.1 (by simp [hxl]) (by simp; omega) (fun v hv => by rw [List.mem_singleton.1 hv]; exact h1) (by
    rw [List.all_eq_true] at hall ⊢
    intro z hz'
    rcases List.mem_or_eq_of_mem_set hz' with h | h
    · exact hall z h
    · rw [h]; exact h1) (fun j v hv => by
      rw [List.getElem?_set] at hv
      split
      · rename_i hc
        have hj : j = o := by simp at hc; omega
        subst hj
        rw [if_pos rfl, if_pos (by omega)] at hv
        simpa using hv
      · rename_i hc
        rw [if_neg (by intro e; subst e; exact hc ⟨Nat.le_refl _, by simp⟩)] at hv
        exact hv)
  have hcl := Lib.run_clear_slice w t e ty zv D.desc (fun w => run_zeroValue' Z.zero w) hz h1 b o 1 c' (by decide) (fun j hj => g2 j (by simpa using hj)) (fun j hj => g3 j (by simpa using hj))
  have hr : (execOp a.eval ⟨none, .call ⟨.builtin .clear, [x].toArray, [t].toArray⟩, ty, pos, aft, gd⟩).run P w = .ok (.value (.tuple #[])) (w.setCells b o [zv]) := by
    have hb' : ∀ {ats : Array TypeId} {cs : Array Bool} {args : Array Value}, builtin .clear ats ty cs args = (do pure (.value (← Builtin.clear_ ats ty args))) := rfl
    simp only [execOp, resolve, hf.ev hx, List.map_toArray, List.map_cons, List.map_nil, Sem.run_bind, Sem.run_pure, Result.andThen_ok, invoke, hb', hcl]
    rfl
  unfold opRes
  rw [hr]
  exact g1
end Go.Sl
