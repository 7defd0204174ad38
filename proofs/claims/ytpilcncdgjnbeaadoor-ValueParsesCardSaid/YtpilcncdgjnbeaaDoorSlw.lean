/- Part 22: copies into one's own; append of new ones behind some. -/
import Derived.Test.YtpilcncdgjnbeaaDoorSlv
import Derived.Laws.IdiomCopy
set_option linter.unusedSimpArgs false
set_option linter.unusedVariables false
namespace Go.Sl
variable {P : Program} {Γ : Ctx} {L R : List Chunk} {N : Nat} {fr : Fr} {Q : Exit → Act → World → Prop} {ops : Array Oper} {rest : List Oper}
variable {d : Nat} {ty : TypeId} {pos : String} {aft : Array Edge} {gd : Option (Nat × Bool)} {x y z : Operand} {v u : Value} {t t2 tx : TypeId}
theorem part_get (Y cs : List Value) (o : Nat) (h : o + cs.length ≤ Y.length) (j : Nat) : (Y.take o ++ cs ++ Y.drop (o + cs.length))[j]? = if o ≤ j ∧ j < o + cs.length then cs[j - o]? else Y[j]? := by
  have ht : (Y.take o).length = o := by simp; omega
  by_cases h1 : j < o
  · rw [if_neg (by omega), List.append_assoc, List.getElem?_append_left (by omega), List.getElem?_take, if_pos h1]
  · by_cases h2 : j < o + cs.length
    · rw [if_pos ⟨by omega, h2⟩, List.append_assoc, List.getElem?_append_right (by omega), ht, List.getElem?_append_left (by omega)]
    · rw [if_neg (by omega), List.getElem?_append_right (by simp [ht]; omega), List.getElem?_drop]
      congr 1
      simp [ht]
      omega
theorem Holds.setOwn {w : World} {b len len' cap o : Nat} {xs cs zs : List Value} {e : TypeId} (hh : Holds Γ L w) (s : Sel L (.own (some ⟨b, 0, none⟩) len cap 1 xs e) R) (hp : 0 < len) (hl2 : len' ≤ cap) (hzl : zs.length = len') (ho : o + cs.length ≤ len')
    (hone : ∀ v ∈ cs, v.oneCell' = true) (hz1 : zs.all (·.oneCell') = true) (hzs : ∀ (j : Nat) (v : Value), zs[j]? = some v → if o ≤ j ∧ j < o + cs.length then cs[j - o]? = some v else xs[j]? = some v) :
    Holds Γ (.own (some ⟨b, 0, none⟩) len' cap 1 zs e :: R) (w.setCells b o cs) ∧ (∀ j, j < cs.length → (w.cell? ⟨b, o + j, none⟩).isSome = true) ∧ (∀ j, j < cs.length → w.frozen? ⟨b, o + j, none⟩ = false) := by
  have hpl := (own_place hh s).1
  rw [Nat.mul_one] at hpl
  obtain ⟨junk, ⟨_, hx1⟩, e3, e4, hrow⟩ := hh.ownRow s (by omega)
  rw [Nat.mul_one] at e3
  have hb := hrow.block .here
  have hYl : (xs ++ junk).length = cap := by rw [List.length_append]; omega
  rw [setCells_row (o := o) (vs := cs) hb (by omega) hone]
  have hset := hrow.setRow (ys := (xs ++ junk).take o ++ cs ++ (xs ++ junk).drop (o + cs.length)) .here
  have hYl2 : ((xs ++ junk).take o ++ cs ++ (xs ++ junk).drop (o + cs.length)).length = cap := by simp; omega
  have htk : ((xs ++ junk).take o ++ cs ++ (xs ++ junk).drop (o + cs.length)).take len' = zs := by
    apply List.ext_getElem?
    intro j
    rw [List.getElem?_take]
    by_cases hj : j < len'
    · rw [if_pos hj, part_get _ _ _ (by omega)]
      have hz : zs[j]? = some (zs[j]'(by omega)) := by simp [hzl, hj]
      have := hzs j _ hz
      rw [hz]
      split
      · rename_i hc
        rw [if_pos hc] at this
        exact this
      · rename_i hc
        rw [if_neg hc] at this
        have hjx := (List.getElem?_eq_some_iff.1 this).1
        rw [List.getElem?_append_left hjx]
        exact this
    · rw [if_neg hj]
      simp [hzl]
      omega
  refine ⟨hset.mono fun h ⟨k1, k2, dj', t1, t2, hc', hr'⟩ => ⟨k1, k2, dj', t1, t2, ⟨⟨by omega, hz1⟩, .inr ⟨b, ((xs ++ junk).take o ++ cs ++ (xs ++ junk).drop (o + cs.length)).drop len', rfl, by rw [List.length_drop, hYl2]; omega, hl2, ?_⟩⟩, hr'⟩, fun j hj => ?_, fun j hj => by simp [World.frozen?, hb]⟩
  · have hc'' : k1 b = some (.cells ((xs ++ junk).take o ++ cs ++ (xs ++ junk).drop (o + cs.length)).toArray e (0, 0)) := hc'
    have e0 := (List.take_append_drop len' ((xs ++ junk).take o ++ cs ++ (xs ++ junk).drop (o + cs.length))).symm
    rw [htk] at e0
    rw [hc'', ← e0]
  · have : o + j < (xs ++ junk).length := by omega
    simp only [World.cell?, hb, List.getElem?_toArray]
    simp [List.getElem?_eq_getElem this]
theorem cs_copyG {e b o dn dc len len' cap sn sc : Nat} {a : Addr} {xs cs zs : List Value} (D : TDesc P t (.slice e)) (S : TSize P e 1) (hx : ev fr x = some (.slice (some ⟨b, o, none⟩) dn dc)) (hy : ev fr y = some (.slice (some a) sn sc))
    (s : Sel L (.own (some ⟨b, 0, none⟩) len cap 1 xs e) R) (hp : 0 < len) (hlen : cs.length = Nat.min sn dn) (src : ∀ w, Holds Γ L w → ∀ (j : Nat) (v : Value), cs[j]? = some v → w.cell? (a.add j) = some v) (hl2 : len' ≤ cap) (hzl : zs.length = len') (ho : o + cs.length ≤ len')
    (hone : ∀ v ∈ cs, v.oneCell' = true) (hz1 : zs.all (·.oneCell') = true) (hzs : ∀ (j : Nat) (v : Value), zs[j]? = some v → if o ≤ j ∧ j < o + cs.length then cs[j - o]? = some v else xs[j]? = some v) :
    CStep P Γ fr L ⟨some d, .call ⟨.builtin .copy, [x, y].toArray, [t, t2].toArray⟩, ty, pos, aft, gd⟩ (X := Unit) (fun _ => .int .i64 cs.length) (fun _ => .own (some ⟨b, 0, none⟩) len' cap 1 zs e :: R) (fun _ => True) :=
  cs_of (fun a' w hf hh => by
    obtain ⟨h1, h2, h3⟩ := hh.setOwn s hp hl2 hzl ho hone hz1 hzs
    have hr := run_copy_cells (P := P) w t t2 ty e b o dn dc a sn sc cs D.desc S.size hlen (src w hh) h2 h3 hone
    have hb' : ∀ {ats : Array TypeId} {cs : Array Bool} {args : Array Value}, builtin .copy ats ty cs args = (do pure (.value (← Builtin.copy_ ats ty args))) := rfl
    exact ⟨(), _, trivial, by simp only [execOp, resolve, hf.ev hx, hf.ev hy, List.map_toArray, List.map_cons, List.map_nil, Sem.run_bind, Sem.run_pure, Result.andThen_ok, invoke, hb', hr]; rfl, h1⟩)
theorem cs_appendNG {e k b i n m cap : Nat} {zv : Value} {kn : IntKind} {xs : List Value} (D : TDesc P t (.slice e)) (E : TDesc P tx (.int kn)) (S : TSize P e 1) (Z : TZero P e zv) (B : TBytes P e k) (hx : ev fr x = some (.slice (some ⟨b, 0, none⟩) i cap)) (hy : ev fr y = some (.int .i64 (m : Int)))
    (s : Sel L (.own (some ⟨b, 0, none⟩) n cap 1 xs e) R) (hi : i ≤ n) (hgr : cap < i + m) (hzc : zv.cells = #[zv]) (hz1 : zv.oneCell' = true) (h0 : 0 < m) (h63 : i + m ≤ 1000000000) (h48 : (i + m) * k ≤ 140737488355328) :
    CStep P Γ fr L ⟨some d, .call ⟨.builtin .append, [x, y].toArray, [t, tx].toArray⟩, ty, pos, aft, gd⟩ (X := Nat × Nat) (fun q => .slice (some ⟨q.1, 0, none⟩) (i + m) q.2) (fun q => .own (some ⟨q.1, 0, none⟩) (i + m) q.2 1 (xs.take i ++ List.replicate m zv) e :: L) (fun _ => True) :=
  cs_of (fun a w hf hh => by
    have hpl := (own_place hh s).1
    rw [Nat.mul_one] at hpl
    have hall := own_one hh s
    cases hie : P.info? e with
    | none => have := S.size; simp [hie] at this
    | some ie =>
      have hsz : ie.size = 1 := by have := S.size; simpa [hie] using this
      have hz : ie.zero = some zv := by have := Z.zero; simpa [hie] using this
      have hk : ie.bytes = k := by have := B.bytes; simpa [hie] using this
      subst hk
      have hold : (Builtin.firstCells 1 i (.slice (some ⟨b, 0, none⟩) i cap)).run P w.drew = .ok (xs.take i).toArray w.drew :=
        run_firstCells_some w.drew 1 i ⟨b, 0, none⟩ i cap (xs.take i) (by simp; omega) (fun j v hv => by
          rw [Addr.add_lit, Nat.zero_add]
          have hv2 : xs[j]? = some v := by
            rw [List.getElem?_take] at hv
            split at hv
            · exact hv
            · cases hv
          exact (Holds.drew hh (w.drawn + 1)).cell s (reads_own hv2))
      have hw : IntKind.i64.wrap (m : Int) = m := by rw [IntKind.wrap_i64]; omega
      have hn1 : ¬ (i + m ≤ cap) := by omega
      have hn : m ≠ 0 := by omega
      have h63' : ¬ (9223372036854775807 < ((i : Int) + (m : Int))) := by omega
      have h48' : ¬ (281474976710656 < Builtin.nextslicecap (i + m) cap * ie.bytes) := by
        have : Builtin.nextslicecap (i + m) cap * ie.bytes ≤ 281474976710656 := growslice_fits (by omega) h48
        omega
      have hmk : m * ie.bytes ≤ (i + m) * ie.bytes := Nat.mul_le_mul_right _ (by omega)
      have h48i : ¬ (281474976710656 < (m : Int) * (ie.bytes : Int)) := by
        rw [← Int.natCast_mul]
        omega
      have hneg : ¬ ((m : Int) < 0) := by omega
      have hg : (Builtin.append_ #[t, tx] ty #[.slice (some ⟨b, 0, none⟩) i cap, .int .i64 m]).run P w = .ok (.slice (some ⟨w.heap.size, 0, none⟩) (i + m) (grownCap w (i + m) cap e)) (w.drew.alloc (.cells ((xs.take i).toArray ++ Builtin.zeroCells zv.cells m ++ Builtin.zeroCells zv.cells (grownCap w (i + m) cap e - (i + m))) e)) := by
        simp [Builtin.append_, run_underlying D.desc, run_underlying E.desc, sizeOf, typeInfo, zeroValue, hie, hz, hsz, asInt, asIntOf, hw, hn, hn1, hneg, h63', h48', h48i, Question.forced, hold, newRow, grownCap]
      have hop : ∀ {w' : World} {q : Value}, (Builtin.append_ #[t, tx] ty #[.slice (some ⟨b, 0, none⟩) i cap, .int .i64 m]).run P w = .ok q w' → (execOp a.eval ⟨some d, .call ⟨.builtin .append, [x, y].toArray, [t, tx].toArray⟩, ty, pos, aft, gd⟩).run P w = .ok (.value q) w' := by
        intro w' q hq
        simp [execOp, resolve, hf.ev hx, hf.ev hy, invoke, builtin_append', hq]
      have hge := grownCap_ge w (i + m) cap e
      have hzm : ∀ j, (Builtin.zeroCells zv.cells j).toList = List.replicate j zv := fun j => by
        rw [hzc]
        apply List.ext_getElem
        · simp [Builtin.zeroCells]
        · intro q h1 h2
          simp [Builtin.zeroCells, Nat.mod_one]
      refine ⟨(w.heap.size, grownCap w (i + m) cap e), _, trivial, hop hg, ?_⟩
      have hnew := (show Holds Γ L w.drew from Holds.drew hh _).newRow (e := e) (xs := (xs.take i).toArray ++ Builtin.zeroCells zv.cells m ++ Builtin.zeroCells zv.cells (grownCap w (i + m) cap e - (i + m)))
      refine hnew.mono fun h ⟨k1, k2, dj', t1, t2, hc', hr'⟩ => ⟨k1, k2, dj', t1, t2, ⟨⟨by simp; omega, ?_⟩, .inr ⟨_, (Builtin.zeroCells zv.cells (grownCap w (i + m) cap e - (i + m))).toList, rfl, by rw [hzm]; simp, hge, ?_⟩⟩, hr'⟩
      · rw [List.all_eq_true] at hall ⊢
        intro q hq
        rcases List.mem_append.1 hq with hq | hq
        · exact hall q (List.mem_of_mem_take hq)
        · rw [List.eq_of_mem_replicate hq]; exact hz1
      · have hc'' : k1 w.drew.heap.size = some (.cells ((xs.take i).toArray ++ Builtin.zeroCells zv.cells m ++ Builtin.zeroCells zv.cells (grownCap w (i + m) cap e - (i + m))) e (0, 0)) := hc'
        rw [show w.drew.heap.size = w.heap.size from rfl] at hc''
        rw [hc'']
        congr 2
        apply Array.ext'
        simp [hzm])
end Go.Sl
