/- Part 25: calls through values of no chunks; bytes appended to bytes. -/
import Derived.Test.YtpilcncdgjnbeaaDoorSly
set_option linter.unusedSimpArgs false
set_option linter.unusedVariables false
namespace Go.Sl
variable {P : Program} {Γ : Ctx} {L R : List Chunk} {N : Nat} {fr : Fr} {Q : Exit → Act → World → Prop} {ops : Array Oper} {rest : List Oper}
variable {d : Nat} {ty : TypeId} {pos : String} {aft : Array Edge} {gd : Option (Nat × Bool)} {x y z : Operand} {v u : Value} {t t2 tx : TypeId}
/-- A call through a value, of no chunks. -/
theorem qs_callV {f : FuncId} {xs : List Operand} {vs caps args : List Value} {tys : Array TypeId} {dst : Option Tmp} [C : Callable P f]
    (fn : Does1 P f args [] v) (hy : ev fr y = some (.func (.func f) #[] caps.toArray)) (he : Evs fr xs vs) (ha : vs ++ caps = args) : QStep P Γ fr ⟨dst, .call ⟨.value y, xs.toArray, tys⟩, ty, pos, aft, gd⟩ v := fun a hf L w hh =>
  (cs_callV fn hy he ha (Take.nil (L := L)) a hf w hh).mono fun u w' ⟨_, _, e, h⟩ => ⟨e, h⟩
theorem g_ownNone {Γ : Ctx} {N : Nat} {fr : Fr} {L R : List Chunk} {φ : Act → World → Prop} {len cap n : Nat} {xs : List Value} {e : TypeId} (s : Sel L (.own none len cap n xs e) R) (g : len = 0 → cap = 0 → xs = [] → G Γ N fr L φ) : G Γ N fr L φ := fun a w hN hd hf hh => by
  obtain ⟨h, _, s', al⟩ := (hh.sel s).own
  obtain ⟨h1, _, _, s1, _, hc, _⟩ := al
  obtain ⟨⟨hl, _⟩, ⟨h1, h2⟩ | ⟨b', junk, e1, _, e3, e2⟩⟩ := hc
  · exact g h1 h2 (List.eq_nil_of_length_eq_zero (by rw [hl, h1, Nat.zero_mul])) a w hN hd hf hh
  · cases e1
section
variable {e : TypeId} {cap k : Nat} {p : Option Addr} {zv : Value} {bs news : List UInt8} {i : Nat} {pl : Plan}
theorem s_appB (K : ∀ q c, G Γ N ((d, .slice q (bs ++ news).length c) :: fr) (.own q (bs ++ news).length c 1 (cells8 (bs ++ news)) e :: R) (wpList P ops Q rest)) (hg : Runs ops fr gd := by exact rfl) (hN : Nat.blt d N = true := by exact rfl)
    (D : TDesc P t (.slice e) := by exact inferInstance) (S : TSize P e 1 := by exact inferInstance) (Z : TZero P e zv := by exact inferInstance) (B : TBytes P e k := by exact inferInstance) (hx : ev fr x = some (.slice p bs.length cap) := by exact rfl) (hy : ev fr y = some u := by exact rfl)
    (s : Sel L (.own p bs.length cap 1 (cells8 bs) e) R := by (repeat (first | exact Sel.here | apply Sel.there)); first | done | fail) (src : SrcIs P Γ L 1 tx u news.length (cells8 news) := by first | (apply srcRow; exact inferInstance; exact (by (repeat (first | exact Sel.here | apply Sel.there)); first | done | fail); exact (by (repeat (first | exact Cut.zero | apply Cut.take | apply Cut.skip)); first | done | fail); exact rfl) | (apply srcOwn; exact inferInstance; exact (by (repeat (first | exact Sel.here | apply Sel.there)); first | done | fail)) | (apply srcNil; exact inferInstance) | (apply srcString; exact inferInstance) | exact hsrc | fail) (hzn : zv.cells.size = 1 := by exact rfl) (hb : (bs.length + news.length) * k ≤ 140737488355328 := by omega) (hb2 : bs.length + news.length ≤ 140737488355328 := by omega) :
    G Γ N fr L (wpList P ops Q (⟨some d, .call ⟨.builtin .append, [x, y].toArray, [t, tx].toArray⟩, ty, pos, aft, gd⟩ :: rest)) :=
  s_app (fun q c => by rw [cells8_append, ← List.length_append]; exact K q c) hg hN D S Z B hx hy s src hzn hb hb2
theorem p_appB (K : ∀ q c, GP P ops Q Γ N ((d, .slice q (bs ++ news).length c) :: fr) (.own q (bs ++ news).length c 1 (cells8 (bs ++ news)) e :: R) pl) (hi : ops[i]? = some ⟨some d, .call ⟨.builtin .append, [x, y].toArray, [t, tx].toArray⟩, ty, pos, aft, gd⟩ := by exact rfl) (hg : Runs ops fr gd := by exact rfl) (hN : Nat.blt d N = true := by exact rfl)
    (D : TDesc P t (.slice e) := by exact inferInstance) (S : TSize P e 1 := by exact inferInstance) (Z : TZero P e zv := by exact inferInstance) (B : TBytes P e k := by exact inferInstance) (hx : ev fr x = some (.slice p bs.length cap) := by exact rfl) (hy : ev fr y = some u := by exact rfl)
    (s : Sel L (.own p bs.length cap 1 (cells8 bs) e) R := by (repeat (first | exact Sel.here | apply Sel.there)); first | done | fail) (src : SrcIs P Γ L 1 tx u news.length (cells8 news) := by first | (apply srcRow; exact inferInstance; exact (by (repeat (first | exact Sel.here | apply Sel.there)); first | done | fail); exact (by (repeat (first | exact Cut.zero | apply Cut.take | apply Cut.skip)); first | done | fail); exact rfl) | (apply srcOwn; exact inferInstance; exact (by (repeat (first | exact Sel.here | apply Sel.there)); first | done | fail)) | (apply srcNil; exact inferInstance) | (apply srcString; exact inferInstance) | exact hsrc | fail) (hzn : zv.cells.size = 1 := by exact rfl) (hb : (bs.length + news.length) * k ≤ 140737488355328 := by omega) (hb2 : bs.length + news.length ≤ 140737488355328 := by omega) :
    GP P ops Q Γ N fr L (.one i pl) :=
  p_app (fun q c => by rw [cells8_append, ← List.length_append]; exact K q c) hi hg hN D S Z B hx hy s src hzn hb hb2
end
end Go.Sl
