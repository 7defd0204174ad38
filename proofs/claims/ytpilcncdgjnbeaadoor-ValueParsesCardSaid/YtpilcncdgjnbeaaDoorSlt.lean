/- Part 19: calls through values; marks on bytes; a row's room. -/
import Derived.Test.YtpilcncdgjnbeaaDoorSls
import Derived.Lib.ConvBytes
import Derived.Lib.AppendZeros
set_option linter.unusedSimpArgs false
set_option linter.unusedVariables false
namespace Go.Sl
variable {P : Program} {Γ : Ctx} {L R : List Chunk} {N : Nat} {fr : Fr} {Q : Exit → Act → World → Prop} {ops : Array Oper} {rest : List Oper}
variable {d : Nat} {ty : TypeId} {pos : String} {aft : Array Edge} {gd : Option (Nat × Bool)} {x y z : Operand} {v u : Value} {t t2 tx : TypeId}
/-! ### Calls through values -/
theorem run_callV {f : FuncId} {xs : List Operand} {vs caps : List Value} {tys : Array TypeId} {a : Act} {w : World} [C : Callable P f] (hy : ev fr y = some (.func (.func f) #[] caps.toArray)) (he : Evs fr xs vs) (hf : fr.ok a) (o : Oper) (ho : o.op = .call ⟨.value y, xs.toArray, tys⟩) :
    (execOp a.eval o).run P w = .ok (.enter f (vs ++ caps).toArray) w := by
  have := C.call (vs ++ caps).toArray w
  have e : (vs.toArray ++ caps.toArray) = (vs ++ caps).toArray := by simp
  simp [execOp, ho, resolve, Deferred.ofValue, invoke, hf.ev hy, he.map hf, e, this]
theorem cs_callV {X : Type} {f : FuncId} {xs : List Operand} {vs caps args : List Value} {tys : Array TypeId} {A : List Chunk} {ret : X → Value} {B : X → List Chunk} {φ : X → Prop} {dst : Option Tmp} [C : Callable P f]
    (fn : Does P f args A ret B φ) (hy : ev fr y = some (.func (.func f) #[] caps.toArray)) (he : Evs fr xs vs) (ha : vs ++ caps = args) (tk : Take L A R) : CStep P Γ fr L ⟨dst, .call ⟨.value y, xs.toArray, tys⟩, ty, pos, aft, gd⟩ ret (fun x => B x ++ R) φ := by
  intro a hf w hh
  subst ha
  unfold opRes
  rw [run_callV hy he hf _ rfl]
  obtain ⟨m, dm, hr, hA⟩ := (hh.take tk).split
  refine (fn _ w hA).mono ?_
  rintro e w' ⟨x, hx, rfl, hB⟩
  exact ⟨_, rfl, x, hx, rfl, hB.join dm hr⟩
theorem qs_makeFunc {f : FuncId} {xs : List Operand} {vs : List Value} (he : Evs fr xs vs) : QStep P Γ fr ⟨some d, .makeFunc (.func f) (List.toArray []) xs.toArray, ty, pos, aft, gd⟩ (.func (.func f) #[] vs.toArray) :=
  qs_of (fun c w hf => by simp [execOp, Instr.makeFunc, he.map hf])
/-! ### Room -/
theorem qs_cap {e : TypeId} {p : Option Addr} {n c : Nat} (S : TDesc P t (.slice e)) (hx : ev fr x = some (.slice p n c)) : QStep P Γ fr ⟨some d, .call ⟨.builtin .cap, [x].toArray, [t].toArray⟩, ty, pos, aft, gd⟩ (.int .i64 c) :=
  qs_of (fun a w hf => by simp [execOp, resolve, hf.ev hx, invoke, builtin, Builtin.cap_, run_underlying S.desc, goInt])
theorem own_less {p : Option Addr} {len cap n m : Nat} {xs : List Value} {e : TypeId} {h : HP} (hm : m ≤ len) (ho : ownS p len cap n xs e h) : ownS p m cap n (xs.take (m * n)) e h := by
  obtain ⟨⟨hl, h1⟩, hc⟩ := ho
  have hle : m * n ≤ len * n := Nat.mul_le_mul_right n hm
  refine ⟨⟨by rw [List.length_take, hl]; omega, ?_⟩, ?_⟩
  · rw [List.all_eq_true] at h1 ⊢
    exact fun z hz => h1 z (List.mem_of_mem_take hz)
  · rcases hc with ⟨e1, e2⟩ | ⟨b, junk, e1, e2, e3, e4⟩
    · exact .inl ⟨by omega, e2⟩
    · refine .inr ⟨b, xs.drop (m * n) ++ junk, e1, ?_, by omega, ?_⟩
      · rw [List.length_append, List.length_drop, hl, e2, ← Nat.sub_mul, ← Nat.add_mul]
        congr 1
        omega
      · rw [← List.append_assoc, List.take_append_drop]
        exact e4
theorem g_less {φ : Act → World → Prop} (m : Nat) {p : Option Addr} {len cap n : Nat} {xs : List Value} {e : TypeId} (s : Sel L (.own p len cap n xs e) R) (hm : m ≤ len)
    (g : G Γ N fr (.own p m cap n (xs.take (m * n)) e :: R) φ) : G Γ N fr L φ := fun a w hN hd hf hh =>
  g a w hN hd hf ((hh.sel s).mono fun _ ⟨h1, h2, dj, s1, s2, hc, hr⟩ => ⟨h1, h2, dj, s1, s2, own_less hm hc, hr⟩)
/-- append(nil, make(..n)...). -/
theorem cs_appendN {e n k m : Nat} {z : Value} {kn : IntKind} (D : TDesc P t (.slice e)) (E : TDesc P tx (.int kn)) (S : TSize P e n) (Z : TZero P e z) (B : TBytes P e k) (hx : ev fr x = some (.slice none 0 0)) (hy : ev fr y = some (.int .i64 (m : Int)))
    (hzn : z.cells.size = n) (hn : 0 < n) (hz1 : z.cells.toList.all (·.oneCell') = true) (h0 : 0 < m) (h63 : m ≤ 9223372036854775807) (h48 : m * k ≤ 281474976710656) :
    CStep P Γ fr L ⟨some d, .call ⟨.builtin .append, [x, y].toArray, [t, tx].toArray⟩, ty, pos, aft, gd⟩ (X := Option Addr × Nat) (fun q => .slice q.1 m q.2) (fun q => .own q.1 m q.2 n (Builtin.zeroCells z.cells m).toList e :: L) (fun _ => True) :=
  cs_of (fun a w hf hh => by
    cases hi : P.info? e with
    | none => have := S.size; simp [hi] at this
    | some i =>
      have hsz : i.size = n := by have := S.size; simpa [hi] using this
      have hz : i.zero = some z := by have := Z.zero; simpa [hi] using this
      have hk : i.bytes = k := by have := B.bytes; simpa [hi] using this
      subst hsz hk
      have hop : ∀ {w' : World} {q : Value}, (Builtin.append_ #[t, tx] ty #[.slice none 0 0, .int .i64 m]).run P w = .ok q w' → (execOp a.eval ⟨some d, .call ⟨.builtin .append, [x, y].toArray, [t, tx].toArray⟩, ty, pos, aft, gd⟩).run P w = .ok (.value q) w' := by
        intro w' q hq
        simp [execOp, resolve, hf.ev hx, hf.ev hy, invoke, builtin_append', hq]
      have hg := Lib.run_append_nil_zeros (P := P) w t tx ty e i z .i64 kn D.desc E.desc hi hz m h0 hn (by omega) h48
      have hge : m ≤ grownCap w m 0 e := by have := grownCap_ge w m 0 e; omega
      refine ⟨(some ⟨w.heap.size, 0, none⟩, grownCap w m 0 e), _, trivial, hop hg, ?_⟩
      have hnew := (show Holds Γ L w.drew from Holds.drew hh _).newRow (e := e) (xs := Builtin.zeroCells z.cells m ++ Builtin.zeroCells z.cells (grownCap w m 0 e - m))
      refine hnew.mono fun h ⟨k1, k2, dj', t1, t2, hc', hr'⟩ => ⟨k1, k2, dj', t1, t2, ⟨⟨?_, ?_⟩, .inr ⟨_, (Builtin.zeroCells z.cells (grownCap w m 0 e - m)).toList, rfl, ?_, hge, ?_⟩⟩, hr'⟩
      · rw [zeroCells_len, hzn]
      · rw [List.all_eq_true] at hz1 ⊢
        intro q hq
        simp only [Builtin.zeroCells, Array.mem_toList_iff, Array.mem_map, Array.mem_range] at hq
        obtain ⟨j, hj, rfl⟩ := hq
        have hpos : 0 < z.cells.size := by omega
        have hlt : j % z.cells.size < z.cells.size := Nat.mod_lt _ hpos
        refine hz1 _ ?_
        simp [hlt]
      · rw [zeroCells_len, hzn]
      · have hc'' : k1 w.drew.heap.size = some (.cells (Builtin.zeroCells z.cells m ++ Builtin.zeroCells z.cells (grownCap w m 0 e - m)) e (0, 0)) := hc'
        rw [show w.drew.heap.size = w.heap.size from rfl] at hc''
        rw [hc'']
        congr 2
        apply Array.ext'
        simp)
/-! ### Marks on bytes -/
theorem Holds.newF {o : Obj} {w w' : World} (hh : Holds Γ L w) (hos : w'.os = w.os) (htape : w'.tape = w.tape) (hout : w'.output = w.output) (hsz : w'.heap.size = w.heap.size + 1)
    (hold : ∀ j : Nat, j < w.heap.size → w'.heap[j]? = w.heap[j]?) (hnew : w'.heap[w.heap.size]? = some o) : Holds Γ (.pt w.heap.size o :: L) w' := by
  obtain ⟨h, d, s, a⟩ := (hh.later hos htape hout (by omega) hold).own
  have h0 := hh.later hos htape hout (by omega) hold
  have hlt : ∀ {k : HP}, HP.sub k (wheap w) → k w.heap.size = none := fun {k} hk => by
    cases hx : k w.heap.size with
    | none => rfl
    | some x => have := hk _ _ hx; simp [wheap] at this
  obtain ⟨h, d, s, a⟩ := hh.own
  have hup : ∀ {k : HP}, HP.sub k (wheap w) → HP.sub k (wheap w') := fun {k} hk c x hx => by
    have h1 : w.heap[c]? = some x := hk c x hx
    show w'.heap[c]? = some x
    rw [hold c (Array.getElem?_eq_some_iff.1 h1).1]; exact h1
  refine ⟨h0.os, h0.tape, h0.output, h0.frz, h0.frame, HP.union (HP.one w.heap.size o) h, ?_, HP.union_sub ?_ (hup s), HP.one w.heap.size o, h, ?_, HP.sub_union_left _ _, HP.sub_union_right ?_, ?_, a⟩
  · intro c
    by_cases e : c = w.heap.size
    · left; rw [e]; exact hlt hh.frame
    · rcases d c with p | p
      · exact .inl p
      · right; simp [HP.union, HP.one, e, p]
  · intro c x hx
    by_cases e : c = w.heap.size
    · subst e; simp [HP.one] at hx; subst hx; exact hnew
    · simp [HP.one, e] at hx
  · intro c
    by_cases e : c = w.heap.size
    · right; rw [e]; exact hlt s
    · left; simp [HP.one, e]
  · intro c
    by_cases e : c = w.heap.size
    · right; rw [e]; exact hlt s
    · left; simp [HP.one, e]
  · simp [Chunk.sat, HP.one]
def strRow (s : ByteArray) (cap : Nat) : List Value := cells8 s.data.toList ++ List.replicate (cap - s.size) (.int .u8 0)
theorem cs_strBytes {e : TypeId} {D0 : TypeDesc} {s : ByteArray} (D : TDesc P t D0) (D2 : TDesc P t2 (.slice e)) (E : TDesc P e (.int .u8)) (hx : ev fr x = some (.string s)) :
    CStep P Γ fr L ⟨some d, .convert t t2 x, ty, pos, aft, gd⟩ (X := Nat × Nat) (fun q => .slice (some ⟨q.1, 0, none⟩) s.size q.2) (fun q => .row q.1 (strRow s q.2) e ((strRow s q.2).length, (strRow s q.2).length + 1) :: L) (fun q => s.size ≤ q.2) :=
  cs_of (fun a w hf hh => by
    have hr := Lib.run_convert_string_bytes (P := P) w t t2 e s D.desc D2.desc E.desc
    have hge : s.size ≤ grownCap w s.size 0 e := by have := grownCap_ge w s.size 0 e; omega
    have hrow : (Lib.bytesCells w e s) = (strRow s (grownCap w s.size 0 e)).toArray := by
      apply Array.ext'
      simp [Lib.bytesCells, strRow, cells8]
    refine ⟨(w.heap.size, grownCap w s.size 0 e), Lib.bytesWorld w e s, hge, by simp [execOp, hf.ev hx, hr], ?_⟩
    refine hh.newF rfl rfl rfl (Lib.bytesWorld_size w e s) (fun j hj => Lib.bytesWorld_at_old w e s j hj) ?_
    rw [Lib.bytesWorld_at_new, hrow]
    simp)
/-- A literal of bytes, and its mark. -/
theorem cs_buildSliceF {e : TypeId} {n len : Nat} {z : Value} {ps : List (Nat × Operand)} {out : List Value} (S : TDesc P t (.slice e)) (Z : TSize P e n) (Y : TZero P e z) (hl : Nat.beq ps.length len = true) (hp : Nat.blt 0 (len * n) = true) (hsm : Nat.ble (len * n) 16777216 = true) (b : Parts fr n 0 ps out) :
    CStep P Γ fr L ⟨some d, .buildSlice t len ps.toArray, ty, pos, aft, gd⟩ (X := Nat) (fun b => .slice (some ⟨b, 0, none⟩) len len) (fun b => .row b out e :: L) (fun b => Γ.sz ≤ b) :=
  cs_of (fun a w hf hh => by
      have hlen : ps.length = len := Nat.eq_of_beq_eq_true hl
      cases hie : P.info? e with
      | none => have := Z.size; simp [hie] at this
      | some ie =>
        have hs : ie.size = n := by have := Z.size; simpa [hie] using this
        have hz : ie.zero = some z := by have := Y.zero; simpa [hie] using this
        have hsm' : ¬ len * ie.size > 2 ^ 24 := by rw [hs]; have := Nat.le_of_ble_eq_true hsm; omega
        have hp' : ¬ len * ie.size = 0 := by rw [hs]; have := Nat.le_of_ble_eq_true hp; omega
        have hfl := b.fill hf ((List.range (len * n)).map (z.cells[· % z.cells.size]!)) (by
          obtain ⟨h1, _⟩ := b.fill hf (List.replicate out.length undef) (by simp)
          rw [h1, hlen]; simp)
        have hol : out.length = len * n := by rw [hfl.1, hlen]
        have hfill : Instr.fill (fun i => some (i * ie.size, ie.size)) ((Array.range (len * ie.size)).map (z.cells[· % z.cells.size]!)) (ps.map fun p => (p.1, a.eval p.2)) = some out.toArray := by
          rw [hs, show (Array.range (len * n)).map (z.cells[· % z.cells.size]!) = ((List.range (len * n)).map (z.cells[· % z.cells.size]!)).toArray by simp [← List.toArray_range]]
          rw [hfl.2, hol]
          simp
        have hrun := run_buildSlice (P := P) w t e len (ps.map fun p => (p.1, a.eval p.2)).toArray out.toArray ie z S.desc hie hz hsm' hp' (by simpa using hfill)
        refine ⟨w.heap.size, _, hh.frz.1, ?_, hh.newRow (e := e) (xs := out.toArray)⟩
        simp only [execOp]
        rw [show (ps.toArray.map fun (x : Nat × Operand) => (x.1, a.eval x.2)) = (ps.map fun p => (p.1, a.eval p.2)).toArray by simp]
        rw [Sem.run_bind, hrun]
        rfl)
theorem Holds.mark {b : Nat} {xs : List Value} {e : TypeId} {fz : Nat × Nat} {w w' : World} (hh : Holds Γ L w) (hb : Γ.sz ≤ b) (s : Sel L (.row b xs e) R) (hos : w'.os = w.os) (htape : w'.tape = w.tape) (hout : w'.output = w.output) (hsz : w'.heap.size = w.heap.size)
    (hnew : w'.heap[b]? = some (.cells xs.toArray e fz)) (hold : ∀ c, c ≠ b → w'.heap[c]? = w.heap[c]?) : Holds Γ (.row b xs e fz :: R) w' := by
  have hs := hh.sel s
  have hbw := hh.block s
  obtain ⟨h, d, s', a⟩ := hs.own
  obtain ⟨h1, h2, d', s1, s2, hc, hr⟩ := a
  have hbf : Γ.hf b = none := (d b).resolve_right (by rw [s1 _ _ hc]; simp)
  have hb2 : h2 b = none := (d' b).resolve_left (by rw [hc]; simp)
  have hrest : ∀ c o, c ≠ b → w.heap[c]? = some o → w'.heap[c]? = some o := fun c o hc hx => by rw [hold c hc]; exact hx
  refine ⟨hos.trans hh.os, htape.trans hh.tape, hout.trans hh.output, ⟨by rw [hsz]; exact hh.frz.1, fun c hc' => ?_⟩, ?_, HP.union (HP.one b (.cells xs.toArray e fz)) h2, ?_, ?_, HP.one b (.cells xs.toArray e fz), h2, ?_, HP.sub_union_left _ _, HP.sub_union_right ?_, ?_, hr⟩
  · rw [← hh.frz.2 c hc', hold c (by omega)]
  · intro c x hx
    exact hrest c x (fun e => by rw [e, hbf] at hx; cases hx) (hh.frame c x hx)
  · intro c
    by_cases e : c = b
    · left; rw [e]; exact hbf
    · rcases d c with p | p
      · exact .inl p
      · right
        have : h2 c = none := by cases hx : h2 c with
          | none => rfl
          | some y => rw [s2 _ _ hx] at p; cases p
        simp [HP.union, HP.one, e, this]
  · refine HP.union_sub ?_ ?_
    · intro c x hx
      by_cases e : c = b
      · subst e; simp [HP.one] at hx; subst hx; exact hnew
      · simp [HP.one, e] at hx
    · intro c x hx
      exact hrest c x (fun e => by rw [e, hb2] at hx; cases hx) (s' _ _ (s2 _ _ hx))
  · intro c
    by_cases e : c = b
    · right; rw [e]; exact hb2
    · left; simp [HP.one, e]
  · intro c
    by_cases e : c = b
    · right; rw [e]; exact hb2
    · left; simp [HP.one, e]
  · simp [Chunk.sat, HP.one]
theorem cs_mark {b n c : Nat} {xs : List Value} {e e' : TypeId} (D : TDesc P t (.slice e)) (E : TDesc P e (.int .u8)) (hx : ev fr x = some (.slice (some ⟨b, 0, none⟩) n c)) (hb : Γ.sz ≤ b) (s : Sel L (.row b xs e') R) :
    CStep P Γ fr L ⟨some d, .convert t t x, ty, pos, aft, gd⟩ (X := Unit) (fun _ => .slice (some ⟨b, 0, none⟩) n c) (fun _ => .row b xs e' (xs.length, xs.length + 1) :: R) (fun _ => True) :=
  cs_of (fun a w hf hh => by
    have hbw := hh.block s
    have hlt : b < w.heap.size := (Array.getElem?_eq_some_iff.1 hbw).1
    have hsh : w.shape? b = some (e', xs.length) := by simp [World.shape?, hbw]
    refine ⟨(), w.freeze ⟨b, xs.length, none⟩ 1, trivial, ?_, ?_⟩
    · simp [execOp, hf.ev hx, convert, run_underlying D.desc, run_underlying E.desc, markStringish, hsh]
    · refine hh.mark hb s rfl rfl rfl ?_ ?_ (fun c hc => ?_)
      · simp [World.freeze]
      · simp [World.freeze, Array.getElem?_modify, hbw]
      · simp [World.freeze, Array.getElem?_modify, Ne.symm hc])
/-! ### Sources that are frozen -/
theorem srcF {Cs : List Chunk} {mm : HP} {C : Chunk} {n m c : Nat} {p : Option Addr} {e : TypeId} {news : List Value} (hd : HP.disj Γ.hf mm) (hk : All Cs mm) (h : SlAt C n p m news) (D : TDesc P tx (.slice e)) (s : Sel (L ++ Cs) C R) (hn : 0 < n) : SrcIs P (Γ.add mm) L n tx (.slice p m c) m news :=
  fun w hh => srcAt h D s hn w (Holds.join hd hk hh)
theorem srcOwnF {Cs : List Chunk} {mm : HP} {p : Option Addr} {m c n : Nat} {news : List Value} {e e' : TypeId} (hd : HP.disj Γ.hf mm) (hk : All Cs mm) (D : TDesc P tx (.slice e)) (s : Sel (L ++ Cs) (.own p m c n news e') R) : SrcIs P (Γ.add mm) L n tx (.slice p m c) m news :=
  fun w hh => srcOwn D s w (Holds.join hd hk hh)
/-- A literal of bytes and its mark, at once. -/
theorem s_bl {e n len d' : Nat} {z : Value} {ps : List (Nat × Operand)} {out : List Value} {ty' : TypeId} {pos' : String} {aft' : Array Edge} {gd' : Option (Nat × Bool)}
    (K : ∀ b, G Γ N ((d', .slice (some ⟨b, 0, none⟩) len len) :: (d, .slice (some ⟨b, 0, none⟩) len len) :: fr) (.row b out e (out.length, out.length + 1) :: L) (wpList P ops Q rest))
    (S : TDesc P t (.slice e) := by exact inferInstance) (Z : TSize P e n := by exact inferInstance) (Y : TZero P e z := by exact inferInstance) (E : TDesc P e (.int .u8) := by exact inferInstance) (hl : Nat.beq ps.length len = true := by exact rfl) (hp : Nat.blt 0 (len * n) = true := by exact rfl) (hsm : Nat.ble (len * n) 16777216 = true := by exact rfl) (b : Parts fr n 0 ps out := by exact (by (repeat (first | exact Parts.nil | apply Parts.cons rfl (by first | exact CellsOf.agg | exact CellsOf.one rfl) rfl | exact App.nil | apply App.cons)); first | done | fail))
    (hg : Runs ops fr gd := by exact rfl) (hN : Nat.blt d N = true := by exact rfl) (hg' : ∀ b, Runs ops ((d, .slice (some ⟨b, 0, none⟩) len len) :: fr) gd' := by intro _; exact rfl) (hN' : Nat.blt d' N = true := by exact rfl) (he : ∀ b : Nat, ev ((d, .slice (some ⟨b, 0, none⟩) len len) :: fr) (.tmp d) = some (.slice (some ⟨b, 0, none⟩) len len) := by intro _; exact rfl) :
    G Γ N fr L (wpList P ops Q (⟨some d, .buildSlice t len ps.toArray, ty, pos, aft, gd⟩ :: ⟨some d', .convert t t (.tmp d), ty', pos', aft', gd'⟩ :: rest)) :=
  g_c (cs_buildSliceF S Z Y hl hp hsm b) hg hN fun bb hb => g_c (cs_mark S E (he bb) hb .here) (hg' bb) hN' fun _ _ => K bb
/-- The next operation fills slot d. -/
theorem s_at (d : Nat) {op : Op} (K : G Γ N fr L (wpList P ops Q (⟨some d, op, ty, pos, aft, gd⟩ :: rest))) : G Γ N fr L (wpList P ops Q (⟨some d, op, ty, pos, aft, gd⟩ :: rest)) := K
end Go.Sl
