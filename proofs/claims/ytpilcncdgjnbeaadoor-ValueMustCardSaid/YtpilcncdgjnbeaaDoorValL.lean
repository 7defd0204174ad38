/- What came in: a value as plain data. -/
import Derived.Test.YtpilcncdgjnbeaaDoorPlaZ
import Derived.Test.YtpilcncdgjnbeaaDoorValD
set_option linter.unusedSimpArgs false
set_option linter.unusedVariables false
namespace Go.Sl
open Go Go.RowKit Go.ChangeShapes Go.WideShapes Go.ChangeAt
variable {P : Program} {W : World}
theorem opens_slice_at {H : Type} {enc : TypeId × Value → H} {sp : Nat → Bool} {k : Nat} {cs : List Value} {x : DataW H × List MemPlace} {t e : TypeId} {n : Nat} {α : Type} (D : TDesc P t (.slice e)) (S : TSize P e n) (hz : 0 < n) (is : World → α → List Value → Prop)
    (h : DataW.trod enc P W 0 sp true k t cs = some x) (ho : ∀ q cs x, q < k → DataW.trod enc P W 0 sp true q e cs = some x → ∃ a, is W a cs) :
    ∃ s : SliceOf α, cs = [s.val] ∧ s.xs.length ≤ s.cap ∧ s.cap ≤ maxLen ∧ (s.place = none → s.xs = [] ∧ s.cap = 0) ∧
      (∀ (i : Nat) (x : α), s.xs[i]? = some x → ∃ b o c, s.place = some ⟨b, o, none⟩ ∧ is W x c ∧ c.length = n ∧ CellsAt W b (o + i * n) c) := by
  have hn : P.cellsOf e = n := by simp [Program.cellsOf, S.size]
  rcases DataW.trod_slice D.desc h with ⟨rfl, _⟩ | ⟨a, len, cap, elems, rest, q, hq, rfl, _, hb, hl, hc, he, hx, _⟩
  · exact ⟨⟨none, 0, []⟩, rfl, Nat.zero_le _, Nat.zero_le _, fun _ => ⟨rfl, rfl⟩, fun i x hx => by simp at hx⟩
  · have hel : ∀ i, i < len → ∃ (x : α) (c : List Value), is W x c ∧ c.length = n ∧ ∀ (j : Nat) (v : Value), c[j]? = some v → W.cell? ((a.add (i * n)).add j) = some v := fun i hi => by
      have h1 := hx i hi
      have h2 : elems[i]? = some (elems[i]'(by omega)) := by simp [he, hi]
      rw [h2, hn] at h1
      cases hcs : W.cells? 0 (a.add (i * n)) n with
      | none => rw [hcs] at h1; cases h1
      | some c =>
        rw [hcs] at h1
        obtain ⟨x, hx⟩ := ho q c _ (by omega) h1
        have := cells_at hcs
        exact ⟨x, c, hx, this.1, this.2⟩
    refine ⟨⟨some a, cap, List.ofFn fun i : Fin len => Classical.choose (hel i i.2)⟩, by simp [SliceOf.val], by simpa using hl, hc, (fun e => by cases e), fun i x hx => ?_⟩
    simp only [List.getElem?_ofFn] at hx
    split at hx
    · rename_i hi
      obtain ⟨c, h1, h2, h3⟩ := Classical.choose_spec (hel i hi)
      cases hx
      obtain ⟨b, o, sp⟩ := a
      have hsp : sp = none := by
        cases sp with
        | none => rfl
        | some k =>
          obtain ⟨_, c0, _, l0, g0⟩ := hel 0 (by omega)
          have h0 : c0[0]? = some (c0[0]'(by omega)) := by simp [l0, hz]
          have h4 := g0 0 _ h0
          simp only [Nat.zero_mul, Addr.add, ↓reduceIte] at h4
          rw [cell_spot W _ rfl] at h4
          cases h4
      subst hsp
      refine ⟨b, o, c, rfl, h1, h2, fun j v hv => ?_⟩
      have := h3 j v hv
      rw [Addr.add_lit, Addr.add_lit] at this
      exact this
    · cases hx
/-- A value's own cells. -/
structure Vc where
  k : Int
  y : Bool
  n : Int
  s : ByteArray
  kp : Option Addr
  kn : Nat
  kc : Nat
  p : Option Addr
  m : Nat
  c : Nat
def Vc.cells (u : Vc) : List Value := [.int .i64 u.k, .bool u.y, .int .i64 u.n, .string u.s, .slice u.kp u.kn u.kc, .slice u.p u.m u.c]
theorem Vc.len (u : Vc) : u.cells.length = 6 := rfl
/-- How a value stands in memory as plain data. -/
inductive VAt (C : Chunk) : V → Vc → Prop where
  | mk {k y n s ks l kp kc p c} (us : List Vc) (hk : inI k) (hn : inI n) (hs : s.size ≤ 9223372036854775807) (hkl : ks.length ≤ 9223372036854775807) (hks : ∀ x ∈ ks, x.size ≤ 9223372036854775807) (hkS : SlAt C 1 kp ks.length (ks.map .string))
      (hl : l.length ≤ 9223372036854775807) (hu : us.length = l.length) (hS : SlAt C 6 p l.length (us.flatMap Vc.cells)) (h : ∀ (i : Nat) x u, l[i]? = some x → us[i]? = some u → VAt C x u) : VAt C (.mk k y n s ks l) ⟨k, y, n, s, kp, ks.length, kc, p, l.length, c⟩
theorem VAt.grow {H H' : HP} (s : HP.sub H H') {v : V} {u : Vc} (h : VAt (Pile H) v u) : VAt (Pile H') v u := by
  induction h with
  | mk us hk hn hs hkl hks hkS hl hu hS _ ih => exact .mk us hk hn hs hkl hks (hkS.grow s) hl hu (hS.grow s) ih
theorem flat_one (l : List ByteArray) : l.flatMap (fun s => [Value.string s]) = l.map .string := by
  induction l with
  | nil => rfl
  | cons a l ih => simp [ih]
theorem inI_wfV {n : Int} (h : (Lit.int .i64 n).wf = true) : inI n := by
  simp only [Lit.wf, Bool.and_eq_true, decide_eq_true_eq] at h
  have h1 : IntKind.i64.min = -9223372036854775808 := by decide
  have h2 : IntKind.i64.max = 9223372036854775807 := by decide
  exact ⟨by rw [← h1]; exact h.1, by rw [← h2]; exact h.2⟩
theorem opens_V {tI tB tS tL tV tK : TypeId} (T : TFds P tV [(tI, 0), (tB, 1), (tI, 2), (tS, 3), (tL, 4), (tK, 5)]) (S : TSize P tV 6) (DI : TDesc P tI (.int .i64)) (DB : TDesc P tB .bool) (DS : TDesc P tS .string) (DL : TDesc P tL (.slice tS)) (DK : TDesc P tK (.slice tV)) (SI : TSize P tI 1) (SB : TSize P tB 1) (SS : TSize P tS 1) (SL : TSize P tL 1) (SK : TSize P tK 1)
    {H : Type} {enc : TypeId × Value → H} {sp : Nat → Bool} : ∀ (k : Nat) (cs : List Value) (x : DataW H × List MemPlace), DataW.trod enc P W 0 sp true k tV cs = some x → ∃ v u, cs = u.cells ∧ VAt (Init W) v u := by
  intro k
  induction k using Nat.strongRecOn with
  | _ k ih =>
    intro cs x h
    obtain ⟨xs, k', hkk, rfl, hl, hxs, hf⟩ := DataW.trod_struct T.struct h
    have hfs : ∀ f ∈ [(tI, 0), (tB, 1), (tI, 2), (tS, 3), (tL, 4), (tK, 5)], ∃ x : DataW H × List MemPlace, DataW.trod enc P W 0 sp true k' f.1 ((cs.drop f.2).take (P.cellsOf f.1)) = some x := fun f hf' => by
      obtain ⟨i, hi⟩ := List.mem_iff_getElem?.1 hf'
      have hm : ((P.fieldsOf tV).toList.map fun f => (f.type, f.offset))[i]? = some f := by rw [T.fields]; exact hi
      simp only [List.getElem?_map, Option.map_eq_some_iff] at hm
      obtain ⟨g, hg, rfl⟩ := hm
      have hg' : (P.fieldsOf tV)[i]? = some g := by simpa using hg
      have := hf i g hg'
      have hlt : i < xs.length := by
        rw [hxs]
        exact (Array.getElem?_eq_some_iff.1 hg').1
      exact ⟨xs[i], by rw [this]; simp [hlt]⟩
    obtain ⟨⟨k0, y0, n0, s0, ks0, _⟩, ha⟩ := (inferInstance : OpensFs P [(tI, 0), (tB, 1), (tI, 2), (tS, 3), (tL, 4)] _).opens (W := W) (enc := enc) (sp := sp) (n := k') (cs := cs) fun f hf' => hfs f (by
      simp only [List.mem_cons, List.not_mem_nil, or_false] at hf' ⊢
      rcases hf' with h | h | h | h | h <;> simp [h])
    obtain ⟨⟨e0, w0⟩, e1, ⟨e2, w2⟩, ⟨e3, w3⟩, ⟨e4, g1, g2, g3, g4⟩, _⟩ := ha
    dsimp only at e0 w0 e2 w2 e3 w3 e4 g1 g2 g3 g4
    replace e1 : (cs.drop 1).take 1 = [Value.bool y0] := e1
    obtain ⟨x6, h6⟩ := hfs (tK, 5) (by simp)
    have hn6 : P.cellsOf tK = 1 := by simp [Program.cellsOf, SK.size]
    rw [hn6] at h6
    obtain ⟨s, e5, q1, q2, q3, q4⟩ := opens_slice_at (α := V × Vc) DK S (by decide) (fun W a cs => cs = a.2.cells ∧ VAt (Init W) a.1 a.2) h6 (fun q cs x hq hx => by
      obtain ⟨v, u, h1, h2⟩ := ih q (by omega) cs x hx
      exact ⟨(v, u), h1, h2⟩)
    have hlen : cs.length = 6 := by rw [hl]; simp [Program.cellsOf, S.size]
    match cs, hlen with
    | [c0, c1, c2, c3, c4, c5], _ =>
      simp only [List.drop_zero, List.drop_succ_cons, List.take_succ_cons, List.take_zero, List.cons.injEq, and_true] at e0 e1 e2 e3 e4 e5
      subst e0 e1 e2 e3 e4 e5
      refine ⟨.mk k0 y0 n0 s0 ks0.xs (s.xs.map (·.1)), ⟨k0, y0, n0, s0, ks0.place, ks0.xs.length, ks0.cap, s.place, s.xs.length, s.cap⟩, rfl, ?_⟩
      have hks := slAt_of (g := fun s => [Value.string s]) (A := fun (_ : World) (a : ByteArray) cs => cs = [.string a] ∧ a.size ≤ maxLen) (by decide : 0 < 1) (fun e => (g3 e).1) g4 (fun x c hx _ => hx.1) (fun _ => rfl) (fun _ => rfl)
      rw [flat_one] at hks
      have hku := slAt_of (g := fun a : V × Vc => a.2.cells) (A := fun W (a : V × Vc) cs => cs = a.2.cells ∧ VAt (Init W) a.1 a.2) (by decide : 0 < 6) (fun e => (q3 e).1) q4 (fun x c hx _ => hx.1) (fun _ => rfl) (fun _ => rfl)
      have hc := VAt.mk (C := Init W) (k := k0) (y := y0) (n := n0) (s := s0) (ks := ks0.xs) (l := s.xs.map (·.1)) (kp := ks0.place) (kc := ks0.cap) (p := s.place) (c := s.cap) (s.xs.map (·.2)) (inI_wfV w0) (inI_wfV w2) (by unfold maxLen at w3; omega) (by unfold maxLen at g2; omega)
        (fun x hx => by
          obtain ⟨i, hi, rfl⟩ := List.mem_iff_getElem.1 hx
          obtain ⟨_, _, c, _, ha, _⟩ := g4 i _ (List.getElem?_eq_getElem hi)
          have := ha.2; unfold maxLen at this; omega) hks (by rw [List.length_map]; unfold maxLen at q2; omega) (by simp) (by rw [List.length_map, List.flatMap_map]; exact hku)
        (fun i x u hx hu => by
          rw [List.getElem?_map, Option.map_eq_some_iff] at hx hu
          obtain ⟨a, ha, rfl⟩ := hx
          obtain ⟨b, hb, rfl⟩ := hu
          rw [ha] at hb; cases hb
          obtain ⟨_, _, c, _, ⟨_, hv⟩, _⟩ := q4 i a ha
          exact hv)
      rw [List.length_map] at hc
      exact hc
theorem arg_V {tI tB tS tL tV tK : TypeId} (T : TFds P tV [(tI, 0), (tB, 1), (tI, 2), (tS, 3), (tL, 4), (tK, 5)]) (S : TSize P tV 6) (DI : TDesc P tI (.int .i64)) (DB : TDesc P tB .bool) (DS : TDesc P tS .string) (DL : TDesc P tL (.slice tS)) (DK : TDesc P tK (.slice tV)) (SI : TSize P tI 1) (SB : TSize P tB 1) (SS : TSize P tS 1) (SL : TSize P tL 1) (SK : TSize P tK 1)
    {H : Type} {enc : TypeId × Value → H} {b : Nat} {sp : Nat → Bool} {v : Value} {x : DataW H} {ps : List MemPlace} (hval : Value.okWide P W .any b tV v) (h : DataW.Trod enc P W 0 sp true tV v x ps) : ∃ w u, v = .agg u.cells.toArray ∧ VAt (Init W) w u := by
  obtain ⟨n, hn⟩ := h
  unfold Value.okWide at hval
  rw [T.struct] at hval
  obtain ⟨cs, rfl, _⟩ := hval
  obtain ⟨w, u, e, hv⟩ := opens_V T S DI DB DS DL DK SI SB SS SL SK n _ _ hn
  exact ⟨w, u, by rw [← e]; simp [Value.cells], hv⟩
end Go.Sl
