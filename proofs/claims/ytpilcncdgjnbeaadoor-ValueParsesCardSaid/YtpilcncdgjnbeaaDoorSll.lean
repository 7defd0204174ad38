/- Part 12: parts of slices, what is appended, maps by numbers or texts. -/
import Derived.Test.YtpilcncdgjnbeaaDoorSlk
import Derived.MapKept
set_option linter.unusedSimpArgs false
set_option linter.unusedVariables false
namespace Go.Sl
variable {P : Program} {Γ : Ctx} {L R : List Chunk} {N : Nat} {fr : Fr} {Q : Exit → Act → World → Prop} {ops : Array Oper} {rest : List Oper}
variable {d : Nat} {ty : TypeId} {pos : String} {aft : Array Edge} {gd : Option (Nat × Bool)} {x y z : Operand} {v u : Value} {t t2 tx : TypeId}
/-! ### What is appended -/
theorem srcReads {C : Chunk} {b o m c n : Nat} {news : List Value} {e : TypeId} (D : TDesc P tx (.slice e)) (s : Sel L C R) (hl : news.length = m * n) (h1 : news.all (·.oneCell') = true) (r : ∀ (j : Nat) (v : Value), news[j]? = some v → Reads C ⟨b, o + j, none⟩ v) :
    SrcIs P Γ L n tx (.slice (some ⟨b, o, none⟩) m c) m news := fun w hh =>
  Src.ofSlice w D.desc ⟨b, o, none⟩ m c news hl (fun j v hv => by rw [Addr.add_lit]; exact hh.cell s (r j v hv)) (fun v hv => List.all_eq_true.1 h1 v hv)
theorem srcRow {b o m c n : Nat} {ys news : List Value} {e e' : TypeId} {fz : Nat × Nat} (D : TDesc P tx (.slice e)) (s : Sel L (.row b ys e' fz) R) (ct : Cut ys o (m * n) news) (h1 : news.all (·.oneCell') = true) :
    SrcIs P Γ L n tx (.slice (some ⟨b, o, none⟩) m c) m news := srcReads D s ct.get.1 h1 (fun j v hv => reads_row (ct.get.2 j v hv))
theorem srcNil {p : Option Addr} {c n : Nat} {e : TypeId} (D : TDesc P tx (.slice e)) : SrcIs P Γ L n tx (.slice p 0 c) 0 [] := fun w _ => by
  cases p with
  | none => exact Src.ofNil w D.desc c
  | some a => exact Src.ofSlice w D.desc a 0 c [] (by simp) (fun j v hv => by simp at hv) (fun v hv => by simp at hv)
theorem srcOwn {p : Option Addr} {m c n : Nat} {news : List Value} {e e' : TypeId} (D : TDesc P tx (.slice e)) (s : Sel L (.own p m c n news e') R) : SrcIs P Γ L n tx (.slice p m c) m news := fun w hh => by
  obtain ⟨hl, _, hp⟩ := own_place hh s
  have h1 := own_one hh s
  by_cases hm : m = 0
  · subst hm
    obtain rfl : news = [] := List.eq_nil_of_length_eq_zero (by rw [hl, Nat.zero_mul])
    exact srcNil D w hh
  · obtain ⟨b, rfl⟩ := hp (by omega)
    exact srcReads (L := L) (R := R) (o := 0) D s hl h1 (fun j v hv => by rw [Nat.zero_add]; exact reads_own hv) w hh
theorem srcString {s : ByteArray} (D : TDesc P tx .string) : SrcIs P Γ L 1 tx (.string s) s.size (byteCells s) := fun w _ => Src.ofString w D.desc s
/-! ### Parts of slices -/
/-- A bound that stands there, or is left out. -/
inductive Bnd (fr : Fr) (k : Nat) : Option Operand → Nat → Prop where
  | none : Bnd fr k none k
  | some {x : Operand} {i : Int} {n : Nat} : ev fr x = some (.int .i64 i) → i = n → Bnd fr k (some x) n
theorem qs_slice {e : TypeId} {p : Option Addr} {len cap l h n : Nat} {lo hi : Option Operand} (D : TDesc P t (.slice e)) (S : TSize P e n) (hx : ev fr x = some (.slice p len cap)) (hl : Bnd fr 0 lo l) (hh : Bnd fr len hi h) (h1 : l ≤ h) (h2 : h ≤ cap) :
    QStep P Γ fr ⟨some d, .slice t x lo hi none, ty, pos, aft, gd⟩ (.slice (if cap = l then p else p.map (·.add (l * n))) (h - l) (cap - l)) := qs_of (fun a w hf => by
  have hsz := run_sizeOf' (P := P) (t := e) S.size w
  have key : ∀ (lv hv : Option Value), (lo.map a.eval = lv) → (hi.map a.eval = hv) → (Instr.sliceBounds true len cap lv hv none).run P w = .ok (l, h, cap) w → (execOp a.eval ⟨some d, .slice t x lo hi none, ty, pos, aft, gd⟩).run P w = .ok (.value (.slice (if cap = l then p else p.map (·.add (l * n))) (h - l) (cap - l))) w := by
    intro lv hv e1 e2 e3
    simp only [execOp, hf.ev hx, e1, e2, Option.map_none, Instr.sliceAt, Instr.slice, Sem.run_bind, run_underlying D.desc, Result.andThen_ok, e3, hsz, Sem.run_pure]
  cases hl with
  | none =>
    cases hh with
    | none => exact key none none rfl rfl (by simp [Instr.sliceBounds])
    | @some x' i' n' g1 g2 =>
      subst g2
      exact key none (some (.int .i64 h)) rfl (by simp [hf.ev g1]) (by simp [Instr.sliceBounds, run_sliceBound, h2])
  | @some x' i' n' g1 g2 =>
    subst g2
    cases hh with
    | none => exact key (some (.int .i64 l)) none (by simp [hf.ev g1]) rfl (by simp [Instr.sliceBounds, run_sliceBound, h1])
    | @some x2 i2 n2 g3 g4 =>
      subst g4
      exact key (some (.int .i64 l)) (some (.int .i64 h)) (by simp [hf.ev g1]) (by simp [hf.ev g3]) (by simp [Instr.sliceBounds, run_sliceBound, h1, h2]))
/-- None of it, with no room: what Clone begins with. -/
theorem qs_slice00 {e : TypeId} {p : Option Addr} {len cap n : Nat} (D : TDesc P t (.slice e)) (S : TSize P e n) (hx : ev fr x = some (.slice p len cap)) :
    QStep P Γ fr ⟨some d, .slice t x none (some (.const (.int .i64 0))) (some (.const (.int .i64 0))), ty, pos, aft, gd⟩ (.slice p 0 0) := qs_of (fun a w hf => by
  have hsz := run_sizeOf' (P := P) (t := e) S.size w
  have e3 : (Instr.sliceBounds true len cap none (some (.int .i64 0)) (some (.int .i64 0))).run P w = .ok (0, 0, 0) w := by simp [Instr.sliceBounds, run_sliceBound]
  have e0 : a.eval (.const (.int .i64 0)) = .int .i64 0 := rfl
  simp only [execOp, hf.ev hx, Option.map_none, Option.map_some, e0, Instr.sliceAt, Instr.slice, Sem.run_bind, run_underlying D.desc, Result.andThen_ok, e3, hsz, Sem.run_pure, if_true, Nat.sub_self])
/-! ### Maps -/
class MapKey (κ : Type) [DecidableEq κ] where
  v : κ → Value
  kind : TypeDesc → Prop
  same : ∀ {k : TypeDesc} {a b : κ}, kind k → Instr.sameNow k (v a) (v b) = some (decide (a = b))
  inj : ∀ {a b : κ}, v a = v b → a = b
  bits : ∀ a : κ, Instr.sameBits 10000 (v a) (v a) = true
  check : ∀ {P : Program} {t : TypeId} {k : TypeDesc} {a : κ} {w : World} {b : Bool}, P.underlying t = some k → kind k → (Instr.checkKey b 10000 t (v a)).run P w = .ok () w
theorem same_of {k : TypeDesc} {u v : Value} (ha : MapKept.IsKey k u) (hb : MapKept.IsKey k v) {p : Prop} [Decidable p] (h : u = v ↔ p) : Instr.sameNow k u v = some (decide p) := by
  obtain ⟨r, h1, h2⟩ := MapKept.sameNow_of_keys ha hb
  rw [h1]
  congr 1
  rw [Bool.eq_iff_iff, h2, h]
  simp
theorem isKeyI (n : Int) : MapKept.IsKey (.int .i64) (.int .i64 n) := rfl
theorem isKeyS (s : ByteArray) : MapKept.IsKey .string (.string s) := trivial
instance : MapKey Int where
  v := .int .i64
  kind k := k = .int .i64
  same h := by subst h; exact same_of (isKeyI _) (isKeyI _) (by simp)
  inj h := by simpa using h
  bits a := MapKept.sameBits_self (isKeyI a) 10000
  check h hk := by subst hk; exact MapKept.run_checkKey h (isKeyI _) _ 9999
instance : MapKey ByteArray where
  v := .string
  kind k := k = .string
  same h := by subst h; exact same_of (isKeyS _) (isKeyS _) (by simp)
  inj h := by simpa using h
  bits a := MapKept.sameBits_self (isKeyS a) 10000
  check h hk := by subst hk; exact MapKept.run_checkKey h (isKeyS _) _ 9999
/-- A block, put anew. -/
def setBlock (w : World) (b : Nat) (o : Obj) : World := { w with heap := w.heap.setIfInBounds b o }
section
variable {κ : Type} [DecidableEq κ] [K : MapKey κ]
def mget : List (κ × Value) → κ → Option Value
  | [], _ => none
  | (a, v) :: M, k => if k = a then some v else mget M k
def mput : List (κ × Value) → κ → Value → List (κ × Value)
  | [], k, v => [(k, v)]
  | (a, u) :: M, k, v => if k = a then (a, v) :: M else (a, u) :: mput M k v
def mdel : List (κ × Value) → κ → List (κ × Value)
  | [], _ => []
  | (a, u) :: M, k => if k = a then M else (a, u) :: mdel M k
def mapsTo (M : List (κ × Value)) (es : List MapEntry) : Prop := es.map (fun e => (e.key, e.val)) = M.map (fun x => (K.v x.1, x.2))
def mapS (b : Nat) (M : List (κ × Value)) : HP → Prop := fun h => ∃ es clock, h b = some (.map es clock) ∧ mapsTo M es.toList ∧ MapKept.Stamped es clock
abbrev Chunk.map (b : Nat) (M : List (κ × Value)) : Chunk := .asn (mapS b M)
theorem findNow_map {kd : TypeDesc} (hk : K.kind kd) (k : κ) : ∀ (M : List (κ × Value)) (es : List MapEntry) (i : Nat), mapsTo M es →
    (∃ j u, Instr.findNow kd (K.v k) es i = some (some (i + j, u)) ∧ mget M k = some u ∧ j < es.length ∧ (∃ e, es[j]? = some e ∧ e.key = K.v k) ∧ (∀ v, mapsTo (mput M k v) (es.modify j fun e => { e with val := v })) ∧ mapsTo (mdel M k) (es.eraseIdx j)) ∨
    (Instr.findNow kd (K.v k) es i = some none ∧ mget M k = none ∧ (∀ (v : Value) (c : Nat), mapsTo (mput M k v) (es ++ [{ key := K.v k, val := v, born := c }])) ∧ mdel M k = M ∧ ∀ e ∈ es, e.key ≠ K.v k)
  | [], es, i, h => by
    have : es = [] := by simpa [mapsTo] using h
    subst this
    exact .inr ⟨rfl, rfl, fun v c => rfl, rfl, fun e h => by cases h⟩
  | (a, u) :: M, [], i, h => by simp [mapsTo] at h
  | (a, u) :: M, e :: es, i, h => by
    simp only [mapsTo, List.map_cons, List.cons.injEq, Prod.mk.injEq] at h
    obtain ⟨⟨h1, h2⟩, h3⟩ := h
    have hs := K.same (a := k) (b := a) hk
    simp only [Instr.findNow, h1, hs]
    by_cases e1 : k = a
    · subst e1
      left
      refine ⟨0, u, by simp [h2], by simp [mget], by simp, ⟨e, by simp, h1⟩, fun v => ?_, ?_⟩
      · simp only [mput, if_true, List.modify_zero_cons, mapsTo, List.map_cons, h1]
        rw [h3]
      · simp only [mdel, if_true, List.eraseIdx_zero, List.tail_cons]
        exact h3
    · simp only [e1, decide_false]
      rcases findNow_map hk k M es (i + 1) h3 with ⟨j, u', g1, g2, g3, g4, g5, g6⟩ | ⟨g1, g2, g3, g4, g7⟩
      · left
        refine ⟨j + 1, u', by rw [g1]; congr 3; omega, by simp [mget, e1, g2], by simp; omega, by simpa using g4, fun v => ?_, ?_⟩
        · have := g5 v
          simp only [mput, e1, if_false, List.modify_succ_cons, mapsTo, List.map_cons, h1, h2]
          rw [this]
        · simp only [mdel, e1, if_false, List.eraseIdx_cons_succ, mapsTo, List.map_cons, h1, h2]
          rw [g6]
      · right
        refine ⟨g1, by simp [mget, e1, g2], fun v c => ?_, by simp [mdel, e1, g4], fun x hx => by
          rcases List.mem_cons.1 hx with rfl | hx
          · rw [h1]; exact fun q => e1 (K.inj q).symm
          · exact g7 x hx⟩
        have := g3 v c
        simp only [mput, e1, if_false, mapsTo, List.map_cons, h1, h2, List.cons_append]
        rw [this]
theorem run_findKey {w : World} {kt : TypeId} {kd : TypeDesc} {k : κ} {es : List MapEntry} {r : Option (Nat × Value)} (hu : P.underlying kt = some kd) (h : Instr.findNow kd (K.v k) es 0 = some r) : (Instr.findKey kt (K.v k) es).run P w = .ok r w := by
  simp [Instr.findKey, run_underlying hu, h]
theorem Holds.mapAt {w : World} {b : Nat} {M : List (κ × Value)} (hh : Holds Γ L w) (s : Sel L (.map b M) R) : ∃ es clock, w.heap[b]? = some (.map es clock) ∧ mapsTo M es.toList ∧ MapKept.Stamped es clock ∧ Holds Γ (.pt b (.map es clock) :: R) w := by
  have hs := hh.sel s
  obtain ⟨hp, hd, hsub, h1, h2, dj, s1, s2, ⟨es, clock, e1, e2, e3⟩, hr⟩ := hs.own
  exact ⟨es, clock, hsub _ _ (s1 _ _ e1), e2, e3, hs.os, hs.tape, hs.output, hs.frz, hs.frame, hp, hd, hsub, h1, h2, dj, s1, s2, e1, hr⟩
theorem Holds.ofMap {w : World} {b : Nat} {M : List (κ × Value)} {es : Array MapEntry} {clock : Nat} (hh : Holds Γ (.pt b (.map es clock) :: R) w) (h : mapsTo M es.toList) (hst : MapKept.Stamped es clock) : Holds Γ (.map b M :: R) w :=
  hh.mono fun _ ⟨h1, h2, dj, s1, s2, hc, hr⟩ => ⟨h1, h2, dj, s1, s2, ⟨es, clock, hc, h, hst⟩, hr⟩
def mapR (r : Option Value) (zero : Value) (ok : Bool) : Value := if ok then .tuple #[r.getD zero, .bool r.isSome] else r.getD zero
theorem vs_lookup {b : Nat} {M : List (κ × Value)} {kt et : TypeId} {kd : TypeDesc} {k : κ} {zv : Value} {ok : Bool} (D : TDesc P t (.map kt et)) (E : TDesc P kt kd) (Z : TZero P et zv) (hk : K.kind kd) (hx : ev fr x = some (.map (some b))) (hy : ev fr y = some (K.v k)) (s : Sel L (.map b M) R) :
    VStep P Γ fr L ⟨some d, .lookup t x y ok, ty, pos, aft, gd⟩ (mapR (mget M k) zv ok) := vs_of (fun a w hf hh => by
  obtain ⟨es, clock, hb, hm, _, _⟩ := hh.mapAt s
  have hg : (getObj b).run P w = .ok (.map es clock) w := by simp [getObj, Sem.run, hb]
  simp only [execOp, hf.ev hx, hf.ev hy, Instr.lookup, Sem.run_bind, run_underlying D.desc, Result.andThen_ok, hg, Sem.run_pure, K.check E.desc hk]
  rcases findNow_map hk k M es.toList 0 hm with ⟨j, u', g1, g2, _⟩ | ⟨g1, g2, _⟩
  · rw [run_findKey E.desc g1, g2]
    cases ok <;> simp [mapR]
  · rw [run_findKey E.desc g1, g2]
    cases ok <;> simp [mapR, run_zeroValue' Z.zero])
theorem vs_lookupNil {kt et : TypeId} {kd : TypeDesc} {k : κ} {zv : Value} {ok : Bool} (D : TDesc P t (.map kt et)) (E : TDesc P kt kd) (Z : TZero P et zv) (hk : K.kind kd) (hx : ev fr x = some (.map none)) (hy : ev fr y = some (K.v k)) :
    QStep P Γ fr ⟨some d, .lookup t x y ok, ty, pos, aft, gd⟩ (mapR none zv ok) := qs_of (fun a w hf => by
  simp only [execOp, hf.ev hx, hf.ev hy, Instr.lookup, Sem.run_bind, run_underlying D.desc, Result.andThen_ok, Sem.run_pure, K.check E.desc hk]
  rw [run_findKey E.desc (r := none) rfl]
  cases ok <;> simp [mapR, run_zeroValue' Z.zero])
theorem setObj_map {w : World} {b : Nat} {es : Array MapEntry} {clock : Nat} (o : Obj) (h : w.heap[b]? = some (.map es clock)) : (setObj b o).run P w = .ok () (setBlock w b o) := by
  simp [setObj, Sem.run, h, setBlock]
theorem Holds.setMap {w : World} {b : Nat} {es es' : Array MapEntry} {clock clock' : Nat} (hh : Holds Γ (.pt b (.map es clock) :: R) w) : Holds Γ (.pt b (.map es' clock') :: R) (setBlock w b (.map es' clock')) := by
  have hb := hh.block .here
  have hlt := (Array.getElem?_eq_some_iff.1 hb).1
  exact hh.update (o' := .map es' clock') .here rfl rfl rfl (by simp [setBlock, hlt]) rfl (fun c hc => by simp [setBlock, Array.getElem?_setIfInBounds_ne (Ne.symm hc)])
theorem ss_mapUpdate {b : Nat} {M : List (κ × Value)} {kt et : TypeId} {kd : TypeDesc} {k : κ} (D : TDesc P t (.map kt et)) (E : TDesc P kt kd) (hk : K.kind kd) (hx : ev fr x = some (.map (some b))) (hy : ev fr y = some (K.v k)) (hz : ev fr z = some u) (s : Sel L (.map b M) R) :
    SStep P Γ fr L ⟨none, .mapUpdate t x y z, ty, pos, aft, gd⟩ (.map b (mput M k u) :: R) := ss_of (fun a w hf hh => by
  obtain ⟨es, clock, hb, hm, hst, hp⟩ := hh.mapAt s
  have hg : (getObj b).run P w = .ok (.map es clock) w := by simp [getObj, Sem.run, hb]
  rcases findNow_map hk k M es.toList 0 hm with ⟨j, u', g1, g2, g3, ⟨e, g4, g5⟩, g6, _⟩ | ⟨g1, g2, g3, _, g7⟩
  · refine ⟨_, ?_, (hp.setMap (es' := es.modify j fun e => { e with key := K.v k, val := u }) (clock' := clock)).ofMap ?_ (MapKept.stamped_modify hst j _ (fun _ _ => rfl) (fun x _ hx => by
      have g4' : es[j]? = some e := by simpa using g4
      rw [g4'] at hx
      cases hx
      exact g5.symm))⟩
    · simp only [execOp, hf.ev hx, hf.ev hy, hf.ev hz, Instr.mapUpdate, Sem.run_bind, run_underlying D.desc, Result.andThen_ok, hg, Sem.run_pure, K.check E.desc hk]
      rw [run_findKey E.desc g1]
      have g4' : es[j]? = some e := by simpa using g4
      simp [g4', g5, Instr.keyThatStays, K.bits, setObj_map _ hb]
    · have : (es.modify j fun e => { e with key := K.v k, val := u }) = (es.modify j fun e => { e with val := u }) := by
        apply Array.ext'
        simp only [Array.toList_modify]
        apply List.ext_getElem?
        intro i
        simp only [List.getElem?_modify]
        by_cases hi : j = i
        · subst hi; simp [g4, g5]
        · simp [hi]
      rw [this]
      simpa using g6 u
  · refine ⟨_, ?_, (hp.setMap (es' := es.push { key := K.v k, val := u, born := clock }) (clock' := clock + 1)).ofMap ?_ (MapKept.stamped_push hst g7)⟩
    · simp only [execOp, hf.ev hx, hf.ev hy, hf.ev hz, Instr.mapUpdate, Sem.run_bind, run_underlying D.desc, Result.andThen_ok, hg, Sem.run_pure, K.check E.desc hk]
      rw [run_findKey E.desc g1]
      simp [setObj_map _ hb]
    · simpa using g3 u clock)
theorem cs_delete {b : Nat} {M : List (κ × Value)} {kt et : TypeId} {kd : TypeDesc} {k : κ} {dst : Option Tmp} (D : TDesc P t (.map kt et)) (E : TDesc P kt kd) (hk : K.kind kd) (hx : ev fr x = some (.map (some b))) (hy : ev fr y = some (K.v k)) (s : Sel L (.map b M) R) :
    CStep P Γ fr L ⟨some d, .call ⟨.builtin .delete, [x, y].toArray, [t, t2].toArray⟩, ty, pos, aft, gd⟩ (X := Unit) (fun _ => .tuple #[]) (fun _ => .map b (mdel M k) :: R) (fun _ => True) := cs_of (fun a w hf hh => by
  obtain ⟨es, clock, hb, hm, hst, hp⟩ := hh.mapAt s
  have hg : (getObj b).run P w = .ok (.map es clock) w := by simp [getObj, Sem.run, hb]
  have hbi : ∀ {ats : Array TypeId} {cs : Array Bool} {args : Array Value}, builtin .delete ats ty cs args = (do pure (.value (← Builtin.delete_ ats ty args))) := rfl
  rcases findNow_map hk k M es.toList 0 hm with ⟨j, u', g1, g2, g3, _, _, g6⟩ | ⟨g1, g2, g3, g4, _⟩
  · refine ⟨(), _, trivial, ?_, (hp.setMap (es' := es.eraseIdxIfInBounds j) (clock' := clock)).ofMap ?_ (MapKept.stamped_erase hst j)⟩
    · simp [execOp, resolve, hf.ev hx, hf.ev hy, invoke, hbi, Builtin.delete_, run_underlying D.desc, hg, K.check E.desc hk, run_findKey E.desc g1, setObj_map _ hb]
    · have g3' : j < es.size := by simpa using g3
      rw [Array.eraseIdxIfInBounds_eq, dif_pos g3']
      simpa using g6
  · refine ⟨(), _, trivial, ?_, (hp.setMap (es' := es) (clock' := clock)).ofMap ?_ hst⟩
    · simp [execOp, resolve, hf.ev hx, hf.ev hy, invoke, hbi, Builtin.delete_, run_underlying D.desc, hg, K.check E.desc hk, run_findKey E.desc g1, setObj_map _ hb]
    · rw [g4]; exact hm)
theorem cs_makeMap {kt et : TypeId} (κ : Type) [DecidableEq κ] [K : MapKey κ] : CStep P Γ fr L ⟨some d, .makeMap t none, ty, pos, aft, gd⟩ (X := Nat) (fun b => .map (some b)) (fun b => .map b ([] : List (κ × Value)) :: L) (fun _ => True) :=
  cs_of (fun a w hf hh => ⟨w.heap.size, w.alloc (.map #[] 0), trivial, by simp [execOp, Instr.makeMap],
    Holds.ofMap (es := #[]) (clock := 0) (hh.new rfl rfl rfl rfl rfl) rfl (MapKept.stamped_empty 0)⟩)
theorem stamped_nodup {M : List (κ × Value)} {es : List MapEntry} (hm : mapsTo M es) (h : (es.map (·.key)).Nodup) : (M.map (·.1)).Nodup := by
  have e : es.map (·.key) = (M.map (·.1)).map K.v := by
    have := congrArg (List.map Prod.fst) hm
    simpa [List.map_map, Function.comp_def] using this
  rw [e] at h
  exact (List.pairwise_map.1 h).imp fun hne e => hne (congrArg K.v e)
theorem g_mapNodup {φ : Act → World → Prop} {b : Nat} {M : List (κ × Value)} (s : Sel L (.map b M) R) (g : (M.map (·.1)).Nodup → G Γ N fr L φ) : G Γ N fr L φ := fun a w hN hd hf hh => by
  obtain ⟨es, clock, _, hm, hst, _⟩ := hh.mapAt s
  exact g (stamped_nodup hm hst.2.2) a w hN hd hf hh
end
end Go.Sl
